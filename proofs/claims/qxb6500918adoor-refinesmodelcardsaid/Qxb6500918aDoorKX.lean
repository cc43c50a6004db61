/-
  the bytes of the space: the cells. (Made by program: a symbolic walk that prints its steps.)
-/
import Derived.Test.Qxb6500918aDoorKW
namespace Go.Proofs.Qxb6500918aDoor
open Go.Sx Go.Kn
set_option maxRecDepth 100000
set_option maxHeartbeats 4000000
set_option linter.unusedVariables false
set_option linter.unusedSimpArgs false

theorem cellBytes_ok (nd : Nat → Nat) (cel : Nat → Cel) (i j : Nat) (hj : j < 16) (hcb : u64r (cel (i * 16 + j)).cap.badge) (b3 : Nat) (o : Option Addr) (c : Nat) (F : List Nat) (bs : List Int) (w : World) (h3 : w.heap[b3]? = some (Blk.obj ⟨[.slice o bs.length c], 44, false⟩)) (hA : Rws [rl u8C 5 1 bs o c F] w) (hn : w.heap[nd i]? = some (Blk.obj ⟨ndC cel i, 146, true⟩)) (hne : b3 ≠ nd i) (h3F : b3 ∉ F) (hnF : nd i ∉ F) (hbl : bs.length ≤ 900000) :
    Calls Tryd.prog 71 #[.int .i64 ((i * 16 + j : Nat) : Int), .pointer (some ⟨nd i, j * 6, none⟩), .pointer (some ⟨b3, 0, none⟩)] w fun e w' => ∃ o' c' F', e = .returned (.tuple #[]) ∧ w'.heap[b3]? = some (Blk.obj ⟨[.slice o' (bs ++ uvs (celN ((i * 16 + j : Nat) : Int) (cel (i * 16 + j)))).length c'], 44, false⟩) ∧ (rl u8C 5 1 (bs ++ uvs (celN ((i * 16 + j : Nat) : Int) (cel (i * 16 + j)))) o' c' F').at w' ∧ Fr (b3 :: F) w w' ∧ (∀ b ∈ F', b ∈ F ∨ w.heap.size ≤ b) := by
  have hnl := lt_of_heap hn
  have hsub0 : ∀ b ∈ F, b ∈ F ∨ w.heap.size ≤ b := fun _ hq => .inl hq
  refine enter (n := 52) (K := (b3 :: F)) (A := Rws [rl u8C 5 1 bs o c F]) (F := Ff [rl u8C 5 1 bs o c F]) (T := [(0, .int .i64 ((i * 16 + j : Nat) : Int)), (1, .pointer (some ⟨(nd i), (j * 6), none⟩)), (2, .pointer (some ⟨b3, 0, none⟩))]) (L := [(b3, ⟨[.slice o bs.length c], 44, false⟩), ((nd i), ⟨ndC cel i, 146, true⟩)]) (args := [.int .i64 ((i * 16 + j : Nat) : Int), .pointer (some ⟨(nd i), (j * 6), none⟩), .pointer (some ⟨b3, 0, none⟩)]) Tryd.func71 rfl rfl rfl rfl (kcons h3 (kcons hn knil)) (by simp; exact hne) (kcons (fun _ => by simp) (kcons (by intro hq; cases hq) knil)) hA Rws.stable hA.low (kcons (fun _ => by simpa [Ff, rl] using h3F) (kcons (by intro hq; cases hq) knil)) ?_
  intro a h
  refine wp_seq_k fun K1 hK1 => ?_
  refine nd_start (l := [0, 1, 2, 3, 4, 5]) rfl ?_
  refine nd_batch tabOk tabZ_ok [(0, {}), (1, {}), (2, {}), (3, {}), (4, {k := 1, m := 1, vs := [.int .u8 ((cel (i * 16 + j)).cap.ty)]}), (5, {})] [0, 1, 2, 12] (T' := [(0, .int .i64 ((i * 16 + j : Nat) : Int)), (1, .pointer (some ⟨(nd i), (j * 6), none⟩)), (2, .pointer (some ⟨b3, 0, none⟩)), (12, .bool ((cel (i * 16 + j)).cap.ty != 0))]) (φ := ((nd i) = (nd i) ∧ cellsAre (ndC cel i) (j * 6) [.int .u8 ((cel (i * 16 + j)).cap.ty)]) ∧ True) (rest := []) h (by kernel_rfl) rfl ⟨⟨rfl, (nd_read (j := j) (k := 0) hj (by omega) ⟨rfl, trivial⟩)⟩, trivial⟩ fun a2 h3 => ?_
  clear h
  refine nd_done ?_
  refine hK1 _ _ ?_
  clear hK1
  refine c_split h3 (b := ((cel (i * 16 + j)).cap.ty != 0)) rfl (fun hc4 => ?_) (fun hc4 => ?_)
  ·
    have hc4f : (cel (i * 16 + j)).cap.ty ≠ 0 := by simpa using hc4
    refine wp_seq_k fun K5 hK5 => ?_
    refine dr_start (KB := [b3, (nd i)]) (Bi := [[0, 1], [0, 1], [0, 1], [0, 1], [0, 1], [0, 1], [0, 1], [0, 1], [0, 1], [0, 1], [0, 1], [0, 1], [0, 1], [1], [0, 1], [0, 1], [0, 1], [0, 1], [0, 1], [0, 1], [0, 1], [0, 1], [0, 1], [0, 1], [0, 1], [0, 1], [0, 1], [0, 1], [0, 1], [0, 1], [0, 1], [0, 1], [0, 1]]) mixed h3 fun w6 h7 => ?_
    clear h3
    refine dr_batch tabOk tabZ_ok (by repeat (first | with_reducible exact PF.body | with_reducible apply PF.inB | with_reducible apply PF.next)) [(0, {}), (1, {m := 1}), (2, {}), (3, {}), (4, {}), (5, {}), (6, {k := 1, m := 1, vs := [.int .u8 ((cel (i * 16 + j)).cap.ty)], p := 1}), (7, {m := 1}), (8, {}), (9, {}), (10, {}), (11, {}), (12, {k := 1, m := 1, vs := [.int .u16 ((cel (i * 16 + j)).cap.obj.idx), .int .u32 ((cel (i * 16 + j)).cap.obj.gen)], p := 1}), (14, {}), (15, {}), (16, {}), (17, {}), (18, {k := 1, m := 1, vs := [.int .u8 ((cel (i * 16 + j)).cap.rights)], p := 1}), (19, {m := 1}), (20, {}), (21, {}), (22, {}), (23, {}), (24, {k := 1, m := 1, vs := [.int .u64 ((cel (i * 16 + j)).cap.badge)], p := 1}), (25, {}), (26, {}), (27, {}), (28, {k := 1, m := 1, vs := [.int .i64 ((cel (i * 16 + j)).parent)], p := 1}), (29, {m := 1}), (30, {m := 1}), (32, {})] [0, 1, 2, 14, 20, 25, 32, 37, 43, 45] (T' := [(0, .int .i64 ((i * 16 + j : Nat) : Int)), (1, .pointer (some ⟨(nd i), (j * 6), none⟩)), (2, .pointer (some ⟨b3, 0, none⟩)), (14, .int .u64 (IntKind.wrap .u64 ((i * 16 + j : Nat) : Int))), (20, .int .u64 (IntKind.wrap .u64 ((cel (i * 16 + j)).cap.ty))), (25, .agg #[.int .u16 ((cel (i * 16 + j)).cap.obj.idx), .int .u32 ((cel (i * 16 + j)).cap.obj.gen)]), (32, .int .u64 (IntKind.wrap .u64 ((cel (i * 16 + j)).cap.rights))), (37, .int .u64 ((cel (i * 16 + j)).cap.badge)), (43, .int .u64 (IntKind.wrap .u64 (IntKind.wrap .i64 (((cel (i * 16 + j)).parent) + 1)))), (45, .int .i64 0)]) (φ := ((nd i) = (nd i) ∧ cellsAre (ndC cel i) (j * 6) [.int .u8 ((cel (i * 16 + j)).cap.ty)]) ∧ ((nd i) = (nd i) ∧ cellsAre (ndC cel i) ((j * 6) + 1) [.int .u16 ((cel (i * 16 + j)).cap.obj.idx), .int .u32 ((cel (i * 16 + j)).cap.obj.gen)]) ∧ ((nd i) = (nd i) ∧ cellsAre (ndC cel i) ((j * 6) + 3) [.int .u8 ((cel (i * 16 + j)).cap.rights)]) ∧ ((nd i) = (nd i) ∧ cellsAre (ndC cel i) ((j * 6) + 4) [.int .u64 ((cel (i * 16 + j)).cap.badge)]) ∧ ((nd i) = (nd i) ∧ cellsAre (ndC cel i) ((j * 6) + 5) [.int .i64 ((cel (i * 16 + j)).parent)]) ∧ True) (fuel := 2) h7 (by kernel_rfl) rfl (by kernel_rfl) (by kernel_rfl) ⟨trivial, trivial, trivial, trivial, trivial, trivial, rfl, trivial, trivial, trivial, trivial, trivial, rfl, trivial, trivial, trivial, trivial, rfl, trivial, trivial, trivial, trivial, trivial, rfl, trivial, trivial, trivial, rfl, trivial, trivial, trivial, trivial⟩ ⟨⟨rfl, (nd_read (j := j) (k := 0) hj (by omega) ⟨rfl, trivial⟩)⟩, ⟨rfl, (nd_read (j := j) (k := 1) hj (by omega) ⟨rfl, rfl, trivial⟩)⟩, ⟨rfl, (nd_read (j := j) (k := 3) hj (by omega) ⟨rfl, trivial⟩)⟩, ⟨rfl, (nd_read (j := j) (k := 4) hj (by omega) ⟨rfl, trivial⟩)⟩, ⟨rfl, (nd_read (j := j) (k := 5) hj (by omega) ⟨rfl, trivial⟩)⟩, trivial⟩ fun a9 h10 => ?_
    clear h7
    refine wpAnyK_one (i := 13) (fuel := 1) (by kernel_rfl) ?_
    refine op_call h10 rfl rfl rfl (callOk Tryd.func60 (by decide) rfl) (args := [.agg #[.int .u16 ((cel (i * 16 + j)).cap.obj.idx), .int .u32 ((cel (i * 16 + j)).cap.obj.gen)]]) rfl (pack_ok (cel (i * 16 + j)).cap.obj _) ?_
    rintro _ w11 ⟨rfl, hf13⟩
    refine ⟨_, rfl, ?_⟩
    have h12 := (h10.grow hf13).put (d := some 26) (v := .int .u64 (packP (cel (i * 16 + j)).cap.obj)) (T' := [(26, .int .u64 (packP (cel (i * 16 + j)).cap.obj)), (0, .int .i64 ((i * 16 + j : Nat) : Int)), (1, .pointer (some ⟨(nd i), (j * 6), none⟩)), (2, .pointer (some ⟨b3, 0, none⟩)), (14, .int .u64 (IntKind.wrap .u64 ((i * 16 + j : Nat) : Int))), (20, .int .u64 (IntKind.wrap .u64 ((cel (i * 16 + j)).cap.ty))), (25, .agg #[.int .u16 ((cel (i * 16 + j)).cap.obj.idx), .int .u32 ((cel (i * 16 + j)).cap.obj.gen)]), (32, .int .u64 (IntKind.wrap .u64 ((cel (i * 16 + j)).cap.rights))), (37, .int .u64 ((cel (i * 16 + j)).cap.badge)), (43, .int .u64 (IntKind.wrap .u64 (IntKind.wrap .i64 (((cel (i * 16 + j)).parent) + 1)))), (45, .int .i64 0)]) rfl
    refine ⟨(h10.keepFr hf13 (kcons (by simp) knil)), ?_⟩
    clear h10
    refine dr_batch tabOk tabZ_ok (by repeat (first | with_reducible exact PF.body | with_reducible apply PF.inB | with_reducible apply PF.next)) [(31, {})] [0, 1, 2, 45, 44] (T' := [(0, .int .i64 ((i * 16 + j : Nat) : Int)), (1, .pointer (some ⟨(nd i), (j * 6), none⟩)), (2, .pointer (some ⟨b3, 0, none⟩)), (45, .int .i64 0), (44, .agg #[.int .u64 (IntKind.wrap .u64 ((i * 16 + j : Nat) : Int)), .int .u64 (IntKind.wrap .u64 ((cel (i * 16 + j)).cap.ty)), .int .u64 (packP (cel (i * 16 + j)).cap.obj), .int .u64 (IntKind.wrap .u64 ((cel (i * 16 + j)).cap.rights)), .int .u64 ((cel (i * 16 + j)).cap.badge), .int .u64 (IntKind.wrap .u64 (IntKind.wrap .i64 (((cel (i * 16 + j)).parent) + 1)))])]) (φ := True) (fuel := 0) h12 (by kernel_rfl) rfl (by kernel_rfl) (by kernel_rfl) ⟨trivial, trivial⟩ trivial fun a14 h15 => ?_
    clear h12
    refine wpAnyK_done (by kernel_rfl) ?_ _
    refine hK5 _ _ ?_
    clear hK5
    refine wp_block ?_
    refine wp_loop_rounds 7 ?_
    refine rounds_step ?_
    refine wp_seq_k fun K16 hK16 => ?_
    refine nd_start (l := [0]) rfl ?_
    refine nd_batch tabOk tabZ_ok [(0, {})] [0, 1, 2, 45, 44, 46] (T' := [(0, .int .i64 ((i * 16 + j : Nat) : Int)), (1, .pointer (some ⟨(nd i), (j * 6), none⟩)), (2, .pointer (some ⟨b3, 0, none⟩)), (45, .int .i64 0), (44, .agg #[.int .u64 (IntKind.wrap .u64 ((i * 16 + j : Nat) : Int)), .int .u64 (IntKind.wrap .u64 ((cel (i * 16 + j)).cap.ty)), .int .u64 (packP (cel (i * 16 + j)).cap.obj), .int .u64 (IntKind.wrap .u64 ((cel (i * 16 + j)).cap.rights)), .int .u64 ((cel (i * 16 + j)).cap.badge), .int .u64 (IntKind.wrap .u64 (IntKind.wrap .i64 (((cel (i * 16 + j)).parent) + 1)))]), (46, .bool true)]) (φ := True) (rest := []) h15 (by kernel_rfl) rfl trivial fun a17 h18 => ?_
    clear h15
    refine nd_done ?_
    refine hK16 _ _ ?_
    clear hK16
    refine wp_seq_k fun K19 hK19 => ?_
    refine c_true h18 rfl ?_
    refine wp_skip ?_
    refine hK19 _ _ ?_
    clear hK19
    refine wp_seq_k fun K20 hK20 => ?_
    refine wp_block ?_
    refine wp_seq_k fun K21 hK21 => ?_
    refine nd_start (l := [0, 1]) rfl ?_
    have h22 := h18.slotsMono (restr_spec (keep := [0, 1, 2, 45, 44]) rfl)
    clear h18
    refine nd_op ?_
    refine op_pure (v := .int .u64 (IntKind.wrap .u64 ((i * 16 + j : Nat) : Int))) h22 rfl rfl (pure_index tabOk h22.slots rfl rfl rfl rfl rfl rfl (by decide) (by decide) (φ := none) rfl trivial) ?_
    have h23 := h22.put (d := some 47) (v := .int .u64 (IntKind.wrap .u64 ((i * 16 + j : Nat) : Int))) (T' := [(47, .int .u64 (IntKind.wrap .u64 ((i * 16 + j : Nat) : Int))), (0, .int .i64 ((i * 16 + j : Nat) : Int)), (1, .pointer (some ⟨(nd i), (j * 6), none⟩)), (2, .pointer (some ⟨b3, 0, none⟩)), (45, .int .i64 0), (44, .agg #[.int .u64 (IntKind.wrap .u64 ((i * 16 + j : Nat) : Int)), .int .u64 (IntKind.wrap .u64 ((cel (i * 16 + j)).cap.ty)), .int .u64 (packP (cel (i * 16 + j)).cap.obj), .int .u64 (IntKind.wrap .u64 ((cel (i * 16 + j)).cap.rights)), .int .u64 ((cel (i * 16 + j)).cap.badge), .int .u64 (IntKind.wrap .u64 (IntKind.wrap .i64 (((cel (i * 16 + j)).parent) + 1)))])]) rfl
    clear h22
    refine nd_batch tabOk tabZ_ok [(1, {})] [0, 1, 2, 45, 44, 6] (T' := [(0, .int .i64 ((i * 16 + j : Nat) : Int)), (1, .pointer (some ⟨(nd i), (j * 6), none⟩)), (2, .pointer (some ⟨b3, 0, none⟩)), (45, .int .i64 0), (44, .agg #[.int .u64 (IntKind.wrap .u64 ((i * 16 + j : Nat) : Int)), .int .u64 (IntKind.wrap .u64 ((cel (i * 16 + j)).cap.ty)), .int .u64 (packP (cel (i * 16 + j)).cap.obj), .int .u64 (IntKind.wrap .u64 ((cel (i * 16 + j)).cap.rights)), .int .u64 ((cel (i * 16 + j)).cap.badge), .int .u64 (IntKind.wrap .u64 (IntKind.wrap .i64 (((cel (i * 16 + j)).parent) + 1)))]), (6, .int .u64 (IntKind.wrap .u64 ((i * 16 + j : Nat) : Int)))]) (φ := True) (rest := []) h23 (by kernel_rfl) rfl trivial fun a24 h25 => ?_
    clear h23
    refine nd_done ?_
    refine hK21 _ _ ?_
    clear hK21
    refine nd_start (l := [0, 1, 2, 3]) rfl ?_
    refine nd_batch tabOk tabZ_ok [(0, {k := 0}), (1, {})] [0, 1, 2, 45, 44, 6, 48, 49] (T' := [(0, .int .i64 ((i * 16 + j : Nat) : Int)), (1, .pointer (some ⟨(nd i), (j * 6), none⟩)), (2, .pointer (some ⟨b3, 0, none⟩)), (45, .int .i64 0), (44, .agg #[.int .u64 (IntKind.wrap .u64 ((i * 16 + j : Nat) : Int)), .int .u64 (IntKind.wrap .u64 ((cel (i * 16 + j)).cap.ty)), .int .u64 (packP (cel (i * 16 + j)).cap.obj), .int .u64 (IntKind.wrap .u64 ((cel (i * 16 + j)).cap.rights)), .int .u64 ((cel (i * 16 + j)).cap.badge), .int .u64 (IntKind.wrap .u64 (IntKind.wrap .i64 (((cel (i * 16 + j)).parent) + 1)))]), (6, .int .u64 (IntKind.wrap .u64 ((i * 16 + j : Nat) : Int))), (48, .slice o bs.length c), (49, .int .u64 (IntKind.wrap .u64 ((i * 16 + j : Nat) : Int)))]) (φ := (b3 = b3 ∧ Nat.ble (0 + 1) 1 = true) ∧ True) (rest := [2, 3]) h25 (by kernel_rfl) rfl ⟨⟨rfl, rfl⟩, trivial⟩ fun a26 h27 => ?_
    clear h25
    refine nd_op ?_
    have hszw61 : w.heap.size ≤ _ := h27.frame.size
    refine op_call h27 rfl rfl rfl (callOk Tryd.func58 (by decide) rfl) (args := [.slice o bs.length c, .int .u64 (IntKind.wrap .u64 ((i * 16 + j : Nat) : Int))]) rfl (uvar_ok o c F bs (IntKind.wrap .u64 ((i * 16 + j : Nat) : Int)) (u64w _) (by omega) _ h27.inv) ?_
    rintro _ w31 ⟨o28, c29, F30, rfl, hr32, hf33, hF34⟩
    refine ⟨_, rfl, ?_⟩
    have hKh35 := row1_keys (K := (b3 :: F)) (fun _ hq => .inl (List.mem_cons_of_mem _ hq)) h27.frame.size hF34
    have h35 := (h27.rowSet (j := 0) (r' := rl u8C 5 1 (bs ++ uv (IntKind.wrap .u64 ((i * 16 + j : Nat) : Int))) o28 c29 F30) (R' := [rl u8C 5 1 (bs ++ uv (IntKind.wrap .u64 ((i * 16 + j : Nat) : Int))) o28 c29 F30]) rfl hr32 hf33 hF34 (fun _ hq => .inl (List.mem_cons_of_mem _ hq)) (kcons (by intro hq; cases hq) (kcons (fun _ => (fun hq => (hsub0 (nd i) hq).elim hnF (fun h => by omega))) knil)) rfl).put (d := some 50) (v := .slice o28 ((bs ++ uv (IntKind.wrap .u64 ((i * 16 + j : Nat) : Int))).length) c29) (T' := [(50, .slice o28 ((bs ++ uv (IntKind.wrap .u64 ((i * 16 + j : Nat) : Int))).length) c29), (0, .int .i64 ((i * 16 + j : Nat) : Int)), (1, .pointer (some ⟨(nd i), (j * 6), none⟩)), (2, .pointer (some ⟨b3, 0, none⟩)), (45, .int .i64 0), (44, .agg #[.int .u64 (IntKind.wrap .u64 ((i * 16 + j : Nat) : Int)), .int .u64 (IntKind.wrap .u64 ((cel (i * 16 + j)).cap.ty)), .int .u64 (packP (cel (i * 16 + j)).cap.obj), .int .u64 (IntKind.wrap .u64 ((cel (i * 16 + j)).cap.rights)), .int .u64 ((cel (i * 16 + j)).cap.badge), .int .u64 (IntKind.wrap .u64 (IntKind.wrap .i64 (((cel (i * 16 + j)).parent) + 1)))]), (6, .int .u64 (IntKind.wrap .u64 ((i * 16 + j : Nat) : Int))), (48, .slice o bs.length c), (49, .int .u64 (IntKind.wrap .u64 ((i * 16 + j : Nat) : Int)))]) rfl
    clear h27
    have hsub36 : ∀ b ∈ F30, b ∈ F ∨ w.heap.size ≤ b := fun b hb => (hF34 b hb).elim (hsub0 b) (fun h => .inr (Nat.le_trans hszw61 h))
    refine nd_op ?_
    refine op_store tabOk {k := 0} (L' := [(b3, ⟨[.slice o28 ((bs ++ uv (IntKind.wrap .u64 ((i * 16 + j : Nat) : Int))).length) c29], 44, false⟩), ((nd i), ⟨ndC cel i, 146, true⟩)]) (φ := b3 = b3 ∧ Nat.ble (0 + 1) 1 = true) h35 rfl rfl rfl (by kernel_rfl) ⟨rfl, rfl⟩ fun w37 h38 => ?_
    clear h35
    refine nd_done ?_
    refine hK20 _ _ ?_
    clear hK20
    refine nd_start (l := [0, 1]) rfl ?_
    refine nd_batch tabOk tabZ_ok [(0, {}), (1, {})] [0, 1, 2, 44, 6, 45] (T' := [(0, .int .i64 ((i * 16 + j : Nat) : Int)), (1, .pointer (some ⟨(nd i), (j * 6), none⟩)), (2, .pointer (some ⟨b3, 0, none⟩)), (44, .agg #[.int .u64 (IntKind.wrap .u64 ((i * 16 + j : Nat) : Int)), .int .u64 (IntKind.wrap .u64 ((cel (i * 16 + j)).cap.ty)), .int .u64 (packP (cel (i * 16 + j)).cap.obj), .int .u64 (IntKind.wrap .u64 ((cel (i * 16 + j)).cap.rights)), .int .u64 ((cel (i * 16 + j)).cap.badge), .int .u64 (IntKind.wrap .u64 (IntKind.wrap .i64 (((cel (i * 16 + j)).parent) + 1)))]), (6, .int .u64 (IntKind.wrap .u64 ((i * 16 + j : Nat) : Int))), (45, .int .i64 1)]) (φ := inR .i64 1 ∧ True) (rest := []) h38 (by kernel_rfl) rfl ⟨⟨by decide, by decide⟩, trivial⟩ fun a39 h40 => ?_
    clear h38
    refine nd_done ?_
    refine rounds_step ?_
    refine wp_seq_k fun K41 hK41 => ?_
    refine nd_start (l := [0]) rfl ?_
    refine nd_batch tabOk tabZ_ok [(0, {})] [0, 1, 2, 44, 6, 45, 46] (T' := [(0, .int .i64 ((i * 16 + j : Nat) : Int)), (1, .pointer (some ⟨(nd i), (j * 6), none⟩)), (2, .pointer (some ⟨b3, 0, none⟩)), (44, .agg #[.int .u64 (IntKind.wrap .u64 ((i * 16 + j : Nat) : Int)), .int .u64 (IntKind.wrap .u64 ((cel (i * 16 + j)).cap.ty)), .int .u64 (packP (cel (i * 16 + j)).cap.obj), .int .u64 (IntKind.wrap .u64 ((cel (i * 16 + j)).cap.rights)), .int .u64 ((cel (i * 16 + j)).cap.badge), .int .u64 (IntKind.wrap .u64 (IntKind.wrap .i64 (((cel (i * 16 + j)).parent) + 1)))]), (6, .int .u64 (IntKind.wrap .u64 ((i * 16 + j : Nat) : Int))), (45, .int .i64 1), (46, .bool true)]) (φ := True) (rest := []) h40 (by kernel_rfl) rfl trivial fun a42 h43 => ?_
    clear h40
    refine nd_done ?_
    refine hK41 _ _ ?_
    clear hK41
    refine wp_seq_k fun K44 hK44 => ?_
    refine c_true h43 rfl ?_
    refine wp_skip ?_
    refine hK44 _ _ ?_
    clear hK44
    refine wp_seq_k fun K45 hK45 => ?_
    refine wp_block ?_
    refine wp_seq_k fun K46 hK46 => ?_
    refine nd_start (l := [0, 1]) rfl ?_
    have h47 := h43.slotsMono (restr_spec (keep := [0, 1, 2, 44, 6, 45]) rfl)
    clear h43
    refine nd_op ?_
    refine op_pure (v := .int .u64 (IntKind.wrap .u64 ((cel (i * 16 + j)).cap.ty))) h47 rfl rfl (pure_index tabOk h47.slots rfl rfl rfl rfl rfl rfl (by decide) (by decide) (φ := none) rfl trivial) ?_
    have h48 := h47.put (d := some 47) (v := .int .u64 (IntKind.wrap .u64 ((cel (i * 16 + j)).cap.ty))) (T' := [(47, .int .u64 (IntKind.wrap .u64 ((cel (i * 16 + j)).cap.ty))), (0, .int .i64 ((i * 16 + j : Nat) : Int)), (1, .pointer (some ⟨(nd i), (j * 6), none⟩)), (2, .pointer (some ⟨b3, 0, none⟩)), (44, .agg #[.int .u64 (IntKind.wrap .u64 ((i * 16 + j : Nat) : Int)), .int .u64 (IntKind.wrap .u64 ((cel (i * 16 + j)).cap.ty)), .int .u64 (packP (cel (i * 16 + j)).cap.obj), .int .u64 (IntKind.wrap .u64 ((cel (i * 16 + j)).cap.rights)), .int .u64 ((cel (i * 16 + j)).cap.badge), .int .u64 (IntKind.wrap .u64 (IntKind.wrap .i64 (((cel (i * 16 + j)).parent) + 1)))]), (6, .int .u64 (IntKind.wrap .u64 ((i * 16 + j : Nat) : Int))), (45, .int .i64 1)]) rfl
    clear h47
    refine nd_batch tabOk tabZ_ok [(1, {})] [0, 1, 2, 44, 45, 6] (T' := [(0, .int .i64 ((i * 16 + j : Nat) : Int)), (1, .pointer (some ⟨(nd i), (j * 6), none⟩)), (2, .pointer (some ⟨b3, 0, none⟩)), (44, .agg #[.int .u64 (IntKind.wrap .u64 ((i * 16 + j : Nat) : Int)), .int .u64 (IntKind.wrap .u64 ((cel (i * 16 + j)).cap.ty)), .int .u64 (packP (cel (i * 16 + j)).cap.obj), .int .u64 (IntKind.wrap .u64 ((cel (i * 16 + j)).cap.rights)), .int .u64 ((cel (i * 16 + j)).cap.badge), .int .u64 (IntKind.wrap .u64 (IntKind.wrap .i64 (((cel (i * 16 + j)).parent) + 1)))]), (45, .int .i64 1), (6, .int .u64 (IntKind.wrap .u64 ((cel (i * 16 + j)).cap.ty)))]) (φ := True) (rest := []) h48 (by kernel_rfl) rfl trivial fun a49 h50 => ?_
    clear h48
    refine nd_done ?_
    refine hK46 _ _ ?_
    clear hK46
    refine nd_start (l := [0, 1, 2, 3]) rfl ?_
    refine nd_batch tabOk tabZ_ok [(0, {k := 0}), (1, {})] [0, 1, 2, 44, 45, 6, 48, 49] (T' := [(0, .int .i64 ((i * 16 + j : Nat) : Int)), (1, .pointer (some ⟨(nd i), (j * 6), none⟩)), (2, .pointer (some ⟨b3, 0, none⟩)), (44, .agg #[.int .u64 (IntKind.wrap .u64 ((i * 16 + j : Nat) : Int)), .int .u64 (IntKind.wrap .u64 ((cel (i * 16 + j)).cap.ty)), .int .u64 (packP (cel (i * 16 + j)).cap.obj), .int .u64 (IntKind.wrap .u64 ((cel (i * 16 + j)).cap.rights)), .int .u64 ((cel (i * 16 + j)).cap.badge), .int .u64 (IntKind.wrap .u64 (IntKind.wrap .i64 (((cel (i * 16 + j)).parent) + 1)))]), (45, .int .i64 1), (6, .int .u64 (IntKind.wrap .u64 ((cel (i * 16 + j)).cap.ty))), (48, .slice o28 ((bs ++ uv (IntKind.wrap .u64 ((i * 16 + j : Nat) : Int))).length) c29), (49, .int .u64 (IntKind.wrap .u64 ((cel (i * 16 + j)).cap.ty)))]) (φ := (b3 = b3 ∧ Nat.ble (0 + 1) 1 = true) ∧ True) (rest := [2, 3]) h50 (by kernel_rfl) rfl ⟨⟨rfl, rfl⟩, trivial⟩ fun a51 h52 => ?_
    clear h50
    refine nd_op ?_
    have hszw111 : w.heap.size ≤ _ := h52.frame.size
    refine op_call h52 rfl rfl rfl (callOk Tryd.func58 (by decide) rfl) (args := [.slice o28 ((bs ++ uv (IntKind.wrap .u64 ((i * 16 + j : Nat) : Int))).length) c29, .int .u64 (IntKind.wrap .u64 ((cel (i * 16 + j)).cap.ty))]) rfl (uvar_ok o28 c29 F30 (bs ++ uv (IntKind.wrap .u64 ((i * 16 + j : Nat) : Int))) (IntKind.wrap .u64 ((cel (i * 16 + j)).cap.ty)) (u64w _) (by have := uv_len (IntKind.wrap .u64 ((i * 16 + j : Nat) : Int)); simp only [List.length_append]; omega) _ h52.inv) ?_
    rintro _ w56 ⟨o53, c54, F55, rfl, hr57, hf58, hF59⟩
    refine ⟨_, rfl, ?_⟩
    have hKh60 := row1_keys (K := (b3 :: F)) hKh35 h52.frame.size hF59
    have h60 := (h52.rowSet (j := 0) (r' := rl u8C 5 1 (bs ++ uv (IntKind.wrap .u64 ((i * 16 + j : Nat) : Int)) ++ uv (IntKind.wrap .u64 ((cel (i * 16 + j)).cap.ty))) o53 c54 F55) (R' := [rl u8C 5 1 (bs ++ uv (IntKind.wrap .u64 ((i * 16 + j : Nat) : Int)) ++ uv (IntKind.wrap .u64 ((cel (i * 16 + j)).cap.ty))) o53 c54 F55]) rfl hr57 hf58 hF59 hKh35 (kcons (by intro hq; cases hq) (kcons (fun _ => (fun hq => (hsub36 (nd i) hq).elim hnF (fun h => by omega))) knil)) rfl).put (d := some 50) (v := .slice o53 ((bs ++ uv (IntKind.wrap .u64 ((i * 16 + j : Nat) : Int)) ++ uv (IntKind.wrap .u64 ((cel (i * 16 + j)).cap.ty))).length) c54) (T' := [(50, .slice o53 ((bs ++ uv (IntKind.wrap .u64 ((i * 16 + j : Nat) : Int)) ++ uv (IntKind.wrap .u64 ((cel (i * 16 + j)).cap.ty))).length) c54), (0, .int .i64 ((i * 16 + j : Nat) : Int)), (1, .pointer (some ⟨(nd i), (j * 6), none⟩)), (2, .pointer (some ⟨b3, 0, none⟩)), (44, .agg #[.int .u64 (IntKind.wrap .u64 ((i * 16 + j : Nat) : Int)), .int .u64 (IntKind.wrap .u64 ((cel (i * 16 + j)).cap.ty)), .int .u64 (packP (cel (i * 16 + j)).cap.obj), .int .u64 (IntKind.wrap .u64 ((cel (i * 16 + j)).cap.rights)), .int .u64 ((cel (i * 16 + j)).cap.badge), .int .u64 (IntKind.wrap .u64 (IntKind.wrap .i64 (((cel (i * 16 + j)).parent) + 1)))]), (45, .int .i64 1), (6, .int .u64 (IntKind.wrap .u64 ((cel (i * 16 + j)).cap.ty))), (48, .slice o28 ((bs ++ uv (IntKind.wrap .u64 ((i * 16 + j : Nat) : Int))).length) c29), (49, .int .u64 (IntKind.wrap .u64 ((cel (i * 16 + j)).cap.ty)))]) rfl
    clear h52
    have hsub61 : ∀ b ∈ F55, b ∈ F ∨ w.heap.size ≤ b := fun b hb => (hF59 b hb).elim (hsub36 b) (fun h => .inr (Nat.le_trans hszw111 h))
    refine nd_op ?_
    refine op_store tabOk {k := 0} (L' := [(b3, ⟨[.slice o53 ((bs ++ uv (IntKind.wrap .u64 ((i * 16 + j : Nat) : Int)) ++ uv (IntKind.wrap .u64 ((cel (i * 16 + j)).cap.ty))).length) c54], 44, false⟩), ((nd i), ⟨ndC cel i, 146, true⟩)]) (φ := b3 = b3 ∧ Nat.ble (0 + 1) 1 = true) h60 rfl rfl rfl (by kernel_rfl) ⟨rfl, rfl⟩ fun w62 h63 => ?_
    clear h60
    refine nd_done ?_
    refine hK45 _ _ ?_
    clear hK45
    refine nd_start (l := [0, 1]) rfl ?_
    refine nd_batch tabOk tabZ_ok [(0, {}), (1, {})] [0, 1, 2, 44, 6, 45] (T' := [(0, .int .i64 ((i * 16 + j : Nat) : Int)), (1, .pointer (some ⟨(nd i), (j * 6), none⟩)), (2, .pointer (some ⟨b3, 0, none⟩)), (44, .agg #[.int .u64 (IntKind.wrap .u64 ((i * 16 + j : Nat) : Int)), .int .u64 (IntKind.wrap .u64 ((cel (i * 16 + j)).cap.ty)), .int .u64 (packP (cel (i * 16 + j)).cap.obj), .int .u64 (IntKind.wrap .u64 ((cel (i * 16 + j)).cap.rights)), .int .u64 ((cel (i * 16 + j)).cap.badge), .int .u64 (IntKind.wrap .u64 (IntKind.wrap .i64 (((cel (i * 16 + j)).parent) + 1)))]), (6, .int .u64 (IntKind.wrap .u64 ((cel (i * 16 + j)).cap.ty))), (45, .int .i64 2)]) (φ := inR .i64 2 ∧ True) (rest := []) h63 (by kernel_rfl) rfl ⟨⟨by decide, by decide⟩, trivial⟩ fun a64 h65 => ?_
    clear h63
    refine nd_done ?_
    refine rounds_step ?_
    refine wp_seq_k fun K66 hK66 => ?_
    refine nd_start (l := [0]) rfl ?_
    refine nd_batch tabOk tabZ_ok [(0, {})] [0, 1, 2, 44, 6, 45, 46] (T' := [(0, .int .i64 ((i * 16 + j : Nat) : Int)), (1, .pointer (some ⟨(nd i), (j * 6), none⟩)), (2, .pointer (some ⟨b3, 0, none⟩)), (44, .agg #[.int .u64 (IntKind.wrap .u64 ((i * 16 + j : Nat) : Int)), .int .u64 (IntKind.wrap .u64 ((cel (i * 16 + j)).cap.ty)), .int .u64 (packP (cel (i * 16 + j)).cap.obj), .int .u64 (IntKind.wrap .u64 ((cel (i * 16 + j)).cap.rights)), .int .u64 ((cel (i * 16 + j)).cap.badge), .int .u64 (IntKind.wrap .u64 (IntKind.wrap .i64 (((cel (i * 16 + j)).parent) + 1)))]), (6, .int .u64 (IntKind.wrap .u64 ((cel (i * 16 + j)).cap.ty))), (45, .int .i64 2), (46, .bool true)]) (φ := True) (rest := []) h65 (by kernel_rfl) rfl trivial fun a67 h68 => ?_
    clear h65
    refine nd_done ?_
    refine hK66 _ _ ?_
    clear hK66
    refine wp_seq_k fun K69 hK69 => ?_
    refine c_true h68 rfl ?_
    refine wp_skip ?_
    refine hK69 _ _ ?_
    clear hK69
    refine wp_seq_k fun K70 hK70 => ?_
    refine wp_block ?_
    refine wp_seq_k fun K71 hK71 => ?_
    refine nd_start (l := [0, 1]) rfl ?_
    have h72 := h68.slotsMono (restr_spec (keep := [0, 1, 2, 44, 6, 45]) rfl)
    clear h68
    refine nd_op ?_
    refine op_pure (v := .int .u64 (packP (cel (i * 16 + j)).cap.obj)) h72 rfl rfl (pure_index tabOk h72.slots rfl rfl rfl rfl rfl rfl (by decide) (by decide) (φ := none) rfl trivial) ?_
    have h73 := h72.put (d := some 47) (v := .int .u64 (packP (cel (i * 16 + j)).cap.obj)) (T' := [(47, .int .u64 (packP (cel (i * 16 + j)).cap.obj)), (0, .int .i64 ((i * 16 + j : Nat) : Int)), (1, .pointer (some ⟨(nd i), (j * 6), none⟩)), (2, .pointer (some ⟨b3, 0, none⟩)), (44, .agg #[.int .u64 (IntKind.wrap .u64 ((i * 16 + j : Nat) : Int)), .int .u64 (IntKind.wrap .u64 ((cel (i * 16 + j)).cap.ty)), .int .u64 (packP (cel (i * 16 + j)).cap.obj), .int .u64 (IntKind.wrap .u64 ((cel (i * 16 + j)).cap.rights)), .int .u64 ((cel (i * 16 + j)).cap.badge), .int .u64 (IntKind.wrap .u64 (IntKind.wrap .i64 (((cel (i * 16 + j)).parent) + 1)))]), (6, .int .u64 (IntKind.wrap .u64 ((cel (i * 16 + j)).cap.ty))), (45, .int .i64 2)]) rfl
    clear h72
    refine nd_batch tabOk tabZ_ok [(1, {})] [0, 1, 2, 44, 45, 6] (T' := [(0, .int .i64 ((i * 16 + j : Nat) : Int)), (1, .pointer (some ⟨(nd i), (j * 6), none⟩)), (2, .pointer (some ⟨b3, 0, none⟩)), (44, .agg #[.int .u64 (IntKind.wrap .u64 ((i * 16 + j : Nat) : Int)), .int .u64 (IntKind.wrap .u64 ((cel (i * 16 + j)).cap.ty)), .int .u64 (packP (cel (i * 16 + j)).cap.obj), .int .u64 (IntKind.wrap .u64 ((cel (i * 16 + j)).cap.rights)), .int .u64 ((cel (i * 16 + j)).cap.badge), .int .u64 (IntKind.wrap .u64 (IntKind.wrap .i64 (((cel (i * 16 + j)).parent) + 1)))]), (45, .int .i64 2), (6, .int .u64 (packP (cel (i * 16 + j)).cap.obj))]) (φ := True) (rest := []) h73 (by kernel_rfl) rfl trivial fun a74 h75 => ?_
    clear h73
    refine nd_done ?_
    refine hK71 _ _ ?_
    clear hK71
    refine nd_start (l := [0, 1, 2, 3]) rfl ?_
    refine nd_batch tabOk tabZ_ok [(0, {k := 0}), (1, {})] [0, 1, 2, 44, 45, 6, 48, 49] (T' := [(0, .int .i64 ((i * 16 + j : Nat) : Int)), (1, .pointer (some ⟨(nd i), (j * 6), none⟩)), (2, .pointer (some ⟨b3, 0, none⟩)), (44, .agg #[.int .u64 (IntKind.wrap .u64 ((i * 16 + j : Nat) : Int)), .int .u64 (IntKind.wrap .u64 ((cel (i * 16 + j)).cap.ty)), .int .u64 (packP (cel (i * 16 + j)).cap.obj), .int .u64 (IntKind.wrap .u64 ((cel (i * 16 + j)).cap.rights)), .int .u64 ((cel (i * 16 + j)).cap.badge), .int .u64 (IntKind.wrap .u64 (IntKind.wrap .i64 (((cel (i * 16 + j)).parent) + 1)))]), (45, .int .i64 2), (6, .int .u64 (packP (cel (i * 16 + j)).cap.obj)), (48, .slice o53 ((bs ++ uv (IntKind.wrap .u64 ((i * 16 + j : Nat) : Int)) ++ uv (IntKind.wrap .u64 ((cel (i * 16 + j)).cap.ty))).length) c54), (49, .int .u64 (packP (cel (i * 16 + j)).cap.obj))]) (φ := (b3 = b3 ∧ Nat.ble (0 + 1) 1 = true) ∧ True) (rest := [2, 3]) h75 (by kernel_rfl) rfl ⟨⟨rfl, rfl⟩, trivial⟩ fun a76 h77 => ?_
    clear h75
    refine nd_op ?_
    have hszw161 : w.heap.size ≤ _ := h77.frame.size
    refine op_call h77 rfl rfl rfl (callOk Tryd.func58 (by decide) rfl) (args := [.slice o53 ((bs ++ uv (IntKind.wrap .u64 ((i * 16 + j : Nat) : Int)) ++ uv (IntKind.wrap .u64 ((cel (i * 16 + j)).cap.ty))).length) c54, .int .u64 (packP (cel (i * 16 + j)).cap.obj)]) rfl (uvar_ok o53 c54 F55 (bs ++ uv (IntKind.wrap .u64 ((i * 16 + j : Nat) : Int)) ++ uv (IntKind.wrap .u64 ((cel (i * 16 + j)).cap.ty))) (packP (cel (i * 16 + j)).cap.obj) (pack_u _) (by have := uv_len (IntKind.wrap .u64 ((i * 16 + j : Nat) : Int)); have := uv_len (IntKind.wrap .u64 ((cel (i * 16 + j)).cap.ty)); simp only [List.length_append]; omega) _ h77.inv) ?_
    rintro _ w81 ⟨o78, c79, F80, rfl, hr82, hf83, hF84⟩
    refine ⟨_, rfl, ?_⟩
    have hKh85 := row1_keys (K := (b3 :: F)) hKh60 h77.frame.size hF84
    have h85 := (h77.rowSet (j := 0) (r' := rl u8C 5 1 (bs ++ uv (IntKind.wrap .u64 ((i * 16 + j : Nat) : Int)) ++ uv (IntKind.wrap .u64 ((cel (i * 16 + j)).cap.ty)) ++ uv (packP (cel (i * 16 + j)).cap.obj)) o78 c79 F80) (R' := [rl u8C 5 1 (bs ++ uv (IntKind.wrap .u64 ((i * 16 + j : Nat) : Int)) ++ uv (IntKind.wrap .u64 ((cel (i * 16 + j)).cap.ty)) ++ uv (packP (cel (i * 16 + j)).cap.obj)) o78 c79 F80]) rfl hr82 hf83 hF84 hKh60 (kcons (by intro hq; cases hq) (kcons (fun _ => (fun hq => (hsub61 (nd i) hq).elim hnF (fun h => by omega))) knil)) rfl).put (d := some 50) (v := .slice o78 ((bs ++ uv (IntKind.wrap .u64 ((i * 16 + j : Nat) : Int)) ++ uv (IntKind.wrap .u64 ((cel (i * 16 + j)).cap.ty)) ++ uv (packP (cel (i * 16 + j)).cap.obj)).length) c79) (T' := [(50, .slice o78 ((bs ++ uv (IntKind.wrap .u64 ((i * 16 + j : Nat) : Int)) ++ uv (IntKind.wrap .u64 ((cel (i * 16 + j)).cap.ty)) ++ uv (packP (cel (i * 16 + j)).cap.obj)).length) c79), (0, .int .i64 ((i * 16 + j : Nat) : Int)), (1, .pointer (some ⟨(nd i), (j * 6), none⟩)), (2, .pointer (some ⟨b3, 0, none⟩)), (44, .agg #[.int .u64 (IntKind.wrap .u64 ((i * 16 + j : Nat) : Int)), .int .u64 (IntKind.wrap .u64 ((cel (i * 16 + j)).cap.ty)), .int .u64 (packP (cel (i * 16 + j)).cap.obj), .int .u64 (IntKind.wrap .u64 ((cel (i * 16 + j)).cap.rights)), .int .u64 ((cel (i * 16 + j)).cap.badge), .int .u64 (IntKind.wrap .u64 (IntKind.wrap .i64 (((cel (i * 16 + j)).parent) + 1)))]), (45, .int .i64 2), (6, .int .u64 (packP (cel (i * 16 + j)).cap.obj)), (48, .slice o53 ((bs ++ uv (IntKind.wrap .u64 ((i * 16 + j : Nat) : Int)) ++ uv (IntKind.wrap .u64 ((cel (i * 16 + j)).cap.ty))).length) c54), (49, .int .u64 (packP (cel (i * 16 + j)).cap.obj))]) rfl
    clear h77
    have hsub86 : ∀ b ∈ F80, b ∈ F ∨ w.heap.size ≤ b := fun b hb => (hF84 b hb).elim (hsub61 b) (fun h => .inr (Nat.le_trans hszw161 h))
    refine nd_op ?_
    refine op_store tabOk {k := 0} (L' := [(b3, ⟨[.slice o78 ((bs ++ uv (IntKind.wrap .u64 ((i * 16 + j : Nat) : Int)) ++ uv (IntKind.wrap .u64 ((cel (i * 16 + j)).cap.ty)) ++ uv (packP (cel (i * 16 + j)).cap.obj)).length) c79], 44, false⟩), ((nd i), ⟨ndC cel i, 146, true⟩)]) (φ := b3 = b3 ∧ Nat.ble (0 + 1) 1 = true) h85 rfl rfl rfl (by kernel_rfl) ⟨rfl, rfl⟩ fun w87 h88 => ?_
    clear h85
    refine nd_done ?_
    refine hK70 _ _ ?_
    clear hK70
    refine nd_start (l := [0, 1]) rfl ?_
    refine nd_batch tabOk tabZ_ok [(0, {}), (1, {})] [0, 1, 2, 44, 6, 45] (T' := [(0, .int .i64 ((i * 16 + j : Nat) : Int)), (1, .pointer (some ⟨(nd i), (j * 6), none⟩)), (2, .pointer (some ⟨b3, 0, none⟩)), (44, .agg #[.int .u64 (IntKind.wrap .u64 ((i * 16 + j : Nat) : Int)), .int .u64 (IntKind.wrap .u64 ((cel (i * 16 + j)).cap.ty)), .int .u64 (packP (cel (i * 16 + j)).cap.obj), .int .u64 (IntKind.wrap .u64 ((cel (i * 16 + j)).cap.rights)), .int .u64 ((cel (i * 16 + j)).cap.badge), .int .u64 (IntKind.wrap .u64 (IntKind.wrap .i64 (((cel (i * 16 + j)).parent) + 1)))]), (6, .int .u64 (packP (cel (i * 16 + j)).cap.obj)), (45, .int .i64 3)]) (φ := inR .i64 3 ∧ True) (rest := []) h88 (by kernel_rfl) rfl ⟨⟨by decide, by decide⟩, trivial⟩ fun a89 h90 => ?_
    clear h88
    refine nd_done ?_
    refine rounds_step ?_
    refine wp_seq_k fun K91 hK91 => ?_
    refine nd_start (l := [0]) rfl ?_
    refine nd_batch tabOk tabZ_ok [(0, {})] [0, 1, 2, 44, 6, 45, 46] (T' := [(0, .int .i64 ((i * 16 + j : Nat) : Int)), (1, .pointer (some ⟨(nd i), (j * 6), none⟩)), (2, .pointer (some ⟨b3, 0, none⟩)), (44, .agg #[.int .u64 (IntKind.wrap .u64 ((i * 16 + j : Nat) : Int)), .int .u64 (IntKind.wrap .u64 ((cel (i * 16 + j)).cap.ty)), .int .u64 (packP (cel (i * 16 + j)).cap.obj), .int .u64 (IntKind.wrap .u64 ((cel (i * 16 + j)).cap.rights)), .int .u64 ((cel (i * 16 + j)).cap.badge), .int .u64 (IntKind.wrap .u64 (IntKind.wrap .i64 (((cel (i * 16 + j)).parent) + 1)))]), (6, .int .u64 (packP (cel (i * 16 + j)).cap.obj)), (45, .int .i64 3), (46, .bool true)]) (φ := True) (rest := []) h90 (by kernel_rfl) rfl trivial fun a92 h93 => ?_
    clear h90
    refine nd_done ?_
    refine hK91 _ _ ?_
    clear hK91
    refine wp_seq_k fun K94 hK94 => ?_
    refine c_true h93 rfl ?_
    refine wp_skip ?_
    refine hK94 _ _ ?_
    clear hK94
    refine wp_seq_k fun K95 hK95 => ?_
    refine wp_block ?_
    refine wp_seq_k fun K96 hK96 => ?_
    refine nd_start (l := [0, 1]) rfl ?_
    have h97 := h93.slotsMono (restr_spec (keep := [0, 1, 2, 44, 6, 45]) rfl)
    clear h93
    refine nd_op ?_
    refine op_pure (v := .int .u64 (IntKind.wrap .u64 ((cel (i * 16 + j)).cap.rights))) h97 rfl rfl (pure_index tabOk h97.slots rfl rfl rfl rfl rfl rfl (by decide) (by decide) (φ := none) rfl trivial) ?_
    have h98 := h97.put (d := some 47) (v := .int .u64 (IntKind.wrap .u64 ((cel (i * 16 + j)).cap.rights))) (T' := [(47, .int .u64 (IntKind.wrap .u64 ((cel (i * 16 + j)).cap.rights))), (0, .int .i64 ((i * 16 + j : Nat) : Int)), (1, .pointer (some ⟨(nd i), (j * 6), none⟩)), (2, .pointer (some ⟨b3, 0, none⟩)), (44, .agg #[.int .u64 (IntKind.wrap .u64 ((i * 16 + j : Nat) : Int)), .int .u64 (IntKind.wrap .u64 ((cel (i * 16 + j)).cap.ty)), .int .u64 (packP (cel (i * 16 + j)).cap.obj), .int .u64 (IntKind.wrap .u64 ((cel (i * 16 + j)).cap.rights)), .int .u64 ((cel (i * 16 + j)).cap.badge), .int .u64 (IntKind.wrap .u64 (IntKind.wrap .i64 (((cel (i * 16 + j)).parent) + 1)))]), (6, .int .u64 (packP (cel (i * 16 + j)).cap.obj)), (45, .int .i64 3)]) rfl
    clear h97
    refine nd_batch tabOk tabZ_ok [(1, {})] [0, 1, 2, 44, 45, 6] (T' := [(0, .int .i64 ((i * 16 + j : Nat) : Int)), (1, .pointer (some ⟨(nd i), (j * 6), none⟩)), (2, .pointer (some ⟨b3, 0, none⟩)), (44, .agg #[.int .u64 (IntKind.wrap .u64 ((i * 16 + j : Nat) : Int)), .int .u64 (IntKind.wrap .u64 ((cel (i * 16 + j)).cap.ty)), .int .u64 (packP (cel (i * 16 + j)).cap.obj), .int .u64 (IntKind.wrap .u64 ((cel (i * 16 + j)).cap.rights)), .int .u64 ((cel (i * 16 + j)).cap.badge), .int .u64 (IntKind.wrap .u64 (IntKind.wrap .i64 (((cel (i * 16 + j)).parent) + 1)))]), (45, .int .i64 3), (6, .int .u64 (IntKind.wrap .u64 ((cel (i * 16 + j)).cap.rights)))]) (φ := True) (rest := []) h98 (by kernel_rfl) rfl trivial fun a99 h100 => ?_
    clear h98
    refine nd_done ?_
    refine hK96 _ _ ?_
    clear hK96
    refine nd_start (l := [0, 1, 2, 3]) rfl ?_
    refine nd_batch tabOk tabZ_ok [(0, {k := 0}), (1, {})] [0, 1, 2, 44, 45, 6, 48, 49] (T' := [(0, .int .i64 ((i * 16 + j : Nat) : Int)), (1, .pointer (some ⟨(nd i), (j * 6), none⟩)), (2, .pointer (some ⟨b3, 0, none⟩)), (44, .agg #[.int .u64 (IntKind.wrap .u64 ((i * 16 + j : Nat) : Int)), .int .u64 (IntKind.wrap .u64 ((cel (i * 16 + j)).cap.ty)), .int .u64 (packP (cel (i * 16 + j)).cap.obj), .int .u64 (IntKind.wrap .u64 ((cel (i * 16 + j)).cap.rights)), .int .u64 ((cel (i * 16 + j)).cap.badge), .int .u64 (IntKind.wrap .u64 (IntKind.wrap .i64 (((cel (i * 16 + j)).parent) + 1)))]), (45, .int .i64 3), (6, .int .u64 (IntKind.wrap .u64 ((cel (i * 16 + j)).cap.rights))), (48, .slice o78 ((bs ++ uv (IntKind.wrap .u64 ((i * 16 + j : Nat) : Int)) ++ uv (IntKind.wrap .u64 ((cel (i * 16 + j)).cap.ty)) ++ uv (packP (cel (i * 16 + j)).cap.obj)).length) c79), (49, .int .u64 (IntKind.wrap .u64 ((cel (i * 16 + j)).cap.rights)))]) (φ := (b3 = b3 ∧ Nat.ble (0 + 1) 1 = true) ∧ True) (rest := [2, 3]) h100 (by kernel_rfl) rfl ⟨⟨rfl, rfl⟩, trivial⟩ fun a101 h102 => ?_
    clear h100
    refine nd_op ?_
    have hszw211 : w.heap.size ≤ _ := h102.frame.size
    refine op_call h102 rfl rfl rfl (callOk Tryd.func58 (by decide) rfl) (args := [.slice o78 ((bs ++ uv (IntKind.wrap .u64 ((i * 16 + j : Nat) : Int)) ++ uv (IntKind.wrap .u64 ((cel (i * 16 + j)).cap.ty)) ++ uv (packP (cel (i * 16 + j)).cap.obj)).length) c79, .int .u64 (IntKind.wrap .u64 ((cel (i * 16 + j)).cap.rights))]) rfl (uvar_ok o78 c79 F80 (bs ++ uv (IntKind.wrap .u64 ((i * 16 + j : Nat) : Int)) ++ uv (IntKind.wrap .u64 ((cel (i * 16 + j)).cap.ty)) ++ uv (packP (cel (i * 16 + j)).cap.obj)) (IntKind.wrap .u64 ((cel (i * 16 + j)).cap.rights)) (u64w _) (by have := uv_len (IntKind.wrap .u64 ((i * 16 + j : Nat) : Int)); have := uv_len (IntKind.wrap .u64 ((cel (i * 16 + j)).cap.ty)); have := uv_len (packP (cel (i * 16 + j)).cap.obj); simp only [List.length_append]; omega) _ h102.inv) ?_
    rintro _ w106 ⟨o103, c104, F105, rfl, hr107, hf108, hF109⟩
    refine ⟨_, rfl, ?_⟩
    have hKh110 := row1_keys (K := (b3 :: F)) hKh85 h102.frame.size hF109
    have h110 := (h102.rowSet (j := 0) (r' := rl u8C 5 1 (bs ++ uv (IntKind.wrap .u64 ((i * 16 + j : Nat) : Int)) ++ uv (IntKind.wrap .u64 ((cel (i * 16 + j)).cap.ty)) ++ uv (packP (cel (i * 16 + j)).cap.obj) ++ uv (IntKind.wrap .u64 ((cel (i * 16 + j)).cap.rights))) o103 c104 F105) (R' := [rl u8C 5 1 (bs ++ uv (IntKind.wrap .u64 ((i * 16 + j : Nat) : Int)) ++ uv (IntKind.wrap .u64 ((cel (i * 16 + j)).cap.ty)) ++ uv (packP (cel (i * 16 + j)).cap.obj) ++ uv (IntKind.wrap .u64 ((cel (i * 16 + j)).cap.rights))) o103 c104 F105]) rfl hr107 hf108 hF109 hKh85 (kcons (by intro hq; cases hq) (kcons (fun _ => (fun hq => (hsub86 (nd i) hq).elim hnF (fun h => by omega))) knil)) rfl).put (d := some 50) (v := .slice o103 ((bs ++ uv (IntKind.wrap .u64 ((i * 16 + j : Nat) : Int)) ++ uv (IntKind.wrap .u64 ((cel (i * 16 + j)).cap.ty)) ++ uv (packP (cel (i * 16 + j)).cap.obj) ++ uv (IntKind.wrap .u64 ((cel (i * 16 + j)).cap.rights))).length) c104) (T' := [(50, .slice o103 ((bs ++ uv (IntKind.wrap .u64 ((i * 16 + j : Nat) : Int)) ++ uv (IntKind.wrap .u64 ((cel (i * 16 + j)).cap.ty)) ++ uv (packP (cel (i * 16 + j)).cap.obj) ++ uv (IntKind.wrap .u64 ((cel (i * 16 + j)).cap.rights))).length) c104), (0, .int .i64 ((i * 16 + j : Nat) : Int)), (1, .pointer (some ⟨(nd i), (j * 6), none⟩)), (2, .pointer (some ⟨b3, 0, none⟩)), (44, .agg #[.int .u64 (IntKind.wrap .u64 ((i * 16 + j : Nat) : Int)), .int .u64 (IntKind.wrap .u64 ((cel (i * 16 + j)).cap.ty)), .int .u64 (packP (cel (i * 16 + j)).cap.obj), .int .u64 (IntKind.wrap .u64 ((cel (i * 16 + j)).cap.rights)), .int .u64 ((cel (i * 16 + j)).cap.badge), .int .u64 (IntKind.wrap .u64 (IntKind.wrap .i64 (((cel (i * 16 + j)).parent) + 1)))]), (45, .int .i64 3), (6, .int .u64 (IntKind.wrap .u64 ((cel (i * 16 + j)).cap.rights))), (48, .slice o78 ((bs ++ uv (IntKind.wrap .u64 ((i * 16 + j : Nat) : Int)) ++ uv (IntKind.wrap .u64 ((cel (i * 16 + j)).cap.ty)) ++ uv (packP (cel (i * 16 + j)).cap.obj)).length) c79), (49, .int .u64 (IntKind.wrap .u64 ((cel (i * 16 + j)).cap.rights)))]) rfl
    clear h102
    have hsub111 : ∀ b ∈ F105, b ∈ F ∨ w.heap.size ≤ b := fun b hb => (hF109 b hb).elim (hsub86 b) (fun h => .inr (Nat.le_trans hszw211 h))
    refine nd_op ?_
    refine op_store tabOk {k := 0} (L' := [(b3, ⟨[.slice o103 ((bs ++ uv (IntKind.wrap .u64 ((i * 16 + j : Nat) : Int)) ++ uv (IntKind.wrap .u64 ((cel (i * 16 + j)).cap.ty)) ++ uv (packP (cel (i * 16 + j)).cap.obj) ++ uv (IntKind.wrap .u64 ((cel (i * 16 + j)).cap.rights))).length) c104], 44, false⟩), ((nd i), ⟨ndC cel i, 146, true⟩)]) (φ := b3 = b3 ∧ Nat.ble (0 + 1) 1 = true) h110 rfl rfl rfl (by kernel_rfl) ⟨rfl, rfl⟩ fun w112 h113 => ?_
    clear h110
    refine nd_done ?_
    refine hK95 _ _ ?_
    clear hK95
    refine nd_start (l := [0, 1]) rfl ?_
    refine nd_batch tabOk tabZ_ok [(0, {}), (1, {})] [0, 1, 2, 44, 6, 45] (T' := [(0, .int .i64 ((i * 16 + j : Nat) : Int)), (1, .pointer (some ⟨(nd i), (j * 6), none⟩)), (2, .pointer (some ⟨b3, 0, none⟩)), (44, .agg #[.int .u64 (IntKind.wrap .u64 ((i * 16 + j : Nat) : Int)), .int .u64 (IntKind.wrap .u64 ((cel (i * 16 + j)).cap.ty)), .int .u64 (packP (cel (i * 16 + j)).cap.obj), .int .u64 (IntKind.wrap .u64 ((cel (i * 16 + j)).cap.rights)), .int .u64 ((cel (i * 16 + j)).cap.badge), .int .u64 (IntKind.wrap .u64 (IntKind.wrap .i64 (((cel (i * 16 + j)).parent) + 1)))]), (6, .int .u64 (IntKind.wrap .u64 ((cel (i * 16 + j)).cap.rights))), (45, .int .i64 4)]) (φ := inR .i64 4 ∧ True) (rest := []) h113 (by kernel_rfl) rfl ⟨⟨by decide, by decide⟩, trivial⟩ fun a114 h115 => ?_
    clear h113
    refine nd_done ?_
    refine rounds_step ?_
    refine wp_seq_k fun K116 hK116 => ?_
    refine nd_start (l := [0]) rfl ?_
    refine nd_batch tabOk tabZ_ok [(0, {})] [0, 1, 2, 44, 6, 45, 46] (T' := [(0, .int .i64 ((i * 16 + j : Nat) : Int)), (1, .pointer (some ⟨(nd i), (j * 6), none⟩)), (2, .pointer (some ⟨b3, 0, none⟩)), (44, .agg #[.int .u64 (IntKind.wrap .u64 ((i * 16 + j : Nat) : Int)), .int .u64 (IntKind.wrap .u64 ((cel (i * 16 + j)).cap.ty)), .int .u64 (packP (cel (i * 16 + j)).cap.obj), .int .u64 (IntKind.wrap .u64 ((cel (i * 16 + j)).cap.rights)), .int .u64 ((cel (i * 16 + j)).cap.badge), .int .u64 (IntKind.wrap .u64 (IntKind.wrap .i64 (((cel (i * 16 + j)).parent) + 1)))]), (6, .int .u64 (IntKind.wrap .u64 ((cel (i * 16 + j)).cap.rights))), (45, .int .i64 4), (46, .bool true)]) (φ := True) (rest := []) h115 (by kernel_rfl) rfl trivial fun a117 h118 => ?_
    clear h115
    refine nd_done ?_
    refine hK116 _ _ ?_
    clear hK116
    refine wp_seq_k fun K119 hK119 => ?_
    refine c_true h118 rfl ?_
    refine wp_skip ?_
    refine hK119 _ _ ?_
    clear hK119
    refine wp_seq_k fun K120 hK120 => ?_
    refine wp_block ?_
    refine wp_seq_k fun K121 hK121 => ?_
    refine nd_start (l := [0, 1]) rfl ?_
    have h122 := h118.slotsMono (restr_spec (keep := [0, 1, 2, 44, 6, 45]) rfl)
    clear h118
    refine nd_op ?_
    refine op_pure (v := .int .u64 ((cel (i * 16 + j)).cap.badge)) h122 rfl rfl (pure_index tabOk h122.slots rfl rfl rfl rfl rfl rfl (by decide) (by decide) (φ := none) rfl trivial) ?_
    have h123 := h122.put (d := some 47) (v := .int .u64 ((cel (i * 16 + j)).cap.badge)) (T' := [(47, .int .u64 ((cel (i * 16 + j)).cap.badge)), (0, .int .i64 ((i * 16 + j : Nat) : Int)), (1, .pointer (some ⟨(nd i), (j * 6), none⟩)), (2, .pointer (some ⟨b3, 0, none⟩)), (44, .agg #[.int .u64 (IntKind.wrap .u64 ((i * 16 + j : Nat) : Int)), .int .u64 (IntKind.wrap .u64 ((cel (i * 16 + j)).cap.ty)), .int .u64 (packP (cel (i * 16 + j)).cap.obj), .int .u64 (IntKind.wrap .u64 ((cel (i * 16 + j)).cap.rights)), .int .u64 ((cel (i * 16 + j)).cap.badge), .int .u64 (IntKind.wrap .u64 (IntKind.wrap .i64 (((cel (i * 16 + j)).parent) + 1)))]), (6, .int .u64 (IntKind.wrap .u64 ((cel (i * 16 + j)).cap.rights))), (45, .int .i64 4)]) rfl
    clear h122
    refine nd_batch tabOk tabZ_ok [(1, {})] [0, 1, 2, 44, 45, 6] (T' := [(0, .int .i64 ((i * 16 + j : Nat) : Int)), (1, .pointer (some ⟨(nd i), (j * 6), none⟩)), (2, .pointer (some ⟨b3, 0, none⟩)), (44, .agg #[.int .u64 (IntKind.wrap .u64 ((i * 16 + j : Nat) : Int)), .int .u64 (IntKind.wrap .u64 ((cel (i * 16 + j)).cap.ty)), .int .u64 (packP (cel (i * 16 + j)).cap.obj), .int .u64 (IntKind.wrap .u64 ((cel (i * 16 + j)).cap.rights)), .int .u64 ((cel (i * 16 + j)).cap.badge), .int .u64 (IntKind.wrap .u64 (IntKind.wrap .i64 (((cel (i * 16 + j)).parent) + 1)))]), (45, .int .i64 4), (6, .int .u64 ((cel (i * 16 + j)).cap.badge))]) (φ := True) (rest := []) h123 (by kernel_rfl) rfl trivial fun a124 h125 => ?_
    clear h123
    refine nd_done ?_
    refine hK121 _ _ ?_
    clear hK121
    refine nd_start (l := [0, 1, 2, 3]) rfl ?_
    refine nd_batch tabOk tabZ_ok [(0, {k := 0}), (1, {})] [0, 1, 2, 44, 45, 6, 48, 49] (T' := [(0, .int .i64 ((i * 16 + j : Nat) : Int)), (1, .pointer (some ⟨(nd i), (j * 6), none⟩)), (2, .pointer (some ⟨b3, 0, none⟩)), (44, .agg #[.int .u64 (IntKind.wrap .u64 ((i * 16 + j : Nat) : Int)), .int .u64 (IntKind.wrap .u64 ((cel (i * 16 + j)).cap.ty)), .int .u64 (packP (cel (i * 16 + j)).cap.obj), .int .u64 (IntKind.wrap .u64 ((cel (i * 16 + j)).cap.rights)), .int .u64 ((cel (i * 16 + j)).cap.badge), .int .u64 (IntKind.wrap .u64 (IntKind.wrap .i64 (((cel (i * 16 + j)).parent) + 1)))]), (45, .int .i64 4), (6, .int .u64 ((cel (i * 16 + j)).cap.badge)), (48, .slice o103 ((bs ++ uv (IntKind.wrap .u64 ((i * 16 + j : Nat) : Int)) ++ uv (IntKind.wrap .u64 ((cel (i * 16 + j)).cap.ty)) ++ uv (packP (cel (i * 16 + j)).cap.obj) ++ uv (IntKind.wrap .u64 ((cel (i * 16 + j)).cap.rights))).length) c104), (49, .int .u64 ((cel (i * 16 + j)).cap.badge))]) (φ := (b3 = b3 ∧ Nat.ble (0 + 1) 1 = true) ∧ True) (rest := [2, 3]) h125 (by kernel_rfl) rfl ⟨⟨rfl, rfl⟩, trivial⟩ fun a126 h127 => ?_
    clear h125
    refine nd_op ?_
    have hszw261 : w.heap.size ≤ _ := h127.frame.size
    refine op_call h127 rfl rfl rfl (callOk Tryd.func58 (by decide) rfl) (args := [.slice o103 ((bs ++ uv (IntKind.wrap .u64 ((i * 16 + j : Nat) : Int)) ++ uv (IntKind.wrap .u64 ((cel (i * 16 + j)).cap.ty)) ++ uv (packP (cel (i * 16 + j)).cap.obj) ++ uv (IntKind.wrap .u64 ((cel (i * 16 + j)).cap.rights))).length) c104, .int .u64 ((cel (i * 16 + j)).cap.badge)]) rfl (uvar_ok o103 c104 F105 (bs ++ uv (IntKind.wrap .u64 ((i * 16 + j : Nat) : Int)) ++ uv (IntKind.wrap .u64 ((cel (i * 16 + j)).cap.ty)) ++ uv (packP (cel (i * 16 + j)).cap.obj) ++ uv (IntKind.wrap .u64 ((cel (i * 16 + j)).cap.rights))) ((cel (i * 16 + j)).cap.badge) hcb (by have := uv_len (IntKind.wrap .u64 ((i * 16 + j : Nat) : Int)); have := uv_len (IntKind.wrap .u64 ((cel (i * 16 + j)).cap.ty)); have := uv_len (packP (cel (i * 16 + j)).cap.obj); have := uv_len (IntKind.wrap .u64 ((cel (i * 16 + j)).cap.rights)); simp only [List.length_append]; omega) _ h127.inv) ?_
    rintro _ w131 ⟨o128, c129, F130, rfl, hr132, hf133, hF134⟩
    refine ⟨_, rfl, ?_⟩
    have hKh135 := row1_keys (K := (b3 :: F)) hKh110 h127.frame.size hF134
    have h135 := (h127.rowSet (j := 0) (r' := rl u8C 5 1 (bs ++ uv (IntKind.wrap .u64 ((i * 16 + j : Nat) : Int)) ++ uv (IntKind.wrap .u64 ((cel (i * 16 + j)).cap.ty)) ++ uv (packP (cel (i * 16 + j)).cap.obj) ++ uv (IntKind.wrap .u64 ((cel (i * 16 + j)).cap.rights)) ++ uv ((cel (i * 16 + j)).cap.badge)) o128 c129 F130) (R' := [rl u8C 5 1 (bs ++ uv (IntKind.wrap .u64 ((i * 16 + j : Nat) : Int)) ++ uv (IntKind.wrap .u64 ((cel (i * 16 + j)).cap.ty)) ++ uv (packP (cel (i * 16 + j)).cap.obj) ++ uv (IntKind.wrap .u64 ((cel (i * 16 + j)).cap.rights)) ++ uv ((cel (i * 16 + j)).cap.badge)) o128 c129 F130]) rfl hr132 hf133 hF134 hKh110 (kcons (by intro hq; cases hq) (kcons (fun _ => (fun hq => (hsub111 (nd i) hq).elim hnF (fun h => by omega))) knil)) rfl).put (d := some 50) (v := .slice o128 ((bs ++ uv (IntKind.wrap .u64 ((i * 16 + j : Nat) : Int)) ++ uv (IntKind.wrap .u64 ((cel (i * 16 + j)).cap.ty)) ++ uv (packP (cel (i * 16 + j)).cap.obj) ++ uv (IntKind.wrap .u64 ((cel (i * 16 + j)).cap.rights)) ++ uv ((cel (i * 16 + j)).cap.badge)).length) c129) (T' := [(50, .slice o128 ((bs ++ uv (IntKind.wrap .u64 ((i * 16 + j : Nat) : Int)) ++ uv (IntKind.wrap .u64 ((cel (i * 16 + j)).cap.ty)) ++ uv (packP (cel (i * 16 + j)).cap.obj) ++ uv (IntKind.wrap .u64 ((cel (i * 16 + j)).cap.rights)) ++ uv ((cel (i * 16 + j)).cap.badge)).length) c129), (0, .int .i64 ((i * 16 + j : Nat) : Int)), (1, .pointer (some ⟨(nd i), (j * 6), none⟩)), (2, .pointer (some ⟨b3, 0, none⟩)), (44, .agg #[.int .u64 (IntKind.wrap .u64 ((i * 16 + j : Nat) : Int)), .int .u64 (IntKind.wrap .u64 ((cel (i * 16 + j)).cap.ty)), .int .u64 (packP (cel (i * 16 + j)).cap.obj), .int .u64 (IntKind.wrap .u64 ((cel (i * 16 + j)).cap.rights)), .int .u64 ((cel (i * 16 + j)).cap.badge), .int .u64 (IntKind.wrap .u64 (IntKind.wrap .i64 (((cel (i * 16 + j)).parent) + 1)))]), (45, .int .i64 4), (6, .int .u64 ((cel (i * 16 + j)).cap.badge)), (48, .slice o103 ((bs ++ uv (IntKind.wrap .u64 ((i * 16 + j : Nat) : Int)) ++ uv (IntKind.wrap .u64 ((cel (i * 16 + j)).cap.ty)) ++ uv (packP (cel (i * 16 + j)).cap.obj) ++ uv (IntKind.wrap .u64 ((cel (i * 16 + j)).cap.rights))).length) c104), (49, .int .u64 ((cel (i * 16 + j)).cap.badge))]) rfl
    clear h127
    have hsub136 : ∀ b ∈ F130, b ∈ F ∨ w.heap.size ≤ b := fun b hb => (hF134 b hb).elim (hsub111 b) (fun h => .inr (Nat.le_trans hszw261 h))
    refine nd_op ?_
    refine op_store tabOk {k := 0} (L' := [(b3, ⟨[.slice o128 ((bs ++ uv (IntKind.wrap .u64 ((i * 16 + j : Nat) : Int)) ++ uv (IntKind.wrap .u64 ((cel (i * 16 + j)).cap.ty)) ++ uv (packP (cel (i * 16 + j)).cap.obj) ++ uv (IntKind.wrap .u64 ((cel (i * 16 + j)).cap.rights)) ++ uv ((cel (i * 16 + j)).cap.badge)).length) c129], 44, false⟩), ((nd i), ⟨ndC cel i, 146, true⟩)]) (φ := b3 = b3 ∧ Nat.ble (0 + 1) 1 = true) h135 rfl rfl rfl (by kernel_rfl) ⟨rfl, rfl⟩ fun w137 h138 => ?_
    clear h135
    refine nd_done ?_
    refine hK120 _ _ ?_
    clear hK120
    refine nd_start (l := [0, 1]) rfl ?_
    refine nd_batch tabOk tabZ_ok [(0, {}), (1, {})] [0, 1, 2, 44, 6, 45] (T' := [(0, .int .i64 ((i * 16 + j : Nat) : Int)), (1, .pointer (some ⟨(nd i), (j * 6), none⟩)), (2, .pointer (some ⟨b3, 0, none⟩)), (44, .agg #[.int .u64 (IntKind.wrap .u64 ((i * 16 + j : Nat) : Int)), .int .u64 (IntKind.wrap .u64 ((cel (i * 16 + j)).cap.ty)), .int .u64 (packP (cel (i * 16 + j)).cap.obj), .int .u64 (IntKind.wrap .u64 ((cel (i * 16 + j)).cap.rights)), .int .u64 ((cel (i * 16 + j)).cap.badge), .int .u64 (IntKind.wrap .u64 (IntKind.wrap .i64 (((cel (i * 16 + j)).parent) + 1)))]), (6, .int .u64 ((cel (i * 16 + j)).cap.badge)), (45, .int .i64 5)]) (φ := inR .i64 5 ∧ True) (rest := []) h138 (by kernel_rfl) rfl ⟨⟨by decide, by decide⟩, trivial⟩ fun a139 h140 => ?_
    clear h138
    refine nd_done ?_
    refine rounds_step ?_
    refine wp_seq_k fun K141 hK141 => ?_
    refine nd_start (l := [0]) rfl ?_
    refine nd_batch tabOk tabZ_ok [(0, {})] [0, 1, 2, 44, 6, 45, 46] (T' := [(0, .int .i64 ((i * 16 + j : Nat) : Int)), (1, .pointer (some ⟨(nd i), (j * 6), none⟩)), (2, .pointer (some ⟨b3, 0, none⟩)), (44, .agg #[.int .u64 (IntKind.wrap .u64 ((i * 16 + j : Nat) : Int)), .int .u64 (IntKind.wrap .u64 ((cel (i * 16 + j)).cap.ty)), .int .u64 (packP (cel (i * 16 + j)).cap.obj), .int .u64 (IntKind.wrap .u64 ((cel (i * 16 + j)).cap.rights)), .int .u64 ((cel (i * 16 + j)).cap.badge), .int .u64 (IntKind.wrap .u64 (IntKind.wrap .i64 (((cel (i * 16 + j)).parent) + 1)))]), (6, .int .u64 ((cel (i * 16 + j)).cap.badge)), (45, .int .i64 5), (46, .bool true)]) (φ := True) (rest := []) h140 (by kernel_rfl) rfl trivial fun a142 h143 => ?_
    clear h140
    refine nd_done ?_
    refine hK141 _ _ ?_
    clear hK141
    refine wp_seq_k fun K144 hK144 => ?_
    refine c_true h143 rfl ?_
    refine wp_skip ?_
    refine hK144 _ _ ?_
    clear hK144
    refine wp_seq_k fun K145 hK145 => ?_
    refine wp_block ?_
    refine wp_seq_k fun K146 hK146 => ?_
    refine nd_start (l := [0, 1]) rfl ?_
    have h147 := h143.slotsMono (restr_spec (keep := [0, 1, 2, 44, 6, 45]) rfl)
    clear h143
    refine nd_op ?_
    refine op_pure (v := .int .u64 (IntKind.wrap .u64 (IntKind.wrap .i64 (((cel (i * 16 + j)).parent) + 1)))) h147 rfl rfl (pure_index tabOk h147.slots rfl rfl rfl rfl rfl rfl (by decide) (by decide) (φ := none) rfl trivial) ?_
    have h148 := h147.put (d := some 47) (v := .int .u64 (IntKind.wrap .u64 (IntKind.wrap .i64 (((cel (i * 16 + j)).parent) + 1)))) (T' := [(47, .int .u64 (IntKind.wrap .u64 (IntKind.wrap .i64 (((cel (i * 16 + j)).parent) + 1)))), (0, .int .i64 ((i * 16 + j : Nat) : Int)), (1, .pointer (some ⟨(nd i), (j * 6), none⟩)), (2, .pointer (some ⟨b3, 0, none⟩)), (44, .agg #[.int .u64 (IntKind.wrap .u64 ((i * 16 + j : Nat) : Int)), .int .u64 (IntKind.wrap .u64 ((cel (i * 16 + j)).cap.ty)), .int .u64 (packP (cel (i * 16 + j)).cap.obj), .int .u64 (IntKind.wrap .u64 ((cel (i * 16 + j)).cap.rights)), .int .u64 ((cel (i * 16 + j)).cap.badge), .int .u64 (IntKind.wrap .u64 (IntKind.wrap .i64 (((cel (i * 16 + j)).parent) + 1)))]), (6, .int .u64 ((cel (i * 16 + j)).cap.badge)), (45, .int .i64 5)]) rfl
    clear h147
    refine nd_batch tabOk tabZ_ok [(1, {})] [0, 1, 2, 44, 45, 6] (T' := [(0, .int .i64 ((i * 16 + j : Nat) : Int)), (1, .pointer (some ⟨(nd i), (j * 6), none⟩)), (2, .pointer (some ⟨b3, 0, none⟩)), (44, .agg #[.int .u64 (IntKind.wrap .u64 ((i * 16 + j : Nat) : Int)), .int .u64 (IntKind.wrap .u64 ((cel (i * 16 + j)).cap.ty)), .int .u64 (packP (cel (i * 16 + j)).cap.obj), .int .u64 (IntKind.wrap .u64 ((cel (i * 16 + j)).cap.rights)), .int .u64 ((cel (i * 16 + j)).cap.badge), .int .u64 (IntKind.wrap .u64 (IntKind.wrap .i64 (((cel (i * 16 + j)).parent) + 1)))]), (45, .int .i64 5), (6, .int .u64 (IntKind.wrap .u64 (IntKind.wrap .i64 (((cel (i * 16 + j)).parent) + 1))))]) (φ := True) (rest := []) h148 (by kernel_rfl) rfl trivial fun a149 h150 => ?_
    clear h148
    refine nd_done ?_
    refine hK146 _ _ ?_
    clear hK146
    refine nd_start (l := [0, 1, 2, 3]) rfl ?_
    refine nd_batch tabOk tabZ_ok [(0, {k := 0}), (1, {})] [0, 1, 2, 44, 45, 6, 48, 49] (T' := [(0, .int .i64 ((i * 16 + j : Nat) : Int)), (1, .pointer (some ⟨(nd i), (j * 6), none⟩)), (2, .pointer (some ⟨b3, 0, none⟩)), (44, .agg #[.int .u64 (IntKind.wrap .u64 ((i * 16 + j : Nat) : Int)), .int .u64 (IntKind.wrap .u64 ((cel (i * 16 + j)).cap.ty)), .int .u64 (packP (cel (i * 16 + j)).cap.obj), .int .u64 (IntKind.wrap .u64 ((cel (i * 16 + j)).cap.rights)), .int .u64 ((cel (i * 16 + j)).cap.badge), .int .u64 (IntKind.wrap .u64 (IntKind.wrap .i64 (((cel (i * 16 + j)).parent) + 1)))]), (45, .int .i64 5), (6, .int .u64 (IntKind.wrap .u64 (IntKind.wrap .i64 (((cel (i * 16 + j)).parent) + 1)))), (48, .slice o128 ((bs ++ uv (IntKind.wrap .u64 ((i * 16 + j : Nat) : Int)) ++ uv (IntKind.wrap .u64 ((cel (i * 16 + j)).cap.ty)) ++ uv (packP (cel (i * 16 + j)).cap.obj) ++ uv (IntKind.wrap .u64 ((cel (i * 16 + j)).cap.rights)) ++ uv ((cel (i * 16 + j)).cap.badge)).length) c129), (49, .int .u64 (IntKind.wrap .u64 (IntKind.wrap .i64 (((cel (i * 16 + j)).parent) + 1))))]) (φ := (b3 = b3 ∧ Nat.ble (0 + 1) 1 = true) ∧ True) (rest := [2, 3]) h150 (by kernel_rfl) rfl ⟨⟨rfl, rfl⟩, trivial⟩ fun a151 h152 => ?_
    clear h150
    refine nd_op ?_
    have hszw311 : w.heap.size ≤ _ := h152.frame.size
    refine op_call h152 rfl rfl rfl (callOk Tryd.func58 (by decide) rfl) (args := [.slice o128 ((bs ++ uv (IntKind.wrap .u64 ((i * 16 + j : Nat) : Int)) ++ uv (IntKind.wrap .u64 ((cel (i * 16 + j)).cap.ty)) ++ uv (packP (cel (i * 16 + j)).cap.obj) ++ uv (IntKind.wrap .u64 ((cel (i * 16 + j)).cap.rights)) ++ uv ((cel (i * 16 + j)).cap.badge)).length) c129, .int .u64 (IntKind.wrap .u64 (IntKind.wrap .i64 (((cel (i * 16 + j)).parent) + 1)))]) rfl (uvar_ok o128 c129 F130 (bs ++ uv (IntKind.wrap .u64 ((i * 16 + j : Nat) : Int)) ++ uv (IntKind.wrap .u64 ((cel (i * 16 + j)).cap.ty)) ++ uv (packP (cel (i * 16 + j)).cap.obj) ++ uv (IntKind.wrap .u64 ((cel (i * 16 + j)).cap.rights)) ++ uv ((cel (i * 16 + j)).cap.badge)) (IntKind.wrap .u64 (IntKind.wrap .i64 (((cel (i * 16 + j)).parent) + 1))) (u64w _) (by have := uv_len (IntKind.wrap .u64 ((i * 16 + j : Nat) : Int)); have := uv_len (IntKind.wrap .u64 ((cel (i * 16 + j)).cap.ty)); have := uv_len (packP (cel (i * 16 + j)).cap.obj); have := uv_len (IntKind.wrap .u64 ((cel (i * 16 + j)).cap.rights)); have := uv_len ((cel (i * 16 + j)).cap.badge); simp only [List.length_append]; omega) _ h152.inv) ?_
    rintro _ w156 ⟨o153, c154, F155, rfl, hr157, hf158, hF159⟩
    refine ⟨_, rfl, ?_⟩
    have hKh160 := row1_keys (K := (b3 :: F)) hKh135 h152.frame.size hF159
    have h160 := (h152.rowSet (j := 0) (r' := rl u8C 5 1 (bs ++ uv (IntKind.wrap .u64 ((i * 16 + j : Nat) : Int)) ++ uv (IntKind.wrap .u64 ((cel (i * 16 + j)).cap.ty)) ++ uv (packP (cel (i * 16 + j)).cap.obj) ++ uv (IntKind.wrap .u64 ((cel (i * 16 + j)).cap.rights)) ++ uv ((cel (i * 16 + j)).cap.badge) ++ uv (IntKind.wrap .u64 (IntKind.wrap .i64 (((cel (i * 16 + j)).parent) + 1)))) o153 c154 F155) (R' := [rl u8C 5 1 (bs ++ uv (IntKind.wrap .u64 ((i * 16 + j : Nat) : Int)) ++ uv (IntKind.wrap .u64 ((cel (i * 16 + j)).cap.ty)) ++ uv (packP (cel (i * 16 + j)).cap.obj) ++ uv (IntKind.wrap .u64 ((cel (i * 16 + j)).cap.rights)) ++ uv ((cel (i * 16 + j)).cap.badge) ++ uv (IntKind.wrap .u64 (IntKind.wrap .i64 (((cel (i * 16 + j)).parent) + 1)))) o153 c154 F155]) rfl hr157 hf158 hF159 hKh135 (kcons (by intro hq; cases hq) (kcons (fun _ => (fun hq => (hsub136 (nd i) hq).elim hnF (fun h => by omega))) knil)) rfl).put (d := some 50) (v := .slice o153 ((bs ++ uv (IntKind.wrap .u64 ((i * 16 + j : Nat) : Int)) ++ uv (IntKind.wrap .u64 ((cel (i * 16 + j)).cap.ty)) ++ uv (packP (cel (i * 16 + j)).cap.obj) ++ uv (IntKind.wrap .u64 ((cel (i * 16 + j)).cap.rights)) ++ uv ((cel (i * 16 + j)).cap.badge) ++ uv (IntKind.wrap .u64 (IntKind.wrap .i64 (((cel (i * 16 + j)).parent) + 1)))).length) c154) (T' := [(50, .slice o153 ((bs ++ uv (IntKind.wrap .u64 ((i * 16 + j : Nat) : Int)) ++ uv (IntKind.wrap .u64 ((cel (i * 16 + j)).cap.ty)) ++ uv (packP (cel (i * 16 + j)).cap.obj) ++ uv (IntKind.wrap .u64 ((cel (i * 16 + j)).cap.rights)) ++ uv ((cel (i * 16 + j)).cap.badge) ++ uv (IntKind.wrap .u64 (IntKind.wrap .i64 (((cel (i * 16 + j)).parent) + 1)))).length) c154), (0, .int .i64 ((i * 16 + j : Nat) : Int)), (1, .pointer (some ⟨(nd i), (j * 6), none⟩)), (2, .pointer (some ⟨b3, 0, none⟩)), (44, .agg #[.int .u64 (IntKind.wrap .u64 ((i * 16 + j : Nat) : Int)), .int .u64 (IntKind.wrap .u64 ((cel (i * 16 + j)).cap.ty)), .int .u64 (packP (cel (i * 16 + j)).cap.obj), .int .u64 (IntKind.wrap .u64 ((cel (i * 16 + j)).cap.rights)), .int .u64 ((cel (i * 16 + j)).cap.badge), .int .u64 (IntKind.wrap .u64 (IntKind.wrap .i64 (((cel (i * 16 + j)).parent) + 1)))]), (45, .int .i64 5), (6, .int .u64 (IntKind.wrap .u64 (IntKind.wrap .i64 (((cel (i * 16 + j)).parent) + 1)))), (48, .slice o128 ((bs ++ uv (IntKind.wrap .u64 ((i * 16 + j : Nat) : Int)) ++ uv (IntKind.wrap .u64 ((cel (i * 16 + j)).cap.ty)) ++ uv (packP (cel (i * 16 + j)).cap.obj) ++ uv (IntKind.wrap .u64 ((cel (i * 16 + j)).cap.rights)) ++ uv ((cel (i * 16 + j)).cap.badge)).length) c129), (49, .int .u64 (IntKind.wrap .u64 (IntKind.wrap .i64 (((cel (i * 16 + j)).parent) + 1))))]) rfl
    clear h152
    have hsub161 : ∀ b ∈ F155, b ∈ F ∨ w.heap.size ≤ b := fun b hb => (hF159 b hb).elim (hsub136 b) (fun h => .inr (Nat.le_trans hszw311 h))
    refine nd_op ?_
    refine op_store tabOk {k := 0} (L' := [(b3, ⟨[.slice o153 ((bs ++ uv (IntKind.wrap .u64 ((i * 16 + j : Nat) : Int)) ++ uv (IntKind.wrap .u64 ((cel (i * 16 + j)).cap.ty)) ++ uv (packP (cel (i * 16 + j)).cap.obj) ++ uv (IntKind.wrap .u64 ((cel (i * 16 + j)).cap.rights)) ++ uv ((cel (i * 16 + j)).cap.badge) ++ uv (IntKind.wrap .u64 (IntKind.wrap .i64 (((cel (i * 16 + j)).parent) + 1)))).length) c154], 44, false⟩), ((nd i), ⟨ndC cel i, 146, true⟩)]) (φ := b3 = b3 ∧ Nat.ble (0 + 1) 1 = true) h160 rfl rfl rfl (by kernel_rfl) ⟨rfl, rfl⟩ fun w162 h163 => ?_
    clear h160
    refine nd_done ?_
    refine hK145 _ _ ?_
    clear hK145
    refine nd_start (l := [0, 1]) rfl ?_
    refine nd_batch tabOk tabZ_ok [(0, {}), (1, {})] [0, 1, 2, 44, 6, 45] (T' := [(0, .int .i64 ((i * 16 + j : Nat) : Int)), (1, .pointer (some ⟨(nd i), (j * 6), none⟩)), (2, .pointer (some ⟨b3, 0, none⟩)), (44, .agg #[.int .u64 (IntKind.wrap .u64 ((i * 16 + j : Nat) : Int)), .int .u64 (IntKind.wrap .u64 ((cel (i * 16 + j)).cap.ty)), .int .u64 (packP (cel (i * 16 + j)).cap.obj), .int .u64 (IntKind.wrap .u64 ((cel (i * 16 + j)).cap.rights)), .int .u64 ((cel (i * 16 + j)).cap.badge), .int .u64 (IntKind.wrap .u64 (IntKind.wrap .i64 (((cel (i * 16 + j)).parent) + 1)))]), (6, .int .u64 (IntKind.wrap .u64 (IntKind.wrap .i64 (((cel (i * 16 + j)).parent) + 1)))), (45, .int .i64 6)]) (φ := inR .i64 6 ∧ True) (rest := []) h163 (by kernel_rfl) rfl ⟨⟨by decide, by decide⟩, trivial⟩ fun a164 h165 => ?_
    clear h163
    refine nd_done ?_
    refine rounds_step ?_
    refine wp_seq_k fun K166 hK166 => ?_
    refine nd_start (l := [0]) rfl ?_
    refine nd_batch tabOk tabZ_ok [(0, {})] [0, 1, 2, 44, 6, 45, 46] (T' := [(0, .int .i64 ((i * 16 + j : Nat) : Int)), (1, .pointer (some ⟨(nd i), (j * 6), none⟩)), (2, .pointer (some ⟨b3, 0, none⟩)), (44, .agg #[.int .u64 (IntKind.wrap .u64 ((i * 16 + j : Nat) : Int)), .int .u64 (IntKind.wrap .u64 ((cel (i * 16 + j)).cap.ty)), .int .u64 (packP (cel (i * 16 + j)).cap.obj), .int .u64 (IntKind.wrap .u64 ((cel (i * 16 + j)).cap.rights)), .int .u64 ((cel (i * 16 + j)).cap.badge), .int .u64 (IntKind.wrap .u64 (IntKind.wrap .i64 (((cel (i * 16 + j)).parent) + 1)))]), (6, .int .u64 (IntKind.wrap .u64 (IntKind.wrap .i64 (((cel (i * 16 + j)).parent) + 1)))), (45, .int .i64 6), (46, .bool false)]) (φ := True) (rest := []) h165 (by kernel_rfl) rfl trivial fun a167 h168 => ?_
    clear h165
    refine nd_done ?_
    refine hK166 _ _ ?_
    clear hK166
    refine wp_seq_k fun K169 hK169 => ?_
    refine c_false h168 rfl ?_
    refine wp_exit ?_
    have hfin : bs ++ uvs (celN ((i * 16 + j : Nat) : Int) (cel (i * 16 + j))) = bs ++ uv (IntKind.wrap .u64 ((i * 16 + j : Nat) : Int)) ++ uv (IntKind.wrap .u64 ((cel (i * 16 + j)).cap.ty)) ++ uv (packP (cel (i * 16 + j)).cap.obj) ++ uv (IntKind.wrap .u64 ((cel (i * 16 + j)).cap.rights)) ++ uv ((cel (i * 16 + j)).cap.badge) ++ uv (IntKind.wrap .u64 (IntKind.wrap .i64 (((cel (i * 16 + j)).parent) + 1))) := (by rw [show celN ((i * 16 + j : Nat) : Int) (cel (i * 16 + j)) = _ from if_neg hc4f]; simp [uvs])
    try simp only [Exit.then, Exit.inBlock]
    try rw [if_pos trivial]
    exact s_end tabOk tabZ_ok h168 [] (vs := []) (φ := True) rfl (by kernel_rfl) trivial ⟨o153, c154, F155, rfl, by rw [hfin]; exact h168.kn (k := 0) rfl, by rw [hfin]; exact h168.inv.get (j := 0) rfl, h168.frame, hsub161⟩
  ·
    have hc4f : (cel (i * 16 + j)).cap.ty = 0 := by simpa using hc4
    refine wp_skip ?_
    have hfin : bs ++ uvs (celN ((i * 16 + j : Nat) : Int) (cel (i * 16 + j))) = bs := (by rw [show celN ((i * 16 + j : Nat) : Int) (cel (i * 16 + j)) = [] from if_pos hc4f]; simp [uvs])
    try simp only [Exit.then, Exit.inBlock]
    try rw [if_pos trivial]
    exact s_end tabOk tabZ_ok h3 [] (vs := []) (φ := True) rfl (by kernel_rfl) trivial ⟨o, c, F, rfl, by rw [hfin]; exact h3.kn (k := 0) rfl, by rw [hfin]; exact h3.inv.get (j := 0) rfl, h3.frame, hsub0⟩

/-- A block with a slice of bytes in it. -/
def PB (w0 : World) (F0 : List Nat) (b3 : Nat) (bs : List Int) (w : World) : Prop :=
  ∃ o c F, w.heap[b3]? = some (Blk.obj ⟨[.slice o bs.length c], 44, false⟩) ∧ (rl u8C 5 1 bs o c F).at w ∧ b3 ∉ F ∧ (∀ b ∈ F, b ∈ F0 ∨ w0.heap.size ≤ b)

theorem rws1 {r : RS} {w : World} (h : r.at w) : Rws [r] w := by
  refine ⟨?_, fun x hx => by simp at hx; subst hx; exact h⟩
  simpa [Ff] using Row.nodup h

theorem cells_each (bo bc : Nat) (nd : Nat → Nat) (C : CP) (hC : UC C) (b3 : Nat) (o : Option Addr) (c : Nat) (F : List Nat) (bs : List Int) (w : World) (hc : CapAt w bo bc nd C) (h3 : w.heap[b3]? = some (Blk.obj ⟨[.slice o bs.length c], 44, false⟩)) (hA : (rl u8C 5 1 bs o c F).at w) (h3F : b3 ∉ F) (h3c : b3 ∉ capF bo bc nd C) (hFc : ∀ b ∈ F, b ∉ capF bo bc nd C) (hn : bs.length ≤ 200000) :
    Calls Tryd.prog 70 #[.pointer (some ⟨bc, 0, none⟩), .func (.func 71) #[] #[.pointer (some ⟨b3, 0, none⟩)]] w fun e w' => e = .returned (.tuple #[]) ∧ PB w F b3 (bs ++ uvs (celsN C 4096)) w' ∧ Fr (b3 :: F) w w' := by
  refine each_ok bo bc nd C.pres 71 [.pointer (some ⟨b3, 0, none⟩)] (callOk Tryd.func71 (by decide) rfl) (b3 :: F) (fun n w1 => n ≤ 4096 → PB w F b3 (bs ++ uvs (celsN C n)) w1) w hc.sp ?_ ?_ ?_ |>.mono ?_
  · intro _
    rw [show bs ++ uvs (celsN C 0) = bs by simp [celsN, uvs]]
    exact ⟨o, c, F, h3, hA, h3F, fun _ hq => .inl hq⟩
  · intro i j hi hj hp w1 hI hf
    obtain ⟨o1, c1, F1, g1, g2, g3, g4⟩ := hI (by omega)
    have hm : nd i ∈ capF bo bc nd C := mem_capF.2 (.inr (.inr ⟨i, hi, hp, rfl⟩))
    have hni : nd i ∉ b3 :: F := fun hq => (List.mem_cons.1 hq).elim (fun e => h3c (e ▸ hm)) (fun e => hFc _ e hm)
    have e1 : w1.heap[nd i]? = some (Blk.obj ⟨ndC C.cel i, 146, false⟩) := by rw [hf.block _ (lt_of_heap (hc.no hi hp)) hni]; exact hc.no hi hp
    have hlen : (bs ++ uvs (celsN C (i * 16 + j))).length ≤ 900000 := by
      have a1 := uvs_len (celsN C (i * 16 + j))
      have a2 := celsN_len C (i * 16 + j)
      rw [List.length_append]; omega
    have hnF : nd i ∉ F1 := fun hq => (g4 _ hq).elim (fun h => hFc _ h hm) (fun h => by have := lt_of_heap (hc.no hi hp); omega)
    refine (cellBytes_ok nd C.cel i j hj (hC.c _) b3 o1 c1 F1 _ w1 g1 (rws1 g2) e1 (fun e => h3c (e ▸ hm)) g3 hnF hlen).mono ?_
    rintro e w' ⟨o2, c2, F2, rfl, k1, k2, k3, k4⟩
    have hstep : bs ++ uvs (celsN C (i * 16 + j + 1)) = bs ++ uvs (celsN C (i * 16 + j)) ++ uvs (celN ((i * 16 + j : Nat) : Int) (C.cel (i * 16 + j))) := by
      rw [celsN, show (i * 16 + j) / 16 = i by omega, hp, if_pos rfl, uvs_app, List.append_assoc]
    refine ⟨rfl, fun _ => ?_, hf.trans k3 (fun b hb => (List.mem_cons.1 hb).elim (fun e => .inl (by rw [e]; exact List.mem_cons_self ..)) (fun e => (g4 b e).imp (List.mem_cons_of_mem _) id))⟩
    refine ⟨o2, c2, F2, by rw [hstep]; exact k1, by rw [hstep]; exact k2, fun hq => (k4 _ hq).elim g3 (fun h => by have := lt_of_heap g1; omega), fun b hb => (k4 b hb).elim (g4 b) (fun h => .inr (Nat.le_trans hf.size h))⟩
  · intro i hi hp w1 h _
    rw [celsN_skip hp 16 (by omega)]; exact h (by omega)
  · rintro e w' ⟨h1, h2, h3⟩
    exact ⟨h1, h2 (Nat.le_refl _), h3⟩

end Go.Proofs.Qxb6500918aDoor
