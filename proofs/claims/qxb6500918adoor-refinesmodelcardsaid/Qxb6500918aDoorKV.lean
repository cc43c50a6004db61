/-
  put. (Made by program: a symbolic walk that prints its steps.)
-/
import Derived.Test.Qxb6500918aDoorKU
namespace Go.Proofs.Qxb6500918aDoor
open Go.Sx Go.Kn
set_option maxRecDepth 100000
set_option maxHeartbeats 4000000
set_option linter.unusedVariables false
set_option linter.unusedSimpArgs false

theorem src_at {cs : List Value} {k : Nat} {vs : List Int} (h : cellsAre cs k (vs.map wdV)) {i : Nat} {x : Int} (hx : vs[i]? = some x) {o : Nat} (ho : o = k + i) : cellsAre cs o [.int .u64 x] := by
  subst ho
  induction vs generalizing k i with
  | nil => simp at hx
  | cons v vs ih =>
    cases i with
    | zero => simp at hx; subst hx; exact ⟨h.1, trivial⟩
    | succ i =>
      have := ih (k := k + 1) h.2 (i := i) (by simpa using hx)
      rw [show k + 1 + i = k + (i + 1) by omega] at this
      exact this

theorem put_ok (b3 sb k0 cx sty : Nat) (cs : List Value) (vs : List Int) (o : Option Addr) (c : Nat) (F : List Nat) (bs : List Int) (w : World) (h3 : w.heap[b3]? = some (Blk.obj ⟨[.slice o bs.length c], 44, false⟩)) (hA : Rws [rl u8C 5 1 bs o c F] w) (hsb : w.heap[sb]? = some (Blk.obj ⟨cs, sty, true⟩)) (hsrc : cellsAre cs k0 (vs.map wdV)) (hne : b3 ≠ sb) (h3F : b3 ∉ F) (hsF : sb ∉ F) (hv : ∀ x ∈ vs, u64r x) (hn : bs.length + vs.length * 10 ≤ 100000000) :
    Calls Tryd.prog 57 #[.slice (some ⟨sb, k0, none⟩) vs.length cx, .pointer (some ⟨b3, 0, none⟩)] w fun e w' => ∃ o' c' F', e = .returned (.tuple #[]) ∧ w'.heap[b3]? = some (Blk.obj ⟨[.slice o' (bs ++ uvs vs).length c'], 44, false⟩) ∧ (rl u8C 5 1 (bs ++ uvs vs) o' c' F').at w' ∧ Fr (b3 :: F) w w' ∧ (∀ b ∈ F', b ∈ F ∨ w.heap.size ≤ b) := by
  have hsl := lt_of_heap hsb
  refine enter (n := 15) (K := (b3 :: F)) (A := Rws [rl u8C 5 1 bs o c F]) (F := Ff [rl u8C 5 1 bs o c F]) (T := [(0, .slice (some ⟨sb, k0, none⟩) vs.length cx), (1, .pointer (some ⟨b3, 0, none⟩))]) (L := [(b3, ⟨[.slice o bs.length c], 44, false⟩), (sb, ⟨cs, sty, true⟩)]) (args := [.slice (some ⟨sb, k0, none⟩) vs.length cx, .pointer (some ⟨b3, 0, none⟩)]) Tryd.func57 rfl rfl rfl rfl (kcons h3 (kcons hsb knil)) (by simp; exact hne) (kcons (fun _ => by simp) (kcons (by intro hq; cases hq) knil)) hA Rws.stable hA.low (kcons (fun _ => by simpa [Ff, rl] using h3F) (kcons (by intro hq; cases hq) knil)) ?_
  intro a h
  refine wp_seq_k fun K1 hK1 => ?_
  refine nd_start (l := [0, 1, 2]) rfl ?_
  refine nd_batch tabOk tabZ_ok [(0, {}), (1, {}), (2, {})] [0, 1, 5, 6, 7] (T' := [(0, .slice (some ⟨sb, k0, none⟩) vs.length cx), (1, .pointer (some ⟨b3, 0, none⟩)), (5, .slice (some ⟨sb, k0, none⟩) vs.length cx), (6, .int .i64 ((vs.length : Nat) : Int)), (7, .int .i64 0)]) (φ := True) (rest := []) h (by kernel_rfl) rfl trivial fun a2 h3 => ?_
  clear h
  refine nd_done ?_
  refine hK1 _ _ ?_
  clear hK1
  refine wp_block ?_
  refine wp_loop_ghost (fun g ga gw => ∃ (o' : Option Addr) (c' : Nat) (F' : List Nat) (bs' : List Int) (i : Int), ((g : Int) = vs.length - i) ∧ (0 ≤ i ∧ i ≤ vs.length) ∧ (bs' = bs ++ uvs (vs.take i.toNat)) ∧ (∀ b ∈ F', b ∈ F ∨ w.heap.size ≤ b) ∧ St ⟨15, (b3 :: F), w, Rws [rl u8C 5 1 bs' o' c' F'], Ff [rl u8C 5 1 bs' o' c' F']⟩ [(1, .pointer (some ⟨b3, 0, none⟩)), (5, .slice (some ⟨sb, k0, none⟩) vs.length cx), (6, .int .i64 ((vs.length : Nat) : Int)), (7, .int .i64 i)] [(b3, ⟨[.slice o' bs'.length c'], 44, false⟩), (sb, ⟨cs, sty, true⟩)] ga gw) vs.length ⟨o, c, F, bs, 0, by simp, ⟨by simp, by simp⟩, (by simp [uvs]), (fun _ hq => .inl hq), (h3.slotsMono (restr_spec (keep := [1, 5, 6, 7]) rfl))⟩ ?_
  clear h3
  rintro g a4 w5 ⟨o', c', F', bs', i, hi7, hi8, hi9, hi10, h6⟩
  have hig := hi7
  have hi0 := hi8
  have hbs := hi9
  have hFS := hi10
  have hFK : ∀ b ∈ F', b ∈ b3 :: F ∨ w.heap.size ≤ b := fun b hb => (hFS b hb).imp (List.mem_cons_of_mem _) id
  refine wp_seq_k fun K11 hK11 => ?_
  refine nd_start (l := [0]) rfl ?_
  refine nd_batch tabOk tabZ_ok [(0, {})] [1, 5, 6, 7, 8] (T' := [(1, .pointer (some ⟨b3, 0, none⟩)), (5, .slice (some ⟨sb, k0, none⟩) vs.length cx), (6, .int .i64 ((vs.length : Nat) : Int)), (7, .int .i64 i), (8, .bool (decide (i < ((vs.length : Nat) : Int))))]) (φ := True) (rest := []) h6 (by kernel_rfl) rfl trivial fun a12 h13 => ?_
  clear h6
  refine nd_done ?_
  refine hK11 _ _ ?_
  clear hK11
  refine wp_seq_k fun K14 hK14 => ?_
  refine c_split h13 (b := decide (i < ((vs.length : Nat) : Int))) rfl (fun hc15 => ?_) (fun hc15 => ?_)
  ·
    have hc15f : i < ((vs.length : Nat) : Int) := by simpa using hc15
    obtain ⟨x, hx⟩ : ∃ x, vs[i.toNat]? = some x := ⟨vs[i.toNat]'(by omega), by simp⟩
    have hxv := hv x (List.mem_of_getElem? hx)
    have hbl : bs'.length ≤ 100000000 := by have h1 := congrArg List.length hbs; have h2 := uvs_len (vs.take i.toNat); rw [List.length_append] at h1; rw [List.length_take] at h2; have : min i.toNat vs.length ≤ vs.length := Nat.min_le_right _ _; omega
    refine wp_skip ?_
    refine hK14 _ _ ?_
    clear hK14
    refine wp_seq_k fun K16 hK16 => ?_
    refine wp_block ?_
    refine wp_seq_k fun K17 hK17 => ?_
    refine nd_start (l := [0, 1, 2]) rfl ?_
    refine nd_batch tabOk tabZ_ok [(0, {}), (1, {k := 1, m := 1, vs := [.int .u64 x]}), (2, {})] [1, 5, 6, 7, 4] (T' := [(1, .pointer (some ⟨b3, 0, none⟩)), (5, .slice (some ⟨sb, k0, none⟩) vs.length cx), (6, .int .i64 ((vs.length : Nat) : Int)), (7, .int .i64 i), (4, .int .u64 x)]) (φ := (0 ≤ i ∧ i < ((vs.length : Nat) : Int)) ∧ (sb = sb ∧ cellsAre cs (k0 + (i.toNat * 1)) [.int .u64 x]) ∧ True) (rest := []) h13 (by kernel_rfl) rfl ⟨⟨by omega, by omega⟩, ⟨rfl, (src_at hsrc hx (by omega))⟩, trivial⟩ fun a18 h19 => ?_
    clear h13
    refine nd_done ?_
    refine hK17 _ _ ?_
    clear hK17
    refine nd_start (l := [0, 1, 2, 3]) rfl ?_
    refine nd_batch tabOk tabZ_ok [(0, {k := 0}), (1, {})] [1, 5, 6, 7, 4, 11, 12] (T' := [(1, .pointer (some ⟨b3, 0, none⟩)), (5, .slice (some ⟨sb, k0, none⟩) vs.length cx), (6, .int .i64 ((vs.length : Nat) : Int)), (7, .int .i64 i), (4, .int .u64 x), (11, .slice o' bs'.length c'), (12, .int .u64 x)]) (φ := (b3 = b3 ∧ Nat.ble (0 + 1) 1 = true) ∧ True) (rest := [2, 3]) h19 (by kernel_rfl) rfl ⟨⟨rfl, rfl⟩, trivial⟩ fun a20 h21 => ?_
    clear h19
    refine nd_op ?_
    have hszw : w.heap.size ≤ _ := h21.frame.size
    refine op_call h21 rfl rfl rfl (callOk Tryd.func58 (by decide) rfl) (args := [.slice o' bs'.length c', .int .u64 x]) rfl (uvar_ok o' c' F' bs' x hxv hbl _ h21.inv) ?_
    rintro _ w25 ⟨o22, c23, F24, rfl, hr26, hf27, hF28⟩
    refine ⟨_, rfl, ?_⟩
    have hKh29 := row1_keys (K := (b3 :: F)) hFK h21.frame.size hF28
    have h29 := (h21.rowSet (j := 0) (r' := rl u8C 5 1 (bs' ++ uv x) o22 c23 F24) (R' := [rl u8C 5 1 (bs' ++ uv x) o22 c23 F24]) rfl hr26 hf27 hF28 hFK (kcons (by intro hq; cases hq) (kcons (fun _ hq => (hFS sb hq).elim hsF (fun h => by omega)) knil)) rfl).put (d := some 13) (v := .slice o22 ((bs' ++ uv x).length) c23) (T' := [(13, .slice o22 ((bs' ++ uv x).length) c23), (1, .pointer (some ⟨b3, 0, none⟩)), (5, .slice (some ⟨sb, k0, none⟩) vs.length cx), (6, .int .i64 ((vs.length : Nat) : Int)), (7, .int .i64 i), (4, .int .u64 x), (11, .slice o' bs'.length c'), (12, .int .u64 x)]) rfl
    clear h21
    refine nd_op ?_
    refine op_store tabOk {k := 0} (L' := [(b3, ⟨[.slice o22 ((bs' ++ uv x).length) c23], 44, false⟩), (sb, ⟨cs, sty, true⟩)]) (φ := b3 = b3 ∧ Nat.ble (0 + 1) 1 = true) h29 rfl rfl rfl (by kernel_rfl) ⟨rfl, rfl⟩ fun w30 h31 => ?_
    clear h29
    refine nd_done ?_
    refine hK16 _ _ ?_
    clear hK16
    refine nd_start (l := [0, 1]) rfl ?_
    refine nd_batch tabOk tabZ_ok [(0, {}), (1, {})] [1, 5, 6, 4, 7] (T' := [(1, .pointer (some ⟨b3, 0, none⟩)), (5, .slice (some ⟨sb, k0, none⟩) vs.length cx), (6, .int .i64 ((vs.length : Nat) : Int)), (4, .int .u64 x), (7, .int .i64 (i + 1))]) (φ := inR .i64 (i + 1) ∧ True) (rest := []) h31 (by kernel_rfl) rfl ⟨⟨by omega, by omega⟩, trivial⟩ fun a32 h33 => ?_
    clear h31
    refine nd_done ?_
    exact ⟨(g - 1), by omega, o22, c23, F24, (bs' ++ uv x), (i + 1), by omega, ⟨by omega, by omega⟩, (by rw [show (i + 1).toNat = i.toNat + 1 by omega, List.take_add_one, hx, hbs, Option.toList, uvs_app, List.append_assoc]; simp [uvs]), (fun b hb => (hF28 b hb).elim (hFS b) (fun h => .inr (Nat.le_trans hszw h))), (h33.slotsMono (restr_spec (keep := [1, 5, 6, 7]) rfl))⟩
  ·
    have hc15f : ¬ i < ((vs.length : Nat) : Int) := by simpa using hc15
    rw [show i.toNat = vs.length by omega, List.take_length] at hbs
    refine wp_exit ?_
    try simp only [Exit.then, Exit.inBlock]
    try rw [if_pos trivial]
    exact s_end tabOk tabZ_ok h13 [] (vs := []) (φ := True) rfl (by kernel_rfl) trivial ⟨o', c', F', rfl, by rw [← hbs]; exact h13.kn (k := 0) rfl, by rw [← hbs]; exact h13.inv.get (j := 0) rfl, h13.frame, hFS⟩

end Go.Proofs.Qxb6500918aDoor
