/-
  AddNode. (Made by program: a symbolic walk that prints its steps.)
-/
import Derived.Test.Qxb6500918aDoorKE
import Derived.Test.Qxb6500918aDoorKs
namespace Go.Proofs.Qxb6500918aDoor
open Go.Sx Go.Kn
set_option maxRecDepth 100000
set_option maxHeartbeats 4000000
set_option linter.unusedVariables false
set_option linter.unusedSimpArgs false

theorem fresh_step {cl : Nat → Cel} {i : Int} (h0 : 0 ≤ i) (h1 : i < 16) (h : ∀ s : Nat, s < 16 → cl s = if (s : Int) < i then celE else celZ) : ∀ s : Nat, s < 16 → upd cl (0 * 16 + i.toNat) { cl (0 * 16 + i.toNat) with parent := -1 } s = if (s : Int) < i + 1 then celE else celZ := by
  intro s hs
  by_cases e : s = 0 * 16 + i.toNat
  · subst e
    rw [upd_same, if_pos (by omega), h _ (by omega), if_neg (by omega)]; rfl
  · rw [upd_other _ _ e, h s hs]
    by_cases e2 : (s : Int) < i
    · rw [if_pos e2, if_pos (by omega)]
    · rw [if_neg e2, if_neg (by omega)]

theorem nd_shift0 {cel : Nat → Cel} (h : ∀ s, s < 16 → cel s = celE) : ndC cel 0 = ndC (fun _ => celE) 0 := nd_ext (fun x hx => by simpa using h x hx)

theorem addNode0_ok (bo bc : Nat) (nd : Nat → Nat) (pr : Nat → Bool) (r : Rf) (hr : 0 ≤ r.idx ∧ r.idx < 256) (w : World) (hb : w.heap[bc]? = some (Blk.obj ⟨spC bo nd pr, 142, false⟩)) :
    Calls Tryd.prog 38 #[.pointer (some ⟨bc, 0, none⟩), .agg #[.int .u16 r.idx, .int .u32 r.gen]] w fun e w' => ∃ b, e = .returned (.tuple #[]) ∧ w'.heap[bc]? = some (Blk.obj ⟨spC bo (upd nd r.idx.toNat b) (upd pr r.idx.toNat true), 142, false⟩) ∧ w'.heap[b]? = some (Blk.obj ⟨ndC (fun _ => celE) 0, 146, false⟩) ∧ w.heap.size ≤ b ∧ Fr [bc] w w' := by
  refine enter0 (n := 24) (K := [bc]) (T := [(0, .pointer (some ⟨bc, 0, none⟩)), (1, .agg #[.int .u16 r.idx, .int .u32 r.gen])]) (L := [(bc, ⟨spC bo nd pr, 142, false⟩)]) (args := [.pointer (some ⟨bc, 0, none⟩), .agg #[.int .u16 r.idx, .int .u32 r.gen]]) Tryd.func38 rfl rfl rfl rfl (kcons hb knil) (by simp) (kcons (by simp) knil) ?_
  intro a h
  refine wp_seq_k fun K1 hK1 => ?_
  refine nd_start (l := [0]) rfl ?_
  refine nd_op ?_
  refine op_new tabOk (cells := [.int .u16 r.idx, .int .u32 r.gen]) (ty := 39) (ln := none) (L1 := fun b2 => [(bc, ⟨spC bo nd pr, 142, false⟩), (b2, ⟨[.int .u16 r.idx, .int .u32 r.gen], 39, false⟩)]) h rfl rfl rfl rfl (by kernel_rfl) (fun _ => rfl) fun b2 w3 a4 h5 hf6 hn7 => ?_
  clear h
  have hszb2 := hf6.size
  refine nd_done ?_
  refine hK1 _ _ ?_
  clear hK1
  refine wp_seq_k fun K8 hK8 => ?_
  refine nd_start (l := [0, 1, 2]) rfl ?_
  refine nd_batch tabOk tabZ_ok [(0, {})] [3, 0, 1, 6] (T' := [(3, .pointer (some ⟨b2, 0, none⟩)), (0, .pointer (some ⟨bc, 0, none⟩)), (1, .agg #[.int .u16 r.idx, .int .u32 r.gen]), (6, .agg #[.int .u8 0, .int .u16 0, .int .u32 0, .int .u8 0, .int .u64 0, .int .i64 0, .int .u8 0, .int .u16 0, .int .u32 0, .int .u8 0, .int .u64 0, .int .i64 0, .int .u8 0, .int .u16 0, .int .u32 0, .int .u8 0, .int .u64 0, .int .i64 0, .int .u8 0, .int .u16 0, .int .u32 0, .int .u8 0, .int .u64 0, .int .i64 0, .int .u8 0, .int .u16 0, .int .u32 0, .int .u8 0, .int .u64 0, .int .i64 0, .int .u8 0, .int .u16 0, .int .u32 0, .int .u8 0, .int .u64 0, .int .i64 0, .int .u8 0, .int .u16 0, .int .u32 0, .int .u8 0, .int .u64 0, .int .i64 0, .int .u8 0, .int .u16 0, .int .u32 0, .int .u8 0, .int .u64 0, .int .i64 0, .int .u8 0, .int .u16 0, .int .u32 0, .int .u8 0, .int .u64 0, .int .i64 0, .int .u8 0, .int .u16 0, .int .u32 0, .int .u8 0, .int .u64 0, .int .i64 0, .int .u8 0, .int .u16 0, .int .u32 0, .int .u8 0, .int .u64 0, .int .i64 0, .int .u8 0, .int .u16 0, .int .u32 0, .int .u8 0, .int .u64 0, .int .i64 0, .int .u8 0, .int .u16 0, .int .u32 0, .int .u8 0, .int .u64 0, .int .i64 0, .int .u8 0, .int .u16 0, .int .u32 0, .int .u8 0, .int .u64 0, .int .i64 0, .int .u8 0, .int .u16 0, .int .u32 0, .int .u8 0, .int .u64 0, .int .i64 0, .int .u8 0, .int .u16 0, .int .u32 0, .int .u8 0, .int .u64 0, .int .i64 0])]) (φ := True) (rest := [1, 2]) h5 (by kernel_rfl) rfl trivial fun a9 h10 => ?_
  clear h5
  refine nd_op ?_
  refine op_new tabOk (cells := [.int .u8 0, .int .u16 0, .int .u32 0, .int .u8 0, .int .u64 0, .int .i64 0, .int .u8 0, .int .u16 0, .int .u32 0, .int .u8 0, .int .u64 0, .int .i64 0, .int .u8 0, .int .u16 0, .int .u32 0, .int .u8 0, .int .u64 0, .int .i64 0, .int .u8 0, .int .u16 0, .int .u32 0, .int .u8 0, .int .u64 0, .int .i64 0, .int .u8 0, .int .u16 0, .int .u32 0, .int .u8 0, .int .u64 0, .int .i64 0, .int .u8 0, .int .u16 0, .int .u32 0, .int .u8 0, .int .u64 0, .int .i64 0, .int .u8 0, .int .u16 0, .int .u32 0, .int .u8 0, .int .u64 0, .int .i64 0, .int .u8 0, .int .u16 0, .int .u32 0, .int .u8 0, .int .u64 0, .int .i64 0, .int .u8 0, .int .u16 0, .int .u32 0, .int .u8 0, .int .u64 0, .int .i64 0, .int .u8 0, .int .u16 0, .int .u32 0, .int .u8 0, .int .u64 0, .int .i64 0, .int .u8 0, .int .u16 0, .int .u32 0, .int .u8 0, .int .u64 0, .int .i64 0, .int .u8 0, .int .u16 0, .int .u32 0, .int .u8 0, .int .u64 0, .int .i64 0, .int .u8 0, .int .u16 0, .int .u32 0, .int .u8 0, .int .u64 0, .int .i64 0, .int .u8 0, .int .u16 0, .int .u32 0, .int .u8 0, .int .u64 0, .int .i64 0, .int .u8 0, .int .u16 0, .int .u32 0, .int .u8 0, .int .u64 0, .int .i64 0, .int .u8 0, .int .u16 0, .int .u32 0, .int .u8 0, .int .u64 0, .int .i64 0]) (ty := 146) (ln := none) (L1 := fun b11 => [(bc, ⟨spC bo nd pr, 142, false⟩), (b2, ⟨[.int .u16 r.idx, .int .u32 r.gen], 39, false⟩), (b11, ⟨[.int .u8 0, .int .u16 0, .int .u32 0, .int .u8 0, .int .u64 0, .int .i64 0, .int .u8 0, .int .u16 0, .int .u32 0, .int .u8 0, .int .u64 0, .int .i64 0, .int .u8 0, .int .u16 0, .int .u32 0, .int .u8 0, .int .u64 0, .int .i64 0, .int .u8 0, .int .u16 0, .int .u32 0, .int .u8 0, .int .u64 0, .int .i64 0, .int .u8 0, .int .u16 0, .int .u32 0, .int .u8 0, .int .u64 0, .int .i64 0, .int .u8 0, .int .u16 0, .int .u32 0, .int .u8 0, .int .u64 0, .int .i64 0, .int .u8 0, .int .u16 0, .int .u32 0, .int .u8 0, .int .u64 0, .int .i64 0, .int .u8 0, .int .u16 0, .int .u32 0, .int .u8 0, .int .u64 0, .int .i64 0, .int .u8 0, .int .u16 0, .int .u32 0, .int .u8 0, .int .u64 0, .int .i64 0, .int .u8 0, .int .u16 0, .int .u32 0, .int .u8 0, .int .u64 0, .int .i64 0, .int .u8 0, .int .u16 0, .int .u32 0, .int .u8 0, .int .u64 0, .int .i64 0, .int .u8 0, .int .u16 0, .int .u32 0, .int .u8 0, .int .u64 0, .int .i64 0, .int .u8 0, .int .u16 0, .int .u32 0, .int .u8 0, .int .u64 0, .int .i64 0, .int .u8 0, .int .u16 0, .int .u32 0, .int .u8 0, .int .u64 0, .int .i64 0, .int .u8 0, .int .u16 0, .int .u32 0, .int .u8 0, .int .u64 0, .int .i64 0, .int .u8 0, .int .u16 0, .int .u32 0, .int .u8 0, .int .u64 0, .int .i64 0], 146, false⟩)]) h10 rfl rfl rfl rfl (by kernel_rfl) (fun _ => rfl) fun b11 w12 a13 h14 hf15 hn16 => ?_
  clear h10
  have hszb11 := hf15.size
  refine nd_batch tabOk tabZ_ok [(2, {})] [3, 0, 1, 4] (T' := [(3, .pointer (some ⟨b2, 0, none⟩)), (0, .pointer (some ⟨bc, 0, none⟩)), (1, .agg #[.int .u16 r.idx, .int .u32 r.gen]), (4, .pointer (some ⟨b11, 0, none⟩))]) (φ := True) (rest := []) h14 (by kernel_rfl) rfl trivial fun a17 h18 => ?_
  clear h14
  refine nd_done ?_
  refine hK8 _ _ ?_
  clear hK8
  refine wp_seq_k fun K19 hK19 => ?_
  refine wp_seq_k fun K20 hK20 => ?_
  refine nd_start (l := [0]) rfl ?_
  refine nd_batch tabOk tabZ_ok [(0, {})] [3, 0, 1, 4, 8] (T' := [(3, .pointer (some ⟨b2, 0, none⟩)), (0, .pointer (some ⟨bc, 0, none⟩)), (1, .agg #[.int .u16 r.idx, .int .u32 r.gen]), (4, .pointer (some ⟨b11, 0, none⟩)), (8, .int .i64 0)]) (φ := True) (rest := []) h18 (by kernel_rfl) rfl trivial fun a21 h22 => ?_
  clear h18
  refine nd_done ?_
  refine hK20 _ _ ?_
  clear hK20
  refine wp_block ?_
  have h23 := h22.castL (L' := [(bc, ⟨spC bo nd pr, 142, false⟩), (b2, ⟨[.int .u16 r.idx, .int .u32 r.gen], 39, false⟩), (b11, ⟨ndC (fun _ => celZ) 0, 146, false⟩)]) rfl
  clear h22
  refine wp_loop_ghost (fun g ga gw => ∃ (cl : Nat → Cel) (i : Int), ((g : Int) = 16 - i) ∧ (0 ≤ i ∧ i ≤ 16) ∧ (∀ s : Nat, s < 16 → cl s = if (s : Int) < i then celE else celZ) ∧ St ⟨24, [bc], w, fun _ => True, []⟩ [(3, .pointer (some ⟨b2, 0, none⟩)), (0, .pointer (some ⟨bc, 0, none⟩)), (1, .agg #[.int .u16 r.idx, .int .u32 r.gen]), (4, .pointer (some ⟨b11, 0, none⟩)), (8, .int .i64 i)] [(bc, ⟨spC bo nd pr, 142, false⟩), (b2, ⟨[.int .u16 r.idx, .int .u32 r.gen], 39, false⟩), (b11, ⟨ndC cl 0, 146, false⟩)] ga gw) 16 ⟨(fun _ => celZ), 0, by decide, ⟨by decide, by decide⟩, (fun s hs => by rw [if_neg (by omega)]), (h23.slotsMono (restr_spec (keep := [3, 0, 1, 4, 8]) rfl))⟩ ?_
  clear h23
  rintro g a24 w25 ⟨cl, i, hi27, hi28, hi29, h26⟩
  have hig := hi27
  have hi0 := hi28
  have hdone := hi29
  refine wp_seq_k fun K30 hK30 => ?_
  refine nd_start (l := [0]) rfl ?_
  refine nd_batch tabOk tabZ_ok [(0, {})] [3, 0, 1, 4, 8, 9] (T' := [(3, .pointer (some ⟨b2, 0, none⟩)), (0, .pointer (some ⟨bc, 0, none⟩)), (1, .agg #[.int .u16 r.idx, .int .u32 r.gen]), (4, .pointer (some ⟨b11, 0, none⟩)), (8, .int .i64 i), (9, .bool (decide (i < 16)))]) (φ := True) (rest := []) h26 (by kernel_rfl) rfl trivial fun a31 h32 => ?_
  clear h26
  refine nd_done ?_
  refine hK30 _ _ ?_
  clear hK30
  refine wp_seq_k fun K33 hK33 => ?_
  refine c_split h32 (b := decide (i < 16)) rfl (fun hc34 => ?_) (fun hc34 => ?_)
  ·
    have hc34f : i < 16 := by simpa using hc34
    refine wp_skip ?_
    refine hK33 _ _ ?_
    clear hK33
    refine wp_seq_k fun K35 hK35 => ?_
    refine wp_block ?_
    refine wp_seq_k fun K36 hK36 => ?_
    refine nd_start (l := [0, 1]) rfl ?_
    refine nd_batch tabOk tabZ_ok [(0, {}), (1, {})] [3, 0, 1, 4, 8, 5] (T' := [(3, .pointer (some ⟨b2, 0, none⟩)), (0, .pointer (some ⟨bc, 0, none⟩)), (1, .agg #[.int .u16 r.idx, .int .u32 r.gen]), (4, .pointer (some ⟨b11, 0, none⟩)), (8, .int .i64 i), (5, .int .i64 i)]) (φ := True) (rest := []) h32 (by kernel_rfl) rfl trivial fun a37 h38 => ?_
    clear h32
    refine nd_done ?_
    refine hK36 _ _ ?_
    clear hK36
    refine nd_start (l := [0, 1, 2, 3, 4, 5]) rfl ?_
    refine nd_batch tabOk tabZ_ok [(0, {}), (1, {}), (2, {}), (3, {}), (4, {})] [3, 0, 1, 4, 8, 5, 15] (T' := [(3, .pointer (some ⟨b2, 0, none⟩)), (0, .pointer (some ⟨bc, 0, none⟩)), (1, .agg #[.int .u16 r.idx, .int .u32 r.gen]), (4, .pointer (some ⟨b11, 0, none⟩)), (8, .int .i64 i), (5, .int .i64 i), (15, .pointer (some ⟨b11, 0 + (i.toNat * 6) + 5, none⟩))]) (φ := (0 ≤ i ∧ i < 16) ∧ True) (rest := [5]) h38 (by kernel_rfl) rfl ⟨⟨by omega, by omega⟩, trivial⟩ fun a39 h40 => ?_
    clear h38
    refine nd_op ?_
    refine op_store tabOk {k := 2, m := 1, vs := ndC (upd cl (0 * 16 + i.toNat) { cl (0 * 16 + i.toNat) with parent := -1 }) 0} (L' := [(bc, ⟨spC bo nd pr, 142, false⟩), (b2, ⟨[.int .u16 r.idx, .int .u32 r.gen], 39, false⟩), (b11, ⟨ndC (upd cl (0 * 16 + i.toNat) { cl (0 * 16 + i.toNat) with parent := -1 }) 0, 146, false⟩)]) (φ := b11 = b11 ∧ Nat.ble (0 + (i.toNat * 6) + 5 + 1) (ndC cl 0).length = true ∧ splice (ndC cl 0) (0 + (i.toNat * 6) + 5) [.int .i64 (-1)] = ndC (upd cl (0 * 16 + i.toNat) { cl (0 * 16 + i.toNat) with parent := -1 }) 0) h40 rfl rfl rfl (by kernel_rfl) ⟨rfl, nd_in (by omega), (nd_write (j := i.toNat) (k := 5) (by omega) (Nat.le_of_ble_eq_true rfl) (by omega) rfl)⟩ fun w41 h42 => ?_
    clear h40
    refine nd_done ?_
    refine hK35 _ _ ?_
    clear hK35
    refine nd_start (l := [0, 1]) rfl ?_
    refine nd_batch tabOk tabZ_ok [(0, {}), (1, {})] [3, 0, 1, 4, 5, 8] (T' := [(3, .pointer (some ⟨b2, 0, none⟩)), (0, .pointer (some ⟨bc, 0, none⟩)), (1, .agg #[.int .u16 r.idx, .int .u32 r.gen]), (4, .pointer (some ⟨b11, 0, none⟩)), (5, .int .i64 i), (8, .int .i64 (i + 1))]) (φ := inR .i64 (i + 1) ∧ True) (rest := []) h42 (by kernel_rfl) rfl ⟨⟨by omega, by omega⟩, trivial⟩ fun a43 h44 => ?_
    clear h42
    refine nd_done ?_
    exact ⟨(g - 1), by omega, (upd cl (0 * 16 + i.toNat) { cl (0 * 16 + i.toNat) with parent := -1 }), (i + 1), by omega, ⟨by omega, by omega⟩, (fresh_step hi0.1 (by omega) hdone), (h44.slotsMono (restr_spec (keep := [3, 0, 1, 4, 8]) rfl))⟩
  ·
    have hc34f : ¬ i < 16 := by simpa using hc34
    have hall : ∀ s, s < 16 → cl s = celE := fun s hs => by rw [hdone s hs, if_pos (by omega)]
    refine wp_exit ?_
    refine hK19 _ _ ?_
    clear hK19
    refine dr_start (KB := [bc, b2, b11]) (Bi := [[0, 1, 2], [0, 1, 2], [0, 1, 2], [0, 1, 2], [0, 1, 2], [0, 1, 2], [0, 1, 2], []]) mixed h32 fun w45 h46 => ?_
    clear h32
    refine dr_batch tabOk tabZ_ok (by repeat (first | with_reducible exact PF.body | with_reducible apply PF.inB | with_reducible apply PF.next)) [(0, {}), (1, {}), (2, {k := 1, p := 1}), (3, {}), (4, {}), (5, {}), (6, {})] [3, 0, 1, 4, 8, 20, 23] (T' := [(3, .pointer (some ⟨b2, 0, none⟩)), (0, .pointer (some ⟨bc, 0, none⟩)), (1, .agg #[.int .u16 r.idx, .int .u32 r.gen]), (4, .pointer (some ⟨b11, 0, none⟩)), (8, .int .i64 i), (20, .pointer (some ⟨b11, 0, none⟩)), (23, .pointer (some ⟨bc, 1 + (r.idx.toNat * 1), none⟩))]) (φ := (b2 = b2 ∧ Nat.ble (0 + 1) 2 = true) ∧ (0 ≤ r.idx ∧ r.idx < 256) ∧ True) (fuel := 1) h46 (by kernel_rfl) rfl (by kernel_rfl) (by kernel_rfl) ⟨trivial, trivial, rfl, trivial, trivial, trivial, trivial, trivial⟩ ⟨⟨rfl, rfl⟩, ⟨by omega, by omega⟩, trivial⟩ fun a48 h49 => ?_
    clear h46
    refine wpAnyK_one (i := 7) (fuel := 0) (by kernel_rfl) ?_
    refine op_store tabOk {k := 0, m := 1, vs := spC bo (upd nd r.idx.toNat b11) (upd pr r.idx.toNat true)} (L' := [(bc, ⟨spC bo (upd nd r.idx.toNat b11) (upd pr r.idx.toNat true), 142, false⟩), (b2, ⟨[.int .u16 r.idx, .int .u32 r.gen], 39, false⟩), (b11, ⟨ndC cl 0, 146, false⟩)]) (φ := bc = bc ∧ Nat.ble (1 + (r.idx.toNat * 1) + 1) (spC bo nd pr).length = true ∧ splice (spC bo nd pr) (1 + (r.idx.toNat * 1)) [.pointer (some ⟨b11, 0, none⟩)] = spC bo (upd nd r.idx.toNat b11) (upd pr r.idx.toNat true)) h49 rfl rfl rfl (by kernel_rfl) ⟨rfl, sp_in (by omega), (sp_put b11 (i := r.idx.toNat) (by omega) (by omega))⟩ fun w50 h51 => ?_
    have hkh51 := h49.known
    refine ⟨keepNil, ?_⟩
    clear h49
    refine wpAnyK_done (by kernel_rfl) ?_ _
    try simp only [Exit.then, Exit.inBlock]
    try rw [if_pos trivial]
    exact s_end tabOk tabZ_ok h51 [] (vs := []) (φ := True) rfl (by kernel_rfl) trivial ⟨b11, rfl, h51.kn (k := 0) rfl, (by rw [← nd_shift0 hall]; exact h51.kn (k := 2) rfl), (by omega), h51.frame⟩

theorem addNode_ok (bo bc : Nat) (nd : Nat → Nat) (C : CP) (r : Rf) (hr : 0 ≤ r.idx ∧ r.idx < 256) (w : World) (hc : CapAt w bo bc nd C) :
    Calls Tryd.prog 38 #[.pointer (some ⟨bc, 0, none⟩), .agg #[.int .u16 r.idx, .int .u32 r.gen]] w fun e w' => e = .returned (.tuple #[]) ∧ ∃ b, w.heap.size ≤ b ∧ CapAt w' bo bc (upd nd r.idx.toNat b) (nodeP C r.idx.toNat) ∧ Fr (capF bo bc nd C) w w' := by
  refine (addNode0_ok bo bc nd C.pres r hr w hc.sp).mono ?_
  rintro e w' ⟨b, rfl, h1, h2, h3, h4⟩
  exact ⟨rfl, b, h3, hc.addNode (by omega) h4 h1 h2 h3, h4.mono (fun x hx => by simp at hx; subst hx; exact mem_capF.2 (.inr (.inl rfl)))⟩

theorem retypeC_ok (bo bc : Nat) (nd : Nat → Nat) (C : CP) (t : Int) (ht : 2 ≤ t ∧ t < 6) (w : World) (hc : CapAt w bo bc nd C) {E : Nat → Ent} {r : Rf} {k : Int} (e : retype0 C.ent t = (E, r, k)) :
    Calls Tryd.prog 37 #[.pointer (some ⟨bo, 0, none⟩), .int .u8 t] w fun e w' => e = .returned (.tuple #[.agg #[.int .u16 r.idx, .int .u32 r.gen], .int .u8 k]) ∧ CapAt w' bo bc nd { C with ent := E } ∧ Fr (capF bo bc nd C) w w' := by
  have h := retype0_ok bo C.ent t ht w hc.st
  rw [e] at h
  refine h.mono ?_
  rintro e w' ⟨rfl, h1, h2⟩
  exact ⟨rfl, hc.setEnt h2 h1, h2.mono (fun x hx => by simp at hx; subst hx; exact mem_capF.2 (.inl rfl))⟩

end Go.Proofs.Qxb6500918aDoor
