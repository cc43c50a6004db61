/-
  Clone of the kernel. (Made by program: a symbolic walk that prints its steps.)
-/
import Derived.Test.Qxb6500918aDoorP7
namespace Go.Proofs.Qxb6500918aDoor
open Go.Sx Go.Kn
set_option maxRecDepth 100000
set_option maxHeartbeats 4000000
set_option linter.unusedVariables false
set_option linter.unusedSimpArgs false

theorem clone_ok (kb bo bc : Nat) (nd : Nat → Nat) (S : KP) (C : CP) (w : World) (hb : w.heap[kb]? = some (Blk.obj ⟨kC bo bc S, 90, false⟩)) (hc : CapAt w bo bc nd C) :
    Calls Tryd.prog 21 #[.pointer (some ⟨kb, 0, none⟩)] w fun e w' => ∃ kb2 bo2 bc2 nd2, e = .returned (.pointer (some ⟨kb2, 0, none⟩)) ∧ w'.heap[kb2]? = some (Blk.obj ⟨kC bo2 bc2 S, 90, false⟩) ∧ CapAt w' bo2 bc2 nd2 C ∧ kb2 ∉ capF bo2 bc2 nd2 C ∧ (∀ x ∈ kb2 :: capF bo2 bc2 nd2 C, w.heap.size ≤ x) ∧ Fr [] w w' := by
  refine enter0 (n := 21) (K := []) (T := [(0, .pointer (some ⟨kb, 0, none⟩))]) (L := [(kb, ⟨kC bo bc S, 90, true⟩)]) (args := [.pointer (some ⟨kb, 0, none⟩)]) Tryd.func21 rfl rfl rfl rfl (kcons hb knil) (by simp) (kcons (by intro hq; cases hq) knil) ?_
  intro a h
  refine wp_seq_k fun K1 hK1 => ?_
  refine nd_start (l := [0]) rfl ?_
  refine nd_batch tabOk tabZ_ok [(0, {})] [0, 2] (T' := [(0, .pointer (some ⟨kb, 0, none⟩)), (2, .pointer none)]) (φ := True) (rest := []) h (by kernel_rfl) rfl trivial fun a2 h3 => ?_
  clear h
  refine nd_done ?_
  refine hK1 _ _ ?_
  clear hK1
  refine wp_seq_k fun K4 hK4 => ?_
  refine nd_start (l := [0, 1, 2, 3, 4]) rfl ?_
  refine nd_batch tabOk tabZ_ok [(0, {}), (1, {})] [0, 2, 5] (T' := [(0, .pointer (some ⟨kb, 0, none⟩)), (2, .pointer none), (5, .pointer (some ⟨kb, 0, none⟩))]) (φ := True) (rest := [2, 3, 4]) h3 (by kernel_rfl) rfl trivial fun a5 h6 => ?_
  clear h3
  refine nd_op ?_
  refine op_loadx tabOk (vs := kC bo bc S) h6 rfl rfl rfl rfl rfl rfl k_len.symm (cells_whole (h6.kn (k := 0) (blk := ⟨kC bo bc S, 90, true⟩) rfl)) ?_
  have h7 := h6.put (d := some 6) (v := .agg (kC bo bc S).toArray) (T' := [(6, .agg (kC bo bc S).toArray), (0, .pointer (some ⟨kb, 0, none⟩)), (2, .pointer none), (5, .pointer (some ⟨kb, 0, none⟩))]) rfl
  clear h6
  refine nd_op ?_
  refine op_new tabOk (cells := (vcells z90)) (ty := 90) (ln := none) (L1 := fun b8 => [(kb, ⟨kC bo bc S, 90, true⟩), (b8, ⟨(vcells z90), 90, false⟩)]) h7 rfl rfl rfl rfl (by kernel_rfl) (fun _ => rfl) fun b8 w9 a10 h11 hf12 hn13 => ?_
  clear h7
  refine nd_op ?_
  refine op_store tabOk {k := 1, m := 1, vs := kC bo bc S} (L' := [(kb, ⟨kC bo bc S, 90, true⟩), (b8, ⟨kC bo bc S, 90, false⟩)]) (φ := b8 = b8 ∧ Nat.ble (0 + 6493) (vcells z90).length = true ∧ splice (vcells z90) 0 (kC bo bc S) = kC bo bc S) h11 rfl rfl rfl (by kernel_rfl) ⟨rfl, by kernel_rfl, splice_full (by rw [k_len]; kernel_rfl)⟩ fun w14 h15 => ?_
  clear h11
  refine nd_done ?_
  refine hK4 _ _ ?_
  clear hK4
  refine wp_seq_k fun K16 hK16 => ?_
  refine nd_start (l := [0, 1, 2, 3, 4, 5, 6]) rfl ?_
  refine nd_batch tabOk tabZ_ok [(0, {}), (1, {}), (2, {}), (3, {k := 0, m := 1, vs := [.pointer (some ⟨bo, 0, none⟩)]})] [3, 0, 2, 10] (T' := [(3, .pointer (some ⟨b8, 0, none⟩)), (0, .pointer (some ⟨kb, 0, none⟩)), (2, .pointer none), (10, .pointer (some ⟨bo, 0, none⟩))]) (φ := (kb = kb ∧ cellsAre (kC bo bc S) 0 [.pointer (some ⟨bo, 0, none⟩)]) ∧ True) (rest := [4, 5, 6]) h15 (by kernel_rfl) rfl ⟨⟨rfl, k_objs⟩, trivial⟩ fun a17 h18 => ?_
  clear h15
  refine nd_op ?_
  refine op_call h18 rfl rfl rfl (callOk Tryd.func64 (by decide) rfl) (args := [.pointer (some ⟨bo, 0, none⟩)]) rfl (storeClone_ok bo C.ent _ (hc.fr h18.frame (fun _ _ hq => by cases hq)).st) ?_
  rintro _ w19 ⟨bo2, rfl, hb22, hn23, hf20⟩
  refine ⟨_, rfl, ?_⟩
  have h21q := h18.fresh hf20 hn23 (blk := ⟨stC C.ent, 131, false⟩) hb22
  have h21 := h21q.put (d := some 11) (v := .pointer (some ⟨bo2, 0, none⟩)) (T' := [(11, .pointer (some ⟨bo2, 0, none⟩)), (3, .pointer (some ⟨b8, 0, none⟩)), (0, .pointer (some ⟨kb, 0, none⟩)), (2, .pointer none), (10, .pointer (some ⟨bo, 0, none⟩))]) rfl
  clear h18 h21q
  refine nd_batch tabOk tabZ_ok [(5, {})] [11, 3, 0, 2, 12] (T' := [(11, .pointer (some ⟨bo2, 0, none⟩)), (3, .pointer (some ⟨b8, 0, none⟩)), (0, .pointer (some ⟨kb, 0, none⟩)), (2, .pointer none), (12, .pointer (some ⟨b8, 0, none⟩))]) (φ := True) (rest := [6]) h21 (by kernel_rfl) rfl trivial fun a24 h25 => ?_
  clear h21
  refine nd_op ?_
  refine op_store tabOk {k := 1, m := 1, vs := kC bo2 bc S} (L' := [(kb, ⟨kC bo bc S, 90, true⟩), (b8, ⟨kC bo2 bc S, 90, false⟩), (bo2, ⟨stC C.ent, 131, false⟩)]) (φ := b8 = b8 ∧ Nat.ble (0 + 1) (kC bo bc S).length = true ∧ splice (kC bo bc S) 0 [.pointer (some ⟨bo2, 0, none⟩)] = kC bo2 bc S) h25 rfl rfl rfl (by kernel_rfl) ⟨rfl, k_in (by omega), rfl⟩ fun w26 h27 => ?_
  clear h25
  refine nd_done ?_
  refine hK16 _ _ ?_
  clear hK16
  refine wp_seq_k fun K28 hK28 => ?_
  refine dr_start (KB := [kb, b8, bo2]) (Bi := [[0, 1, 2], [0, 1, 2], [0, 1, 2], [0, 1, 2], [0, 1, 2], [0, 1, 2], [], [0, 1, 2], []]) mixed h27 fun w29 h30 => ?_
  clear h27
  refine dr_batch tabOk tabZ_ok (by repeat (first | with_reducible exact PF.body | with_reducible apply PF.inB | with_reducible apply PF.next)) [(0, {}), (1, {}), (2, {}), (3, {k := 0, m := 1, vs := [.pointer (some ⟨bc, 0, none⟩)], p := 0}), (4, {}), (5, {k := 1, m := 1, vs := [.pointer (some ⟨bo2, 0, none⟩)], p := 1})] [3, 0, 2, 16, 18] (T' := [(3, .pointer (some ⟨b8, 0, none⟩)), (0, .pointer (some ⟨kb, 0, none⟩)), (2, .pointer none), (16, .pointer (some ⟨bc, 0, none⟩)), (18, .pointer (some ⟨bo2, 0, none⟩))]) (φ := (kb = kb ∧ cellsAre (kC bo bc S) 1 [.pointer (some ⟨bc, 0, none⟩)]) ∧ (b8 = b8 ∧ cellsAre (kC bo2 bc S) 0 [.pointer (some ⟨bo2, 0, none⟩)]) ∧ True) (fuel := 3) h30 (by kernel_rfl) rfl (by kernel_rfl) (by kernel_rfl) ⟨trivial, trivial, trivial, rfl, trivial, rfl, trivial⟩ ⟨⟨rfl, k_caps⟩, ⟨rfl, k_objs⟩, trivial⟩ fun a32 h33 => ?_
  clear h30
  refine wpAnyK_one (i := 6) (fuel := 2) (by kernel_rfl) ?_
  refine op_call h33 rfl rfl rfl (callOk Tryd.func65 (by decide) rfl) (args := [.pointer (some ⟨bc, 0, none⟩), .pointer (some ⟨bo2, 0, none⟩)]) rfl (spaceClone_ok bo bc nd C bo2 _ (hc.fr h33.frame (fun _ _ hq => by cases hq))) ?_
  rintro _ w34 ⟨bc2, nd2, rfl, hb37, hn38, hcop, hnbc, hf35⟩
  refine ⟨_, rfl, ?_⟩
  have hlkb := lt_of_heap (h33.kn (k := 1) rfl)
  have hlbo := lt_of_heap (h33.kn (k := 2) rfl)
  have hsz9 := h33.frame.size
  have hnew : ∀ x ∈ copF nd2 C.pres, _ ≤ x := fun x hx => by obtain ⟨j, hj, hp, e⟩ := mem_copF.1 hx; rw [← e]; exact hcop.nw hj hp
  have h36q := h33.fresh hf35 hn38 (blk := ⟨spC bo2 nd2 C.pres, 142, false⟩) hb37
  have h36r := h36q.as (L' := [(kb, ⟨kC bo bc S, 90, true⟩), (b8, ⟨kC bo2 bc S, 90, false⟩), (bo2, ⟨stC C.ent, 131, false⟩), (bc2, ⟨spC bo2 nd2 C.pres, 142, false⟩)]) (List.Sublist.refl _) (A' := fun w9 => Cop w9 w.heap.size nd2 C.pres C.cel) (F' := copF nd2 C.pres) ⟨hcop.no, fun hi hp => Nat.le_trans hsz9 (hcop.nw hi hp), hcop.inj⟩ Cop.stable hcop.low (kcons (by intro hq; cases hq) (kcons (fun _ hq => by have h9 := hnew _ hq; have := hlkb; omega) (kcons (fun _ hq => by have h9 := hnew _ hq; have := hlbo; omega) (kcons (fun _ hq => by obtain ⟨j, hj, hp, e⟩ := mem_copF.1 hq; exact hnbc hj hp e) knil))))
  have h36 := h36r.put (d := some 19) (v := .pointer (some ⟨bc2, 0, none⟩)) (T' := [(19, .pointer (some ⟨bc2, 0, none⟩)), (3, .pointer (some ⟨b8, 0, none⟩)), (0, .pointer (some ⟨kb, 0, none⟩)), (2, .pointer none), (16, .pointer (some ⟨bc, 0, none⟩)), (18, .pointer (some ⟨bo2, 0, none⟩))]) rfl
  refine ⟨keepNil, ?_⟩
  clear h33 h36q h36r
  refine dr_batch tabOk tabZ_ok (by repeat (first | with_reducible exact PF.body | with_reducible apply PF.inB | with_reducible apply PF.next)) [(7, {})] [19, 3, 0, 2, 20] (T' := [(19, .pointer (some ⟨bc2, 0, none⟩)), (3, .pointer (some ⟨b8, 0, none⟩)), (0, .pointer (some ⟨kb, 0, none⟩)), (2, .pointer none), (20, .pointer (some ⟨b8, 1, none⟩))]) (φ := True) (fuel := 1) h36 (by kernel_rfl) rfl (by kernel_rfl) (by kernel_rfl) ⟨trivial, trivial⟩ trivial fun a39 h40 => ?_
  clear h36
  refine wpAnyK_one (i := 8) (fuel := 0) (by kernel_rfl) ?_
  refine op_store tabOk {k := 1, m := 1, vs := kC bo2 bc2 S} (L' := [(kb, ⟨kC bo bc S, 90, true⟩), (b8, ⟨kC bo2 bc2 S, 90, false⟩), (bo2, ⟨stC C.ent, 131, false⟩), (bc2, ⟨spC bo2 nd2 C.pres, 142, false⟩)]) (φ := b8 = b8 ∧ Nat.ble (1 + 1) (kC bo2 bc S).length = true ∧ splice (kC bo2 bc S) 1 [.pointer (some ⟨bc2, 0, none⟩)] = kC bo2 bc2 S) h40 rfl rfl rfl (by kernel_rfl) ⟨rfl, k_in (by omega), rfl⟩ fun w41 h42 => ?_
  have hkh42 := h40.known
  refine ⟨keepNil, ?_⟩
  clear h40
  refine wpAnyK_done (by kernel_rfl) ?_ _
  refine hK28 _ _ ?_
  clear hK28
  refine wp_seq_k fun K43 hK43 => ?_
  refine nd_start (l := [0]) rfl ?_
  refine nd_batch tabOk tabZ_ok [(0, {})] [3, 0, 2] (T' := [(3, .pointer (some ⟨b8, 0, none⟩)), (0, .pointer (some ⟨kb, 0, none⟩)), (2, .pointer (some ⟨b8, 0, none⟩))]) (φ := True) (rest := []) h42 (by kernel_rfl) rfl trivial fun a44 h45 => ?_
  clear h42
  refine nd_done ?_
  refine hK43 _ _ ?_
  clear hK43
  refine wp_ret ?_
  have hcp : CapAt _ bo2 bc2 nd2 C := ⟨h45.kn (k := 2) rfl, h45.kn (k := 3) rfl, h45.inv.no, nodup_key h45.nodup (i := 2) (j := 3) rfl rfl (by decide), fun hi hp => ⟨fun e => h45.dj (k := 2) rfl rfl (mem_copF.2 ⟨_, hi, hp, e⟩), fun e => h45.dj (k := 3) rfl rfl (mem_copF.2 ⟨_, hi, hp, e⟩)⟩, h45.inv.inj⟩
  have hnk : b8 ∉ capF bo2 bc2 nd2 C := fun hq => by rcases mem_capF.1 hq with e | e | ⟨j, hj, hp, e⟩; exact nodup_key h45.nodup (i := 1) (j := 2) rfl rfl (by decide) e; exact nodup_key h45.nodup (i := 1) (j := 3) rfl rfl (by decide) e; exact h45.dj (k := 1) rfl rfl (mem_copF.2 ⟨j, hj, hp, e⟩)
  have hnw : ∀ x ∈ b8 :: capF bo2 bc2 nd2 C, w.heap.size ≤ x := fun x hx => by rcases List.mem_cons.1 hx with e | hx; (rw [e]; exact h45.newer (k := 1) rfl rfl); rcases mem_capF.1 hx with e | e | ⟨j, hj, hp, e⟩; (rw [e]; exact h45.newer (k := 2) rfl rfl); (rw [e]; exact h45.newer (k := 3) rfl rfl); (rw [← e]; exact h45.inv.nw hj hp)
  try simp only [Exit.then, Exit.inBlock]
  try rw [if_pos trivial]
  exact s_ret tabOk tabZ_ok h45 [(.tmp 2, {})] (vs := [.pointer (some ⟨b8, 0, none⟩)]) (φ := True) rfl (by kernel_rfl) trivial ⟨b8, bo2, bc2, nd2, rfl, h45.kn (k := 1) rfl, hcp, hnk, hnw, h45.frame⟩

end Go.Proofs.Qxb6500918aDoor
