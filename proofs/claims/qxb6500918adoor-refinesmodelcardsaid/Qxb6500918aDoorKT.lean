/-
  New. (Made by program: a symbolic walk that prints its steps.)
-/
import Derived.Test.Qxb6500918aDoorLf
namespace Go.Proofs.Qxb6500918aDoor
open Go.Sx Go.Kn
set_option maxRecDepth 100000
set_option maxHeartbeats 4000000
set_option linter.unusedVariables false
set_option linter.unusedSimpArgs false

theorem st_add {C : Ctx} {T : Slots} {L : Mem} {a : Act} {w : World} (hst : St C T L a w) {b : Nat} {cells : List Value} {ty : TypeId} (hb : w.heap[b]? = some (Blk.obj ⟨cells, ty, false⟩)) (hn : C.w0.heap.size ≤ b) (hL : ∀ kb ∈ L, kb.1 < b) (hF : b ∉ C.F) : St C T (L ++ [(b, ⟨cells, ty, false⟩)]) a w := by
  refine ⟨hst.size, hst.defs, hst.slots, ?_, ?_, ?_, hst.frame, hst.inv, hst.stab, hst.low, ?_⟩
  · intro kb h
    rcases List.mem_append.1 h with h | h
    · exact hst.known kb h
    · simp at h; subst h; exact hb
  · rw [List.map_append, List.nodup_append]
    refine ⟨hst.nodup, by simp, fun x hx y hy he => ?_⟩
    simp at hy; subst hy; subst he
    obtain ⟨kb, h1, h2⟩ := List.mem_map.1 hx
    have := hL kb h1; omega
  · intro kb h hr
    rcases List.mem_append.1 h with h | h
    · exact hst.keys kb h hr
    · simp at h; subst h; exact .inr hn
  · intro kb h hr
    rcases List.mem_append.1 h with h | h
    · exact hst.disj kb h hr
    · simp at h; subst h; exact hF

theorem new_ok (w : World) (hg1 : CellsAt w 1 0 (tcbC noT)) (hgs1 : 1 < w.heap.size) (hg2 : CellsAt w 2 0 (quC noQ)) (hgs2 : 2 < w.heap.size) :
    Calls Tryd.prog 11 #[] w fun e w' => ∃ kb bo bc nd, e = .returned (.pointer (some ⟨kb, 0, none⟩)) ∧ w'.heap[kb]? = some (Blk.obj ⟨kC bo bc bootS, 90, false⟩) ∧ CapAt w' bo bc nd bootC ∧ kb ∉ capF bo bc nd bootC ∧ w.heap.size ≤ kb ∧ (∀ x ∈ capF bo bc nd bootC, w.heap.size ≤ x) ∧ Fr [] w w' := by
  refine enter0 (n := 131) (K := []) (T := []) (L := []) (args := []) Tryd.func11 rfl rfl rfl rfl knil (by simp) knil ?_
  intro a h
  refine wp_seq_k fun K1 hK1 => ?_
  refine nd_start (l := [0]) rfl ?_
  refine nd_batch tabOk tabZ_ok [(0, {})] [0] (T' := [(0, .pointer none)]) (φ := True) (rest := []) h (by kernel_rfl) rfl trivial fun a2 h3 => ?_
  clear h
  refine nd_done ?_
  refine hK1 _ _ ?_
  clear hK1
  refine wp_seq_k fun K4 hK4 => ?_
  refine nd_start (l := [0, 1, 2, 3]) rfl ?_
  refine nd_op ?_
  refine op_call h3 rfl rfl rfl (callOk Tryd.func35 (by decide) rfl) (args := [.int .u64 8192]) rfl (newStore_ok _) ?_
  rintro _ w5 ⟨bo, rfl, hbo, hbon, hf6⟩
  refine ⟨_, rfl, ?_⟩
  have hbw : w.heap.size ≤ bo := Nat.le_trans h3.frame.size hbon
  have h7 := (h3.grow hf6).put (d := some 10) (v := .pointer (some ⟨bo, 0, none⟩)) (T' := [(10, .pointer (some ⟨bo, 0, none⟩)), (0, .pointer none)]) rfl
  have h8 := st_add h7 hbo hbw (fun kb hk => by have := lt_of_heap (h3.known kb hk); omega) (fun hq => by cases hq)
  clear h3 h7
  refine nd_batch tabOk tabZ_ok [(1, {})] [0, 11] (T' := [(0, .pointer none), (11, .agg (splice (splice (vcells z90) 0 [.pointer (some ⟨bo, 0, none⟩)]) 6427 [.int .i16 (-1)]).toArray)]) (φ := True) (rest := [2, 3]) h8 (by kernel_rfl) rfl trivial fun a9 h10 => ?_
  clear h8
  refine nd_op ?_
  refine op_new tabOk (cells := (splice (splice (vcells z90) 0 [.pointer (some ⟨bo, 0, none⟩)]) 6427 [.int .i16 (-1)])) (ty := 90) (ln := none) (L1 := fun b11 => [(bo, ⟨stC bootE, 131, false⟩), (b11, ⟨(splice (splice (vcells z90) 0 [.pointer (some ⟨bo, 0, none⟩)]) 6427 [.int .i16 (-1)]), 90, false⟩)]) h10 rfl rfl rfl rfl (by kernel_rfl) (fun _ => rfl) fun b11 w12 a13 h14 hf15 hn16 => ?_
  have h17 := h14.castL (L' := [(bo, ⟨stC bootE, 131, false⟩), (b11, ⟨kCv (.pointer none) bo (zK (-1)), 90, false⟩)]) (by rw [kz_cells])
  clear h10 h14
  refine nd_batch tabOk tabZ_ok [(3, {})] [0, 1] (T' := [(0, .pointer none), (1, .pointer (some ⟨b11, 0, none⟩))]) (φ := True) (rest := []) h17 (by kernel_rfl) rfl trivial fun a18 h19 => ?_
  clear h17
  refine nd_done ?_
  refine hK4 _ _ ?_
  clear hK4
  refine wp_seq_k fun K20 hK20 => ?_
  refine nd_start (l := [0, 1, 2, 3, 4, 5, 6, 7, 8]) rfl ?_
  refine nd_batch tabOk tabZ_ok [(0, {}), (1, {}), (2, {}), (3, {}), (4, {k := 1, m := 1, vs := [.pointer (some ⟨bo, 0, none⟩)]})] [0, 1, 13, 17] (T' := [(0, .pointer none), (1, .pointer (some ⟨b11, 0, none⟩)), (13, .pointer (some ⟨b11, 0, none⟩)), (17, .pointer (some ⟨bo, 0, none⟩))]) (φ := (b11 = b11 ∧ cellsAre (kCv (.pointer none) bo (zK (-1))) 0 [.pointer (some ⟨bo, 0, none⟩)]) ∧ True) (rest := [5, 6, 7, 8]) h19 (by kernel_rfl) rfl ⟨⟨rfl, ⟨rfl, trivial⟩⟩, trivial⟩ fun a21 h22 => ?_
  clear h19
  refine nd_op ?_
  refine op_call h22 rfl rfl rfl (callOk Tryd.func36 (by decide) rfl) (args := [.pointer (some ⟨bo, 0, none⟩)]) rfl (newSpace_ok bo _) ?_
  rintro _ w23 ⟨bc, rfl, hbc, hbcn, hf24⟩
  refine ⟨_, rfl, ?_⟩
  have hcw : w.heap.size ≤ bc := Nat.le_trans h22.frame.size hbcn
  have h25 := (h22.grow hf24).put (d := some 18) (v := .pointer (some ⟨bc, 0, none⟩)) (T' := [(18, .pointer (some ⟨bc, 0, none⟩)), (0, .pointer none), (1, .pointer (some ⟨b11, 0, none⟩)), (13, .pointer (some ⟨b11, 0, none⟩)), (17, .pointer (some ⟨bo, 0, none⟩))]) rfl
  have h26 := st_add h25 hbc hcw (fun kb hk => by have := lt_of_heap (h22.known kb hk); omega) (fun hq => by cases hq)
  clear h22 h25
  refine nd_batch tabOk tabZ_ok [(6, {}), (7, {})] [18, 0, 1, 20] (T' := [(18, .pointer (some ⟨bc, 0, none⟩)), (0, .pointer none), (1, .pointer (some ⟨b11, 0, none⟩)), (20, .pointer (some ⟨b11, 1, none⟩))]) (φ := True) (rest := [8]) h26 (by kernel_rfl) rfl trivial fun a27 h28 => ?_
  clear h26
  refine nd_op ?_
  refine op_store tabOk {k := 1, m := 1, vs := kC bo bc (zK (-1))} (L' := [(bo, ⟨stC bootE, 131, false⟩), (b11, ⟨kC bo bc (zK (-1)), 90, false⟩), (bc, ⟨spC bo (fun _ => 0) (fun _ => false), 142, false⟩)]) (φ := b11 = b11 ∧ Nat.ble (1 + 1) (kCv (.pointer none) bo (zK (-1))).length = true ∧ splice (kCv (.pointer none) bo (zK (-1))) 1 [.pointer (some ⟨bc, 0, none⟩)] = kC bo bc (zK (-1))) h28 rfl rfl rfl (by kernel_rfl) ⟨rfl, (by rw [show (kCv (.pointer none) bo (zK (-1))).length = (kC bo bo (zK (-1))).length from rfl, k_len]; rfl), (kcaps bo bc (zK (-1)) _)⟩ fun w29 h30 => ?_
  clear h28
  refine nd_done ?_
  refine hK20 _ _ ?_
  clear hK20
  refine wp_seq_k fun K31 hK31 => ?_
  refine wp_seq_k fun K32 hK32 => ?_
  have hcp0 : CapAt _ bo bc (fun _ => 0) bootC0 := ⟨h30.kn (k := 0) rfl, h30.kn (k := 2) rfl, fun _ hq => (by cases hq), nodup_key h30.nodup (i := 0) (j := 2) rfl rfl (by decide), fun _ hq => (by cases hq), fun _ _ hq => (by cases hq)⟩
  have hF0 : ∀ x, x ∈ capF bo bc (fun _ => 0) bootC0 → x = bo ∨ x = bc := fun x hx => (mem_capF.1 hx).elim .inl (fun h => h.elim .inr (fun ⟨_, _, hq, _⟩ => by cases hq))
  have h33 := h30.as (L' := [(b11, ⟨kC bo bc (zK (-1)), 90, false⟩)]) (List.Sublist.cons _ (List.Sublist.cons_cons _ (List.Sublist.cons _ List.Sublist.slnil))) (A' := fun w => CapAt w bo bc (fun _ => 0) bootC0) (F' := capF bo bc (fun _ => 0) bootC0) hcp0 CapAt.stable hcp0.low (kcons (fun _ hq => (hF0 _ hq).elim (nodup_key h30.nodup (i := 1) (j := 0) rfl rfl (by decide)) (nodup_key h30.nodup (i := 1) (j := 2) rfl rfl (by decide))) knil)
  have hnw : ∀ x ∈ capF bo bc (fun _ => 0) bootC0, w.heap.size ≤ x := fun x hx => (hF0 x hx).elim (fun h => by rw [h]; exact hbw) (fun h => by rw [h]; exact hcw)
  clear h30
  refine nd_start (l := [0]) rfl ?_
  refine nd_batch tabOk tabZ_ok [(0, {})] [0, 1, 21] (T' := [(0, .pointer none), (1, .pointer (some ⟨b11, 0, none⟩)), (21, .int .i64 0)]) (φ := True) (rest := []) h33 (by kernel_rfl) rfl trivial fun a34 h35 => ?_
  clear h33
  refine nd_done ?_
  refine hK32 _ _ ?_
  clear hK32
  refine wp_block ?_
  refine wp_loop_ghost (fun g ga gw => ∃ (Sk : KP) (i : Int), ((g : Int) = 256 - i) ∧ (0 ≤ i ∧ i ≤ 256) ∧ (RI Sk) ∧ (Sk = bootK1 i.toNat) ∧ St ⟨131, [], w, fun w => CapAt w bo bc (fun _ => 0) bootC0, capF bo bc (fun _ => 0) bootC0⟩ [(0, .pointer none), (1, .pointer (some ⟨b11, 0, none⟩)), (21, .int .i64 i)] [(b11, ⟨kC bo bc Sk, 90, false⟩)] ga gw) 256 ⟨(zK (-1)), 0, by decide, ⟨by decide, by decide⟩, zK_RI, rfl, (h35.slotsMono (restr_spec (keep := [0, 1, 21]) rfl))⟩ ?_
  clear h35
  rintro g a36 w37 ⟨Sk, i, hi39, hi40, hi41, hi42, h38⟩
  have hig := hi39
  have hi0 := hi40
  have rSk := hi41
  have eSk := hi42
  refine wp_seq_k fun K43 hK43 => ?_
  refine nd_start (l := [0]) rfl ?_
  refine nd_batch tabOk tabZ_ok [(0, {})] [0, 1, 21, 22] (T' := [(0, .pointer none), (1, .pointer (some ⟨b11, 0, none⟩)), (21, .int .i64 i), (22, .bool (decide (i < 256)))]) (φ := True) (rest := []) h38 (by kernel_rfl) rfl trivial fun a44 h45 => ?_
  clear h38
  refine nd_done ?_
  refine hK43 _ _ ?_
  clear hK43
  refine wp_seq_k fun K46 hK46 => ?_
  refine c_split h45 (b := decide (i < 256)) rfl (fun hc47 => ?_) (fun hc47 => ?_)
  ·
    have hc47f : i < 256 := by simpa using hc47
    refine wp_skip ?_
    refine hK46 _ _ ?_
    clear hK46
    refine wp_seq_k fun K48 hK48 => ?_
    refine wp_block ?_
    refine wp_seq_k fun K49 hK49 => ?_
    refine nd_start (l := [0, 1]) rfl ?_
    refine nd_batch tabOk tabZ_ok [(0, {}), (1, {})] [0, 1, 21, 2] (T' := [(0, .pointer none), (1, .pointer (some ⟨b11, 0, none⟩)), (21, .int .i64 i), (2, .int .i64 i)]) (φ := True) (rest := []) h45 (by kernel_rfl) rfl trivial fun a50 h51 => ?_
    clear h45
    refine nd_done ?_
    refine hK49 _ _ ?_
    clear hK49
    refine dr_start (KB := [b11]) (Bi := [[0], [0], [0], [0], [], [], [0], [0], [0], [], [0], [0], [0], []]) mixed h51 fun w52 h53 => ?_
    clear h51
    refine dr_batch tabOk tabZ_ok (by repeat (first | with_reducible exact PF.body | with_reducible apply PF.inB | with_reducible apply PF.next)) [(0, {}), (1, {}), (2, {}), (3, {}), (6, {}), (7, {}), (10, {}), (11, {})] [0, 1, 21, 2, 25, 27, 31, 34] (T' := [(0, .pointer none), (1, .pointer (some ⟨b11, 0, none⟩)), (21, .int .i64 i), (2, .int .i64 i), (25, .int .i64 i), (27, .int .i64 i), (31, .pointer (some ⟨b11, 2, none⟩)), (34, .pointer (some ⟨b11, 5378, none⟩))]) (φ := True) (fuel := 6) h53 (by kernel_rfl) rfl (by kernel_rfl) (by kernel_rfl) ⟨trivial, trivial, trivial, trivial, trivial, trivial, trivial, trivial, trivial⟩ trivial fun a55 h56 => ?_
    clear h53
    refine wpAnyK_two (i := 4) (j := 5) (fuel := 5) (by kernel_rfl) ?_ ?_
    ·
      refine op_now (v := .agg #[.int .u8 0, .int .u8 0, .int .u16 0, .int .u32 0, .int .u16 0, .int .u32 0, .int .u16 0, .int .u32 0, .int .u64 0, .int .u64 0, .int .u64 0, .int .u64 0, .int .u64 0, .int .u8 0, .int .u8 0, .int .u32 0, .int .u32 0, .bool false, .bool false, .int .i16 (-1), .int .i16 (-1)]) h56 rfl rfl (run_cells tabOk h56.slots rfl rfl rfl rfl rfl (cellsK hg1 h56.frame hgs1 (by simp))) ?_
      refine ⟨Keep.refl _ _, ?_⟩
      have h57 := h56.put (d := some 28) (v := .agg #[.int .u8 0, .int .u8 0, .int .u16 0, .int .u32 0, .int .u16 0, .int .u32 0, .int .u16 0, .int .u32 0, .int .u64 0, .int .u64 0, .int .u64 0, .int .u64 0, .int .u64 0, .int .u8 0, .int .u8 0, .int .u32 0, .int .u32 0, .bool false, .bool false, .int .i16 (-1), .int .i16 (-1)]) (T' := [(28, .agg #[.int .u8 0, .int .u8 0, .int .u16 0, .int .u32 0, .int .u16 0, .int .u32 0, .int .u16 0, .int .u32 0, .int .u64 0, .int .u64 0, .int .u64 0, .int .u64 0, .int .u64 0, .int .u8 0, .int .u8 0, .int .u32 0, .int .u32 0, .bool false, .bool false, .int .i16 (-1), .int .i16 (-1)]), (0, .pointer none), (1, .pointer (some ⟨b11, 0, none⟩)), (21, .int .i64 i), (2, .int .i64 i), (25, .int .i64 i), (27, .int .i64 i), (31, .pointer (some ⟨b11, 2, none⟩)), (34, .pointer (some ⟨b11, 5378, none⟩))]) rfl
      clear h56
      refine wpAnyK_one (i := 5) (fuel := 4) (by kernel_rfl) ?_
      refine op_now (v := .agg #[.int .i16 (-1), .int .i16 (-1), .int .u32 0]) h57 rfl rfl (run_cells tabOk h57.slots rfl rfl rfl rfl rfl (cellsK hg2 h57.frame hgs2 (by simp))) ?_
      refine ⟨Keep.refl _ _, ?_⟩
      have h58 := h57.put (d := some 29) (v := .agg #[.int .i16 (-1), .int .i16 (-1), .int .u32 0]) (T' := [(29, .agg #[.int .i16 (-1), .int .i16 (-1), .int .u32 0]), (28, .agg #[.int .u8 0, .int .u8 0, .int .u16 0, .int .u32 0, .int .u16 0, .int .u32 0, .int .u16 0, .int .u32 0, .int .u64 0, .int .u64 0, .int .u64 0, .int .u64 0, .int .u64 0, .int .u8 0, .int .u8 0, .int .u32 0, .int .u32 0, .bool false, .bool false, .int .i16 (-1), .int .i16 (-1)]), (0, .pointer none), (1, .pointer (some ⟨b11, 0, none⟩)), (21, .int .i64 i), (2, .int .i64 i), (25, .int .i64 i), (27, .int .i64 i), (31, .pointer (some ⟨b11, 2, none⟩)), (34, .pointer (some ⟨b11, 5378, none⟩))]) rfl
      clear h57
      refine dr_batch tabOk tabZ_ok (by repeat (first | with_reducible exact PF.body | with_reducible apply PF.inB | with_reducible apply PF.next)) [(8, {})] [29, 28, 0, 1, 21, 2, 27, 34, 32] (T' := [(29, .agg #[.int .i16 (-1), .int .i16 (-1), .int .u32 0]), (28, .agg #[.int .u8 0, .int .u8 0, .int .u16 0, .int .u32 0, .int .u16 0, .int .u32 0, .int .u16 0, .int .u32 0, .int .u64 0, .int .u64 0, .int .u64 0, .int .u64 0, .int .u64 0, .int .u8 0, .int .u8 0, .int .u32 0, .int .u32 0, .bool false, .bool false, .int .i16 (-1), .int .i16 (-1)]), (0, .pointer none), (1, .pointer (some ⟨b11, 0, none⟩)), (21, .int .i64 i), (2, .int .i64 i), (27, .int .i64 i), (34, .pointer (some ⟨b11, 5378, none⟩)), (32, .pointer (some ⟨b11, 2 + (i.toNat * 21), none⟩))]) (φ := (0 ≤ i ∧ i < 256) ∧ True) (fuel := 3) h58 (by kernel_rfl) rfl (by kernel_rfl) (by kernel_rfl) ⟨trivial, trivial⟩ ⟨⟨by omega, by omega⟩, trivial⟩ fun a59 h60 => ?_
      clear h58
      refine wpAnyK_one (i := 9) (fuel := 2) (by kernel_rfl) ?_
      refine op_store tabOk {k := 0, m := 1, vs := kC bo bc (Sk.setT i.toNat noT)} (L' := [(b11, ⟨kC bo bc (Sk.setT i.toNat noT), 90, false⟩)]) (φ := b11 = b11 ∧ Nat.ble (2 + (i.toNat * 21) + 21) (kC bo bc Sk).length = true ∧ splice (kC bo bc Sk) (2 + (i.toNat * 21)) [.int .u8 0, .int .u8 0, .int .u16 0, .int .u32 0, .int .u16 0, .int .u32 0, .int .u16 0, .int .u32 0, .int .u64 0, .int .u64 0, .int .u64 0, .int .u64 0, .int .u64 0, .int .u8 0, .int .u8 0, .int .u32 0, .int .u32 0, .bool false, .bool false, .int .i16 (-1), .int .i16 (-1)] = kC bo bc (Sk.setT i.toNat noT)) h60 rfl rfl rfl (by kernel_rfl) ⟨rfl, k_in (by omega), (k_tcb_w (i := i.toNat) (k := 0) (a' := noT) (by omega) (Nat.le_of_ble_eq_true rfl) (by omega) (splice_noT _))⟩ fun w62 h63 => ?_
      obtain ⟨S61, eS61⟩ : ∃ S9, S9 = (Sk.setT i.toNat noT) := ⟨_, rfl⟩
      rw [← eS61] at h63
      have rS61 : RI S61 := by rw [eS61]; exact rSk.setT noT_ok
      have hkh63 := h60.known
      refine ⟨keepNil, ?_⟩
      clear h60
      refine dr_batch tabOk tabZ_ok (by repeat (first | with_reducible exact PF.body | with_reducible apply PF.inB | with_reducible apply PF.next)) [(12, {})] [29, 0, 1, 21, 2, 35] (T' := [(29, .agg #[.int .i16 (-1), .int .i16 (-1), .int .u32 0]), (0, .pointer none), (1, .pointer (some ⟨b11, 0, none⟩)), (21, .int .i64 i), (2, .int .i64 i), (35, .pointer (some ⟨b11, 5378 + (i.toNat * 3), none⟩))]) (φ := (0 ≤ i ∧ i < 256) ∧ True) (fuel := 1) h63 (by kernel_rfl) rfl (by kernel_rfl) (by kernel_rfl) ⟨trivial, trivial⟩ ⟨⟨by omega, by omega⟩, trivial⟩ fun a64 h65 => ?_
      clear h63
      refine wpAnyK_one (i := 13) (fuel := 0) (by kernel_rfl) ?_
      refine op_store tabOk {k := 0, m := 1, vs := kC bo bc (S61.setQ (QL.w i.toNat) (⟨-1, -1, 0⟩ : Qu))} (L' := [(b11, ⟨kC bo bc (S61.setQ (QL.w i.toNat) (⟨-1, -1, 0⟩ : Qu)), 90, false⟩)]) (φ := b11 = b11 ∧ Nat.ble (5378 + (i.toNat * 3) + 3) (kC bo bc S61).length = true ∧ splice (kC bo bc S61) (5378 + (i.toNat * 3)) [.int .i16 (-1), .int .i16 (-1), .int .u32 0] = kC bo bc (S61.setQ (QL.w i.toNat) (⟨-1, -1, 0⟩ : Qu))) h65 rfl rfl rfl (by kernel_rfl) ⟨rfl, k_in (by omega), (k_wq_w (i := i.toNat) (k := 0) (by omega) (Nat.le_of_ble_eq_true rfl) (by omega) rfl)⟩ fun w67 h68 => ?_
      obtain ⟨S66, eS66⟩ : ∃ S9, S9 = (S61.setQ (QL.w i.toNat) (⟨-1, -1, 0⟩ : Qu)) := ⟨_, rfl⟩
      rw [← eS66] at h68
      have rS66 : RI S66 := by rw [eS66]; exact rS61.setQ ⟨(by first | exact .inl rfl | exact .inr (by decide)), (by first | exact .inl rfl | exact .inr (by decide))⟩
      have hkh68 := h65.known
      refine ⟨keepNil, ?_⟩
      clear h65
      refine wpAnyK_done (by kernel_rfl) ?_ _
      refine hK48 _ _ ?_
      clear hK48
      refine nd_start (l := [0, 1]) rfl ?_
      refine nd_batch tabOk tabZ_ok [(0, {}), (1, {})] [0, 1, 2, 21] (T' := [(0, .pointer none), (1, .pointer (some ⟨b11, 0, none⟩)), (2, .int .i64 i), (21, .int .i64 (i + 1))]) (φ := inR .i64 (i + 1) ∧ True) (rest := []) h68 (by kernel_rfl) rfl ⟨⟨by omega, by omega⟩, trivial⟩ fun a69 h70 => ?_
      clear h68
      refine nd_done ?_
      exact ⟨(g - 1), by omega, S66, (i + 1), by omega, ⟨by omega, by omega⟩, rS66, (by rw [show (i + 1).toNat = i.toNat + 1 by omega, ← bootK1_step, ← eSk, eS66, eS61]; rfl), (h70.slotsMono (restr_spec (keep := [0, 1, 21]) rfl))⟩
    ·
      refine op_now (v := .agg #[.int .i16 (-1), .int .i16 (-1), .int .u32 0]) h56 rfl rfl (run_cells tabOk h56.slots rfl rfl rfl rfl rfl (cellsK hg2 h56.frame hgs2 (by simp))) ?_
      refine ⟨Keep.refl _ _, ?_⟩
      have h71 := h56.put (d := some 29) (v := .agg #[.int .i16 (-1), .int .i16 (-1), .int .u32 0]) (T' := [(29, .agg #[.int .i16 (-1), .int .i16 (-1), .int .u32 0]), (0, .pointer none), (1, .pointer (some ⟨b11, 0, none⟩)), (21, .int .i64 i), (2, .int .i64 i), (25, .int .i64 i), (27, .int .i64 i), (31, .pointer (some ⟨b11, 2, none⟩)), (34, .pointer (some ⟨b11, 5378, none⟩))]) rfl
      clear h56
      refine wpAnyK_one (i := 4) (fuel := 4) (by kernel_rfl) ?_
      refine op_now (v := .agg #[.int .u8 0, .int .u8 0, .int .u16 0, .int .u32 0, .int .u16 0, .int .u32 0, .int .u16 0, .int .u32 0, .int .u64 0, .int .u64 0, .int .u64 0, .int .u64 0, .int .u64 0, .int .u8 0, .int .u8 0, .int .u32 0, .int .u32 0, .bool false, .bool false, .int .i16 (-1), .int .i16 (-1)]) h71 rfl rfl (run_cells tabOk h71.slots rfl rfl rfl rfl rfl (cellsK hg1 h71.frame hgs1 (by simp))) ?_
      refine ⟨Keep.refl _ _, ?_⟩
      have h72 := h71.put (d := some 28) (v := .agg #[.int .u8 0, .int .u8 0, .int .u16 0, .int .u32 0, .int .u16 0, .int .u32 0, .int .u16 0, .int .u32 0, .int .u64 0, .int .u64 0, .int .u64 0, .int .u64 0, .int .u64 0, .int .u8 0, .int .u8 0, .int .u32 0, .int .u32 0, .bool false, .bool false, .int .i16 (-1), .int .i16 (-1)]) (T' := [(28, .agg #[.int .u8 0, .int .u8 0, .int .u16 0, .int .u32 0, .int .u16 0, .int .u32 0, .int .u16 0, .int .u32 0, .int .u64 0, .int .u64 0, .int .u64 0, .int .u64 0, .int .u64 0, .int .u8 0, .int .u8 0, .int .u32 0, .int .u32 0, .bool false, .bool false, .int .i16 (-1), .int .i16 (-1)]), (29, .agg #[.int .i16 (-1), .int .i16 (-1), .int .u32 0]), (0, .pointer none), (1, .pointer (some ⟨b11, 0, none⟩)), (21, .int .i64 i), (2, .int .i64 i), (25, .int .i64 i), (27, .int .i64 i), (31, .pointer (some ⟨b11, 2, none⟩)), (34, .pointer (some ⟨b11, 5378, none⟩))]) rfl
      clear h71
      refine dr_batch tabOk tabZ_ok (by repeat (first | with_reducible exact PF.body | with_reducible apply PF.inB | with_reducible apply PF.next)) [(8, {})] [28, 29, 0, 1, 21, 2, 27, 34, 32] (T' := [(28, .agg #[.int .u8 0, .int .u8 0, .int .u16 0, .int .u32 0, .int .u16 0, .int .u32 0, .int .u16 0, .int .u32 0, .int .u64 0, .int .u64 0, .int .u64 0, .int .u64 0, .int .u64 0, .int .u8 0, .int .u8 0, .int .u32 0, .int .u32 0, .bool false, .bool false, .int .i16 (-1), .int .i16 (-1)]), (29, .agg #[.int .i16 (-1), .int .i16 (-1), .int .u32 0]), (0, .pointer none), (1, .pointer (some ⟨b11, 0, none⟩)), (21, .int .i64 i), (2, .int .i64 i), (27, .int .i64 i), (34, .pointer (some ⟨b11, 5378, none⟩)), (32, .pointer (some ⟨b11, 2 + (i.toNat * 21), none⟩))]) (φ := (0 ≤ i ∧ i < 256) ∧ True) (fuel := 3) h72 (by kernel_rfl) rfl (by kernel_rfl) (by kernel_rfl) ⟨trivial, trivial⟩ ⟨⟨by omega, by omega⟩, trivial⟩ fun a73 h74 => ?_
      clear h72
      refine wpAnyK_one (i := 9) (fuel := 2) (by kernel_rfl) ?_
      refine op_store tabOk {k := 0, m := 1, vs := kC bo bc (Sk.setT i.toNat noT)} (L' := [(b11, ⟨kC bo bc (Sk.setT i.toNat noT), 90, false⟩)]) (φ := b11 = b11 ∧ Nat.ble (2 + (i.toNat * 21) + 21) (kC bo bc Sk).length = true ∧ splice (kC bo bc Sk) (2 + (i.toNat * 21)) [.int .u8 0, .int .u8 0, .int .u16 0, .int .u32 0, .int .u16 0, .int .u32 0, .int .u16 0, .int .u32 0, .int .u64 0, .int .u64 0, .int .u64 0, .int .u64 0, .int .u64 0, .int .u8 0, .int .u8 0, .int .u32 0, .int .u32 0, .bool false, .bool false, .int .i16 (-1), .int .i16 (-1)] = kC bo bc (Sk.setT i.toNat noT)) h74 rfl rfl rfl (by kernel_rfl) ⟨rfl, k_in (by omega), (k_tcb_w (i := i.toNat) (k := 0) (a' := noT) (by omega) (Nat.le_of_ble_eq_true rfl) (by omega) (splice_noT _))⟩ fun w76 h77 => ?_
      obtain ⟨S75, eS75⟩ : ∃ S9, S9 = (Sk.setT i.toNat noT) := ⟨_, rfl⟩
      rw [← eS75] at h77
      have rS75 : RI S75 := by rw [eS75]; exact rSk.setT noT_ok
      have hkh77 := h74.known
      refine ⟨keepNil, ?_⟩
      clear h74
      refine dr_batch tabOk tabZ_ok (by repeat (first | with_reducible exact PF.body | with_reducible apply PF.inB | with_reducible apply PF.next)) [(12, {})] [29, 0, 1, 21, 2, 35] (T' := [(29, .agg #[.int .i16 (-1), .int .i16 (-1), .int .u32 0]), (0, .pointer none), (1, .pointer (some ⟨b11, 0, none⟩)), (21, .int .i64 i), (2, .int .i64 i), (35, .pointer (some ⟨b11, 5378 + (i.toNat * 3), none⟩))]) (φ := (0 ≤ i ∧ i < 256) ∧ True) (fuel := 1) h77 (by kernel_rfl) rfl (by kernel_rfl) (by kernel_rfl) ⟨trivial, trivial⟩ ⟨⟨by omega, by omega⟩, trivial⟩ fun a78 h79 => ?_
      clear h77
      refine wpAnyK_one (i := 13) (fuel := 0) (by kernel_rfl) ?_
      refine op_store tabOk {k := 0, m := 1, vs := kC bo bc (S75.setQ (QL.w i.toNat) (⟨-1, -1, 0⟩ : Qu))} (L' := [(b11, ⟨kC bo bc (S75.setQ (QL.w i.toNat) (⟨-1, -1, 0⟩ : Qu)), 90, false⟩)]) (φ := b11 = b11 ∧ Nat.ble (5378 + (i.toNat * 3) + 3) (kC bo bc S75).length = true ∧ splice (kC bo bc S75) (5378 + (i.toNat * 3)) [.int .i16 (-1), .int .i16 (-1), .int .u32 0] = kC bo bc (S75.setQ (QL.w i.toNat) (⟨-1, -1, 0⟩ : Qu))) h79 rfl rfl rfl (by kernel_rfl) ⟨rfl, k_in (by omega), (k_wq_w (i := i.toNat) (k := 0) (by omega) (Nat.le_of_ble_eq_true rfl) (by omega) rfl)⟩ fun w81 h82 => ?_
      obtain ⟨S80, eS80⟩ : ∃ S9, S9 = (S75.setQ (QL.w i.toNat) (⟨-1, -1, 0⟩ : Qu)) := ⟨_, rfl⟩
      rw [← eS80] at h82
      have rS80 : RI S80 := by rw [eS80]; exact rS75.setQ ⟨(by first | exact .inl rfl | exact .inr (by decide)), (by first | exact .inl rfl | exact .inr (by decide))⟩
      have hkh82 := h79.known
      refine ⟨keepNil, ?_⟩
      clear h79
      refine wpAnyK_done (by kernel_rfl) ?_ _
      refine hK48 _ _ ?_
      clear hK48
      refine nd_start (l := [0, 1]) rfl ?_
      refine nd_batch tabOk tabZ_ok [(0, {}), (1, {})] [0, 1, 2, 21] (T' := [(0, .pointer none), (1, .pointer (some ⟨b11, 0, none⟩)), (2, .int .i64 i), (21, .int .i64 (i + 1))]) (φ := inR .i64 (i + 1) ∧ True) (rest := []) h82 (by kernel_rfl) rfl ⟨⟨by omega, by omega⟩, trivial⟩ fun a83 h84 => ?_
      clear h82
      refine nd_done ?_
      exact ⟨(g - 1), by omega, S80, (i + 1), by omega, ⟨by omega, by omega⟩, rS80, (by rw [show (i + 1).toNat = i.toNat + 1 by omega, ← bootK1_step, ← eSk, eS80, eS75]; rfl), (h84.slotsMono (restr_spec (keep := [0, 1, 21]) rfl))⟩
  ·
    have hc47f : ¬ i < 256 := by simpa using hc47
    rw [show i.toNat = 256 by omega] at eSk
    refine wp_exit ?_
    refine hK31 _ _ ?_
    clear hK31
    refine wp_seq_k fun K85 hK85 => ?_
    refine wp_seq_k fun K86 hK86 => ?_
    refine nd_start (l := [0]) rfl ?_
    refine nd_batch tabOk tabZ_ok [(0, {})] [0, 1, 21, 37] (T' := [(0, .pointer none), (1, .pointer (some ⟨b11, 0, none⟩)), (21, .int .i64 i), (37, .int .i64 0)]) (φ := True) (rest := []) h45 (by kernel_rfl) rfl trivial fun a87 h88 => ?_
    clear h45
    refine nd_done ?_
    refine hK86 _ _ ?_
    clear hK86
    refine wp_block ?_
    refine wp_loop_ghost (fun g ga gw => ∃ (Sj : KP) (i2 : Int), ((g : Int) = 8 - i2) ∧ (0 ≤ i2 ∧ i2 ≤ 8) ∧ (RI Sj) ∧ (Sj = bootK2 i2.toNat) ∧ St ⟨131, [], w, fun w => CapAt w bo bc (fun _ => 0) bootC0, capF bo bc (fun _ => 0) bootC0⟩ [(0, .pointer none), (1, .pointer (some ⟨b11, 0, none⟩)), (37, .int .i64 i2)] [(b11, ⟨kC bo bc Sj, 90, false⟩)] ga gw) 8 ⟨Sk, 0, by decide, ⟨by decide, by decide⟩, rSk, (by rw [eSk]; rfl), (h88.slotsMono (restr_spec (keep := [0, 1, 37]) rfl))⟩ ?_
    clear h88
    rintro g a89 w90 ⟨Sj, i2, hi92, hi93, hi94, hi95, h91⟩
    have hig2 := hi92
    have hi02 := hi93
    have rSj := hi94
    have eSj := hi95
    refine wp_seq_k fun K96 hK96 => ?_
    refine nd_start (l := [0]) rfl ?_
    refine nd_batch tabOk tabZ_ok [(0, {})] [0, 1, 37, 38] (T' := [(0, .pointer none), (1, .pointer (some ⟨b11, 0, none⟩)), (37, .int .i64 i2), (38, .bool (decide (i2 < 8)))]) (φ := True) (rest := []) h91 (by kernel_rfl) rfl trivial fun a97 h98 => ?_
    clear h91
    refine nd_done ?_
    refine hK96 _ _ ?_
    clear hK96
    refine wp_seq_k fun K99 hK99 => ?_
    refine c_split h98 (b := decide (i2 < 8)) rfl (fun hc100 => ?_) (fun hc100 => ?_)
    ·
      have hc100f : i2 < 8 := by simpa using hc100
      refine wp_skip ?_
      refine hK99 _ _ ?_
      clear hK99
      refine wp_seq_k fun K101 hK101 => ?_
      refine wp_block ?_
      refine wp_seq_k fun K102 hK102 => ?_
      refine nd_start (l := [0, 1]) rfl ?_
      refine nd_batch tabOk tabZ_ok [(0, {}), (1, {})] [0, 1, 37, 3] (T' := [(0, .pointer none), (1, .pointer (some ⟨b11, 0, none⟩)), (37, .int .i64 i2), (3, .int .i64 i2)]) (φ := True) (rest := []) h98 (by kernel_rfl) rfl trivial fun a103 h104 => ?_
      clear h98
      refine nd_done ?_
      refine hK102 _ _ ?_
      clear hK102
      refine dr_start (KB := [b11]) (Bi := [[0], [0], [], [0], [0], [0], []]) mixed h104 fun w105 h106 => ?_
      clear h104
      refine dr_batch tabOk tabZ_ok (by repeat (first | with_reducible exact PF.body | with_reducible apply PF.inB | with_reducible apply PF.next)) [(0, {}), (1, {}), (3, {}), (4, {})] [0, 1, 37, 3, 41, 44] (T' := [(0, .pointer none), (1, .pointer (some ⟨b11, 0, none⟩)), (37, .int .i64 i2), (3, .int .i64 i2), (41, .int .i64 i2), (44, .pointer (some ⟨b11, 6402, none⟩))]) (φ := True) (fuel := 3) h106 (by kernel_rfl) rfl (by kernel_rfl) (by kernel_rfl) ⟨trivial, trivial, trivial, trivial, trivial⟩ trivial fun a108 h109 => ?_
      clear h106
      refine wpAnyK_one (i := 2) (fuel := 2) (by kernel_rfl) ?_
      refine op_now (v := .agg #[.int .i16 (-1), .int .i16 (-1), .int .u32 0]) h109 rfl rfl (run_cells tabOk h109.slots rfl rfl rfl rfl rfl (cellsK hg2 h109.frame hgs2 (by simp))) ?_
      refine ⟨Keep.refl _ _, ?_⟩
      have h110 := h109.put (d := some 42) (v := .agg #[.int .i16 (-1), .int .i16 (-1), .int .u32 0]) (T' := [(42, .agg #[.int .i16 (-1), .int .i16 (-1), .int .u32 0]), (0, .pointer none), (1, .pointer (some ⟨b11, 0, none⟩)), (37, .int .i64 i2), (3, .int .i64 i2), (41, .int .i64 i2), (44, .pointer (some ⟨b11, 6402, none⟩))]) rfl
      clear h109
      refine dr_batch tabOk tabZ_ok (by repeat (first | with_reducible exact PF.body | with_reducible apply PF.inB | with_reducible apply PF.next)) [(5, {})] [42, 0, 1, 37, 3, 45] (T' := [(42, .agg #[.int .i16 (-1), .int .i16 (-1), .int .u32 0]), (0, .pointer none), (1, .pointer (some ⟨b11, 0, none⟩)), (37, .int .i64 i2), (3, .int .i64 i2), (45, .pointer (some ⟨b11, 6402 + (i2.toNat * 3), none⟩))]) (φ := (0 ≤ i2 ∧ i2 < 8) ∧ True) (fuel := 1) h110 (by kernel_rfl) rfl (by kernel_rfl) (by kernel_rfl) ⟨trivial, trivial⟩ ⟨⟨by omega, by omega⟩, trivial⟩ fun a111 h112 => ?_
      clear h110
      refine wpAnyK_one (i := 6) (fuel := 0) (by kernel_rfl) ?_
      refine op_store tabOk {k := 0, m := 1, vs := kC bo bc (Sj.setQ (QL.r i2.toNat) (⟨-1, -1, 0⟩ : Qu))} (L' := [(b11, ⟨kC bo bc (Sj.setQ (QL.r i2.toNat) (⟨-1, -1, 0⟩ : Qu)), 90, false⟩)]) (φ := b11 = b11 ∧ Nat.ble (6402 + (i2.toNat * 3) + 3) (kC bo bc Sj).length = true ∧ splice (kC bo bc Sj) (6402 + (i2.toNat * 3)) [.int .i16 (-1), .int .i16 (-1), .int .u32 0] = kC bo bc (Sj.setQ (QL.r i2.toNat) (⟨-1, -1, 0⟩ : Qu))) h112 rfl rfl rfl (by kernel_rfl) ⟨rfl, k_in (by omega), (k_rdy_w (i := i2.toNat) (k := 0) (by omega) (Nat.le_of_ble_eq_true rfl) (by omega) rfl)⟩ fun w114 h115 => ?_
      obtain ⟨S113, eS113⟩ : ∃ S9, S9 = (Sj.setQ (QL.r i2.toNat) (⟨-1, -1, 0⟩ : Qu)) := ⟨_, rfl⟩
      rw [← eS113] at h115
      have rS113 : RI S113 := by rw [eS113]; exact rSj.setQ ⟨(by first | exact .inl rfl | exact .inr (by decide)), (by first | exact .inl rfl | exact .inr (by decide))⟩
      have hkh115 := h112.known
      refine ⟨keepNil, ?_⟩
      clear h112
      refine wpAnyK_done (by kernel_rfl) ?_ _
      refine hK101 _ _ ?_
      clear hK101
      refine nd_start (l := [0, 1]) rfl ?_
      refine nd_batch tabOk tabZ_ok [(0, {}), (1, {})] [0, 1, 3, 37] (T' := [(0, .pointer none), (1, .pointer (some ⟨b11, 0, none⟩)), (3, .int .i64 i2), (37, .int .i64 (i2 + 1))]) (φ := inR .i64 (i2 + 1) ∧ True) (rest := []) h115 (by kernel_rfl) rfl ⟨⟨by omega, by omega⟩, trivial⟩ fun a116 h117 => ?_
      clear h115
      refine nd_done ?_
      exact ⟨(g - 1), by omega, S113, (i2 + 1), by omega, ⟨by omega, by omega⟩, rS113, (by rw [show (i2 + 1).toNat = i2.toNat + 1 by omega, ← bootK2_step, ← eSj, eS113]; rfl), (h117.slotsMono (restr_spec (keep := [0, 1, 37]) rfl))⟩
    ·
      have hc100f : ¬ i2 < 8 := by simpa using hc100
      rw [show i2.toNat = 8 by omega] at eSj
      refine wp_exit ?_
      refine hK85 _ _ ?_
      clear hK85
      refine wp_seq_k fun K118 hK118 => ?_
      refine nd_start (l := [0, 1, 2, 3, 4, 5, 6, 7, 8, 9, 10]) rfl ?_
      refine nd_batch tabOk tabZ_ok [(0, {}), (1, {}), (2, {}), (3, {k := 0, m := 1, vs := [.pointer (some ⟨bo, 0, none⟩)]})] [0, 1, 37, 51] (T' := [(0, .pointer none), (1, .pointer (some ⟨b11, 0, none⟩)), (37, .int .i64 i2), (51, .pointer (some ⟨bo, 0, none⟩))]) (φ := (b11 = b11 ∧ cellsAre (kC bo bc Sj) 0 [.pointer (some ⟨bo, 0, none⟩)]) ∧ True) (rest := [4, 5, 6, 7, 8, 9, 10]) h98 (by kernel_rfl) rfl ⟨⟨rfl, k_objs⟩, trivial⟩ fun a119 h120 => ?_
      clear h98
      refine nd_op ?_
      refine op_call h120 rfl rfl rfl (callOk Tryd.func37 (by decide) rfl) (args := [.pointer (some ⟨bo, 0, none⟩), .int .u8 2]) rfl (retypeC_ok bo bc (fun _ => 0) bootC0 2 (by decide) _ h120.inv boot_r1) ?_
      rintro _ w121 ⟨rfl, hcr123, hf122⟩
      refine ⟨_, rfl, ?_⟩
      have hs125 : ∀ x ∈ capF bo bc (fun _ => 0) ({ bootC0 with ent := bootE1 } : CP), x ∈ capF bo bc (fun _ => 0) bootC0 := fun x hx => hx
      have hcr123b : CapAt w121 bo bc (fun _ => 0) ({ bootC0 with ent := bootE1 } : CP) := hcr123
      have h124 := (h120.callF hf122 (fun _ hb => hb) (fun b hb => .inr (hnw b hb)) (A' := fun w => CapAt w bo bc (fun _ => 0) ({ bootC0 with ent := bootE1 } : CP)) (F' := capF bo bc (fun _ => 0) ({ bootC0 with ent := bootE1 } : CP)) (kcons (by intro hq; cases hq) knil) hcr123b CapAt.stable hcr123b.low (fun b hb => .inl (hs125 b hb))).put (d := some 52) (v := .tuple #[.agg #[.int .u16 0, .int .u32 1], .int .u8 0]) (T' := [(52, .tuple #[.agg #[.int .u16 0, .int .u32 1], .int .u8 0]), (0, .pointer none), (1, .pointer (some ⟨b11, 0, none⟩)), (37, .int .i64 i2), (51, .pointer (some ⟨bo, 0, none⟩))]) rfl
      have hnw126 : ∀ x ∈ capF bo bc (fun _ => 0) ({ bootC0 with ent := bootE1 } : CP), w.heap.size ≤ x := fun x hx => hnw x (hs125 x hx)
      clear h120
      refine nd_batch tabOk tabZ_ok [(5, {}), (6, {}), (7, {})] [0, 1, 37, 53, 54] (T' := [(0, .pointer none), (1, .pointer (some ⟨b11, 0, none⟩)), (37, .int .i64 i2), (53, .agg #[.int .u16 0, .int .u32 1]), (54, .int .u8 0)]) (φ := True) (rest := [8, 9, 10]) h124 (by kernel_rfl) rfl trivial fun a127 h128 => ?_
      clear h124
      refine nd_op ?_
      refine op_new tabOk (cells := [.int .u16 0, .int .u32 0]) (ty := 39) (ln := none) (L1 := fun b129 => [(b11, ⟨kC bo bc Sj, 90, false⟩), (b129, ⟨[.int .u16 0, .int .u32 0], 39, false⟩)]) h128 rfl rfl rfl rfl (by kernel_rfl) (fun _ => rfl) fun b129 w130 a131 h132 hf133 hn134 => ?_
      clear h128
      refine nd_op ?_
      refine op_store tabOk {k := 1} (L' := [(b11, ⟨kC bo bc Sj, 90, false⟩), (b129, ⟨[.int .u16 0, .int .u32 1], 39, false⟩)]) (φ := b129 = b129 ∧ Nat.ble (0 + 2) 2 = true) h132 rfl rfl rfl (by kernel_rfl) ⟨rfl, rfl⟩ fun w135 h136 => ?_
      clear h132
      refine nd_batch tabOk tabZ_ok [(10, {})] [4, 0, 1, 37] (T' := [(4, .pointer (some ⟨b129, 0, none⟩)), (0, .pointer none), (1, .pointer (some ⟨b11, 0, none⟩)), (37, .int .i64 i2)]) (φ := True) (rest := []) h136 (by kernel_rfl) rfl trivial fun a137 h138 => ?_
      clear h136
      refine nd_done ?_
      refine hK118 _ _ ?_
      clear hK118
      refine wp_seq_k fun K139 hK139 => ?_
      refine nd_start (l := [0, 1, 2, 3, 4, 5, 6, 7, 8, 9, 10]) rfl ?_
      refine nd_batch tabOk tabZ_ok [(0, {}), (1, {}), (2, {}), (3, {k := 0, m := 1, vs := [.pointer (some ⟨bo, 0, none⟩)]})] [4, 0, 1, 37, 59] (T' := [(4, .pointer (some ⟨b129, 0, none⟩)), (0, .pointer none), (1, .pointer (some ⟨b11, 0, none⟩)), (37, .int .i64 i2), (59, .pointer (some ⟨bo, 0, none⟩))]) (φ := (b11 = b11 ∧ cellsAre (kC bo bc Sj) 0 [.pointer (some ⟨bo, 0, none⟩)]) ∧ True) (rest := [4, 5, 6, 7, 8, 9, 10]) h138 (by kernel_rfl) rfl ⟨⟨rfl, k_objs⟩, trivial⟩ fun a140 h141 => ?_
      clear h138
      refine nd_op ?_
      refine op_call h141 rfl rfl rfl (callOk Tryd.func37 (by decide) rfl) (args := [.pointer (some ⟨bo, 0, none⟩), .int .u8 3]) rfl (retypeC_ok bo bc (fun _ => 0) ({ bootC0 with ent := bootE1 } : CP) 3 (by decide) _ h141.inv boot_r2) ?_
      rintro _ w142 ⟨rfl, hcr144, hf143⟩
      refine ⟨_, rfl, ?_⟩
      have hs146 : ∀ x ∈ capF bo bc (fun _ => 0) ({ bootC0 with ent := bootE2 } : CP), x ∈ capF bo bc (fun _ => 0) ({ bootC0 with ent := bootE1 } : CP) := fun x hx => hx
      have hcr144b : CapAt w142 bo bc (fun _ => 0) ({ bootC0 with ent := bootE2 } : CP) := hcr144
      have h145 := (h141.callF hf143 (fun _ hb => hb) (fun b hb => .inr (hnw126 b hb)) (A' := fun w => CapAt w bo bc (fun _ => 0) ({ bootC0 with ent := bootE2 } : CP)) (F' := capF bo bc (fun _ => 0) ({ bootC0 with ent := bootE2 } : CP)) (kcons (by intro hq; cases hq) (kcons (by intro hq; cases hq) knil)) hcr144b CapAt.stable hcr144b.low (fun b hb => .inl (hs146 b hb))).put (d := some 60) (v := .tuple #[.agg #[.int .u16 1, .int .u32 1], .int .u8 0]) (T' := [(60, .tuple #[.agg #[.int .u16 1, .int .u32 1], .int .u8 0]), (4, .pointer (some ⟨b129, 0, none⟩)), (0, .pointer none), (1, .pointer (some ⟨b11, 0, none⟩)), (37, .int .i64 i2), (59, .pointer (some ⟨bo, 0, none⟩))]) rfl
      have hnw147 : ∀ x ∈ capF bo bc (fun _ => 0) ({ bootC0 with ent := bootE2 } : CP), w.heap.size ≤ x := fun x hx => hnw126 x (hs146 x hx)
      clear h141
      refine nd_batch tabOk tabZ_ok [(5, {}), (6, {}), (7, {})] [4, 0, 1, 37, 61, 62] (T' := [(4, .pointer (some ⟨b129, 0, none⟩)), (0, .pointer none), (1, .pointer (some ⟨b11, 0, none⟩)), (37, .int .i64 i2), (61, .agg #[.int .u16 1, .int .u32 1]), (62, .int .u8 0)]) (φ := True) (rest := [8, 9, 10]) h145 (by kernel_rfl) rfl trivial fun a148 h149 => ?_
      clear h145
      refine nd_op ?_
      refine op_new tabOk (cells := [.int .u16 0, .int .u32 0]) (ty := 39) (ln := none) (L1 := fun b150 => [(b11, ⟨kC bo bc Sj, 90, false⟩), (b129, ⟨[.int .u16 0, .int .u32 1], 39, false⟩), (b150, ⟨[.int .u16 0, .int .u32 0], 39, false⟩)]) h149 rfl rfl rfl rfl (by kernel_rfl) (fun _ => rfl) fun b150 w151 a152 h153 hf154 hn155 => ?_
      clear h149
      refine nd_op ?_
      refine op_store tabOk {k := 2} (L' := [(b11, ⟨kC bo bc Sj, 90, false⟩), (b129, ⟨[.int .u16 0, .int .u32 1], 39, false⟩), (b150, ⟨[.int .u16 1, .int .u32 1], 39, false⟩)]) (φ := b150 = b150 ∧ Nat.ble (0 + 2) 2 = true) h153 rfl rfl rfl (by kernel_rfl) ⟨rfl, rfl⟩ fun w156 h157 => ?_
      clear h153
      refine nd_batch tabOk tabZ_ok [(10, {})] [6, 4, 0, 1, 37] (T' := [(6, .pointer (some ⟨b150, 0, none⟩)), (4, .pointer (some ⟨b129, 0, none⟩)), (0, .pointer none), (1, .pointer (some ⟨b11, 0, none⟩)), (37, .int .i64 i2)]) (φ := True) (rest := []) h157 (by kernel_rfl) rfl trivial fun a158 h159 => ?_
      clear h157
      refine nd_done ?_
      refine hK139 _ _ ?_
      clear hK139
      refine wp_seq_k fun K160 hK160 => ?_
      refine dr_start (KB := [b11, b129, b150]) (Bi := [[0, 1, 2], [0, 1, 2], [0, 1, 2], [0, 1, 2], [0, 1, 2], []]) mixed h159 fun w161 h162 => ?_
      clear h159
      refine dr_batch tabOk tabZ_ok (by repeat (first | with_reducible exact PF.body | with_reducible apply PF.inB | with_reducible apply PF.next)) [(0, {}), (1, {}), (2, {}), (3, {k := 0, m := 1, vs := [.pointer (some ⟨bc, 0, none⟩)], p := 0}), (4, {k := 1, p := 1})] [6, 4, 0, 1, 37, 66, 67] (T' := [(6, .pointer (some ⟨b150, 0, none⟩)), (4, .pointer (some ⟨b129, 0, none⟩)), (0, .pointer none), (1, .pointer (some ⟨b11, 0, none⟩)), (37, .int .i64 i2), (66, .pointer (some ⟨bc, 0, none⟩)), (67, .agg #[.int .u16 0, .int .u32 1])]) (φ := (b11 = b11 ∧ cellsAre (kC bo bc Sj) 1 [.pointer (some ⟨bc, 0, none⟩)]) ∧ (b129 = b129 ∧ Nat.ble (0 + 2) 2 = true) ∧ True) (fuel := 1) h162 (by kernel_rfl) rfl (by kernel_rfl) (by kernel_rfl) ⟨trivial, trivial, trivial, rfl, rfl, trivial⟩ ⟨⟨rfl, k_caps⟩, ⟨rfl, rfl⟩, trivial⟩ fun a164 h165 => ?_
      clear h162
      refine wpAnyK_one (i := 5) (fuel := 0) (by kernel_rfl) ?_
      refine op_call h165 rfl rfl rfl (callOk Tryd.func38 (by decide) rfl) (args := [.pointer (some ⟨bc, 0, none⟩), .agg #[.int .u16 0, .int .u32 1]]) rfl (addNode_ok bo bc (fun _ => 0) ({ bootC0 with ent := bootE2 } : CP) ⟨0, 1⟩ (by decide) _ h165.inv) ?_
      rintro _ w166 ⟨rfl, nb, hnb, hcr168, hf167⟩
      refine ⟨_, rfl, ?_⟩
      obtain ⟨nd170, end170⟩ : ∃ x, x = upd (fun _ => 0) 0 nb := ⟨_, rfl⟩
      have hs171 := capF_node (bo := bo) (bc := bc) (nd := (fun _ => 0)) (C := ({ bootC0 with ent := bootE2 } : CP)) (i := 0) hnb
      rw [← end170] at hs171
      have hcr168b : CapAt w166 bo bc nd170 bootC1 := by rw [end170]; exact hcr168
      have h169 := (h165.callF hf167 (fun _ hb => hb) (fun b hb => .inr (hnw147 b hb)) (A' := fun w => CapAt w bo bc nd170 bootC1) (F' := capF bo bc nd170 bootC1) (kcons (by intro hq; cases hq) (kcons (by intro hq; cases hq) (kcons (by intro hq; cases hq) knil))) hcr168b CapAt.stable hcr168b.low hs171).put (d := some 68) (v := .tuple #[]) (T' := [(68, .tuple #[]), (6, .pointer (some ⟨b150, 0, none⟩)), (4, .pointer (some ⟨b129, 0, none⟩)), (0, .pointer none), (1, .pointer (some ⟨b11, 0, none⟩)), (37, .int .i64 i2), (66, .pointer (some ⟨bc, 0, none⟩)), (67, .agg #[.int .u16 0, .int .u32 1])]) rfl
      have hnw172 : ∀ x ∈ capF bo bc nd170 bootC1, w.heap.size ≤ x := fun x hx => (hs171 x hx).elim (hnw147 x) (fun h => Nat.le_trans h165.frame.size h)
      have hkh169 := h165.known
      refine ⟨keepNil, ?_⟩
      clear h165
      refine wpAnyK_done (by kernel_rfl) ?_ _
      refine hK160 _ _ ?_
      clear hK160
      refine wp_seq_k fun K173 hK173 => ?_
      refine dr_start (KB := [b11, b129, b150]) (Bi := [[0, 1, 2], [0, 1, 2], [0, 1, 2], [0, 1, 2], [0, 1, 2], [], [0, 1, 2], [0, 1, 2], [0, 1, 2], [0, 1, 2], [0, 1, 2]]) mixed h169 fun w174 h175 => ?_
      clear h169
      refine dr_batch tabOk tabZ_ok (by repeat (first | with_reducible exact PF.body | with_reducible apply PF.inB | with_reducible apply PF.next)) [(0, {}), (1, {}), (2, {}), (3, {k := 0, m := 1, vs := [.pointer (some ⟨bc, 0, none⟩)], p := 0}), (4, {k := 1, p := 1})] [6, 4, 0, 1, 37, 73, 74] (T' := [(6, .pointer (some ⟨b150, 0, none⟩)), (4, .pointer (some ⟨b129, 0, none⟩)), (0, .pointer none), (1, .pointer (some ⟨b11, 0, none⟩)), (37, .int .i64 i2), (73, .pointer (some ⟨bc, 0, none⟩)), (74, .agg #[.int .u16 0, .int .u32 1])]) (φ := (b11 = b11 ∧ cellsAre (kC bo bc Sj) 1 [.pointer (some ⟨bc, 0, none⟩)]) ∧ (b129 = b129 ∧ Nat.ble (0 + 2) 2 = true) ∧ True) (fuel := 6) h175 (by kernel_rfl) rfl (by kernel_rfl) (by kernel_rfl) ⟨trivial, trivial, trivial, rfl, rfl, trivial⟩ ⟨⟨rfl, k_caps⟩, ⟨rfl, rfl⟩, trivial⟩ fun a177 h178 => ?_
      clear h175
      refine wpAnyK_one (i := 5) (fuel := 5) (by kernel_rfl) ?_
      refine op_call h178 rfl rfl rfl (callOk Tryd.func39 (by decide) rfl) (args := [.pointer (some ⟨bc, 0, none⟩), .agg #[.int .u16 0, .int .u32 1], .int .u32 0]) rfl (lookupE (E := bootE2) bo bc nd170 bootC1.pres ⟨0, 1⟩ 0 (by decide) (by decide) _ h178.inv.sp h178.inv.st h178.inv.ap.symm boot_l) ?_
      rintro _ w179 ⟨rfl, hf181⟩
      refine ⟨_, rfl, ?_⟩
      have h180 := (h178.grow hf181).put (d := some 75) (v := .tuple #[.int .i64 0, .int .u8 0]) (T' := [(75, .tuple #[.int .i64 0, .int .u8 0]), (6, .pointer (some ⟨b150, 0, none⟩)), (4, .pointer (some ⟨b129, 0, none⟩)), (0, .pointer none), (1, .pointer (some ⟨b11, 0, none⟩)), (37, .int .i64 i2), (73, .pointer (some ⟨bc, 0, none⟩)), (74, .agg #[.int .u16 0, .int .u32 1])]) rfl
      refine ⟨keepNil, ?_⟩
      clear h178
      refine dr_batch tabOk tabZ_ok (by repeat (first | with_reducible exact PF.body | with_reducible apply PF.inB | with_reducible apply PF.next)) [(6, {}), (7, {}), (8, {}), (9, {}), (10, {})] [6, 4, 0, 1, 37, 8] (T' := [(6, .pointer (some ⟨b150, 0, none⟩)), (4, .pointer (some ⟨b129, 0, none⟩)), (0, .pointer none), (1, .pointer (some ⟨b11, 0, none⟩)), (37, .int .i64 i2), (8, .int .i64 0)]) (φ := True) (fuel := 0) h180 (by kernel_rfl) rfl (by kernel_rfl) (by kernel_rfl) ⟨trivial, trivial, trivial, trivial, trivial, trivial⟩ trivial fun a182 h183 => ?_
      clear h180
      refine wpAnyK_done (by kernel_rfl) ?_ _
      refine hK173 _ _ ?_
      clear hK173
      refine wp_seq_k fun K184 hK184 => ?_
      refine dr_start (KB := [b11, b129, b150]) (Bi := [[0, 1, 2], [0, 1, 2], [0, 1, 2], [0, 1, 2], [0, 1, 2], [0, 1, 2], [0, 1, 2], [0, 1, 2], [0, 1, 2], [0, 1, 2], [0], [0, 1, 2], []]) mixed h183 fun w185 h186 => ?_
      clear h183
      refine dr_batch tabOk tabZ_ok (by repeat (first | with_reducible exact PF.body | with_reducible apply PF.inB | with_reducible apply PF.next)) [(0, {}), (1, {}), (2, {}), (3, {k := 0, m := 1, vs := [.pointer (some ⟨bc, 0, none⟩)], p := 0}), (4, {}), (5, {}), (6, {}), (7, {}), (8, {}), (9, {k := 0, m := 1, vs := [.pointer (some ⟨bo, 0, none⟩)], p := 0})] [6, 4, 0, 1, 37, 8, 81, 83, 87] (T' := [(6, .pointer (some ⟨b150, 0, none⟩)), (4, .pointer (some ⟨b129, 0, none⟩)), (0, .pointer none), (1, .pointer (some ⟨b11, 0, none⟩)), (37, .int .i64 i2), (8, .int .i64 0), (81, .pointer (some ⟨bc, 0, none⟩)), (83, .int .i64 2), (87, .pointer (some ⟨bo, 0, none⟩))]) (φ := (b11 = b11 ∧ cellsAre (kC bo bc Sj) 1 [.pointer (some ⟨bc, 0, none⟩)]) ∧ inR .i64 2 ∧ (b11 = b11 ∧ cellsAre (kC bo bc Sj) 0 [.pointer (some ⟨bo, 0, none⟩)]) ∧ True) (fuel := 3) h186 (by kernel_rfl) rfl (by kernel_rfl) (by kernel_rfl) ⟨trivial, trivial, trivial, rfl, trivial, trivial, trivial, trivial, trivial, rfl, trivial⟩ ⟨⟨rfl, k_caps⟩, ⟨by decide, by decide⟩, ⟨rfl, k_objs⟩, trivial⟩ fun a188 h189 => ?_
      clear h186
      refine wpAnyK_one (i := 10) (fuel := 2) (by kernel_rfl) ?_
      have hrf := refAt_ok bo bootE2 256 (by decide) _ h189.inv.st
      rw [boot_ref] at hrf
      refine op_call h189 rfl rfl rfl (callOk Tryd.func41 (by decide) rfl) (args := [.pointer (some ⟨bo, 0, none⟩), .int .i64 256]) rfl (hrf) ?_
      rintro _ w190 ⟨rfl, hf192⟩
      refine ⟨_, rfl, ?_⟩
      have h191 := (h189.grow hf192).put (d := some 88) (v := .agg #[.int .u16 256, .int .u32 1]) (T' := [(88, .agg #[.int .u16 256, .int .u32 1]), (6, .pointer (some ⟨b150, 0, none⟩)), (4, .pointer (some ⟨b129, 0, none⟩)), (0, .pointer none), (1, .pointer (some ⟨b11, 0, none⟩)), (37, .int .i64 i2), (8, .int .i64 0), (81, .pointer (some ⟨bc, 0, none⟩)), (83, .int .i64 2), (87, .pointer (some ⟨bo, 0, none⟩))]) rfl
      refine ⟨(h189.keepFr hf192 (kcons (by simp) knil)), ?_⟩
      clear h189
      refine dr_batch tabOk tabZ_ok (by repeat (first | with_reducible exact PF.body | with_reducible apply PF.inB | with_reducible apply PF.next)) [(11, {})] [6, 4, 0, 1, 37, 8, 81, 83, 89] (T' := [(6, .pointer (some ⟨b150, 0, none⟩)), (4, .pointer (some ⟨b129, 0, none⟩)), (0, .pointer none), (1, .pointer (some ⟨b11, 0, none⟩)), (37, .int .i64 i2), (8, .int .i64 0), (81, .pointer (some ⟨bc, 0, none⟩)), (83, .int .i64 2), (89, .agg #[.int .u8 1, .int .u16 256, .int .u32 1, .int .u8 7, .int .u64 0])]) (φ := True) (fuel := 1) h191 (by kernel_rfl) rfl (by kernel_rfl) (by kernel_rfl) ⟨trivial, trivial⟩ trivial fun a193 h194 => ?_
      clear h191
      refine wpAnyK_one (i := 12) (fuel := 0) (by kernel_rfl) ?_
      refine op_call h194 rfl rfl rfl (callOk Tryd.func40 (by decide) rfl) (args := [.pointer (some ⟨bc, 0, none⟩), .int .i64 2, .agg #[.int .u8 1, .int .u16 256, .int .u32 1, .int .u8 7, .int .u64 0], .int .i64 (-1)]) rfl (insertE bo bc nd170 bootC1 (i := 0) (j := 2) (by decide) (by decide) rfl (s := 2) rfl (⟨1, ⟨256, 1⟩, 7, 0⟩ : Cp) (-1) _ h194.inv) ?_
      rintro _ w195 ⟨rfl, hcr197, hf196⟩
      refine ⟨_, rfl, ?_⟩
      have hs199 : ∀ x ∈ capF bo bc nd170 bootC2, x ∈ capF bo bc nd170 bootC1 := fun x hx => hx
      have hcr197b : CapAt w195 bo bc nd170 bootC2 := hcr197
      have h198 := (h194.callF hf196 (fun _ hb => hb) (fun b hb => .inr (hnw172 b hb)) (A' := fun w => CapAt w bo bc nd170 bootC2) (F' := capF bo bc nd170 bootC2) (kcons (by intro hq; cases hq) (kcons (by intro hq; cases hq) (kcons (by intro hq; cases hq) knil))) hcr197b CapAt.stable hcr197b.low (fun b hb => .inl (hs199 b hb))).put (d := some 90) (v := .tuple #[]) (T' := [(90, .tuple #[]), (6, .pointer (some ⟨b150, 0, none⟩)), (4, .pointer (some ⟨b129, 0, none⟩)), (0, .pointer none), (1, .pointer (some ⟨b11, 0, none⟩)), (37, .int .i64 i2), (8, .int .i64 0), (81, .pointer (some ⟨bc, 0, none⟩)), (83, .int .i64 2), (89, .agg #[.int .u8 1, .int .u16 256, .int .u32 1, .int .u8 7, .int .u64 0])]) rfl
      have hnw200 : ∀ x ∈ capF bo bc nd170 bootC2, w.heap.size ≤ x := fun x hx => hnw172 x (hs199 x hx)
      have hkh198 := h194.known
      refine ⟨keepNil, ?_⟩
      clear h194
      refine wpAnyK_done (by kernel_rfl) ?_ _
      refine hK184 _ _ ?_
      clear hK184
      refine wp_seq_k fun K201 hK201 => ?_
      refine dr_start (KB := [b11, b129, b150]) (Bi := [[0, 1, 2], [0, 1, 2], [0, 1, 2], [0, 1, 2], [0, 1, 2], [0, 1, 2], [0, 1, 2], [0, 1, 2], [0, 1, 2], [0, 1, 2], []]) mixed h198 fun w202 h203 => ?_
      clear h198
      refine dr_batch tabOk tabZ_ok (by repeat (first | with_reducible exact PF.body | with_reducible apply PF.inB | with_reducible apply PF.next)) [(0, {}), (1, {}), (2, {}), (3, {k := 0, m := 1, vs := [.pointer (some ⟨bc, 0, none⟩)], p := 0}), (4, {}), (5, {}), (6, {k := 1, p := 1}), (7, {}), (8, {}), (9, {})] [6, 4, 0, 1, 37, 8, 94, 96, 98, 100] (T' := [(6, .pointer (some ⟨b150, 0, none⟩)), (4, .pointer (some ⟨b129, 0, none⟩)), (0, .pointer none), (1, .pointer (some ⟨b11, 0, none⟩)), (37, .int .i64 i2), (8, .int .i64 0), (94, .pointer (some ⟨bc, 0, none⟩)), (96, .int .i64 0), (98, .agg #[.int .u8 2, .int .u16 0, .int .u32 1, .int .u8 7, .int .u64 0]), (100, .int .i64 2)]) (φ := (b11 = b11 ∧ cellsAre (kC bo bc Sj) 1 [.pointer (some ⟨bc, 0, none⟩)]) ∧ inR .i64 0 ∧ (b129 = b129 ∧ Nat.ble (0 + 2) 2 = true) ∧ inR .i64 2 ∧ True) (fuel := 1) h203 (by kernel_rfl) rfl (by kernel_rfl) (by kernel_rfl) ⟨trivial, trivial, trivial, rfl, trivial, trivial, rfl, trivial, trivial, trivial, trivial⟩ ⟨⟨rfl, k_caps⟩, ⟨by decide, by decide⟩, ⟨rfl, rfl⟩, ⟨by decide, by decide⟩, trivial⟩ fun a205 h206 => ?_
      clear h203
      refine wpAnyK_one (i := 10) (fuel := 0) (by kernel_rfl) ?_
      refine op_call h206 rfl rfl rfl (callOk Tryd.func40 (by decide) rfl) (args := [.pointer (some ⟨bc, 0, none⟩), .int .i64 0, .agg #[.int .u8 2, .int .u16 0, .int .u32 1, .int .u8 7, .int .u64 0], .int .i64 2]) rfl (insertE bo bc nd170 bootC2 (i := 0) (j := 0) (by decide) (by decide) rfl (s := 0) rfl (⟨2, ⟨0, 1⟩, 7, 0⟩ : Cp) 2 _ h206.inv) ?_
      rintro _ w207 ⟨rfl, hcr209, hf208⟩
      refine ⟨_, rfl, ?_⟩
      have hs211 : ∀ x ∈ capF bo bc nd170 bootC3, x ∈ capF bo bc nd170 bootC2 := fun x hx => hx
      have hcr209b : CapAt w207 bo bc nd170 bootC3 := hcr209
      have h210 := (h206.callF hf208 (fun _ hb => hb) (fun b hb => .inr (hnw200 b hb)) (A' := fun w => CapAt w bo bc nd170 bootC3) (F' := capF bo bc nd170 bootC3) (kcons (by intro hq; cases hq) (kcons (by intro hq; cases hq) (kcons (by intro hq; cases hq) knil))) hcr209b CapAt.stable hcr209b.low (fun b hb => .inl (hs211 b hb))).put (d := some 101) (v := .tuple #[]) (T' := [(101, .tuple #[]), (6, .pointer (some ⟨b150, 0, none⟩)), (4, .pointer (some ⟨b129, 0, none⟩)), (0, .pointer none), (1, .pointer (some ⟨b11, 0, none⟩)), (37, .int .i64 i2), (8, .int .i64 0), (94, .pointer (some ⟨bc, 0, none⟩)), (96, .int .i64 0), (98, .agg #[.int .u8 2, .int .u16 0, .int .u32 1, .int .u8 7, .int .u64 0]), (100, .int .i64 2)]) rfl
      have hnw212 : ∀ x ∈ capF bo bc nd170 bootC3, w.heap.size ≤ x := fun x hx => hnw200 x (hs211 x hx)
      have hkh210 := h206.known
      refine ⟨keepNil, ?_⟩
      clear h206
      refine wpAnyK_done (by kernel_rfl) ?_ _
      refine hK201 _ _ ?_
      clear hK201
      refine wp_seq_k fun K213 hK213 => ?_
      refine dr_start (KB := [b11, b129, b150]) (Bi := [[0, 1, 2], [0, 1, 2], [0, 1, 2], [0, 1, 2], [0, 1, 2], [0, 1, 2], [0, 1, 2], [0, 1, 2], [0, 1, 2], [0, 1, 2], []]) mixed h210 fun w214 h215 => ?_
      clear h210
      refine dr_batch tabOk tabZ_ok (by repeat (first | with_reducible exact PF.body | with_reducible apply PF.inB | with_reducible apply PF.next)) [(0, {}), (1, {}), (2, {}), (3, {k := 0, m := 1, vs := [.pointer (some ⟨bc, 0, none⟩)], p := 0}), (4, {}), (5, {}), (6, {k := 2, p := 2}), (7, {}), (8, {}), (9, {})] [6, 4, 0, 1, 37, 8, 105, 107, 109, 111] (T' := [(6, .pointer (some ⟨b150, 0, none⟩)), (4, .pointer (some ⟨b129, 0, none⟩)), (0, .pointer none), (1, .pointer (some ⟨b11, 0, none⟩)), (37, .int .i64 i2), (8, .int .i64 0), (105, .pointer (some ⟨bc, 0, none⟩)), (107, .int .i64 1), (109, .agg #[.int .u8 3, .int .u16 1, .int .u32 1, .int .u8 7, .int .u64 0]), (111, .int .i64 2)]) (φ := (b11 = b11 ∧ cellsAre (kC bo bc Sj) 1 [.pointer (some ⟨bc, 0, none⟩)]) ∧ inR .i64 1 ∧ (b150 = b150 ∧ Nat.ble (0 + 2) 2 = true) ∧ inR .i64 2 ∧ True) (fuel := 1) h215 (by kernel_rfl) rfl (by kernel_rfl) (by kernel_rfl) ⟨trivial, trivial, trivial, rfl, trivial, trivial, rfl, trivial, trivial, trivial, trivial⟩ ⟨⟨rfl, k_caps⟩, ⟨by decide, by decide⟩, ⟨rfl, rfl⟩, ⟨by decide, by decide⟩, trivial⟩ fun a217 h218 => ?_
      clear h215
      refine wpAnyK_one (i := 10) (fuel := 0) (by kernel_rfl) ?_
      refine op_call h218 rfl rfl rfl (callOk Tryd.func40 (by decide) rfl) (args := [.pointer (some ⟨bc, 0, none⟩), .int .i64 1, .agg #[.int .u8 3, .int .u16 1, .int .u32 1, .int .u8 7, .int .u64 0], .int .i64 2]) rfl (insertE bo bc nd170 bootC3 (i := 0) (j := 1) (by decide) (by decide) rfl (s := 1) rfl (⟨3, ⟨1, 1⟩, 7, 0⟩ : Cp) 2 _ h218.inv) ?_
      rintro _ w219 ⟨rfl, hcr221, hf220⟩
      refine ⟨_, rfl, ?_⟩
      have hs223 : ∀ x ∈ capF bo bc nd170 bootC, x ∈ capF bo bc nd170 bootC3 := fun x hx => hx
      have hcr221b : CapAt w219 bo bc nd170 bootC := hcr221
      have h222 := (h218.callF hf220 (fun _ hb => hb) (fun b hb => .inr (hnw212 b hb)) (A' := fun w => CapAt w bo bc nd170 bootC) (F' := capF bo bc nd170 bootC) (kcons (by intro hq; cases hq) (kcons (by intro hq; cases hq) (kcons (by intro hq; cases hq) knil))) hcr221b CapAt.stable hcr221b.low (fun b hb => .inl (hs223 b hb))).put (d := some 112) (v := .tuple #[]) (T' := [(112, .tuple #[]), (6, .pointer (some ⟨b150, 0, none⟩)), (4, .pointer (some ⟨b129, 0, none⟩)), (0, .pointer none), (1, .pointer (some ⟨b11, 0, none⟩)), (37, .int .i64 i2), (8, .int .i64 0), (105, .pointer (some ⟨bc, 0, none⟩)), (107, .int .i64 1), (109, .agg #[.int .u8 3, .int .u16 1, .int .u32 1, .int .u8 7, .int .u64 0]), (111, .int .i64 2)]) rfl
      have hnw224 : ∀ x ∈ capF bo bc nd170 bootC, w.heap.size ≤ x := fun x hx => hnw212 x (hs223 x hx)
      have hkh222 := h218.known
      refine ⟨keepNil, ?_⟩
      clear h218
      refine wpAnyK_done (by kernel_rfl) ?_ _
      refine hK213 _ _ ?_
      clear hK213
      refine wp_seq_k fun K225 hK225 => ?_
      refine nd_start (l := [0, 1, 2, 3, 4, 5, 6]) rfl ?_
      refine nd_batch tabOk tabZ_ok [(0, {}), (1, {}), (2, {k := 2}), (3, {}), (4, {}), (5, {})] [6, 4, 0, 1, 37, 8, 116, 118] (T' := [(6, .pointer (some ⟨b150, 0, none⟩)), (4, .pointer (some ⟨b129, 0, none⟩)), (0, .pointer none), (1, .pointer (some ⟨b11, 0, none⟩)), (37, .int .i64 i2), (8, .int .i64 0), (116, .int .i16 1), (118, .pointer (some ⟨b11, 6427, none⟩))]) (φ := (b150 = b150 ∧ Nat.ble (0 + 1) 2 = true) ∧ inR .i16 1 ∧ True) (rest := [6]) h222 (by kernel_rfl) rfl ⟨⟨rfl, rfl⟩, ⟨by decide, by decide⟩, trivial⟩ fun a226 h227 => ?_
      clear h222
      refine nd_op ?_
      refine op_store tabOk {k := 0, m := 1, vs := kC bo bc ({ Sj with cur := 1 })} (L' := [(b11, ⟨kC bo bc ({ Sj with cur := 1 }), 90, false⟩), (b129, ⟨[.int .u16 0, .int .u32 1], 39, false⟩), (b150, ⟨[.int .u16 1, .int .u32 1], 39, false⟩)]) (φ := b11 = b11 ∧ Nat.ble (6427 + 1) (kC bo bc Sj).length = true ∧ splice (kC bo bc Sj) 6427 [.int .i16 1] = kC bo bc ({ Sj with cur := 1 })) h227 rfl rfl rfl (by kernel_rfl) ⟨rfl, k_in (by omega), (k_cur_w 1)⟩ fun w229 h230 => ?_
      obtain ⟨S228, eS228⟩ : ∃ S9, S9 = { Sj with cur := 1 } := ⟨_, rfl⟩
      rw [← eS228] at h230
      have rS228 : RI S228 := by rw [eS228]; exact rSj.setCur (by first | exact .inl rfl | exact .inr (by decide))
      clear h227
      have hcuS228 : S228.cur = 1 := by rw [eS228]
      refine nd_done ?_
      refine hK225 _ _ ?_
      clear hK225
      refine wp_seq_k fun K231 hK231 => ?_
      refine dr_start (KB := [b11, b129, b150]) (Bi := [[0, 1, 2], [0, 1, 2], [0, 1, 2], [0, 1, 2], [0, 1, 2], [0, 1, 2], [0, 1, 2], [0, 1, 2], [0, 1, 2], [0, 1, 2], [0, 1, 2], []]) mixed h230 fun w232 h233 => ?_
      clear h230
      refine dr_batch tabOk tabZ_ok (by repeat (first | with_reducible exact PF.body | with_reducible apply PF.inB | with_reducible apply PF.next)) [(0, {}), (1, {}), (2, {}), (3, {}), (4, {k := 0, m := 1, vs := [.int .i16 S228.cur], p := 0}), (5, {k := 1, p := 1}), (6, {}), (7, {}), (8, {}), (9, {}), (10, {})] [6, 4, 0, 1, 37, 8, 125, 129] (T' := [(6, .pointer (some ⟨b150, 0, none⟩)), (4, .pointer (some ⟨b129, 0, none⟩)), (0, .pointer none), (1, .pointer (some ⟨b11, 0, none⟩)), (37, .int .i64 i2), (8, .int .i64 0), (125, .agg #[.int .u8 2, .int .u8 4, .int .u16 0, .int .u32 0, .int .u16 0, .int .u32 1, .int .u16 0, .int .u32 0, .int .u64 0, .int .u64 0, .int .u64 0, .int .u64 0, .int .u64 0, .int .u8 0, .int .u8 0, .int .u32 0, .int .u32 0, .bool false, .bool false]), (129, .pointer (some ⟨b11, 2 + (S228.cur.toNat * 21), none⟩))]) (φ := (b11 = b11 ∧ cellsAre (kC bo bc S228) 6427 [.int .i16 S228.cur]) ∧ (b129 = b129 ∧ Nat.ble (0 + 2) 2 = true) ∧ (0 ≤ S228.cur ∧ S228.cur < 256) ∧ True) (fuel := 1) h233 (by kernel_rfl) rfl (by kernel_rfl) (by kernel_rfl) ⟨trivial, trivial, trivial, trivial, rfl, rfl, trivial, trivial, trivial, trivial, trivial, trivial⟩ ⟨⟨rfl, k_cur⟩, ⟨rfl, rfl⟩, ⟨by omega, by omega⟩, trivial⟩ fun a235 h236 => ?_
      clear h233
      refine wpAnyK_one (i := 11) (fuel := 0) (by kernel_rfl) ?_
      refine op_store tabOk {k := 0, m := 1, vs := kC bo bc (S228.setT S228.cur.toNat { S228.tcb S228.cur.toNat with st := 2, prio := 4, wait := ⟨0, 0⟩, cs := ⟨0, 1⟩, rep := ⟨0, 0⟩, badge := 0, m0 := 0, m1 := 0, m2 := 0, m3 := 0, len := 0, got := 0, xfer := 0, dst := 0, grant := false, call := false })} (L' := [(b11, ⟨kC bo bc (S228.setT S228.cur.toNat { S228.tcb S228.cur.toNat with st := 2, prio := 4, wait := ⟨0, 0⟩, cs := ⟨0, 1⟩, rep := ⟨0, 0⟩, badge := 0, m0 := 0, m1 := 0, m2 := 0, m3 := 0, len := 0, got := 0, xfer := 0, dst := 0, grant := false, call := false }), 90, false⟩), (b129, ⟨[.int .u16 0, .int .u32 1], 39, false⟩), (b150, ⟨[.int .u16 1, .int .u32 1], 39, false⟩)]) (φ := b11 = b11 ∧ Nat.ble (2 + (S228.cur.toNat * 21) + 19) (kC bo bc S228).length = true ∧ splice (kC bo bc S228) (2 + (S228.cur.toNat * 21)) [.int .u8 2, .int .u8 4, .int .u16 0, .int .u32 0, .int .u16 0, .int .u32 1, .int .u16 0, .int .u32 0, .int .u64 0, .int .u64 0, .int .u64 0, .int .u64 0, .int .u64 0, .int .u8 0, .int .u8 0, .int .u32 0, .int .u32 0, .bool false, .bool false] = kC bo bc (S228.setT S228.cur.toNat { S228.tcb S228.cur.toNat with st := 2, prio := 4, wait := ⟨0, 0⟩, cs := ⟨0, 1⟩, rep := ⟨0, 0⟩, badge := 0, m0 := 0, m1 := 0, m2 := 0, m3 := 0, len := 0, got := 0, xfer := 0, dst := 0, grant := false, call := false })) h236 rfl rfl rfl (by kernel_rfl) ⟨rfl, k_in (by omega), (k_tcb_w (i := S228.cur.toNat) (k := 0) (by omega) (Nat.le_of_ble_eq_true rfl) (by omega) rfl)⟩ fun w238 h239 => ?_
      obtain ⟨S237, eS237⟩ : ∃ S9, S9 = (S228.setT S228.cur.toNat { S228.tcb S228.cur.toNat with st := 2, prio := 4, wait := ⟨0, 0⟩, cs := ⟨0, 1⟩, rep := ⟨0, 0⟩, badge := 0, m0 := 0, m1 := 0, m2 := 0, m3 := 0, len := 0, got := 0, xfer := 0, dst := 0, grant := false, call := false }) := ⟨_, rfl⟩
      rw [← eS237] at h239
      have rS237 : RI S237 := by rw [eS237]; exact rS228.setT ⟨(rS228.t (i := S228.cur.toNat) (by omega)).nx, (rS228.t (i := S228.cur.toNat) (by omega)).pv, (show (0 : Int) ≤ 4 ∧ (4 : Int) < 8 by decide), (show (0 : Int) ≤ 0 ∧ (0 : Int) < 256 by decide), (show (0 : Int) ≤ 0 ∧ (0 : Int) < 256 by decide), (show (0 : Int) ≤ 0 ∧ (0 : Int) < 256 by decide), (show (0 : Int) ≤ 0 ∧ (0 : Int) < 4294967296 by decide)⟩
      have hkh239 := h236.known
      refine ⟨keepNil, ?_⟩
      clear h236
      refine wpAnyK_done (by kernel_rfl) ?_ _
      refine hK231 _ _ ?_
      clear hK231
      refine wp_seq_k fun K240 hK240 => ?_
      refine nd_start (l := [0, 1]) rfl ?_
      refine nd_batch tabOk tabZ_ok [(0, {}), (1, {})] [6, 4, 1, 37, 8, 0] (T' := [(6, .pointer (some ⟨b150, 0, none⟩)), (4, .pointer (some ⟨b129, 0, none⟩)), (1, .pointer (some ⟨b11, 0, none⟩)), (37, .int .i64 i2), (8, .int .i64 0), (0, .pointer (some ⟨b11, 0, none⟩))]) (φ := True) (rest := []) h239 (by kernel_rfl) rfl trivial fun a241 h242 => ?_
      clear h239
      refine nd_done ?_
      refine hK240 _ _ ?_
      clear hK240
      refine wp_ret ?_
      try simp only [Exit.then, Exit.inBlock]
      try rw [if_pos trivial]
      exact s_ret tabOk tabZ_ok h242 [(.tmp 0, {})] (vs := [.pointer (some ⟨b11, 0, none⟩)]) (φ := True) rfl (by kernel_rfl) trivial ⟨b11, bo, bc, nd170, rfl, (by rw [show bootS = S237 by rw [eS237, hcuS228, eS228, eSj]; rfl]; exact h242.kn (k := 0) rfl), h242.inv, h242.dj (k := 0) rfl rfl, (st_ky h242 (k := 0) rfl rfl).resolve_left (fun hq => by cases hq), hnw224, h242.frame⟩

end Go.Proofs.Qxb6500918aDoor
