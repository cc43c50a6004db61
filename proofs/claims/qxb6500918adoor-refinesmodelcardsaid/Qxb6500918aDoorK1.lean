/-
  The queues. (Made by program: a symbolic walk that prints its steps.)
-/
import Derived.Test.Qxb6500918aDoorTab
namespace Go.Proofs.Qxb6500918aDoor
open Go.Sx Go.Kn
set_option maxRecDepth 100000
set_option maxHeartbeats 4000000
set_option linter.unusedVariables false
set_option linter.unusedSimpArgs false

theorem push_ok (kb bo bc : Nat) (S : KP) (rS : RI S) (L : QL) (hL : L.ok) (t : Int) (ht : 0 ≤ t ∧ t < 256) (w : World) (hb : w.heap[kb]? = some (Blk.obj ⟨kC bo bc S, 90, false⟩)) :
    Calls Tryd.prog 73 #[.pointer (some ⟨kb, 0, none⟩), .pointer (some ⟨kb, L.off, none⟩), .int .i16 t] w fun e w' => e = .returned (.tuple #[]) ∧ w'.heap[kb]? = some (Blk.obj ⟨kC bo bc (pushP S L t), 90, false⟩) ∧ Fr [kb] w w' := by
  refine enter0 (n := 52) (K := [kb]) (T := [(0, .pointer (some ⟨kb, 0, none⟩)), (1, .pointer (some ⟨kb, L.off, none⟩)), (2, .int .i16 t)]) (L := [(kb, ⟨kC bo bc S, 90, false⟩)]) (args := [.pointer (some ⟨kb, 0, none⟩), .pointer (some ⟨kb, L.off, none⟩), .int .i16 t]) Tryd.func73 rfl rfl rfl rfl (kcons hb knil) (by simp) (kcons (by simp) knil) ?_
  intro a h
  refine wp_seq_k fun K1 hK1 => ?_
  refine dr_start (KB := [kb]) (Bi := [[0], [0], [0], [0], [0], [0], [0], [0], [0], [0], [0], [0], [], [0], [0], [0], [0], []]) mixed h fun w2 h3 => ?_
  clear h
  refine dr_batch tabOk tabZ_ok (by repeat (first | with_reducible exact PF.body | with_reducible apply PF.inB | with_reducible apply PF.next)) [(0, {}), (1, {}), (2, {}), (3, {}), (4, {}), (5, {}), (6, {}), (7, {k := 0, m := 1, vs := [.int .i16 ((S.q L).tail)], p := 0}), (8, {}), (9, {}), (10, {}), (11, {}), (13, {}), (14, {})] [0, 1, 2, 9, 13, 17, 19] (T' := [(0, .pointer (some ⟨kb, 0, none⟩)), (1, .pointer (some ⟨kb, L.off, none⟩)), (2, .int .i16 t), (9, .int .i16 t), (13, .int .i16 ((S.q L).tail)), (17, .pointer (some ⟨kb, 2 + (t.toNat * 21) + 20, none⟩)), (19, .pointer (some ⟨kb, 2, none⟩))]) (φ := (kb = kb ∧ cellsAre (kC bo bc S) (L.off + 1) [.int .i16 ((S.q L).tail)]) ∧ (0 ≤ t ∧ t < 256) ∧ True) (fuel := 4) h3 (by kernel_rfl) rfl (by kernel_rfl) (by kernel_rfl) ⟨trivial, trivial, trivial, trivial, trivial, trivial, trivial, rfl, trivial, trivial, trivial, trivial, trivial, trivial, trivial⟩ ⟨⟨rfl, (k_q (L := L) (k := 1) hL (by omega) ⟨rfl, trivial⟩)⟩, ⟨by omega, by omega⟩, trivial⟩ fun a5 h6 => ?_
  clear h3
  refine wpAnyK_one (i := 12) (fuel := 3) (by kernel_rfl) ?_
  refine op_store tabOk {k := 0, m := 1, vs := kC bo bc (S.setT t.toNat { S.tcb t.toNat with prev := (S.q L).tail })} (L' := [(kb, ⟨kC bo bc (S.setT t.toNat { S.tcb t.toNat with prev := (S.q L).tail }), 90, false⟩)]) (φ := kb = kb ∧ Nat.ble (2 + (t.toNat * 21) + 20 + 1) (kC bo bc S).length = true ∧ splice (kC bo bc S) (2 + (t.toNat * 21) + 20) [.int .i16 ((S.q L).tail)] = kC bo bc (S.setT t.toNat { S.tcb t.toNat with prev := (S.q L).tail })) h6 rfl rfl rfl (by kernel_rfl) ⟨rfl, k_in (by omega), (k_tcb_w (i := t.toNat) (k := 20) (by omega) (Nat.le_of_ble_eq_true rfl) (by omega) rfl)⟩ fun w8 h9 => ?_
  obtain ⟨S7, eS7⟩ : ∃ S9, S9 = (S.setT t.toNat { S.tcb t.toNat with prev := (S.q L).tail }) := ⟨_, rfl⟩
  rw [← eS7] at h9
  have rS7 : RI S7 := by rw [eS7]; exact rS.setT ⟨(rS.t (i := t.toNat) (by omega)).nx, (rS.q hL).tl, (rS.t (i := t.toNat) (by omega)).pr, (rS.t (i := t.toNat) (by omega)).wi, (rS.t (i := t.toNat) (by omega)).ci, (rS.t (i := t.toNat) (by omega)).ri, (rS.t (i := t.toNat) (by omega)).ds⟩
  have hkh9 := h6.known
  refine ⟨keepNil, ?_⟩
  clear h6
  refine dr_batch tabOk tabZ_ok (by repeat (first | with_reducible exact PF.body | with_reducible apply PF.inB | with_reducible apply PF.next)) [(15, {}), (16, {})] [0, 1, 2, 21] (T' := [(0, .pointer (some ⟨kb, 0, none⟩)), (1, .pointer (some ⟨kb, L.off, none⟩)), (2, .int .i16 t), (21, .pointer (some ⟨kb, 2 + (t.toNat * 21) + 19, none⟩))]) (φ := (0 ≤ t ∧ t < 256) ∧ True) (fuel := 1) h9 (by kernel_rfl) rfl (by kernel_rfl) (by kernel_rfl) ⟨trivial, trivial, trivial⟩ ⟨⟨by omega, by omega⟩, trivial⟩ fun a10 h11 => ?_
  clear h9
  refine wpAnyK_one (i := 17) (fuel := 0) (by kernel_rfl) ?_
  refine op_store tabOk {k := 0, m := 1, vs := kC bo bc (S7.setT t.toNat { S7.tcb t.toNat with next := -1 })} (L' := [(kb, ⟨kC bo bc (S7.setT t.toNat { S7.tcb t.toNat with next := -1 }), 90, false⟩)]) (φ := kb = kb ∧ Nat.ble (2 + (t.toNat * 21) + 19 + 1) (kC bo bc S7).length = true ∧ splice (kC bo bc S7) (2 + (t.toNat * 21) + 19) [.int .i16 (-1)] = kC bo bc (S7.setT t.toNat { S7.tcb t.toNat with next := -1 })) h11 rfl rfl rfl (by kernel_rfl) ⟨rfl, k_in (by omega), (k_tcb_w (i := t.toNat) (k := 19) (by omega) (Nat.le_of_ble_eq_true rfl) (by omega) rfl)⟩ fun w13 h14 => ?_
  obtain ⟨S12, eS12⟩ : ∃ S9, S9 = (S7.setT t.toNat { S7.tcb t.toNat with next := -1 }) := ⟨_, rfl⟩
  rw [← eS12] at h14
  have rS12 : RI S12 := by rw [eS12]; exact rS7.setT ⟨(.inl rfl), (rS7.t (i := t.toNat) (by omega)).pv, (rS7.t (i := t.toNat) (by omega)).pr, (rS7.t (i := t.toNat) (by omega)).wi, (rS7.t (i := t.toNat) (by omega)).ci, (rS7.t (i := t.toNat) (by omega)).ri, (rS7.t (i := t.toNat) (by omega)).ds⟩
  have hkh14 := h11.known
  refine ⟨keepNil, ?_⟩
  clear h11
  refine wpAnyK_done (by kernel_rfl) ?_ _
  refine hK1 _ _ ?_
  clear hK1
  refine wp_seq_k fun K15 hK15 => ?_
  refine wp_seq_k fun K16 hK16 => ?_
  refine nd_start (l := [0, 1, 2, 3, 4]) rfl ?_
  refine nd_batch tabOk tabZ_ok [(0, {}), (1, {}), (2, {}), (3, {k := 0, m := 1, vs := [.int .i16 ((S12.q L).tail)]}), (4, {})] [0, 1, 2, 26] (T' := [(0, .pointer (some ⟨kb, 0, none⟩)), (1, .pointer (some ⟨kb, L.off, none⟩)), (2, .int .i16 t), (26, .bool ((S12.q L).tail == -1))]) (φ := (kb = kb ∧ cellsAre (kC bo bc S12) (L.off + 1) [.int .i16 ((S12.q L).tail)]) ∧ True) (rest := []) h14 (by kernel_rfl) rfl ⟨⟨rfl, (k_q (L := L) (k := 1) hL (by omega) ⟨rfl, trivial⟩)⟩, trivial⟩ fun a17 h18 => ?_
  clear h14
  refine nd_done ?_
  refine hK16 _ _ ?_
  clear hK16
  refine c_split h18 (b := ((S12.q L).tail == -1)) rfl (fun hc19 => ?_) (fun hc19 => ?_)
  ·
    have hc19f : (S12.q L).tail = -1 := by simpa using hc19
    refine nd_start (l := [0, 1, 2, 3, 4]) rfl ?_
    refine nd_batch tabOk tabZ_ok [(0, {}), (1, {}), (2, {}), (3, {})] [0, 1, 2, 28, 30] (T' := [(0, .pointer (some ⟨kb, 0, none⟩)), (1, .pointer (some ⟨kb, L.off, none⟩)), (2, .int .i16 t), (28, .int .i16 t), (30, .pointer (some ⟨kb, L.off, none⟩))]) (φ := True) (rest := [4]) h18 (by kernel_rfl) rfl trivial fun a20 h21 => ?_
    clear h18
    refine nd_op ?_
    refine op_store tabOk {k := 0, m := 1, vs := kC bo bc (S12.setQ L { S12.q L with head := t })} (L' := [(kb, ⟨kC bo bc (S12.setQ L { S12.q L with head := t }), 90, false⟩)]) (φ := kb = kb ∧ Nat.ble (L.off + 1) (kC bo bc S12).length = true ∧ splice (kC bo bc S12) L.off [.int .i16 t] = kC bo bc (S12.setQ L { S12.q L with head := t })) h21 rfl rfl rfl (by kernel_rfl) ⟨rfl, k_in (q_in2 hL (by omega)), (k_q_w (L := L) (k := 0) hL (Nat.le_of_ble_eq_true rfl) (by omega) rfl)⟩ fun w23 h24 => ?_
    obtain ⟨S22, eS22⟩ : ∃ S9, S9 = (S12.setQ L { S12.q L with head := t }) := ⟨_, rfl⟩
    rw [← eS22] at h24
    have rS22 : RI S22 := by rw [eS22]; exact rS12.setQ ⟨(.inr ht), (rS12.q hL).tl⟩
    clear h21
    refine nd_done ?_
    refine hK15 _ _ ?_
    clear hK15
    refine wp_seq_k fun K25 hK25 => ?_
    refine nd_start (l := [0, 1, 2, 3, 4]) rfl ?_
    refine nd_batch tabOk tabZ_ok [(0, {}), (1, {}), (2, {}), (3, {})] [0, 1, 2, 42, 44] (T' := [(0, .pointer (some ⟨kb, 0, none⟩)), (1, .pointer (some ⟨kb, L.off, none⟩)), (2, .int .i16 t), (42, .int .i16 t), (44, .pointer (some ⟨kb, L.off + 1, none⟩))]) (φ := True) (rest := [4]) h24 (by kernel_rfl) rfl trivial fun a26 h27 => ?_
    clear h24
    refine nd_op ?_
    refine op_store tabOk {k := 0, m := 1, vs := kC bo bc (S22.setQ L { S22.q L with tail := t })} (L' := [(kb, ⟨kC bo bc (S22.setQ L { S22.q L with tail := t }), 90, false⟩)]) (φ := kb = kb ∧ Nat.ble (L.off + 1 + 1) (kC bo bc S22).length = true ∧ splice (kC bo bc S22) (L.off + 1) [.int .i16 t] = kC bo bc (S22.setQ L { S22.q L with tail := t })) h27 rfl rfl rfl (by kernel_rfl) ⟨rfl, k_in (q_in2 hL (by omega)), (k_q_w (L := L) (k := 1) hL (Nat.le_of_ble_eq_true rfl) (by omega) rfl)⟩ fun w29 h30 => ?_
    obtain ⟨S28, eS28⟩ : ∃ S9, S9 = (S22.setQ L { S22.q L with tail := t }) := ⟨_, rfl⟩
    rw [← eS28] at h30
    have rS28 : RI S28 := by rw [eS28]; exact rS22.setQ ⟨(rS22.q hL).hd, (.inr ht)⟩
    clear h27
    refine nd_done ?_
    refine hK25 _ _ ?_
    clear hK25
    refine nd_start (l := [0, 1, 2, 3, 4, 5, 6, 7]) rfl ?_
    refine nd_batch tabOk tabZ_ok [(0, {}), (1, {}), (2, {}), (3, {k := 0, m := 1, vs := [.int .u32 ((S28.q L).n)]}), (4, {m := 1}), (5, {}), (6, {})] [0, 1, 2, 49, 51] (T' := [(0, .pointer (some ⟨kb, 0, none⟩)), (1, .pointer (some ⟨kb, L.off, none⟩)), (2, .int .i16 t), (49, .int .u32 (IntKind.wrap .u32 (((S28.q L).n) + 1))), (51, .pointer (some ⟨kb, L.off + 2, none⟩))]) (φ := (kb = kb ∧ cellsAre (kC bo bc S28) (L.off + 2) [.int .u32 ((S28.q L).n)]) ∧ True) (rest := [7]) h30 (by kernel_rfl) rfl ⟨⟨rfl, (k_q (L := L) (k := 2) hL (by omega) ⟨rfl, trivial⟩)⟩, trivial⟩ fun a31 h32 => ?_
    clear h30
    refine nd_op ?_
    refine op_store tabOk {k := 0, m := 1, vs := kC bo bc (S28.setQ L { S28.q L with n := IntKind.wrap .u32 (((S28.q L).n) + 1) })} (L' := [(kb, ⟨kC bo bc (S28.setQ L { S28.q L with n := IntKind.wrap .u32 (((S28.q L).n) + 1) }), 90, false⟩)]) (φ := kb = kb ∧ Nat.ble (L.off + 2 + 1) (kC bo bc S28).length = true ∧ splice (kC bo bc S28) (L.off + 2) [.int .u32 (IntKind.wrap .u32 (((S28.q L).n) + 1))] = kC bo bc (S28.setQ L { S28.q L with n := IntKind.wrap .u32 (((S28.q L).n) + 1) })) h32 rfl rfl rfl (by kernel_rfl) ⟨rfl, k_in (q_in2 hL (by omega)), (k_q_w (L := L) (k := 2) hL (Nat.le_of_ble_eq_true rfl) (by omega) rfl)⟩ fun w34 h35 => ?_
    obtain ⟨S33, eS33⟩ : ∃ S9, S9 = (S28.setQ L { S28.q L with n := IntKind.wrap .u32 (((S28.q L).n) + 1) }) := ⟨_, rfl⟩
    rw [← eS33] at h35
    have rS33 : RI S33 := by rw [eS33]; exact rS28.setQ ⟨(rS28.q hL).hd, (rS28.q hL).tl⟩
    clear h32
    refine nd_done ?_
    try simp only [Exit.then, Exit.inBlock]
    try rw [if_pos trivial]
    exact s_end tabOk tabZ_ok h35 [] (vs := []) (φ := True) rfl (by kernel_rfl) trivial ⟨rfl, (by rw [show pushP S L t = S33 from (by unfold pushP; simp only; rw [← eS7]; rw [← eS12]; (first | rw [if_pos hc19f] | rw [if_pos (fun hz => hz hc19f)]); rw [← eS22]; rw [← eS28]; rw [← eS33])]; exact h35.kn (k := 0) rfl), h35.frame⟩
  ·
    have hc19f : (S12.q L).tail ≠ -1 := by simpa using hc19
    have htl := lk_nat (rS12.q hL).tl hc19f
    refine dr_start (KB := [kb]) (Bi := [[0], [0], [0], [0], [0], [0], [0], [0], [0], [0], []]) mixed h18 fun w36 h37 => ?_
    clear h18
    refine dr_batch tabOk tabZ_ok (by repeat (first | with_reducible exact PF.body | with_reducible apply PF.inB | with_reducible apply PF.next)) [(0, {}), (1, {}), (2, {}), (3, {}), (4, {k := 0, m := 1, vs := [.int .i16 ((S12.q L).tail)], p := 0}), (5, {}), (6, {}), (7, {}), (8, {}), (9, {})] [0, 1, 2, 36, 40] (T' := [(0, .pointer (some ⟨kb, 0, none⟩)), (1, .pointer (some ⟨kb, L.off, none⟩)), (2, .int .i16 t), (36, .int .i16 t), (40, .pointer (some ⟨kb, 2 + ((((S12.q L).tail).toNat) * 21) + 19, none⟩))]) (φ := (kb = kb ∧ cellsAre (kC bo bc S12) (L.off + 1) [.int .i16 ((S12.q L).tail)]) ∧ (0 ≤ ((S12.q L).tail) ∧ ((S12.q L).tail) < 256) ∧ True) (fuel := 1) h37 (by kernel_rfl) rfl (by kernel_rfl) (by kernel_rfl) ⟨trivial, trivial, trivial, trivial, rfl, trivial, trivial, trivial, trivial, trivial, trivial⟩ ⟨⟨rfl, (k_q (L := L) (k := 1) hL (by omega) ⟨rfl, trivial⟩)⟩, ⟨by omega, by omega⟩, trivial⟩ fun a39 h40 => ?_
    clear h37
    refine wpAnyK_one (i := 10) (fuel := 0) (by kernel_rfl) ?_
    refine op_store tabOk {k := 0, m := 1, vs := kC bo bc (S12.setT (((S12.q L).tail).toNat) { S12.tcb (((S12.q L).tail).toNat) with next := t })} (L' := [(kb, ⟨kC bo bc (S12.setT (((S12.q L).tail).toNat) { S12.tcb (((S12.q L).tail).toNat) with next := t }), 90, false⟩)]) (φ := kb = kb ∧ Nat.ble (2 + ((((S12.q L).tail).toNat) * 21) + 19 + 1) (kC bo bc S12).length = true ∧ splice (kC bo bc S12) (2 + ((((S12.q L).tail).toNat) * 21) + 19) [.int .i16 t] = kC bo bc (S12.setT (((S12.q L).tail).toNat) { S12.tcb (((S12.q L).tail).toNat) with next := t })) h40 rfl rfl rfl (by kernel_rfl) ⟨rfl, k_in (by omega), (k_tcb_w (i := (((S12.q L).tail).toNat)) (k := 19) (by omega) (Nat.le_of_ble_eq_true rfl) (by omega) rfl)⟩ fun w42 h43 => ?_
    obtain ⟨S41, eS41⟩ : ∃ S9, S9 = (S12.setT (((S12.q L).tail).toNat) { S12.tcb (((S12.q L).tail).toNat) with next := t }) := ⟨_, rfl⟩
    rw [← eS41] at h43
    have rS41 : RI S41 := by rw [eS41]; exact rS12.setT ⟨(.inr ht), (rS12.t (i := (((S12.q L).tail).toNat)) (by omega)).pv, (rS12.t (i := (((S12.q L).tail).toNat)) (by omega)).pr, (rS12.t (i := (((S12.q L).tail).toNat)) (by omega)).wi, (rS12.t (i := (((S12.q L).tail).toNat)) (by omega)).ci, (rS12.t (i := (((S12.q L).tail).toNat)) (by omega)).ri, (rS12.t (i := (((S12.q L).tail).toNat)) (by omega)).ds⟩
    have hkh43 := h40.known
    refine ⟨keepNil, ?_⟩
    clear h40
    refine wpAnyK_done (by kernel_rfl) ?_ _
    refine hK15 _ _ ?_
    clear hK15
    refine wp_seq_k fun K44 hK44 => ?_
    refine nd_start (l := [0, 1, 2, 3, 4]) rfl ?_
    refine nd_batch tabOk tabZ_ok [(0, {}), (1, {}), (2, {}), (3, {})] [0, 1, 2, 42, 44] (T' := [(0, .pointer (some ⟨kb, 0, none⟩)), (1, .pointer (some ⟨kb, L.off, none⟩)), (2, .int .i16 t), (42, .int .i16 t), (44, .pointer (some ⟨kb, L.off + 1, none⟩))]) (φ := True) (rest := [4]) h43 (by kernel_rfl) rfl trivial fun a45 h46 => ?_
    clear h43
    refine nd_op ?_
    refine op_store tabOk {k := 0, m := 1, vs := kC bo bc (S41.setQ L { S41.q L with tail := t })} (L' := [(kb, ⟨kC bo bc (S41.setQ L { S41.q L with tail := t }), 90, false⟩)]) (φ := kb = kb ∧ Nat.ble (L.off + 1 + 1) (kC bo bc S41).length = true ∧ splice (kC bo bc S41) (L.off + 1) [.int .i16 t] = kC bo bc (S41.setQ L { S41.q L with tail := t })) h46 rfl rfl rfl (by kernel_rfl) ⟨rfl, k_in (q_in2 hL (by omega)), (k_q_w (L := L) (k := 1) hL (Nat.le_of_ble_eq_true rfl) (by omega) rfl)⟩ fun w48 h49 => ?_
    obtain ⟨S47, eS47⟩ : ∃ S9, S9 = (S41.setQ L { S41.q L with tail := t }) := ⟨_, rfl⟩
    rw [← eS47] at h49
    have rS47 : RI S47 := by rw [eS47]; exact rS41.setQ ⟨(rS41.q hL).hd, (.inr ht)⟩
    clear h46
    refine nd_done ?_
    refine hK44 _ _ ?_
    clear hK44
    refine nd_start (l := [0, 1, 2, 3, 4, 5, 6, 7]) rfl ?_
    refine nd_batch tabOk tabZ_ok [(0, {}), (1, {}), (2, {}), (3, {k := 0, m := 1, vs := [.int .u32 ((S47.q L).n)]}), (4, {m := 1}), (5, {}), (6, {})] [0, 1, 2, 49, 51] (T' := [(0, .pointer (some ⟨kb, 0, none⟩)), (1, .pointer (some ⟨kb, L.off, none⟩)), (2, .int .i16 t), (49, .int .u32 (IntKind.wrap .u32 (((S47.q L).n) + 1))), (51, .pointer (some ⟨kb, L.off + 2, none⟩))]) (φ := (kb = kb ∧ cellsAre (kC bo bc S47) (L.off + 2) [.int .u32 ((S47.q L).n)]) ∧ True) (rest := [7]) h49 (by kernel_rfl) rfl ⟨⟨rfl, (k_q (L := L) (k := 2) hL (by omega) ⟨rfl, trivial⟩)⟩, trivial⟩ fun a50 h51 => ?_
    clear h49
    refine nd_op ?_
    refine op_store tabOk {k := 0, m := 1, vs := kC bo bc (S47.setQ L { S47.q L with n := IntKind.wrap .u32 (((S47.q L).n) + 1) })} (L' := [(kb, ⟨kC bo bc (S47.setQ L { S47.q L with n := IntKind.wrap .u32 (((S47.q L).n) + 1) }), 90, false⟩)]) (φ := kb = kb ∧ Nat.ble (L.off + 2 + 1) (kC bo bc S47).length = true ∧ splice (kC bo bc S47) (L.off + 2) [.int .u32 (IntKind.wrap .u32 (((S47.q L).n) + 1))] = kC bo bc (S47.setQ L { S47.q L with n := IntKind.wrap .u32 (((S47.q L).n) + 1) })) h51 rfl rfl rfl (by kernel_rfl) ⟨rfl, k_in (q_in2 hL (by omega)), (k_q_w (L := L) (k := 2) hL (Nat.le_of_ble_eq_true rfl) (by omega) rfl)⟩ fun w53 h54 => ?_
    obtain ⟨S52, eS52⟩ : ∃ S9, S9 = (S47.setQ L { S47.q L with n := IntKind.wrap .u32 (((S47.q L).n) + 1) }) := ⟨_, rfl⟩
    rw [← eS52] at h54
    have rS52 : RI S52 := by rw [eS52]; exact rS47.setQ ⟨(rS47.q hL).hd, (rS47.q hL).tl⟩
    clear h51
    refine nd_done ?_
    try simp only [Exit.then, Exit.inBlock]
    try rw [if_pos trivial]
    exact s_end tabOk tabZ_ok h54 [] (vs := []) (φ := True) rfl (by kernel_rfl) trivial ⟨rfl, (by rw [show pushP S L t = S52 from (by unfold pushP; simp only; rw [← eS7]; rw [← eS12]; (first | rw [if_neg hc19f] | rw [if_neg (fun hz => hz hc19f)]); rw [← eS41]; rw [← eS47]; rw [← eS52])]; exact h54.kn (k := 0) rfl), h54.frame⟩

theorem unlink_ok (kb bo bc : Nat) (S : KP) (rS : RI S) (L : QL) (hL : L.ok) (t : Int) (ht : 0 ≤ t ∧ t < 256) (w : World) (hb : w.heap[kb]? = some (Blk.obj ⟨kC bo bc S, 90, false⟩)) :
    Calls Tryd.prog 100 #[.pointer (some ⟨kb, 0, none⟩), .pointer (some ⟨kb, L.off, none⟩), .int .i16 t] w fun e w' => e = .returned (.tuple #[]) ∧ w'.heap[kb]? = some (Blk.obj ⟨kC bo bc (unlinkP S L t), 90, false⟩) ∧ Fr [kb] w w' := by
  refine enter0 (n := 55) (K := [kb]) (T := [(0, .pointer (some ⟨kb, 0, none⟩)), (1, .pointer (some ⟨kb, L.off, none⟩)), (2, .int .i16 t)]) (L := [(kb, ⟨kC bo bc S, 90, false⟩)]) (args := [.pointer (some ⟨kb, 0, none⟩), .pointer (some ⟨kb, L.off, none⟩), .int .i16 t]) Tryd.func100 rfl rfl rfl rfl (kcons hb knil) (by simp) (kcons (by simp) knil) ?_
  intro a h
  refine wp_seq_k fun K1 hK1 => ?_
  refine dr_start (KB := [kb]) (Bi := [[0], [0], [0], [0], [0], [0], [0], [0], [0], [0], [0], [0], [0], [0], [0], [0]]) mixed h fun w2 h3 => ?_
  clear h
  refine dr_batch tabOk tabZ_ok (by repeat (first | with_reducible exact PF.body | with_reducible apply PF.inB | with_reducible apply PF.next)) [(0, {}), (1, {}), (2, {}), (3, {}), (4, {}), (5, {}), (6, {k := 0, m := 1, vs := [.int .i16 ((S.tcb t.toNat).prev)], p := 0}), (7, {}), (8, {}), (9, {}), (10, {}), (11, {}), (12, {}), (13, {k := 0, m := 1, vs := [.int .i16 ((S.tcb t.toNat).next)], p := 0}), (14, {}), (15, {})] [0, 1, 2, 6, 7] (T' := [(0, .pointer (some ⟨kb, 0, none⟩)), (1, .pointer (some ⟨kb, L.off, none⟩)), (2, .int .i16 t), (6, .int .i16 ((S.tcb t.toNat).prev)), (7, .int .i16 ((S.tcb t.toNat).next))]) (φ := (0 ≤ t ∧ t < 256) ∧ (kb = kb ∧ cellsAre (kC bo bc S) (2 + (t.toNat * 21) + 20) [.int .i16 ((S.tcb t.toNat).prev)]) ∧ (0 ≤ t ∧ t < 256) ∧ (kb = kb ∧ cellsAre (kC bo bc S) (2 + (t.toNat * 21) + 19) [.int .i16 ((S.tcb t.toNat).next)]) ∧ True) (fuel := 0) h3 (by kernel_rfl) rfl (by kernel_rfl) (by kernel_rfl) ⟨trivial, trivial, trivial, trivial, trivial, trivial, rfl, trivial, trivial, trivial, trivial, trivial, trivial, rfl, trivial, trivial, trivial⟩ ⟨⟨by omega, by omega⟩, ⟨rfl, (k_tcb (i := t.toNat) (k := 20) (by omega) (by omega) ⟨rfl, trivial⟩)⟩, ⟨by omega, by omega⟩, ⟨rfl, (k_tcb (i := t.toNat) (k := 19) (by omega) (by omega) ⟨rfl, trivial⟩)⟩, trivial⟩ fun a5 h6 => ?_
  clear h3
  refine wpAnyK_done (by kernel_rfl) ?_ _
  refine hK1 _ _ ?_
  clear hK1
  refine wp_seq_k fun K7 hK7 => ?_
  refine wp_seq_k fun K8 hK8 => ?_
  refine nd_start (l := [0, 1]) rfl ?_
  refine nd_batch tabOk tabZ_ok [(0, {}), (1, {})] [0, 1, 2, 6, 7, 23] (T' := [(0, .pointer (some ⟨kb, 0, none⟩)), (1, .pointer (some ⟨kb, L.off, none⟩)), (2, .int .i16 t), (6, .int .i16 ((S.tcb t.toNat).prev)), (7, .int .i16 ((S.tcb t.toNat).next)), (23, .bool ((S.tcb t.toNat).prev == -1))]) (φ := True) (rest := []) h6 (by kernel_rfl) rfl trivial fun a9 h10 => ?_
  clear h6
  refine nd_done ?_
  refine hK8 _ _ ?_
  clear hK8
  refine c_split h10 (b := ((S.tcb t.toNat).prev == -1)) rfl (fun hc11 => ?_) (fun hc11 => ?_)
  ·
    have hc11f : (S.tcb t.toNat).prev = -1 := by simpa using hc11
    refine nd_start (l := [0, 1, 2, 3, 4]) rfl ?_
    refine nd_batch tabOk tabZ_ok [(0, {}), (1, {}), (2, {}), (3, {})] [0, 1, 2, 6, 7, 25, 27] (T' := [(0, .pointer (some ⟨kb, 0, none⟩)), (1, .pointer (some ⟨kb, L.off, none⟩)), (2, .int .i16 t), (6, .int .i16 ((S.tcb t.toNat).prev)), (7, .int .i16 ((S.tcb t.toNat).next)), (25, .int .i16 ((S.tcb t.toNat).next)), (27, .pointer (some ⟨kb, L.off, none⟩))]) (φ := True) (rest := [4]) h10 (by kernel_rfl) rfl trivial fun a12 h13 => ?_
    clear h10
    refine nd_op ?_
    refine op_store tabOk {k := 0, m := 1, vs := kC bo bc (S.setQ L { S.q L with head := (S.tcb t.toNat).next })} (L' := [(kb, ⟨kC bo bc (S.setQ L { S.q L with head := (S.tcb t.toNat).next }), 90, false⟩)]) (φ := kb = kb ∧ Nat.ble (L.off + 1) (kC bo bc S).length = true ∧ splice (kC bo bc S) L.off [.int .i16 ((S.tcb t.toNat).next)] = kC bo bc (S.setQ L { S.q L with head := (S.tcb t.toNat).next })) h13 rfl rfl rfl (by kernel_rfl) ⟨rfl, k_in (q_in2 hL (by omega)), (k_q_w (L := L) (k := 0) hL (Nat.le_of_ble_eq_true rfl) (by omega) rfl)⟩ fun w15 h16 => ?_
    obtain ⟨S14, eS14⟩ : ∃ S9, S9 = (S.setQ L { S.q L with head := (S.tcb t.toNat).next }) := ⟨_, rfl⟩
    rw [← eS14] at h16
    have rS14 : RI S14 := by rw [eS14]; exact rS.setQ ⟨(rS.t (i := t.toNat) (by omega)).nx, (rS.q hL).tl⟩
    clear h13
    refine nd_done ?_
    refine hK7 _ _ ?_
    clear hK7
    refine wp_seq_k fun K17 hK17 => ?_
    refine wp_seq_k fun K18 hK18 => ?_
    refine nd_start (l := [0, 1]) rfl ?_
    refine nd_batch tabOk tabZ_ok [(0, {}), (1, {})] [0, 1, 2, 6, 7, 36] (T' := [(0, .pointer (some ⟨kb, 0, none⟩)), (1, .pointer (some ⟨kb, L.off, none⟩)), (2, .int .i16 t), (6, .int .i16 ((S.tcb t.toNat).prev)), (7, .int .i16 ((S.tcb t.toNat).next)), (36, .bool ((S.tcb t.toNat).next == -1))]) (φ := True) (rest := []) h16 (by kernel_rfl) rfl trivial fun a19 h20 => ?_
    clear h16
    refine nd_done ?_
    refine hK18 _ _ ?_
    clear hK18
    refine c_split h20 (b := ((S.tcb t.toNat).next == -1)) rfl (fun hc21 => ?_) (fun hc21 => ?_)
    ·
      have hc21f : (S.tcb t.toNat).next = -1 := by simpa using hc21
      refine nd_start (l := [0, 1, 2, 3, 4]) rfl ?_
      refine nd_batch tabOk tabZ_ok [(0, {}), (1, {}), (2, {}), (3, {})] [0, 1, 2, 6, 7, 38, 40] (T' := [(0, .pointer (some ⟨kb, 0, none⟩)), (1, .pointer (some ⟨kb, L.off, none⟩)), (2, .int .i16 t), (6, .int .i16 ((S.tcb t.toNat).prev)), (7, .int .i16 ((S.tcb t.toNat).next)), (38, .int .i16 ((S.tcb t.toNat).prev)), (40, .pointer (some ⟨kb, L.off + 1, none⟩))]) (φ := True) (rest := [4]) h20 (by kernel_rfl) rfl trivial fun a22 h23 => ?_
      clear h20
      refine nd_op ?_
      refine op_store tabOk {k := 0, m := 1, vs := kC bo bc (S14.setQ L { S14.q L with tail := (S.tcb t.toNat).prev })} (L' := [(kb, ⟨kC bo bc (S14.setQ L { S14.q L with tail := (S.tcb t.toNat).prev }), 90, false⟩)]) (φ := kb = kb ∧ Nat.ble (L.off + 1 + 1) (kC bo bc S14).length = true ∧ splice (kC bo bc S14) (L.off + 1) [.int .i16 ((S.tcb t.toNat).prev)] = kC bo bc (S14.setQ L { S14.q L with tail := (S.tcb t.toNat).prev })) h23 rfl rfl rfl (by kernel_rfl) ⟨rfl, k_in (q_in2 hL (by omega)), (k_q_w (L := L) (k := 1) hL (Nat.le_of_ble_eq_true rfl) (by omega) rfl)⟩ fun w25 h26 => ?_
      obtain ⟨S24, eS24⟩ : ∃ S9, S9 = (S14.setQ L { S14.q L with tail := (S.tcb t.toNat).prev }) := ⟨_, rfl⟩
      rw [← eS24] at h26
      have rS24 : RI S24 := by rw [eS24]; exact rS14.setQ ⟨(rS14.q hL).hd, (rS.t (i := t.toNat) (by omega)).pv⟩
      clear h23
      refine nd_done ?_
      refine hK17 _ _ ?_
      clear hK17
      refine nd_start (l := [0, 1, 2, 3, 4, 5, 6, 7]) rfl ?_
      refine nd_batch tabOk tabZ_ok [(0, {}), (1, {}), (2, {}), (3, {k := 0, m := 1, vs := [.int .u32 ((S24.q L).n)]}), (4, {m := 1}), (5, {}), (6, {})] [0, 1, 2, 6, 7, 52, 54] (T' := [(0, .pointer (some ⟨kb, 0, none⟩)), (1, .pointer (some ⟨kb, L.off, none⟩)), (2, .int .i16 t), (6, .int .i16 ((S.tcb t.toNat).prev)), (7, .int .i16 ((S.tcb t.toNat).next)), (52, .int .u32 (IntKind.wrap .u32 (((S24.q L).n) - 1))), (54, .pointer (some ⟨kb, L.off + 2, none⟩))]) (φ := (kb = kb ∧ cellsAre (kC bo bc S24) (L.off + 2) [.int .u32 ((S24.q L).n)]) ∧ True) (rest := [7]) h26 (by kernel_rfl) rfl ⟨⟨rfl, (k_q (L := L) (k := 2) hL (by omega) ⟨rfl, trivial⟩)⟩, trivial⟩ fun a27 h28 => ?_
      clear h26
      refine nd_op ?_
      refine op_store tabOk {k := 0, m := 1, vs := kC bo bc (S24.setQ L { S24.q L with n := IntKind.wrap .u32 (((S24.q L).n) - 1) })} (L' := [(kb, ⟨kC bo bc (S24.setQ L { S24.q L with n := IntKind.wrap .u32 (((S24.q L).n) - 1) }), 90, false⟩)]) (φ := kb = kb ∧ Nat.ble (L.off + 2 + 1) (kC bo bc S24).length = true ∧ splice (kC bo bc S24) (L.off + 2) [.int .u32 (IntKind.wrap .u32 (((S24.q L).n) - 1))] = kC bo bc (S24.setQ L { S24.q L with n := IntKind.wrap .u32 (((S24.q L).n) - 1) })) h28 rfl rfl rfl (by kernel_rfl) ⟨rfl, k_in (q_in2 hL (by omega)), (k_q_w (L := L) (k := 2) hL (Nat.le_of_ble_eq_true rfl) (by omega) rfl)⟩ fun w30 h31 => ?_
      obtain ⟨S29, eS29⟩ : ∃ S9, S9 = (S24.setQ L { S24.q L with n := IntKind.wrap .u32 (((S24.q L).n) - 1) }) := ⟨_, rfl⟩
      rw [← eS29] at h31
      have rS29 : RI S29 := by rw [eS29]; exact rS24.setQ ⟨(rS24.q hL).hd, (rS24.q hL).tl⟩
      clear h28
      refine nd_done ?_
      try simp only [Exit.then, Exit.inBlock]
      try rw [if_pos trivial]
      exact s_end tabOk tabZ_ok h31 [] (vs := []) (φ := True) rfl (by kernel_rfl) trivial ⟨rfl, (by rw [show unlinkP S L t = S29 from (by unfold unlinkP; simp only; (first | rw [if_pos hc11f] | rw [if_pos (fun hz => hz hc11f)]); rw [← eS14]; (first | rw [if_pos hc21f] | rw [if_pos (fun hz => hz hc21f)]); rw [← eS24]; rw [← eS29])]; exact h31.kn (k := 0) rfl), h31.frame⟩
    ·
      have hc21f : (S.tcb t.toNat).next ≠ -1 := by simpa using hc21
      have hnx := lk_nat (rS.t (i := t.toNat) (by omega)).nx hc21f
      refine nd_start (l := [0, 1, 2, 3, 4, 5, 6, 7]) rfl ?_
      refine nd_batch tabOk tabZ_ok [(0, {}), (1, {}), (2, {}), (3, {}), (4, {}), (5, {}), (6, {})] [0, 1, 2, 6, 7, 43, 47] (T' := [(0, .pointer (some ⟨kb, 0, none⟩)), (1, .pointer (some ⟨kb, L.off, none⟩)), (2, .int .i16 t), (6, .int .i16 ((S.tcb t.toNat).prev)), (7, .int .i16 ((S.tcb t.toNat).next)), (43, .int .i16 ((S.tcb t.toNat).prev)), (47, .pointer (some ⟨kb, 2 + ((((S.tcb t.toNat).next).toNat) * 21) + 20, none⟩))]) (φ := (0 ≤ ((S.tcb t.toNat).next) ∧ ((S.tcb t.toNat).next) < 256) ∧ True) (rest := [7]) h20 (by kernel_rfl) rfl ⟨⟨by omega, by omega⟩, trivial⟩ fun a32 h33 => ?_
      clear h20
      refine nd_op ?_
      refine op_store tabOk {k := 0, m := 1, vs := kC bo bc (S14.setT (((S.tcb t.toNat).next).toNat) { S14.tcb (((S.tcb t.toNat).next).toNat) with prev := (S.tcb t.toNat).prev })} (L' := [(kb, ⟨kC bo bc (S14.setT (((S.tcb t.toNat).next).toNat) { S14.tcb (((S.tcb t.toNat).next).toNat) with prev := (S.tcb t.toNat).prev }), 90, false⟩)]) (φ := kb = kb ∧ Nat.ble (2 + ((((S.tcb t.toNat).next).toNat) * 21) + 20 + 1) (kC bo bc S14).length = true ∧ splice (kC bo bc S14) (2 + ((((S.tcb t.toNat).next).toNat) * 21) + 20) [.int .i16 ((S.tcb t.toNat).prev)] = kC bo bc (S14.setT (((S.tcb t.toNat).next).toNat) { S14.tcb (((S.tcb t.toNat).next).toNat) with prev := (S.tcb t.toNat).prev })) h33 rfl rfl rfl (by kernel_rfl) ⟨rfl, k_in (by omega), (k_tcb_w (i := (((S.tcb t.toNat).next).toNat)) (k := 20) (by omega) (Nat.le_of_ble_eq_true rfl) (by omega) rfl)⟩ fun w35 h36 => ?_
      obtain ⟨S34, eS34⟩ : ∃ S9, S9 = (S14.setT (((S.tcb t.toNat).next).toNat) { S14.tcb (((S.tcb t.toNat).next).toNat) with prev := (S.tcb t.toNat).prev }) := ⟨_, rfl⟩
      rw [← eS34] at h36
      have rS34 : RI S34 := by rw [eS34]; exact rS14.setT ⟨(rS14.t (i := (((S.tcb t.toNat).next).toNat)) (by omega)).nx, (rS.t (i := t.toNat) (by omega)).pv, (rS14.t (i := (((S.tcb t.toNat).next).toNat)) (by omega)).pr, (rS14.t (i := (((S.tcb t.toNat).next).toNat)) (by omega)).wi, (rS14.t (i := (((S.tcb t.toNat).next).toNat)) (by omega)).ci, (rS14.t (i := (((S.tcb t.toNat).next).toNat)) (by omega)).ri, (rS14.t (i := (((S.tcb t.toNat).next).toNat)) (by omega)).ds⟩
      clear h33
      refine nd_done ?_
      refine hK17 _ _ ?_
      clear hK17
      refine nd_start (l := [0, 1, 2, 3, 4, 5, 6, 7]) rfl ?_
      refine nd_batch tabOk tabZ_ok [(0, {}), (1, {}), (2, {}), (3, {k := 0, m := 1, vs := [.int .u32 ((S34.q L).n)]}), (4, {m := 1}), (5, {}), (6, {})] [0, 1, 2, 6, 7, 52, 54] (T' := [(0, .pointer (some ⟨kb, 0, none⟩)), (1, .pointer (some ⟨kb, L.off, none⟩)), (2, .int .i16 t), (6, .int .i16 ((S.tcb t.toNat).prev)), (7, .int .i16 ((S.tcb t.toNat).next)), (52, .int .u32 (IntKind.wrap .u32 (((S34.q L).n) - 1))), (54, .pointer (some ⟨kb, L.off + 2, none⟩))]) (φ := (kb = kb ∧ cellsAre (kC bo bc S34) (L.off + 2) [.int .u32 ((S34.q L).n)]) ∧ True) (rest := [7]) h36 (by kernel_rfl) rfl ⟨⟨rfl, (k_q (L := L) (k := 2) hL (by omega) ⟨rfl, trivial⟩)⟩, trivial⟩ fun a37 h38 => ?_
      clear h36
      refine nd_op ?_
      refine op_store tabOk {k := 0, m := 1, vs := kC bo bc (S34.setQ L { S34.q L with n := IntKind.wrap .u32 (((S34.q L).n) - 1) })} (L' := [(kb, ⟨kC bo bc (S34.setQ L { S34.q L with n := IntKind.wrap .u32 (((S34.q L).n) - 1) }), 90, false⟩)]) (φ := kb = kb ∧ Nat.ble (L.off + 2 + 1) (kC bo bc S34).length = true ∧ splice (kC bo bc S34) (L.off + 2) [.int .u32 (IntKind.wrap .u32 (((S34.q L).n) - 1))] = kC bo bc (S34.setQ L { S34.q L with n := IntKind.wrap .u32 (((S34.q L).n) - 1) })) h38 rfl rfl rfl (by kernel_rfl) ⟨rfl, k_in (q_in2 hL (by omega)), (k_q_w (L := L) (k := 2) hL (Nat.le_of_ble_eq_true rfl) (by omega) rfl)⟩ fun w40 h41 => ?_
      obtain ⟨S39, eS39⟩ : ∃ S9, S9 = (S34.setQ L { S34.q L with n := IntKind.wrap .u32 (((S34.q L).n) - 1) }) := ⟨_, rfl⟩
      rw [← eS39] at h41
      have rS39 : RI S39 := by rw [eS39]; exact rS34.setQ ⟨(rS34.q hL).hd, (rS34.q hL).tl⟩
      clear h38
      refine nd_done ?_
      try simp only [Exit.then, Exit.inBlock]
      try rw [if_pos trivial]
      exact s_end tabOk tabZ_ok h41 [] (vs := []) (φ := True) rfl (by kernel_rfl) trivial ⟨rfl, (by rw [show unlinkP S L t = S39 from (by unfold unlinkP; simp only; (first | rw [if_pos hc11f] | rw [if_pos (fun hz => hz hc11f)]); rw [← eS14]; (first | rw [if_neg hc21f] | rw [if_neg (fun hz => hz hc21f)]); rw [← eS34]; rw [← eS39])]; exact h41.kn (k := 0) rfl), h41.frame⟩
  ·
    have hc11f : (S.tcb t.toNat).prev ≠ -1 := by simpa using hc11
    have hpv := lk_nat (rS.t (i := t.toNat) (by omega)).pv hc11f
    refine nd_start (l := [0, 1, 2, 3, 4, 5, 6, 7]) rfl ?_
    refine nd_batch tabOk tabZ_ok [(0, {}), (1, {}), (2, {}), (3, {}), (4, {}), (5, {}), (6, {})] [0, 1, 2, 6, 7, 30, 34] (T' := [(0, .pointer (some ⟨kb, 0, none⟩)), (1, .pointer (some ⟨kb, L.off, none⟩)), (2, .int .i16 t), (6, .int .i16 ((S.tcb t.toNat).prev)), (7, .int .i16 ((S.tcb t.toNat).next)), (30, .int .i16 ((S.tcb t.toNat).next)), (34, .pointer (some ⟨kb, 2 + ((((S.tcb t.toNat).prev).toNat) * 21) + 19, none⟩))]) (φ := (0 ≤ ((S.tcb t.toNat).prev) ∧ ((S.tcb t.toNat).prev) < 256) ∧ True) (rest := [7]) h10 (by kernel_rfl) rfl ⟨⟨by omega, by omega⟩, trivial⟩ fun a42 h43 => ?_
    clear h10
    refine nd_op ?_
    refine op_store tabOk {k := 0, m := 1, vs := kC bo bc (S.setT (((S.tcb t.toNat).prev).toNat) { S.tcb (((S.tcb t.toNat).prev).toNat) with next := (S.tcb t.toNat).next })} (L' := [(kb, ⟨kC bo bc (S.setT (((S.tcb t.toNat).prev).toNat) { S.tcb (((S.tcb t.toNat).prev).toNat) with next := (S.tcb t.toNat).next }), 90, false⟩)]) (φ := kb = kb ∧ Nat.ble (2 + ((((S.tcb t.toNat).prev).toNat) * 21) + 19 + 1) (kC bo bc S).length = true ∧ splice (kC bo bc S) (2 + ((((S.tcb t.toNat).prev).toNat) * 21) + 19) [.int .i16 ((S.tcb t.toNat).next)] = kC bo bc (S.setT (((S.tcb t.toNat).prev).toNat) { S.tcb (((S.tcb t.toNat).prev).toNat) with next := (S.tcb t.toNat).next })) h43 rfl rfl rfl (by kernel_rfl) ⟨rfl, k_in (by omega), (k_tcb_w (i := (((S.tcb t.toNat).prev).toNat)) (k := 19) (by omega) (Nat.le_of_ble_eq_true rfl) (by omega) rfl)⟩ fun w45 h46 => ?_
    obtain ⟨S44, eS44⟩ : ∃ S9, S9 = (S.setT (((S.tcb t.toNat).prev).toNat) { S.tcb (((S.tcb t.toNat).prev).toNat) with next := (S.tcb t.toNat).next }) := ⟨_, rfl⟩
    rw [← eS44] at h46
    have rS44 : RI S44 := by rw [eS44]; exact rS.setT ⟨(rS.t (i := t.toNat) (by omega)).nx, (rS.t (i := (((S.tcb t.toNat).prev).toNat)) (by omega)).pv, (rS.t (i := (((S.tcb t.toNat).prev).toNat)) (by omega)).pr, (rS.t (i := (((S.tcb t.toNat).prev).toNat)) (by omega)).wi, (rS.t (i := (((S.tcb t.toNat).prev).toNat)) (by omega)).ci, (rS.t (i := (((S.tcb t.toNat).prev).toNat)) (by omega)).ri, (rS.t (i := (((S.tcb t.toNat).prev).toNat)) (by omega)).ds⟩
    clear h43
    refine nd_done ?_
    refine hK7 _ _ ?_
    clear hK7
    refine wp_seq_k fun K47 hK47 => ?_
    refine wp_seq_k fun K48 hK48 => ?_
    refine nd_start (l := [0, 1]) rfl ?_
    refine nd_batch tabOk tabZ_ok [(0, {}), (1, {})] [0, 1, 2, 6, 7, 36] (T' := [(0, .pointer (some ⟨kb, 0, none⟩)), (1, .pointer (some ⟨kb, L.off, none⟩)), (2, .int .i16 t), (6, .int .i16 ((S.tcb t.toNat).prev)), (7, .int .i16 ((S.tcb t.toNat).next)), (36, .bool ((S.tcb t.toNat).next == -1))]) (φ := True) (rest := []) h46 (by kernel_rfl) rfl trivial fun a49 h50 => ?_
    clear h46
    refine nd_done ?_
    refine hK48 _ _ ?_
    clear hK48
    refine c_split h50 (b := ((S.tcb t.toNat).next == -1)) rfl (fun hc51 => ?_) (fun hc51 => ?_)
    ·
      have hc51f : (S.tcb t.toNat).next = -1 := by simpa using hc51
      refine nd_start (l := [0, 1, 2, 3, 4]) rfl ?_
      refine nd_batch tabOk tabZ_ok [(0, {}), (1, {}), (2, {}), (3, {})] [0, 1, 2, 6, 7, 38, 40] (T' := [(0, .pointer (some ⟨kb, 0, none⟩)), (1, .pointer (some ⟨kb, L.off, none⟩)), (2, .int .i16 t), (6, .int .i16 ((S.tcb t.toNat).prev)), (7, .int .i16 ((S.tcb t.toNat).next)), (38, .int .i16 ((S.tcb t.toNat).prev)), (40, .pointer (some ⟨kb, L.off + 1, none⟩))]) (φ := True) (rest := [4]) h50 (by kernel_rfl) rfl trivial fun a52 h53 => ?_
      clear h50
      refine nd_op ?_
      refine op_store tabOk {k := 0, m := 1, vs := kC bo bc (S44.setQ L { S44.q L with tail := (S.tcb t.toNat).prev })} (L' := [(kb, ⟨kC bo bc (S44.setQ L { S44.q L with tail := (S.tcb t.toNat).prev }), 90, false⟩)]) (φ := kb = kb ∧ Nat.ble (L.off + 1 + 1) (kC bo bc S44).length = true ∧ splice (kC bo bc S44) (L.off + 1) [.int .i16 ((S.tcb t.toNat).prev)] = kC bo bc (S44.setQ L { S44.q L with tail := (S.tcb t.toNat).prev })) h53 rfl rfl rfl (by kernel_rfl) ⟨rfl, k_in (q_in2 hL (by omega)), (k_q_w (L := L) (k := 1) hL (Nat.le_of_ble_eq_true rfl) (by omega) rfl)⟩ fun w55 h56 => ?_
      obtain ⟨S54, eS54⟩ : ∃ S9, S9 = (S44.setQ L { S44.q L with tail := (S.tcb t.toNat).prev }) := ⟨_, rfl⟩
      rw [← eS54] at h56
      have rS54 : RI S54 := by rw [eS54]; exact rS44.setQ ⟨(rS44.q hL).hd, (rS.t (i := t.toNat) (by omega)).pv⟩
      clear h53
      refine nd_done ?_
      refine hK47 _ _ ?_
      clear hK47
      refine nd_start (l := [0, 1, 2, 3, 4, 5, 6, 7]) rfl ?_
      refine nd_batch tabOk tabZ_ok [(0, {}), (1, {}), (2, {}), (3, {k := 0, m := 1, vs := [.int .u32 ((S54.q L).n)]}), (4, {m := 1}), (5, {}), (6, {})] [0, 1, 2, 6, 7, 52, 54] (T' := [(0, .pointer (some ⟨kb, 0, none⟩)), (1, .pointer (some ⟨kb, L.off, none⟩)), (2, .int .i16 t), (6, .int .i16 ((S.tcb t.toNat).prev)), (7, .int .i16 ((S.tcb t.toNat).next)), (52, .int .u32 (IntKind.wrap .u32 (((S54.q L).n) - 1))), (54, .pointer (some ⟨kb, L.off + 2, none⟩))]) (φ := (kb = kb ∧ cellsAre (kC bo bc S54) (L.off + 2) [.int .u32 ((S54.q L).n)]) ∧ True) (rest := [7]) h56 (by kernel_rfl) rfl ⟨⟨rfl, (k_q (L := L) (k := 2) hL (by omega) ⟨rfl, trivial⟩)⟩, trivial⟩ fun a57 h58 => ?_
      clear h56
      refine nd_op ?_
      refine op_store tabOk {k := 0, m := 1, vs := kC bo bc (S54.setQ L { S54.q L with n := IntKind.wrap .u32 (((S54.q L).n) - 1) })} (L' := [(kb, ⟨kC bo bc (S54.setQ L { S54.q L with n := IntKind.wrap .u32 (((S54.q L).n) - 1) }), 90, false⟩)]) (φ := kb = kb ∧ Nat.ble (L.off + 2 + 1) (kC bo bc S54).length = true ∧ splice (kC bo bc S54) (L.off + 2) [.int .u32 (IntKind.wrap .u32 (((S54.q L).n) - 1))] = kC bo bc (S54.setQ L { S54.q L with n := IntKind.wrap .u32 (((S54.q L).n) - 1) })) h58 rfl rfl rfl (by kernel_rfl) ⟨rfl, k_in (q_in2 hL (by omega)), (k_q_w (L := L) (k := 2) hL (Nat.le_of_ble_eq_true rfl) (by omega) rfl)⟩ fun w60 h61 => ?_
      obtain ⟨S59, eS59⟩ : ∃ S9, S9 = (S54.setQ L { S54.q L with n := IntKind.wrap .u32 (((S54.q L).n) - 1) }) := ⟨_, rfl⟩
      rw [← eS59] at h61
      have rS59 : RI S59 := by rw [eS59]; exact rS54.setQ ⟨(rS54.q hL).hd, (rS54.q hL).tl⟩
      clear h58
      refine nd_done ?_
      try simp only [Exit.then, Exit.inBlock]
      try rw [if_pos trivial]
      exact s_end tabOk tabZ_ok h61 [] (vs := []) (φ := True) rfl (by kernel_rfl) trivial ⟨rfl, (by rw [show unlinkP S L t = S59 from (by unfold unlinkP; simp only; (first | rw [if_neg hc11f] | rw [if_neg (fun hz => hz hc11f)]); rw [← eS44]; (first | rw [if_pos hc51f] | rw [if_pos (fun hz => hz hc51f)]); rw [← eS54]; rw [← eS59])]; exact h61.kn (k := 0) rfl), h61.frame⟩
    ·
      have hc51f : (S.tcb t.toNat).next ≠ -1 := by simpa using hc51
      have hnx := lk_nat (rS.t (i := t.toNat) (by omega)).nx hc51f
      refine nd_start (l := [0, 1, 2, 3, 4, 5, 6, 7]) rfl ?_
      refine nd_batch tabOk tabZ_ok [(0, {}), (1, {}), (2, {}), (3, {}), (4, {}), (5, {}), (6, {})] [0, 1, 2, 6, 7, 43, 47] (T' := [(0, .pointer (some ⟨kb, 0, none⟩)), (1, .pointer (some ⟨kb, L.off, none⟩)), (2, .int .i16 t), (6, .int .i16 ((S.tcb t.toNat).prev)), (7, .int .i16 ((S.tcb t.toNat).next)), (43, .int .i16 ((S.tcb t.toNat).prev)), (47, .pointer (some ⟨kb, 2 + ((((S.tcb t.toNat).next).toNat) * 21) + 20, none⟩))]) (φ := (0 ≤ ((S.tcb t.toNat).next) ∧ ((S.tcb t.toNat).next) < 256) ∧ True) (rest := [7]) h50 (by kernel_rfl) rfl ⟨⟨by omega, by omega⟩, trivial⟩ fun a62 h63 => ?_
      clear h50
      refine nd_op ?_
      refine op_store tabOk {k := 0, m := 1, vs := kC bo bc (S44.setT (((S.tcb t.toNat).next).toNat) { S44.tcb (((S.tcb t.toNat).next).toNat) with prev := (S.tcb t.toNat).prev })} (L' := [(kb, ⟨kC bo bc (S44.setT (((S.tcb t.toNat).next).toNat) { S44.tcb (((S.tcb t.toNat).next).toNat) with prev := (S.tcb t.toNat).prev }), 90, false⟩)]) (φ := kb = kb ∧ Nat.ble (2 + ((((S.tcb t.toNat).next).toNat) * 21) + 20 + 1) (kC bo bc S44).length = true ∧ splice (kC bo bc S44) (2 + ((((S.tcb t.toNat).next).toNat) * 21) + 20) [.int .i16 ((S.tcb t.toNat).prev)] = kC bo bc (S44.setT (((S.tcb t.toNat).next).toNat) { S44.tcb (((S.tcb t.toNat).next).toNat) with prev := (S.tcb t.toNat).prev })) h63 rfl rfl rfl (by kernel_rfl) ⟨rfl, k_in (by omega), (k_tcb_w (i := (((S.tcb t.toNat).next).toNat)) (k := 20) (by omega) (Nat.le_of_ble_eq_true rfl) (by omega) rfl)⟩ fun w65 h66 => ?_
      obtain ⟨S64, eS64⟩ : ∃ S9, S9 = (S44.setT (((S.tcb t.toNat).next).toNat) { S44.tcb (((S.tcb t.toNat).next).toNat) with prev := (S.tcb t.toNat).prev }) := ⟨_, rfl⟩
      rw [← eS64] at h66
      have rS64 : RI S64 := by rw [eS64]; exact rS44.setT ⟨(rS44.t (i := (((S.tcb t.toNat).next).toNat)) (by omega)).nx, (rS.t (i := t.toNat) (by omega)).pv, (rS44.t (i := (((S.tcb t.toNat).next).toNat)) (by omega)).pr, (rS44.t (i := (((S.tcb t.toNat).next).toNat)) (by omega)).wi, (rS44.t (i := (((S.tcb t.toNat).next).toNat)) (by omega)).ci, (rS44.t (i := (((S.tcb t.toNat).next).toNat)) (by omega)).ri, (rS44.t (i := (((S.tcb t.toNat).next).toNat)) (by omega)).ds⟩
      clear h63
      refine nd_done ?_
      refine hK47 _ _ ?_
      clear hK47
      refine nd_start (l := [0, 1, 2, 3, 4, 5, 6, 7]) rfl ?_
      refine nd_batch tabOk tabZ_ok [(0, {}), (1, {}), (2, {}), (3, {k := 0, m := 1, vs := [.int .u32 ((S64.q L).n)]}), (4, {m := 1}), (5, {}), (6, {})] [0, 1, 2, 6, 7, 52, 54] (T' := [(0, .pointer (some ⟨kb, 0, none⟩)), (1, .pointer (some ⟨kb, L.off, none⟩)), (2, .int .i16 t), (6, .int .i16 ((S.tcb t.toNat).prev)), (7, .int .i16 ((S.tcb t.toNat).next)), (52, .int .u32 (IntKind.wrap .u32 (((S64.q L).n) - 1))), (54, .pointer (some ⟨kb, L.off + 2, none⟩))]) (φ := (kb = kb ∧ cellsAre (kC bo bc S64) (L.off + 2) [.int .u32 ((S64.q L).n)]) ∧ True) (rest := [7]) h66 (by kernel_rfl) rfl ⟨⟨rfl, (k_q (L := L) (k := 2) hL (by omega) ⟨rfl, trivial⟩)⟩, trivial⟩ fun a67 h68 => ?_
      clear h66
      refine nd_op ?_
      refine op_store tabOk {k := 0, m := 1, vs := kC bo bc (S64.setQ L { S64.q L with n := IntKind.wrap .u32 (((S64.q L).n) - 1) })} (L' := [(kb, ⟨kC bo bc (S64.setQ L { S64.q L with n := IntKind.wrap .u32 (((S64.q L).n) - 1) }), 90, false⟩)]) (φ := kb = kb ∧ Nat.ble (L.off + 2 + 1) (kC bo bc S64).length = true ∧ splice (kC bo bc S64) (L.off + 2) [.int .u32 (IntKind.wrap .u32 (((S64.q L).n) - 1))] = kC bo bc (S64.setQ L { S64.q L with n := IntKind.wrap .u32 (((S64.q L).n) - 1) })) h68 rfl rfl rfl (by kernel_rfl) ⟨rfl, k_in (q_in2 hL (by omega)), (k_q_w (L := L) (k := 2) hL (Nat.le_of_ble_eq_true rfl) (by omega) rfl)⟩ fun w70 h71 => ?_
      obtain ⟨S69, eS69⟩ : ∃ S9, S9 = (S64.setQ L { S64.q L with n := IntKind.wrap .u32 (((S64.q L).n) - 1) }) := ⟨_, rfl⟩
      rw [← eS69] at h71
      have rS69 : RI S69 := by rw [eS69]; exact rS64.setQ ⟨(rS64.q hL).hd, (rS64.q hL).tl⟩
      clear h68
      refine nd_done ?_
      try simp only [Exit.then, Exit.inBlock]
      try rw [if_pos trivial]
      exact s_end tabOk tabZ_ok h71 [] (vs := []) (φ := True) rfl (by kernel_rfl) trivial ⟨rfl, (by rw [show unlinkP S L t = S69 from (by unfold unlinkP; simp only; (first | rw [if_neg hc11f] | rw [if_neg (fun hz => hz hc11f)]); rw [← eS44]; (first | rw [if_neg hc51f] | rw [if_neg (fun hz => hz hc51f)]); rw [← eS64]; rw [← eS69])]; exact h71.kn (k := 0) rfl), h71.frame⟩

end Go.Proofs.Qxb6500918aDoor
