/-
  leave, wake, block. (Made by program: a symbolic walk that prints its steps.)
-/
import Derived.Test.Qxb6500918aDoorK1
namespace Go.Proofs.Qxb6500918aDoor
open Go.Sx Go.Kn
set_option maxRecDepth 100000
set_option maxHeartbeats 4000000
set_option linter.unusedVariables false
set_option linter.unusedSimpArgs false

theorem leave_ok (kb bo bc : Nat) (S : KP) (rS : RI S) (t : Int) (ht : 0 ≤ t ∧ t < 256) (w : World) (hb : w.heap[kb]? = some (Blk.obj ⟨kC bo bc S, 90, false⟩)) :
    Calls Tryd.prog 72 #[.pointer (some ⟨kb, 0, none⟩), .int .i16 t] w fun e w' => e = .returned (.tuple #[]) ∧ w'.heap[kb]? = some (Blk.obj ⟨kC bo bc (leaveP S t), 90, false⟩) ∧ Fr [kb] w w' := by
  have hpS := (rS.t (i := t.toNat) (by omega)).pr
  have hwS := (rS.t (i := t.toNat) (by omega)).wi
  refine enter0 (n := 85) (K := [kb]) (T := [(0, .pointer (some ⟨kb, 0, none⟩)), (1, .int .i16 t)]) (L := [(kb, ⟨kC bo bc S, 90, false⟩)]) (args := [.pointer (some ⟨kb, 0, none⟩), .int .i16 t]) Tryd.func72 rfl rfl rfl rfl (kcons hb knil) (by simp) (kcons (by simp) knil) ?_
  intro a h
  refine wp_seq_k fun K1 hK1 => ?_
  refine nd_start (l := [0, 1, 2, 3, 4, 5]) rfl ?_
  refine nd_batch tabOk tabZ_ok [(0, {}), (1, {}), (2, {}), (3, {}), (4, {}), (5, {})] [0, 1, 4] (T' := [(0, .pointer (some ⟨kb, 0, none⟩)), (1, .int .i16 t), (4, .pointer (some ⟨kb, 2 + (t.toNat * 21), none⟩))]) (φ := (0 ≤ t ∧ t < 256) ∧ True) (rest := []) h (by kernel_rfl) rfl ⟨⟨by omega, by omega⟩, trivial⟩ fun a2 h3 => ?_
  clear h
  refine nd_done ?_
  refine hK1 _ _ ?_
  clear hK1
  refine wp_seq_k fun K4 hK4 => ?_
  refine wp_seq_k fun K5 hK5 => ?_
  refine nd_start (l := [0, 1, 2, 3, 4]) rfl ?_
  refine nd_batch tabOk tabZ_ok [(0, {}), (1, {}), (2, {}), (3, {}), (4, {k := 0, m := 1, vs := [.int .u8 ((S.tcb t.toNat).st)]})] [0, 1, 4, 14] (T' := [(0, .pointer (some ⟨kb, 0, none⟩)), (1, .int .i16 t), (4, .pointer (some ⟨kb, 2 + (t.toNat * 21), none⟩)), (14, .int .u8 ((S.tcb t.toNat).st))]) (φ := (kb = kb ∧ cellsAre (kC bo bc S) (2 + (t.toNat * 21)) [.int .u8 ((S.tcb t.toNat).st)]) ∧ True) (rest := []) h3 (by kernel_rfl) rfl ⟨⟨rfl, (k_tcb (i := t.toNat) (k := 0) (by omega) (by omega) ⟨rfl, trivial⟩)⟩, trivial⟩ fun a6 h7 => ?_
  clear h3
  refine nd_done ?_
  refine hK5 _ _ ?_
  clear hK5
  refine wp_block ?_
  refine wp_seq_k fun K8 hK8 => ?_
  refine nd_start (l := [0, 1]) rfl ?_
  refine nd_batch tabOk tabZ_ok [(0, {}), (1, {})] [0, 1, 4, 14, 15] (T' := [(0, .pointer (some ⟨kb, 0, none⟩)), (1, .int .i16 t), (4, .pointer (some ⟨kb, 2 + (t.toNat * 21), none⟩)), (14, .int .u8 ((S.tcb t.toNat).st)), (15, .bool ((S.tcb t.toNat).st == 2))]) (φ := True) (rest := []) h7 (by kernel_rfl) rfl trivial fun a9 h10 => ?_
  clear h7
  refine nd_done ?_
  refine hK8 _ _ ?_
  clear hK8
  refine c_split h10 (b := ((S.tcb t.toNat).st == 2)) rfl (fun hc11 => ?_) (fun hc11 => ?_)
  ·
    have hc11f : (S.tcb t.toNat).st = 2 := by simpa using hc11
    refine nd_start (l := [0, 1, 2, 3]) rfl ?_
    refine nd_batch tabOk tabZ_ok [(0, {}), (1, {}), (2, {})] [0, 1, 4, 14, 19] (T' := [(0, .pointer (some ⟨kb, 0, none⟩)), (1, .int .i16 t), (4, .pointer (some ⟨kb, 2 + (t.toNat * 21), none⟩)), (14, .int .u8 ((S.tcb t.toNat).st)), (19, .pointer (some ⟨kb, 6427, none⟩))]) (φ := True) (rest := [3]) h10 (by kernel_rfl) rfl trivial fun a12 h13 => ?_
    clear h10
    refine nd_op ?_
    refine op_store tabOk {k := 0, m := 1, vs := kC bo bc ({ S with cur := -1 })} (L' := [(kb, ⟨kC bo bc ({ S with cur := -1 }), 90, false⟩)]) (φ := kb = kb ∧ Nat.ble (6427 + 1) (kC bo bc S).length = true ∧ splice (kC bo bc S) 6427 [.int .i16 (-1)] = kC bo bc ({ S with cur := -1 })) h13 rfl rfl rfl (by kernel_rfl) ⟨rfl, k_in (by omega), (k_cur_w (-1))⟩ fun w15 h16 => ?_
    obtain ⟨S14, eS14⟩ : ∃ S9, S9 = { S with cur := -1 } := ⟨_, rfl⟩
    rw [← eS14] at h16
    have rS14 : RI S14 := by rw [eS14]; exact rS.setCur (.inl rfl)
    clear h13
    have hpS14 := (rS14.t (i := t.toNat) (by omega)).pr
    have hwS14 := (rS14.t (i := t.toNat) (by omega)).wi
    refine nd_done ?_
    refine hK4 _ _ ?_
    clear hK4
    refine nd_start (l := [0, 1, 2, 3, 4, 5, 6, 7, 8, 9, 10]) rfl ?_
    refine nd_batch tabOk tabZ_ok [(0, {}), (1, {}), (2, {}), (3, {}), (4, {}), (5, {})] [0, 1, 4, 14, 77, 78, 81] (T' := [(0, .pointer (some ⟨kb, 0, none⟩)), (1, .int .i16 t), (4, .pointer (some ⟨kb, 2 + (t.toNat * 21), none⟩)), (14, .int .u8 ((S.tcb t.toNat).st)), (77, .pointer (some ⟨kb, 2 + (t.toNat * 21), none⟩)), (78, .agg #[.int .u16 0, .int .u32 0]), (81, .pointer (some ⟨kb, 2 + (t.toNat * 21), none⟩))]) (φ := True) (rest := [6, 7, 8, 9, 10]) h16 (by kernel_rfl) rfl trivial fun a17 h18 => ?_
    clear h16
    refine nd_op ?_
    refine op_store tabOk {k := 0, m := 1, vs := kC bo bc (S14.setT t.toNat { S14.tcb t.toNat with st := 0 })} (L' := [(kb, ⟨kC bo bc (S14.setT t.toNat { S14.tcb t.toNat with st := 0 }), 90, false⟩)]) (φ := kb = kb ∧ Nat.ble (2 + (t.toNat * 21) + 1) (kC bo bc S14).length = true ∧ splice (kC bo bc S14) (2 + (t.toNat * 21)) [.int .u8 0] = kC bo bc (S14.setT t.toNat { S14.tcb t.toNat with st := 0 })) h18 rfl rfl rfl (by kernel_rfl) ⟨rfl, k_in (by omega), (k_tcb_w (i := t.toNat) (k := 0) (by omega) (Nat.le_of_ble_eq_true rfl) (by omega) rfl)⟩ fun w20 h21 => ?_
    obtain ⟨S19, eS19⟩ : ∃ S9, S9 = (S14.setT t.toNat { S14.tcb t.toNat with st := 0 }) := ⟨_, rfl⟩
    rw [← eS19] at h21
    have rS19 : RI S19 := by rw [eS19]; exact rS14.setT ⟨(rS14.t (i := t.toNat) (by omega)).nx, (rS14.t (i := t.toNat) (by omega)).pv, (rS14.t (i := t.toNat) (by omega)).pr, (rS14.t (i := t.toNat) (by omega)).wi, (rS14.t (i := t.toNat) (by omega)).ci, (rS14.t (i := t.toNat) (by omega)).ri, (rS14.t (i := t.toNat) (by omega)).ds⟩
    clear h18
    have hpS19 := (rS19.t (i := t.toNat) (by omega)).pr
    have hwS19 := (rS19.t (i := t.toNat) (by omega)).wi
    refine nd_batch tabOk tabZ_ok [(7, {}), (8, {}), (9, {})] [0, 1, 4, 14, 78, 84] (T' := [(0, .pointer (some ⟨kb, 0, none⟩)), (1, .int .i16 t), (4, .pointer (some ⟨kb, 2 + (t.toNat * 21), none⟩)), (14, .int .u8 ((S.tcb t.toNat).st)), (78, .agg #[.int .u16 0, .int .u32 0]), (84, .pointer (some ⟨kb, 2 + (t.toNat * 21) + 2, none⟩))]) (φ := True) (rest := [10]) h21 (by kernel_rfl) rfl trivial fun a22 h23 => ?_
    clear h21
    refine nd_op ?_
    refine op_store tabOk {k := 0, m := 1, vs := kC bo bc (S19.setT t.toNat { S19.tcb t.toNat with wait := ⟨0, 0⟩ })} (L' := [(kb, ⟨kC bo bc (S19.setT t.toNat { S19.tcb t.toNat with wait := ⟨0, 0⟩ }), 90, false⟩)]) (φ := kb = kb ∧ Nat.ble (2 + (t.toNat * 21) + 2 + 2) (kC bo bc S19).length = true ∧ splice (kC bo bc S19) (2 + (t.toNat * 21) + 2) [.int .u16 0, .int .u32 0] = kC bo bc (S19.setT t.toNat { S19.tcb t.toNat with wait := ⟨0, 0⟩ })) h23 rfl rfl rfl (by kernel_rfl) ⟨rfl, k_in (by omega), (k_tcb_w (i := t.toNat) (k := 2) (by omega) (Nat.le_of_ble_eq_true rfl) (by omega) rfl)⟩ fun w25 h26 => ?_
    obtain ⟨S24, eS24⟩ : ∃ S9, S9 = (S19.setT t.toNat { S19.tcb t.toNat with wait := ⟨0, 0⟩ }) := ⟨_, rfl⟩
    rw [← eS24] at h26
    have rS24 : RI S24 := by rw [eS24]; exact rS19.setT ⟨(rS19.t (i := t.toNat) (by omega)).nx, (rS19.t (i := t.toNat) (by omega)).pv, (rS19.t (i := t.toNat) (by omega)).pr, z256, (rS19.t (i := t.toNat) (by omega)).ci, (rS19.t (i := t.toNat) (by omega)).ri, (rS19.t (i := t.toNat) (by omega)).ds⟩
    clear h23
    have hpS24 := (rS24.t (i := t.toNat) (by omega)).pr
    have hwS24 := (rS24.t (i := t.toNat) (by omega)).wi
    refine nd_done ?_
    try simp only [Exit.then, Exit.inBlock]
    try rw [if_pos trivial]
    exact s_end tabOk tabZ_ok h26 [] (vs := []) (φ := True) rfl (by kernel_rfl) trivial ⟨rfl, (by rw [show leaveP S t = S24 from (by unfold leaveP leave1; simp only; (first | rw [if_pos hc11f] | rw [if_pos (fun hz => hz hc11f)]); rw [← eS14]; rw [← eS19]; rw [← eS24])]; exact h26.kn (k := 0) rfl), h26.frame⟩
  ·
    have hc11f : (S.tcb t.toNat).st ≠ 2 := by simpa using hc11
    refine wp_seq_k fun K27 hK27 => ?_
    refine nd_start (l := [0, 1]) rfl ?_
    refine nd_batch tabOk tabZ_ok [(0, {}), (1, {})] [0, 1, 4, 14, 20] (T' := [(0, .pointer (some ⟨kb, 0, none⟩)), (1, .int .i16 t), (4, .pointer (some ⟨kb, 2 + (t.toNat * 21), none⟩)), (14, .int .u8 ((S.tcb t.toNat).st)), (20, .bool ((S.tcb t.toNat).st == 1))]) (φ := True) (rest := []) h10 (by kernel_rfl) rfl trivial fun a28 h29 => ?_
    clear h10
    refine nd_done ?_
    refine hK27 _ _ ?_
    clear hK27
    refine c_split h29 (b := ((S.tcb t.toNat).st == 1)) rfl (fun hc30 => ?_) (fun hc30 => ?_)
    ·
      have hc30f : (S.tcb t.toNat).st = 1 := by simpa using hc30
      refine wp_seq_k fun K31 hK31 => ?_
      refine dr_start (KB := [kb]) (Bi := [[0], [0], [0], [0], [0], [0], [0], [0], [0], [0], [0], []]) mixed h29 fun w32 h33 => ?_
      clear h29
      refine dr_batch tabOk tabZ_ok (by repeat (first | with_reducible exact PF.body | with_reducible apply PF.inB | with_reducible apply PF.next)) [(0, {}), (1, {}), (2, {}), (3, {}), (4, {}), (5, {}), (6, {k := 0, m := 1, vs := [.int .u8 ((S.tcb t.toNat).prio)], p := 0}), (7, {}), (8, {}), (9, {}), (10, {})] [0, 1, 4, 14, 22, 31, 32] (T' := [(0, .pointer (some ⟨kb, 0, none⟩)), (1, .int .i16 t), (4, .pointer (some ⟨kb, 2 + (t.toNat * 21), none⟩)), (14, .int .u8 ((S.tcb t.toNat).st)), (22, .pointer (some ⟨kb, 0, none⟩)), (31, .pointer (some ⟨kb, 6402 + ((((S.tcb t.toNat).prio).toNat) * 3), none⟩)), (32, .int .i16 t)]) (φ := (kb = kb ∧ cellsAre (kC bo bc S) (2 + (t.toNat * 21) + 1) [.int .u8 ((S.tcb t.toNat).prio)]) ∧ (0 ≤ ((S.tcb t.toNat).prio) ∧ ((S.tcb t.toNat).prio) < 8) ∧ True) (fuel := 1) h33 (by kernel_rfl) rfl (by kernel_rfl) (by kernel_rfl) ⟨trivial, trivial, trivial, trivial, trivial, trivial, rfl, trivial, trivial, trivial, trivial, trivial⟩ ⟨⟨rfl, (k_tcb (i := t.toNat) (k := 1) (by omega) (by omega) ⟨rfl, trivial⟩)⟩, ⟨by omega, by omega⟩, trivial⟩ fun a35 h36 => ?_
      clear h33
      refine wpAnyK_one (i := 11) (fuel := 0) (by kernel_rfl) ?_
      refine op_call h36 rfl rfl rfl (callOk Tryd.func100 (by decide) rfl) (args := [.pointer (some ⟨kb, 0, none⟩), .pointer (some ⟨kb, 6402 + ((((S.tcb t.toNat).prio).toNat) * 3), none⟩), .int .i16 t]) rfl (unlink_ok kb bo bc S rS (QL.r (((S.tcb t.toNat).prio).toNat)) (show _ < _ by omega) t ht _ (h36.kn (k := 0) rfl)) ?_
      rintro _ w40 ⟨rfl, hb38, hf39⟩
      refine ⟨_, rfl, ?_⟩
      obtain ⟨S37, eS37⟩ : ∃ S9, S9 = unlinkP S (QL.r (((S.tcb t.toNat).prio).toNat)) t := ⟨_, rfl⟩
      rw [← eS37] at hb38
      have rS37 : RI S37 := by rw [eS37]; exact unlink_RI rS (show _ < _ by omega) ht
      have h41 := (h36.setBlk (k := 0) rfl rfl hf39 hb38 (L' := [(kb, ⟨kC bo bc S37, 90, false⟩)]) rfl).put (d := some 33) (v := .tuple #[]) (T' := [(33, .tuple #[]), (0, .pointer (some ⟨kb, 0, none⟩)), (1, .int .i16 t), (4, .pointer (some ⟨kb, 2 + (t.toNat * 21), none⟩)), (14, .int .u8 ((S.tcb t.toNat).st)), (22, .pointer (some ⟨kb, 0, none⟩)), (31, .pointer (some ⟨kb, 6402 + ((((S.tcb t.toNat).prio).toNat) * 3), none⟩)), (32, .int .i16 t)]) rfl
      have hkh41 := h36.known
      refine ⟨keepNil, ?_⟩
      clear h36
      have hpS37 := (rS37.t (i := t.toNat) (by omega)).pr
      have hwS37 := (rS37.t (i := t.toNat) (by omega)).wi
      refine wpAnyK_done (by kernel_rfl) ?_ _
      refine hK31 _ _ ?_
      clear hK31
      refine wp_seq_k fun K42 hK42 => ?_
      refine dr_start (KB := [kb]) (Bi := [[0], [0], [0], [0], [0], [0], [0], [0], [0], [0], [0], [0]]) mixed h41 fun w43 h44 => ?_
      clear h41
      refine dr_batch tabOk tabZ_ok (by repeat (first | with_reducible exact PF.body | with_reducible apply PF.inB | with_reducible apply PF.next)) [(0, {}), (1, {}), (2, {}), (3, {}), (4, {}), (5, {k := 0, m := 1, vs := [.int .u8 ((S37.tcb t.toNat).prio)], p := 0}), (6, {}), (7, {}), (8, {}), (9, {}), (10, {k := 0, m := 1, vs := [.int .u32 ((S37.rdy (((S37.tcb t.toNat).prio).toNat)).n)], p := 0}), (11, {})] [0, 1, 4, 14, 45] (T' := [(0, .pointer (some ⟨kb, 0, none⟩)), (1, .int .i16 t), (4, .pointer (some ⟨kb, 2 + (t.toNat * 21), none⟩)), (14, .int .u8 ((S.tcb t.toNat).st)), (45, .bool ((S37.rdy (((S37.tcb t.toNat).prio).toNat)).n == 0))]) (φ := (kb = kb ∧ cellsAre (kC bo bc S37) (2 + (t.toNat * 21) + 1) [.int .u8 ((S37.tcb t.toNat).prio)]) ∧ (0 ≤ ((S37.tcb t.toNat).prio) ∧ ((S37.tcb t.toNat).prio) < 8) ∧ (kb = kb ∧ cellsAre (kC bo bc S37) (6402 + ((((S37.tcb t.toNat).prio).toNat) * 3) + 2) [.int .u32 ((S37.rdy (((S37.tcb t.toNat).prio).toNat)).n)]) ∧ True) (fuel := 0) h44 (by kernel_rfl) rfl (by kernel_rfl) (by kernel_rfl) ⟨trivial, trivial, trivial, trivial, trivial, rfl, trivial, trivial, trivial, trivial, rfl, trivial, trivial⟩ ⟨⟨rfl, (k_tcb (i := t.toNat) (k := 1) (by omega) (by omega) ⟨rfl, trivial⟩)⟩, ⟨by omega, by omega⟩, ⟨rfl, (k_rdy (i := (((S37.tcb t.toNat).prio).toNat)) (k := 2) (by omega) (by omega) ⟨rfl, trivial⟩)⟩, trivial⟩ fun a46 h47 => ?_
      clear h44
      refine wpAnyK_done (by kernel_rfl) ?_ _
      refine hK42 _ _ ?_
      clear hK42
      refine c_split h47 (b := ((S37.rdy (((S37.tcb t.toNat).prio).toNat)).n == 0)) rfl (fun hc48 => ?_) (fun hc48 => ?_)
      ·
        have hc48f : (S37.rdy (((S37.tcb t.toNat).prio).toNat)).n = 0 := by simpa using hc48
        refine dr_start (KB := [kb]) (Bi := [[0], [0], [0], [0], [0], [0], [0], [0], [0], [0], [0], [0], [0], []]) mixed h47 fun w49 h50 => ?_
        clear h47
        refine dr_batch tabOk tabZ_ok (by repeat (first | with_reducible exact PF.body | with_reducible apply PF.inB | with_reducible apply PF.next)) [(0, {}), (1, {}), (2, {}), (3, {k := 0, m := 1, vs := [.int .u8 S37.busy], p := 0}), (4, {}), (5, {}), (6, {}), (7, {}), (8, {k := 0, m := 1, vs := [.int .u8 ((S37.tcb t.toNat).prio)], p := 0}), (9, {}), (10, {}), (11, {}), (12, {})] [0, 1, 4, 14, 56, 58] (T' := [(0, .pointer (some ⟨kb, 0, none⟩)), (1, .int .i16 t), (4, .pointer (some ⟨kb, 2 + (t.toNat * 21), none⟩)), (14, .int .u8 ((S.tcb t.toNat).st)), (56, .int .u8 (bitI .andNot .u8 S37.busy (shlI .u8 1 ((S37.tcb t.toNat).prio)))), (58, .pointer (some ⟨kb, 6426, none⟩))]) (φ := (kb = kb ∧ cellsAre (kC bo bc S37) 6426 [.int .u8 S37.busy]) ∧ (kb = kb ∧ cellsAre (kC bo bc S37) (2 + (t.toNat * 21) + 1) [.int .u8 ((S37.tcb t.toNat).prio)]) ∧ 0 ≤ ((S37.tcb t.toNat).prio) ∧ True) (fuel := 1) h50 (by kernel_rfl) rfl (by kernel_rfl) (by kernel_rfl) ⟨trivial, trivial, trivial, rfl, trivial, trivial, trivial, trivial, rfl, trivial, trivial, trivial, trivial, trivial⟩ ⟨⟨rfl, k_busy⟩, ⟨rfl, (k_tcb (i := t.toNat) (k := 1) (by omega) (by omega) ⟨rfl, trivial⟩)⟩, (by omega), trivial⟩ fun a52 h53 => ?_
        clear h50
        refine wpAnyK_one (i := 13) (fuel := 0) (by kernel_rfl) ?_
        refine op_store tabOk {k := 0, m := 1, vs := kC bo bc ({ S37 with busy := bitI .andNot .u8 S37.busy (shlI .u8 1 ((S37.tcb t.toNat).prio)) })} (L' := [(kb, ⟨kC bo bc ({ S37 with busy := bitI .andNot .u8 S37.busy (shlI .u8 1 ((S37.tcb t.toNat).prio)) }), 90, false⟩)]) (φ := kb = kb ∧ Nat.ble (6426 + 1) (kC bo bc S37).length = true ∧ splice (kC bo bc S37) 6426 [.int .u8 (bitI .andNot .u8 S37.busy (shlI .u8 1 ((S37.tcb t.toNat).prio)))] = kC bo bc ({ S37 with busy := bitI .andNot .u8 S37.busy (shlI .u8 1 ((S37.tcb t.toNat).prio)) })) h53 rfl rfl rfl (by kernel_rfl) ⟨rfl, k_in (by omega), (k_busy_w (bitI .andNot .u8 S37.busy (shlI .u8 1 ((S37.tcb t.toNat).prio))))⟩ fun w55 h56 => ?_
        obtain ⟨S54, eS54⟩ : ∃ S9, S9 = { S37 with busy := bitI .andNot .u8 S37.busy (shlI .u8 1 ((S37.tcb t.toNat).prio)) } := ⟨_, rfl⟩
        rw [← eS54] at h56
        have rS54 : RI S54 := by rw [eS54]; exact rS37.setBusy _
        have hkh56 := h53.known
        refine ⟨keepNil, ?_⟩
        clear h53
        have hpS54 := (rS54.t (i := t.toNat) (by omega)).pr
        have hwS54 := (rS54.t (i := t.toNat) (by omega)).wi
        refine wpAnyK_done (by kernel_rfl) ?_ _
        refine hK4 _ _ ?_
        clear hK4
        refine nd_start (l := [0, 1, 2, 3, 4, 5, 6, 7, 8, 9, 10]) rfl ?_
        refine nd_batch tabOk tabZ_ok [(0, {}), (1, {}), (2, {}), (3, {}), (4, {}), (5, {})] [0, 1, 4, 14, 77, 78, 81] (T' := [(0, .pointer (some ⟨kb, 0, none⟩)), (1, .int .i16 t), (4, .pointer (some ⟨kb, 2 + (t.toNat * 21), none⟩)), (14, .int .u8 ((S.tcb t.toNat).st)), (77, .pointer (some ⟨kb, 2 + (t.toNat * 21), none⟩)), (78, .agg #[.int .u16 0, .int .u32 0]), (81, .pointer (some ⟨kb, 2 + (t.toNat * 21), none⟩))]) (φ := True) (rest := [6, 7, 8, 9, 10]) h56 (by kernel_rfl) rfl trivial fun a57 h58 => ?_
        clear h56
        refine nd_op ?_
        refine op_store tabOk {k := 0, m := 1, vs := kC bo bc (S54.setT t.toNat { S54.tcb t.toNat with st := 0 })} (L' := [(kb, ⟨kC bo bc (S54.setT t.toNat { S54.tcb t.toNat with st := 0 }), 90, false⟩)]) (φ := kb = kb ∧ Nat.ble (2 + (t.toNat * 21) + 1) (kC bo bc S54).length = true ∧ splice (kC bo bc S54) (2 + (t.toNat * 21)) [.int .u8 0] = kC bo bc (S54.setT t.toNat { S54.tcb t.toNat with st := 0 })) h58 rfl rfl rfl (by kernel_rfl) ⟨rfl, k_in (by omega), (k_tcb_w (i := t.toNat) (k := 0) (by omega) (Nat.le_of_ble_eq_true rfl) (by omega) rfl)⟩ fun w60 h61 => ?_
        obtain ⟨S59, eS59⟩ : ∃ S9, S9 = (S54.setT t.toNat { S54.tcb t.toNat with st := 0 }) := ⟨_, rfl⟩
        rw [← eS59] at h61
        have rS59 : RI S59 := by rw [eS59]; exact rS54.setT ⟨(rS54.t (i := t.toNat) (by omega)).nx, (rS54.t (i := t.toNat) (by omega)).pv, (rS54.t (i := t.toNat) (by omega)).pr, (rS54.t (i := t.toNat) (by omega)).wi, (rS54.t (i := t.toNat) (by omega)).ci, (rS54.t (i := t.toNat) (by omega)).ri, (rS54.t (i := t.toNat) (by omega)).ds⟩
        clear h58
        have hpS59 := (rS59.t (i := t.toNat) (by omega)).pr
        have hwS59 := (rS59.t (i := t.toNat) (by omega)).wi
        refine nd_batch tabOk tabZ_ok [(7, {}), (8, {}), (9, {})] [0, 1, 4, 14, 78, 84] (T' := [(0, .pointer (some ⟨kb, 0, none⟩)), (1, .int .i16 t), (4, .pointer (some ⟨kb, 2 + (t.toNat * 21), none⟩)), (14, .int .u8 ((S.tcb t.toNat).st)), (78, .agg #[.int .u16 0, .int .u32 0]), (84, .pointer (some ⟨kb, 2 + (t.toNat * 21) + 2, none⟩))]) (φ := True) (rest := [10]) h61 (by kernel_rfl) rfl trivial fun a62 h63 => ?_
        clear h61
        refine nd_op ?_
        refine op_store tabOk {k := 0, m := 1, vs := kC bo bc (S59.setT t.toNat { S59.tcb t.toNat with wait := ⟨0, 0⟩ })} (L' := [(kb, ⟨kC bo bc (S59.setT t.toNat { S59.tcb t.toNat with wait := ⟨0, 0⟩ }), 90, false⟩)]) (φ := kb = kb ∧ Nat.ble (2 + (t.toNat * 21) + 2 + 2) (kC bo bc S59).length = true ∧ splice (kC bo bc S59) (2 + (t.toNat * 21) + 2) [.int .u16 0, .int .u32 0] = kC bo bc (S59.setT t.toNat { S59.tcb t.toNat with wait := ⟨0, 0⟩ })) h63 rfl rfl rfl (by kernel_rfl) ⟨rfl, k_in (by omega), (k_tcb_w (i := t.toNat) (k := 2) (by omega) (Nat.le_of_ble_eq_true rfl) (by omega) rfl)⟩ fun w65 h66 => ?_
        obtain ⟨S64, eS64⟩ : ∃ S9, S9 = (S59.setT t.toNat { S59.tcb t.toNat with wait := ⟨0, 0⟩ }) := ⟨_, rfl⟩
        rw [← eS64] at h66
        have rS64 : RI S64 := by rw [eS64]; exact rS59.setT ⟨(rS59.t (i := t.toNat) (by omega)).nx, (rS59.t (i := t.toNat) (by omega)).pv, (rS59.t (i := t.toNat) (by omega)).pr, z256, (rS59.t (i := t.toNat) (by omega)).ci, (rS59.t (i := t.toNat) (by omega)).ri, (rS59.t (i := t.toNat) (by omega)).ds⟩
        clear h63
        have hpS64 := (rS64.t (i := t.toNat) (by omega)).pr
        have hwS64 := (rS64.t (i := t.toNat) (by omega)).wi
        refine nd_done ?_
        try simp only [Exit.then, Exit.inBlock]
        try rw [if_pos trivial]
        exact s_end tabOk tabZ_ok h66 [] (vs := []) (φ := True) rfl (by kernel_rfl) trivial ⟨rfl, (by rw [show leaveP S t = S64 from (by unfold leaveP leave1; simp only; (first | rw [if_neg hc11f] | rw [if_neg (fun hz => hz hc11f)]); (first | rw [if_pos hc30f] | rw [if_pos (fun hz => hz hc30f)]); rw [← eS37]; (first | rw [if_pos hc48f] | rw [if_pos (fun hz => hz hc48f)]); rw [← eS54]; rw [← eS59]; rw [← eS64])]; exact h66.kn (k := 0) rfl), h66.frame⟩
      ·
        have hc48f : (S37.rdy (((S37.tcb t.toNat).prio).toNat)).n ≠ 0 := by simpa using hc48
        refine wp_skip ?_
        refine hK4 _ _ ?_
        clear hK4
        refine nd_start (l := [0, 1, 2, 3, 4, 5, 6, 7, 8, 9, 10]) rfl ?_
        refine nd_batch tabOk tabZ_ok [(0, {}), (1, {}), (2, {}), (3, {}), (4, {}), (5, {})] [0, 1, 4, 14, 77, 78, 81] (T' := [(0, .pointer (some ⟨kb, 0, none⟩)), (1, .int .i16 t), (4, .pointer (some ⟨kb, 2 + (t.toNat * 21), none⟩)), (14, .int .u8 ((S.tcb t.toNat).st)), (77, .pointer (some ⟨kb, 2 + (t.toNat * 21), none⟩)), (78, .agg #[.int .u16 0, .int .u32 0]), (81, .pointer (some ⟨kb, 2 + (t.toNat * 21), none⟩))]) (φ := True) (rest := [6, 7, 8, 9, 10]) h47 (by kernel_rfl) rfl trivial fun a67 h68 => ?_
        clear h47
        refine nd_op ?_
        refine op_store tabOk {k := 0, m := 1, vs := kC bo bc (S37.setT t.toNat { S37.tcb t.toNat with st := 0 })} (L' := [(kb, ⟨kC bo bc (S37.setT t.toNat { S37.tcb t.toNat with st := 0 }), 90, false⟩)]) (φ := kb = kb ∧ Nat.ble (2 + (t.toNat * 21) + 1) (kC bo bc S37).length = true ∧ splice (kC bo bc S37) (2 + (t.toNat * 21)) [.int .u8 0] = kC bo bc (S37.setT t.toNat { S37.tcb t.toNat with st := 0 })) h68 rfl rfl rfl (by kernel_rfl) ⟨rfl, k_in (by omega), (k_tcb_w (i := t.toNat) (k := 0) (by omega) (Nat.le_of_ble_eq_true rfl) (by omega) rfl)⟩ fun w70 h71 => ?_
        obtain ⟨S69, eS69⟩ : ∃ S9, S9 = (S37.setT t.toNat { S37.tcb t.toNat with st := 0 }) := ⟨_, rfl⟩
        rw [← eS69] at h71
        have rS69 : RI S69 := by rw [eS69]; exact rS37.setT ⟨(rS37.t (i := t.toNat) (by omega)).nx, (rS37.t (i := t.toNat) (by omega)).pv, (rS37.t (i := t.toNat) (by omega)).pr, (rS37.t (i := t.toNat) (by omega)).wi, (rS37.t (i := t.toNat) (by omega)).ci, (rS37.t (i := t.toNat) (by omega)).ri, (rS37.t (i := t.toNat) (by omega)).ds⟩
        clear h68
        have hpS69 := (rS69.t (i := t.toNat) (by omega)).pr
        have hwS69 := (rS69.t (i := t.toNat) (by omega)).wi
        refine nd_batch tabOk tabZ_ok [(7, {}), (8, {}), (9, {})] [0, 1, 4, 14, 78, 84] (T' := [(0, .pointer (some ⟨kb, 0, none⟩)), (1, .int .i16 t), (4, .pointer (some ⟨kb, 2 + (t.toNat * 21), none⟩)), (14, .int .u8 ((S.tcb t.toNat).st)), (78, .agg #[.int .u16 0, .int .u32 0]), (84, .pointer (some ⟨kb, 2 + (t.toNat * 21) + 2, none⟩))]) (φ := True) (rest := [10]) h71 (by kernel_rfl) rfl trivial fun a72 h73 => ?_
        clear h71
        refine nd_op ?_
        refine op_store tabOk {k := 0, m := 1, vs := kC bo bc (S69.setT t.toNat { S69.tcb t.toNat with wait := ⟨0, 0⟩ })} (L' := [(kb, ⟨kC bo bc (S69.setT t.toNat { S69.tcb t.toNat with wait := ⟨0, 0⟩ }), 90, false⟩)]) (φ := kb = kb ∧ Nat.ble (2 + (t.toNat * 21) + 2 + 2) (kC bo bc S69).length = true ∧ splice (kC bo bc S69) (2 + (t.toNat * 21) + 2) [.int .u16 0, .int .u32 0] = kC bo bc (S69.setT t.toNat { S69.tcb t.toNat with wait := ⟨0, 0⟩ })) h73 rfl rfl rfl (by kernel_rfl) ⟨rfl, k_in (by omega), (k_tcb_w (i := t.toNat) (k := 2) (by omega) (Nat.le_of_ble_eq_true rfl) (by omega) rfl)⟩ fun w75 h76 => ?_
        obtain ⟨S74, eS74⟩ : ∃ S9, S9 = (S69.setT t.toNat { S69.tcb t.toNat with wait := ⟨0, 0⟩ }) := ⟨_, rfl⟩
        rw [← eS74] at h76
        have rS74 : RI S74 := by rw [eS74]; exact rS69.setT ⟨(rS69.t (i := t.toNat) (by omega)).nx, (rS69.t (i := t.toNat) (by omega)).pv, (rS69.t (i := t.toNat) (by omega)).pr, z256, (rS69.t (i := t.toNat) (by omega)).ci, (rS69.t (i := t.toNat) (by omega)).ri, (rS69.t (i := t.toNat) (by omega)).ds⟩
        clear h73
        have hpS74 := (rS74.t (i := t.toNat) (by omega)).pr
        have hwS74 := (rS74.t (i := t.toNat) (by omega)).wi
        refine nd_done ?_
        try simp only [Exit.then, Exit.inBlock]
        try rw [if_pos trivial]
        exact s_end tabOk tabZ_ok h76 [] (vs := []) (φ := True) rfl (by kernel_rfl) trivial ⟨rfl, (by rw [show leaveP S t = S74 from (by unfold leaveP leave1; simp only; (first | rw [if_neg hc11f] | rw [if_neg (fun hz => hz hc11f)]); (first | rw [if_pos hc30f] | rw [if_pos (fun hz => hz hc30f)]); rw [← eS37]; (first | rw [if_neg hc48f] | rw [if_neg (fun hz => hz hc48f)]); rw [← eS69]; rw [← eS74])]; exact h76.kn (k := 0) rfl), h76.frame⟩
    ·
      have hc30f : (S.tcb t.toNat).st ≠ 1 := by simpa using hc30
      refine wp_seq_k fun K77 hK77 => ?_
      refine wp_seq_k fun K78 hK78 => ?_
      refine nd_start (l := [0, 1]) rfl ?_
      refine nd_batch tabOk tabZ_ok [(0, {}), (1, {})] [0, 1, 4, 14, 59] (T' := [(0, .pointer (some ⟨kb, 0, none⟩)), (1, .int .i16 t), (4, .pointer (some ⟨kb, 2 + (t.toNat * 21), none⟩)), (14, .int .u8 ((S.tcb t.toNat).st)), (59, .bool ((S.tcb t.toNat).st == 3))]) (φ := True) (rest := []) h29 (by kernel_rfl) rfl trivial fun a79 h80 => ?_
      clear h29
      refine nd_done ?_
      refine hK78 _ _ ?_
      clear hK78
      refine c_split h80 (b := ((S.tcb t.toNat).st == 3)) rfl (fun hc81 => ?_) (fun hc81 => ?_)
      ·
        have hc81f : (S.tcb t.toNat).st = 3 := by simpa using hc81
        refine wp_skip ?_
        refine hK77 _ _ ?_
        clear hK77
        refine c_split h80 (b := ((S.tcb t.toNat).st == 3)) rfl (fun hc82 => ?_) (fun hc82 => ?_)
        ·
          have hc82f : (S.tcb t.toNat).st = 3 := by simpa using hc82
          refine dr_start (KB := [kb]) (Bi := [[0], [0], [0], [0], [0], [0], [0], [0], [0], [0], [0], [0], []]) mixed h80 fun w83 h84 => ?_
          clear h80
          refine dr_batch tabOk tabZ_ok (by repeat (first | with_reducible exact PF.body | with_reducible apply PF.inB | with_reducible apply PF.next)) [(0, {}), (1, {}), (2, {}), (3, {}), (4, {}), (5, {}), (6, {}), (7, {k := 0, m := 1, vs := [.int .u16 ((S.tcb t.toNat).wait.idx)], p := 0}), (8, {}), (9, {}), (10, {}), (11, {})] [0, 1, 4, 14, 59, 63, 73, 74] (T' := [(0, .pointer (some ⟨kb, 0, none⟩)), (1, .int .i16 t), (4, .pointer (some ⟨kb, 2 + (t.toNat * 21), none⟩)), (14, .int .u8 ((S.tcb t.toNat).st)), (59, .bool ((S.tcb t.toNat).st == 3)), (63, .pointer (some ⟨kb, 0, none⟩)), (73, .pointer (some ⟨kb, 5378 + ((((S.tcb t.toNat).wait.idx).toNat) * 3), none⟩)), (74, .int .i16 t)]) (φ := (kb = kb ∧ cellsAre (kC bo bc S) (2 + (t.toNat * 21) + 2) [.int .u16 ((S.tcb t.toNat).wait.idx)]) ∧ (0 ≤ ((S.tcb t.toNat).wait.idx) ∧ ((S.tcb t.toNat).wait.idx) < 256) ∧ True) (fuel := 1) h84 (by kernel_rfl) rfl (by kernel_rfl) (by kernel_rfl) ⟨trivial, trivial, trivial, trivial, trivial, trivial, trivial, rfl, trivial, trivial, trivial, trivial, trivial⟩ ⟨⟨rfl, (k_tcb (i := t.toNat) (k := 2) (by omega) (by omega) ⟨rfl, trivial⟩)⟩, ⟨by omega, by omega⟩, trivial⟩ fun a86 h87 => ?_
          clear h84
          refine wpAnyK_one (i := 12) (fuel := 0) (by kernel_rfl) ?_
          refine op_call h87 rfl rfl rfl (callOk Tryd.func100 (by decide) rfl) (args := [.pointer (some ⟨kb, 0, none⟩), .pointer (some ⟨kb, 5378 + ((((S.tcb t.toNat).wait.idx).toNat) * 3), none⟩), .int .i16 t]) rfl (unlink_ok kb bo bc S rS (QL.w (((S.tcb t.toNat).wait.idx).toNat)) (show _ < _ by omega) t ht _ (h87.kn (k := 0) rfl)) ?_
          rintro _ w91 ⟨rfl, hb89, hf90⟩
          refine ⟨_, rfl, ?_⟩
          obtain ⟨S88, eS88⟩ : ∃ S9, S9 = unlinkP S (QL.w (((S.tcb t.toNat).wait.idx).toNat)) t := ⟨_, rfl⟩
          rw [← eS88] at hb89
          have rS88 : RI S88 := by rw [eS88]; exact unlink_RI rS (show _ < _ by omega) ht
          have h92 := (h87.setBlk (k := 0) rfl rfl hf90 hb89 (L' := [(kb, ⟨kC bo bc S88, 90, false⟩)]) rfl).put (d := some 75) (v := .tuple #[]) (T' := [(75, .tuple #[]), (0, .pointer (some ⟨kb, 0, none⟩)), (1, .int .i16 t), (4, .pointer (some ⟨kb, 2 + (t.toNat * 21), none⟩)), (14, .int .u8 ((S.tcb t.toNat).st)), (59, .bool ((S.tcb t.toNat).st == 3)), (63, .pointer (some ⟨kb, 0, none⟩)), (73, .pointer (some ⟨kb, 5378 + ((((S.tcb t.toNat).wait.idx).toNat) * 3), none⟩)), (74, .int .i16 t)]) rfl
          have hkh92 := h87.known
          refine ⟨keepNil, ?_⟩
          clear h87
          have hpS88 := (rS88.t (i := t.toNat) (by omega)).pr
          have hwS88 := (rS88.t (i := t.toNat) (by omega)).wi
          refine wpAnyK_done (by kernel_rfl) ?_ _
          refine hK4 _ _ ?_
          clear hK4
          refine nd_start (l := [0, 1, 2, 3, 4, 5, 6, 7, 8, 9, 10]) rfl ?_
          refine nd_batch tabOk tabZ_ok [(0, {}), (1, {}), (2, {}), (3, {}), (4, {}), (5, {})] [0, 1, 4, 14, 59, 77, 78, 81] (T' := [(0, .pointer (some ⟨kb, 0, none⟩)), (1, .int .i16 t), (4, .pointer (some ⟨kb, 2 + (t.toNat * 21), none⟩)), (14, .int .u8 ((S.tcb t.toNat).st)), (59, .bool ((S.tcb t.toNat).st == 3)), (77, .pointer (some ⟨kb, 2 + (t.toNat * 21), none⟩)), (78, .agg #[.int .u16 0, .int .u32 0]), (81, .pointer (some ⟨kb, 2 + (t.toNat * 21), none⟩))]) (φ := True) (rest := [6, 7, 8, 9, 10]) h92 (by kernel_rfl) rfl trivial fun a93 h94 => ?_
          clear h92
          refine nd_op ?_
          refine op_store tabOk {k := 0, m := 1, vs := kC bo bc (S88.setT t.toNat { S88.tcb t.toNat with st := 0 })} (L' := [(kb, ⟨kC bo bc (S88.setT t.toNat { S88.tcb t.toNat with st := 0 }), 90, false⟩)]) (φ := kb = kb ∧ Nat.ble (2 + (t.toNat * 21) + 1) (kC bo bc S88).length = true ∧ splice (kC bo bc S88) (2 + (t.toNat * 21)) [.int .u8 0] = kC bo bc (S88.setT t.toNat { S88.tcb t.toNat with st := 0 })) h94 rfl rfl rfl (by kernel_rfl) ⟨rfl, k_in (by omega), (k_tcb_w (i := t.toNat) (k := 0) (by omega) (Nat.le_of_ble_eq_true rfl) (by omega) rfl)⟩ fun w96 h97 => ?_
          obtain ⟨S95, eS95⟩ : ∃ S9, S9 = (S88.setT t.toNat { S88.tcb t.toNat with st := 0 }) := ⟨_, rfl⟩
          rw [← eS95] at h97
          have rS95 : RI S95 := by rw [eS95]; exact rS88.setT ⟨(rS88.t (i := t.toNat) (by omega)).nx, (rS88.t (i := t.toNat) (by omega)).pv, (rS88.t (i := t.toNat) (by omega)).pr, (rS88.t (i := t.toNat) (by omega)).wi, (rS88.t (i := t.toNat) (by omega)).ci, (rS88.t (i := t.toNat) (by omega)).ri, (rS88.t (i := t.toNat) (by omega)).ds⟩
          clear h94
          have hpS95 := (rS95.t (i := t.toNat) (by omega)).pr
          have hwS95 := (rS95.t (i := t.toNat) (by omega)).wi
          refine nd_batch tabOk tabZ_ok [(7, {}), (8, {}), (9, {})] [0, 1, 4, 14, 59, 78, 84] (T' := [(0, .pointer (some ⟨kb, 0, none⟩)), (1, .int .i16 t), (4, .pointer (some ⟨kb, 2 + (t.toNat * 21), none⟩)), (14, .int .u8 ((S.tcb t.toNat).st)), (59, .bool ((S.tcb t.toNat).st == 3)), (78, .agg #[.int .u16 0, .int .u32 0]), (84, .pointer (some ⟨kb, 2 + (t.toNat * 21) + 2, none⟩))]) (φ := True) (rest := [10]) h97 (by kernel_rfl) rfl trivial fun a98 h99 => ?_
          clear h97
          refine nd_op ?_
          refine op_store tabOk {k := 0, m := 1, vs := kC bo bc (S95.setT t.toNat { S95.tcb t.toNat with wait := ⟨0, 0⟩ })} (L' := [(kb, ⟨kC bo bc (S95.setT t.toNat { S95.tcb t.toNat with wait := ⟨0, 0⟩ }), 90, false⟩)]) (φ := kb = kb ∧ Nat.ble (2 + (t.toNat * 21) + 2 + 2) (kC bo bc S95).length = true ∧ splice (kC bo bc S95) (2 + (t.toNat * 21) + 2) [.int .u16 0, .int .u32 0] = kC bo bc (S95.setT t.toNat { S95.tcb t.toNat with wait := ⟨0, 0⟩ })) h99 rfl rfl rfl (by kernel_rfl) ⟨rfl, k_in (by omega), (k_tcb_w (i := t.toNat) (k := 2) (by omega) (Nat.le_of_ble_eq_true rfl) (by omega) rfl)⟩ fun w101 h102 => ?_
          obtain ⟨S100, eS100⟩ : ∃ S9, S9 = (S95.setT t.toNat { S95.tcb t.toNat with wait := ⟨0, 0⟩ }) := ⟨_, rfl⟩
          rw [← eS100] at h102
          have rS100 : RI S100 := by rw [eS100]; exact rS95.setT ⟨(rS95.t (i := t.toNat) (by omega)).nx, (rS95.t (i := t.toNat) (by omega)).pv, (rS95.t (i := t.toNat) (by omega)).pr, z256, (rS95.t (i := t.toNat) (by omega)).ci, (rS95.t (i := t.toNat) (by omega)).ri, (rS95.t (i := t.toNat) (by omega)).ds⟩
          clear h99
          have hpS100 := (rS100.t (i := t.toNat) (by omega)).pr
          have hwS100 := (rS100.t (i := t.toNat) (by omega)).wi
          refine nd_done ?_
          try simp only [Exit.then, Exit.inBlock]
          try rw [if_pos trivial]
          exact s_end tabOk tabZ_ok h102 [] (vs := []) (φ := True) rfl (by kernel_rfl) trivial ⟨rfl, (by rw [show leaveP S t = S100 from (by unfold leaveP leave1; simp only; (first | rw [if_neg hc11f] | rw [if_neg (fun hz => hz hc11f)]); (first | rw [if_neg hc30f] | rw [if_neg (fun hz => hz hc30f)]); (first | rw [if_pos (.inl hc81f)] | rw [if_pos (fun hz => hz (.inl hc81f))]); rw [← eS88]; rw [← eS95]; rw [← eS100])]; exact h102.kn (k := 0) rfl), h102.frame⟩
        ·
          exact absurd (hc82.symm.trans hc81) (by decide)
      ·
        have hc81f : (S.tcb t.toNat).st ≠ 3 := by simpa using hc81
        refine wp_seq_k fun K103 hK103 => ?_
        refine nd_start (l := [0, 1]) rfl ?_
        refine nd_batch tabOk tabZ_ok [(0, {}), (1, {})] [0, 1, 4, 14, 59] (T' := [(0, .pointer (some ⟨kb, 0, none⟩)), (1, .int .i16 t), (4, .pointer (some ⟨kb, 2 + (t.toNat * 21), none⟩)), (14, .int .u8 ((S.tcb t.toNat).st)), (59, .bool ((S.tcb t.toNat).st == 4))]) (φ := True) (rest := []) h80 (by kernel_rfl) rfl trivial fun a104 h105 => ?_
        clear h80
        refine nd_done ?_
        refine hK103 _ _ ?_
        clear hK103
        refine c_split h105 (b := ((S.tcb t.toNat).st == 4)) rfl (fun hc106 => ?_) (fun hc106 => ?_)
        ·
          have hc106f : (S.tcb t.toNat).st = 4 := by simpa using hc106
          refine wp_skip ?_
          refine hK77 _ _ ?_
          clear hK77
          refine c_split h105 (b := ((S.tcb t.toNat).st == 4)) rfl (fun hc107 => ?_) (fun hc107 => ?_)
          ·
            have hc107f : (S.tcb t.toNat).st = 4 := by simpa using hc107
            refine dr_start (KB := [kb]) (Bi := [[0], [0], [0], [0], [0], [0], [0], [0], [0], [0], [0], [0], []]) mixed h105 fun w108 h109 => ?_
            clear h105
            refine dr_batch tabOk tabZ_ok (by repeat (first | with_reducible exact PF.body | with_reducible apply PF.inB | with_reducible apply PF.next)) [(0, {}), (1, {}), (2, {}), (3, {}), (4, {}), (5, {}), (6, {}), (7, {k := 0, m := 1, vs := [.int .u16 ((S.tcb t.toNat).wait.idx)], p := 0}), (8, {}), (9, {}), (10, {}), (11, {})] [0, 1, 4, 14, 59, 63, 73, 74] (T' := [(0, .pointer (some ⟨kb, 0, none⟩)), (1, .int .i16 t), (4, .pointer (some ⟨kb, 2 + (t.toNat * 21), none⟩)), (14, .int .u8 ((S.tcb t.toNat).st)), (59, .bool ((S.tcb t.toNat).st == 4)), (63, .pointer (some ⟨kb, 0, none⟩)), (73, .pointer (some ⟨kb, 5378 + ((((S.tcb t.toNat).wait.idx).toNat) * 3), none⟩)), (74, .int .i16 t)]) (φ := (kb = kb ∧ cellsAre (kC bo bc S) (2 + (t.toNat * 21) + 2) [.int .u16 ((S.tcb t.toNat).wait.idx)]) ∧ (0 ≤ ((S.tcb t.toNat).wait.idx) ∧ ((S.tcb t.toNat).wait.idx) < 256) ∧ True) (fuel := 1) h109 (by kernel_rfl) rfl (by kernel_rfl) (by kernel_rfl) ⟨trivial, trivial, trivial, trivial, trivial, trivial, trivial, rfl, trivial, trivial, trivial, trivial, trivial⟩ ⟨⟨rfl, (k_tcb (i := t.toNat) (k := 2) (by omega) (by omega) ⟨rfl, trivial⟩)⟩, ⟨by omega, by omega⟩, trivial⟩ fun a111 h112 => ?_
            clear h109
            refine wpAnyK_one (i := 12) (fuel := 0) (by kernel_rfl) ?_
            refine op_call h112 rfl rfl rfl (callOk Tryd.func100 (by decide) rfl) (args := [.pointer (some ⟨kb, 0, none⟩), .pointer (some ⟨kb, 5378 + ((((S.tcb t.toNat).wait.idx).toNat) * 3), none⟩), .int .i16 t]) rfl (unlink_ok kb bo bc S rS (QL.w (((S.tcb t.toNat).wait.idx).toNat)) (show _ < _ by omega) t ht _ (h112.kn (k := 0) rfl)) ?_
            rintro _ w116 ⟨rfl, hb114, hf115⟩
            refine ⟨_, rfl, ?_⟩
            obtain ⟨S113, eS113⟩ : ∃ S9, S9 = unlinkP S (QL.w (((S.tcb t.toNat).wait.idx).toNat)) t := ⟨_, rfl⟩
            rw [← eS113] at hb114
            have rS113 : RI S113 := by rw [eS113]; exact unlink_RI rS (show _ < _ by omega) ht
            have h117 := (h112.setBlk (k := 0) rfl rfl hf115 hb114 (L' := [(kb, ⟨kC bo bc S113, 90, false⟩)]) rfl).put (d := some 75) (v := .tuple #[]) (T' := [(75, .tuple #[]), (0, .pointer (some ⟨kb, 0, none⟩)), (1, .int .i16 t), (4, .pointer (some ⟨kb, 2 + (t.toNat * 21), none⟩)), (14, .int .u8 ((S.tcb t.toNat).st)), (59, .bool ((S.tcb t.toNat).st == 4)), (63, .pointer (some ⟨kb, 0, none⟩)), (73, .pointer (some ⟨kb, 5378 + ((((S.tcb t.toNat).wait.idx).toNat) * 3), none⟩)), (74, .int .i16 t)]) rfl
            have hkh117 := h112.known
            refine ⟨keepNil, ?_⟩
            clear h112
            have hpS113 := (rS113.t (i := t.toNat) (by omega)).pr
            have hwS113 := (rS113.t (i := t.toNat) (by omega)).wi
            refine wpAnyK_done (by kernel_rfl) ?_ _
            refine hK4 _ _ ?_
            clear hK4
            refine nd_start (l := [0, 1, 2, 3, 4, 5, 6, 7, 8, 9, 10]) rfl ?_
            refine nd_batch tabOk tabZ_ok [(0, {}), (1, {}), (2, {}), (3, {}), (4, {}), (5, {})] [0, 1, 4, 14, 59, 77, 78, 81] (T' := [(0, .pointer (some ⟨kb, 0, none⟩)), (1, .int .i16 t), (4, .pointer (some ⟨kb, 2 + (t.toNat * 21), none⟩)), (14, .int .u8 ((S.tcb t.toNat).st)), (59, .bool ((S.tcb t.toNat).st == 4)), (77, .pointer (some ⟨kb, 2 + (t.toNat * 21), none⟩)), (78, .agg #[.int .u16 0, .int .u32 0]), (81, .pointer (some ⟨kb, 2 + (t.toNat * 21), none⟩))]) (φ := True) (rest := [6, 7, 8, 9, 10]) h117 (by kernel_rfl) rfl trivial fun a118 h119 => ?_
            clear h117
            refine nd_op ?_
            refine op_store tabOk {k := 0, m := 1, vs := kC bo bc (S113.setT t.toNat { S113.tcb t.toNat with st := 0 })} (L' := [(kb, ⟨kC bo bc (S113.setT t.toNat { S113.tcb t.toNat with st := 0 }), 90, false⟩)]) (φ := kb = kb ∧ Nat.ble (2 + (t.toNat * 21) + 1) (kC bo bc S113).length = true ∧ splice (kC bo bc S113) (2 + (t.toNat * 21)) [.int .u8 0] = kC bo bc (S113.setT t.toNat { S113.tcb t.toNat with st := 0 })) h119 rfl rfl rfl (by kernel_rfl) ⟨rfl, k_in (by omega), (k_tcb_w (i := t.toNat) (k := 0) (by omega) (Nat.le_of_ble_eq_true rfl) (by omega) rfl)⟩ fun w121 h122 => ?_
            obtain ⟨S120, eS120⟩ : ∃ S9, S9 = (S113.setT t.toNat { S113.tcb t.toNat with st := 0 }) := ⟨_, rfl⟩
            rw [← eS120] at h122
            have rS120 : RI S120 := by rw [eS120]; exact rS113.setT ⟨(rS113.t (i := t.toNat) (by omega)).nx, (rS113.t (i := t.toNat) (by omega)).pv, (rS113.t (i := t.toNat) (by omega)).pr, (rS113.t (i := t.toNat) (by omega)).wi, (rS113.t (i := t.toNat) (by omega)).ci, (rS113.t (i := t.toNat) (by omega)).ri, (rS113.t (i := t.toNat) (by omega)).ds⟩
            clear h119
            have hpS120 := (rS120.t (i := t.toNat) (by omega)).pr
            have hwS120 := (rS120.t (i := t.toNat) (by omega)).wi
            refine nd_batch tabOk tabZ_ok [(7, {}), (8, {}), (9, {})] [0, 1, 4, 14, 59, 78, 84] (T' := [(0, .pointer (some ⟨kb, 0, none⟩)), (1, .int .i16 t), (4, .pointer (some ⟨kb, 2 + (t.toNat * 21), none⟩)), (14, .int .u8 ((S.tcb t.toNat).st)), (59, .bool ((S.tcb t.toNat).st == 4)), (78, .agg #[.int .u16 0, .int .u32 0]), (84, .pointer (some ⟨kb, 2 + (t.toNat * 21) + 2, none⟩))]) (φ := True) (rest := [10]) h122 (by kernel_rfl) rfl trivial fun a123 h124 => ?_
            clear h122
            refine nd_op ?_
            refine op_store tabOk {k := 0, m := 1, vs := kC bo bc (S120.setT t.toNat { S120.tcb t.toNat with wait := ⟨0, 0⟩ })} (L' := [(kb, ⟨kC bo bc (S120.setT t.toNat { S120.tcb t.toNat with wait := ⟨0, 0⟩ }), 90, false⟩)]) (φ := kb = kb ∧ Nat.ble (2 + (t.toNat * 21) + 2 + 2) (kC bo bc S120).length = true ∧ splice (kC bo bc S120) (2 + (t.toNat * 21) + 2) [.int .u16 0, .int .u32 0] = kC bo bc (S120.setT t.toNat { S120.tcb t.toNat with wait := ⟨0, 0⟩ })) h124 rfl rfl rfl (by kernel_rfl) ⟨rfl, k_in (by omega), (k_tcb_w (i := t.toNat) (k := 2) (by omega) (Nat.le_of_ble_eq_true rfl) (by omega) rfl)⟩ fun w126 h127 => ?_
            obtain ⟨S125, eS125⟩ : ∃ S9, S9 = (S120.setT t.toNat { S120.tcb t.toNat with wait := ⟨0, 0⟩ }) := ⟨_, rfl⟩
            rw [← eS125] at h127
            have rS125 : RI S125 := by rw [eS125]; exact rS120.setT ⟨(rS120.t (i := t.toNat) (by omega)).nx, (rS120.t (i := t.toNat) (by omega)).pv, (rS120.t (i := t.toNat) (by omega)).pr, z256, (rS120.t (i := t.toNat) (by omega)).ci, (rS120.t (i := t.toNat) (by omega)).ri, (rS120.t (i := t.toNat) (by omega)).ds⟩
            clear h124
            have hpS125 := (rS125.t (i := t.toNat) (by omega)).pr
            have hwS125 := (rS125.t (i := t.toNat) (by omega)).wi
            refine nd_done ?_
            try simp only [Exit.then, Exit.inBlock]
            try rw [if_pos trivial]
            exact s_end tabOk tabZ_ok h127 [] (vs := []) (φ := True) rfl (by kernel_rfl) trivial ⟨rfl, (by rw [show leaveP S t = S125 from (by unfold leaveP leave1; simp only; (first | rw [if_neg hc11f] | rw [if_neg (fun hz => hz hc11f)]); (first | rw [if_neg hc30f] | rw [if_neg (fun hz => hz hc30f)]); (first | rw [if_pos (.inr (.inl hc106f))] | rw [if_pos (fun hz => hz (.inr (.inl hc106f)))]); rw [← eS113]; rw [← eS120]; rw [← eS125])]; exact h127.kn (k := 0) rfl), h127.frame⟩
          ·
            exact absurd (hc107.symm.trans hc106) (by decide)
        ·
          have hc106f : (S.tcb t.toNat).st ≠ 4 := by simpa using hc106
          refine nd_start (l := [0, 1]) rfl ?_
          refine nd_batch tabOk tabZ_ok [(0, {}), (1, {})] [0, 1, 4, 14, 59] (T' := [(0, .pointer (some ⟨kb, 0, none⟩)), (1, .int .i16 t), (4, .pointer (some ⟨kb, 2 + (t.toNat * 21), none⟩)), (14, .int .u8 ((S.tcb t.toNat).st)), (59, .bool ((S.tcb t.toNat).st == 5))]) (φ := True) (rest := []) h105 (by kernel_rfl) rfl trivial fun a128 h129 => ?_
          clear h105
          refine nd_done ?_
          refine hK77 _ _ ?_
          clear hK77
          refine c_split h129 (b := ((S.tcb t.toNat).st == 5)) rfl (fun hc130 => ?_) (fun hc130 => ?_)
          ·
            have hc130f : (S.tcb t.toNat).st = 5 := by simpa using hc130
            refine dr_start (KB := [kb]) (Bi := [[0], [0], [0], [0], [0], [0], [0], [0], [0], [0], [0], [0], []]) mixed h129 fun w131 h132 => ?_
            clear h129
            refine dr_batch tabOk tabZ_ok (by repeat (first | with_reducible exact PF.body | with_reducible apply PF.inB | with_reducible apply PF.next)) [(0, {}), (1, {}), (2, {}), (3, {}), (4, {}), (5, {}), (6, {}), (7, {k := 0, m := 1, vs := [.int .u16 ((S.tcb t.toNat).wait.idx)], p := 0}), (8, {}), (9, {}), (10, {}), (11, {})] [0, 1, 4, 14, 59, 63, 73, 74] (T' := [(0, .pointer (some ⟨kb, 0, none⟩)), (1, .int .i16 t), (4, .pointer (some ⟨kb, 2 + (t.toNat * 21), none⟩)), (14, .int .u8 ((S.tcb t.toNat).st)), (59, .bool ((S.tcb t.toNat).st == 5)), (63, .pointer (some ⟨kb, 0, none⟩)), (73, .pointer (some ⟨kb, 5378 + ((((S.tcb t.toNat).wait.idx).toNat) * 3), none⟩)), (74, .int .i16 t)]) (φ := (kb = kb ∧ cellsAre (kC bo bc S) (2 + (t.toNat * 21) + 2) [.int .u16 ((S.tcb t.toNat).wait.idx)]) ∧ (0 ≤ ((S.tcb t.toNat).wait.idx) ∧ ((S.tcb t.toNat).wait.idx) < 256) ∧ True) (fuel := 1) h132 (by kernel_rfl) rfl (by kernel_rfl) (by kernel_rfl) ⟨trivial, trivial, trivial, trivial, trivial, trivial, trivial, rfl, trivial, trivial, trivial, trivial, trivial⟩ ⟨⟨rfl, (k_tcb (i := t.toNat) (k := 2) (by omega) (by omega) ⟨rfl, trivial⟩)⟩, ⟨by omega, by omega⟩, trivial⟩ fun a134 h135 => ?_
            clear h132
            refine wpAnyK_one (i := 12) (fuel := 0) (by kernel_rfl) ?_
            refine op_call h135 rfl rfl rfl (callOk Tryd.func100 (by decide) rfl) (args := [.pointer (some ⟨kb, 0, none⟩), .pointer (some ⟨kb, 5378 + ((((S.tcb t.toNat).wait.idx).toNat) * 3), none⟩), .int .i16 t]) rfl (unlink_ok kb bo bc S rS (QL.w (((S.tcb t.toNat).wait.idx).toNat)) (show _ < _ by omega) t ht _ (h135.kn (k := 0) rfl)) ?_
            rintro _ w139 ⟨rfl, hb137, hf138⟩
            refine ⟨_, rfl, ?_⟩
            obtain ⟨S136, eS136⟩ : ∃ S9, S9 = unlinkP S (QL.w (((S.tcb t.toNat).wait.idx).toNat)) t := ⟨_, rfl⟩
            rw [← eS136] at hb137
            have rS136 : RI S136 := by rw [eS136]; exact unlink_RI rS (show _ < _ by omega) ht
            have h140 := (h135.setBlk (k := 0) rfl rfl hf138 hb137 (L' := [(kb, ⟨kC bo bc S136, 90, false⟩)]) rfl).put (d := some 75) (v := .tuple #[]) (T' := [(75, .tuple #[]), (0, .pointer (some ⟨kb, 0, none⟩)), (1, .int .i16 t), (4, .pointer (some ⟨kb, 2 + (t.toNat * 21), none⟩)), (14, .int .u8 ((S.tcb t.toNat).st)), (59, .bool ((S.tcb t.toNat).st == 5)), (63, .pointer (some ⟨kb, 0, none⟩)), (73, .pointer (some ⟨kb, 5378 + ((((S.tcb t.toNat).wait.idx).toNat) * 3), none⟩)), (74, .int .i16 t)]) rfl
            have hkh140 := h135.known
            refine ⟨keepNil, ?_⟩
            clear h135
            have hpS136 := (rS136.t (i := t.toNat) (by omega)).pr
            have hwS136 := (rS136.t (i := t.toNat) (by omega)).wi
            refine wpAnyK_done (by kernel_rfl) ?_ _
            refine hK4 _ _ ?_
            clear hK4
            refine nd_start (l := [0, 1, 2, 3, 4, 5, 6, 7, 8, 9, 10]) rfl ?_
            refine nd_batch tabOk tabZ_ok [(0, {}), (1, {}), (2, {}), (3, {}), (4, {}), (5, {})] [0, 1, 4, 14, 59, 77, 78, 81] (T' := [(0, .pointer (some ⟨kb, 0, none⟩)), (1, .int .i16 t), (4, .pointer (some ⟨kb, 2 + (t.toNat * 21), none⟩)), (14, .int .u8 ((S.tcb t.toNat).st)), (59, .bool ((S.tcb t.toNat).st == 5)), (77, .pointer (some ⟨kb, 2 + (t.toNat * 21), none⟩)), (78, .agg #[.int .u16 0, .int .u32 0]), (81, .pointer (some ⟨kb, 2 + (t.toNat * 21), none⟩))]) (φ := True) (rest := [6, 7, 8, 9, 10]) h140 (by kernel_rfl) rfl trivial fun a141 h142 => ?_
            clear h140
            refine nd_op ?_
            refine op_store tabOk {k := 0, m := 1, vs := kC bo bc (S136.setT t.toNat { S136.tcb t.toNat with st := 0 })} (L' := [(kb, ⟨kC bo bc (S136.setT t.toNat { S136.tcb t.toNat with st := 0 }), 90, false⟩)]) (φ := kb = kb ∧ Nat.ble (2 + (t.toNat * 21) + 1) (kC bo bc S136).length = true ∧ splice (kC bo bc S136) (2 + (t.toNat * 21)) [.int .u8 0] = kC bo bc (S136.setT t.toNat { S136.tcb t.toNat with st := 0 })) h142 rfl rfl rfl (by kernel_rfl) ⟨rfl, k_in (by omega), (k_tcb_w (i := t.toNat) (k := 0) (by omega) (Nat.le_of_ble_eq_true rfl) (by omega) rfl)⟩ fun w144 h145 => ?_
            obtain ⟨S143, eS143⟩ : ∃ S9, S9 = (S136.setT t.toNat { S136.tcb t.toNat with st := 0 }) := ⟨_, rfl⟩
            rw [← eS143] at h145
            have rS143 : RI S143 := by rw [eS143]; exact rS136.setT ⟨(rS136.t (i := t.toNat) (by omega)).nx, (rS136.t (i := t.toNat) (by omega)).pv, (rS136.t (i := t.toNat) (by omega)).pr, (rS136.t (i := t.toNat) (by omega)).wi, (rS136.t (i := t.toNat) (by omega)).ci, (rS136.t (i := t.toNat) (by omega)).ri, (rS136.t (i := t.toNat) (by omega)).ds⟩
            clear h142
            have hpS143 := (rS143.t (i := t.toNat) (by omega)).pr
            have hwS143 := (rS143.t (i := t.toNat) (by omega)).wi
            refine nd_batch tabOk tabZ_ok [(7, {}), (8, {}), (9, {})] [0, 1, 4, 14, 59, 78, 84] (T' := [(0, .pointer (some ⟨kb, 0, none⟩)), (1, .int .i16 t), (4, .pointer (some ⟨kb, 2 + (t.toNat * 21), none⟩)), (14, .int .u8 ((S.tcb t.toNat).st)), (59, .bool ((S.tcb t.toNat).st == 5)), (78, .agg #[.int .u16 0, .int .u32 0]), (84, .pointer (some ⟨kb, 2 + (t.toNat * 21) + 2, none⟩))]) (φ := True) (rest := [10]) h145 (by kernel_rfl) rfl trivial fun a146 h147 => ?_
            clear h145
            refine nd_op ?_
            refine op_store tabOk {k := 0, m := 1, vs := kC bo bc (S143.setT t.toNat { S143.tcb t.toNat with wait := ⟨0, 0⟩ })} (L' := [(kb, ⟨kC bo bc (S143.setT t.toNat { S143.tcb t.toNat with wait := ⟨0, 0⟩ }), 90, false⟩)]) (φ := kb = kb ∧ Nat.ble (2 + (t.toNat * 21) + 2 + 2) (kC bo bc S143).length = true ∧ splice (kC bo bc S143) (2 + (t.toNat * 21) + 2) [.int .u16 0, .int .u32 0] = kC bo bc (S143.setT t.toNat { S143.tcb t.toNat with wait := ⟨0, 0⟩ })) h147 rfl rfl rfl (by kernel_rfl) ⟨rfl, k_in (by omega), (k_tcb_w (i := t.toNat) (k := 2) (by omega) (Nat.le_of_ble_eq_true rfl) (by omega) rfl)⟩ fun w149 h150 => ?_
            obtain ⟨S148, eS148⟩ : ∃ S9, S9 = (S143.setT t.toNat { S143.tcb t.toNat with wait := ⟨0, 0⟩ }) := ⟨_, rfl⟩
            rw [← eS148] at h150
            have rS148 : RI S148 := by rw [eS148]; exact rS143.setT ⟨(rS143.t (i := t.toNat) (by omega)).nx, (rS143.t (i := t.toNat) (by omega)).pv, (rS143.t (i := t.toNat) (by omega)).pr, z256, (rS143.t (i := t.toNat) (by omega)).ci, (rS143.t (i := t.toNat) (by omega)).ri, (rS143.t (i := t.toNat) (by omega)).ds⟩
            clear h147
            have hpS148 := (rS148.t (i := t.toNat) (by omega)).pr
            have hwS148 := (rS148.t (i := t.toNat) (by omega)).wi
            refine nd_done ?_
            try simp only [Exit.then, Exit.inBlock]
            try rw [if_pos trivial]
            exact s_end tabOk tabZ_ok h150 [] (vs := []) (φ := True) rfl (by kernel_rfl) trivial ⟨rfl, (by rw [show leaveP S t = S148 from (by unfold leaveP leave1; simp only; (first | rw [if_neg hc11f] | rw [if_neg (fun hz => hz hc11f)]); (first | rw [if_neg hc30f] | rw [if_neg (fun hz => hz hc30f)]); (first | rw [if_pos (.inr (.inr hc130f))] | rw [if_pos (fun hz => hz (.inr (.inr hc130f)))]); rw [← eS136]; rw [← eS143]; rw [← eS148])]; exact h150.kn (k := 0) rfl), h150.frame⟩
          ·
            have hc130f : (S.tcb t.toNat).st ≠ 5 := by simpa using hc130
            refine wp_skip ?_
            refine hK4 _ _ ?_
            clear hK4
            refine nd_start (l := [0, 1, 2, 3, 4, 5, 6, 7, 8, 9, 10]) rfl ?_
            refine nd_batch tabOk tabZ_ok [(0, {}), (1, {}), (2, {}), (3, {}), (4, {}), (5, {})] [0, 1, 4, 14, 59, 77, 78, 81] (T' := [(0, .pointer (some ⟨kb, 0, none⟩)), (1, .int .i16 t), (4, .pointer (some ⟨kb, 2 + (t.toNat * 21), none⟩)), (14, .int .u8 ((S.tcb t.toNat).st)), (59, .bool ((S.tcb t.toNat).st == 5)), (77, .pointer (some ⟨kb, 2 + (t.toNat * 21), none⟩)), (78, .agg #[.int .u16 0, .int .u32 0]), (81, .pointer (some ⟨kb, 2 + (t.toNat * 21), none⟩))]) (φ := True) (rest := [6, 7, 8, 9, 10]) h129 (by kernel_rfl) rfl trivial fun a151 h152 => ?_
            clear h129
            refine nd_op ?_
            refine op_store tabOk {k := 0, m := 1, vs := kC bo bc (S.setT t.toNat { S.tcb t.toNat with st := 0 })} (L' := [(kb, ⟨kC bo bc (S.setT t.toNat { S.tcb t.toNat with st := 0 }), 90, false⟩)]) (φ := kb = kb ∧ Nat.ble (2 + (t.toNat * 21) + 1) (kC bo bc S).length = true ∧ splice (kC bo bc S) (2 + (t.toNat * 21)) [.int .u8 0] = kC bo bc (S.setT t.toNat { S.tcb t.toNat with st := 0 })) h152 rfl rfl rfl (by kernel_rfl) ⟨rfl, k_in (by omega), (k_tcb_w (i := t.toNat) (k := 0) (by omega) (Nat.le_of_ble_eq_true rfl) (by omega) rfl)⟩ fun w154 h155 => ?_
            obtain ⟨S153, eS153⟩ : ∃ S9, S9 = (S.setT t.toNat { S.tcb t.toNat with st := 0 }) := ⟨_, rfl⟩
            rw [← eS153] at h155
            have rS153 : RI S153 := by rw [eS153]; exact rS.setT ⟨(rS.t (i := t.toNat) (by omega)).nx, (rS.t (i := t.toNat) (by omega)).pv, (rS.t (i := t.toNat) (by omega)).pr, (rS.t (i := t.toNat) (by omega)).wi, (rS.t (i := t.toNat) (by omega)).ci, (rS.t (i := t.toNat) (by omega)).ri, (rS.t (i := t.toNat) (by omega)).ds⟩
            clear h152
            have hpS153 := (rS153.t (i := t.toNat) (by omega)).pr
            have hwS153 := (rS153.t (i := t.toNat) (by omega)).wi
            refine nd_batch tabOk tabZ_ok [(7, {}), (8, {}), (9, {})] [0, 1, 4, 14, 59, 78, 84] (T' := [(0, .pointer (some ⟨kb, 0, none⟩)), (1, .int .i16 t), (4, .pointer (some ⟨kb, 2 + (t.toNat * 21), none⟩)), (14, .int .u8 ((S.tcb t.toNat).st)), (59, .bool ((S.tcb t.toNat).st == 5)), (78, .agg #[.int .u16 0, .int .u32 0]), (84, .pointer (some ⟨kb, 2 + (t.toNat * 21) + 2, none⟩))]) (φ := True) (rest := [10]) h155 (by kernel_rfl) rfl trivial fun a156 h157 => ?_
            clear h155
            refine nd_op ?_
            refine op_store tabOk {k := 0, m := 1, vs := kC bo bc (S153.setT t.toNat { S153.tcb t.toNat with wait := ⟨0, 0⟩ })} (L' := [(kb, ⟨kC bo bc (S153.setT t.toNat { S153.tcb t.toNat with wait := ⟨0, 0⟩ }), 90, false⟩)]) (φ := kb = kb ∧ Nat.ble (2 + (t.toNat * 21) + 2 + 2) (kC bo bc S153).length = true ∧ splice (kC bo bc S153) (2 + (t.toNat * 21) + 2) [.int .u16 0, .int .u32 0] = kC bo bc (S153.setT t.toNat { S153.tcb t.toNat with wait := ⟨0, 0⟩ })) h157 rfl rfl rfl (by kernel_rfl) ⟨rfl, k_in (by omega), (k_tcb_w (i := t.toNat) (k := 2) (by omega) (Nat.le_of_ble_eq_true rfl) (by omega) rfl)⟩ fun w159 h160 => ?_
            obtain ⟨S158, eS158⟩ : ∃ S9, S9 = (S153.setT t.toNat { S153.tcb t.toNat with wait := ⟨0, 0⟩ }) := ⟨_, rfl⟩
            rw [← eS158] at h160
            have rS158 : RI S158 := by rw [eS158]; exact rS153.setT ⟨(rS153.t (i := t.toNat) (by omega)).nx, (rS153.t (i := t.toNat) (by omega)).pv, (rS153.t (i := t.toNat) (by omega)).pr, z256, (rS153.t (i := t.toNat) (by omega)).ci, (rS153.t (i := t.toNat) (by omega)).ri, (rS153.t (i := t.toNat) (by omega)).ds⟩
            clear h157
            have hpS158 := (rS158.t (i := t.toNat) (by omega)).pr
            have hwS158 := (rS158.t (i := t.toNat) (by omega)).wi
            refine nd_done ?_
            try simp only [Exit.then, Exit.inBlock]
            try rw [if_pos trivial]
            exact s_end tabOk tabZ_ok h160 [] (vs := []) (φ := True) rfl (by kernel_rfl) trivial ⟨rfl, (by rw [show leaveP S t = S158 from (by unfold leaveP leave1; simp only; (first | rw [if_neg hc11f] | rw [if_neg (fun hz => hz hc11f)]); (first | rw [if_neg hc30f] | rw [if_neg (fun hz => hz hc30f)]); (first | rw [if_neg (fun hq => hq.elim hc81f (fun hq => hq.elim hc106f hc130f))] | rw [if_neg (fun hz => hz (fun hq => hq.elim hc81f (fun hq => hq.elim hc106f hc130f)))]); rw [← eS153]; rw [← eS158])]; exact h160.kn (k := 0) rfl), h160.frame⟩

theorem wake_ok (kb bo bc : Nat) (S : KP) (rS : RI S) (t : Int) (ht : 0 ≤ t ∧ t < 256) (w : World) (hb : w.heap[kb]? = some (Blk.obj ⟨kC bo bc S, 90, false⟩)) :
    Calls Tryd.prog 47 #[.pointer (some ⟨kb, 0, none⟩), .int .i16 t] w fun e w' => e = .returned (.tuple #[]) ∧ w'.heap[kb]? = some (Blk.obj ⟨kC bo bc (wakeP S t), 90, false⟩) ∧ Fr [kb] w w' := by
  have hpS := (rS.t (i := t.toNat) (by omega)).pr
  have hwS := (rS.t (i := t.toNat) (by omega)).wi
  refine enter0 (n := 42) (K := [kb]) (T := [(0, .pointer (some ⟨kb, 0, none⟩)), (1, .int .i16 t)]) (L := [(kb, ⟨kC bo bc S, 90, false⟩)]) (args := [.pointer (some ⟨kb, 0, none⟩), .int .i16 t]) Tryd.func47 rfl rfl rfl rfl (kcons hb knil) (by simp) (kcons (by simp) knil) ?_
  intro a h
  refine wp_seq_k fun K1 hK1 => ?_
  refine nd_start (l := [0, 1, 2]) rfl ?_
  refine nd_batch tabOk tabZ_ok [(0, {}), (1, {})] [0, 1, 5, 6] (T' := [(0, .pointer (some ⟨kb, 0, none⟩)), (1, .int .i16 t), (5, .pointer (some ⟨kb, 0, none⟩)), (6, .int .i16 t)]) (φ := True) (rest := [2]) h (by kernel_rfl) rfl trivial fun a2 h3 => ?_
  clear h
  refine nd_op ?_
  refine op_call h3 rfl rfl rfl (callOk Tryd.func72 (by decide) rfl) (args := [.pointer (some ⟨kb, 0, none⟩), .int .i16 t]) rfl (leave_ok kb bo bc S rS t ht _ (h3.kn (k := 0) rfl)) ?_
  rintro _ w7 ⟨rfl, hb5, hf6⟩
  refine ⟨_, rfl, ?_⟩
  obtain ⟨S4, eS4⟩ : ∃ S9, S9 = leaveP S t := ⟨_, rfl⟩
  rw [← eS4] at hb5
  have rS4 : RI S4 := by rw [eS4]; exact leave_RI rS ht
  have h8 := (h3.setBlk (k := 0) rfl rfl hf6 hb5 (L' := [(kb, ⟨kC bo bc S4, 90, false⟩)]) rfl).put (d := some 7) (v := .tuple #[]) (T' := [(7, .tuple #[]), (0, .pointer (some ⟨kb, 0, none⟩)), (1, .int .i16 t), (5, .pointer (some ⟨kb, 0, none⟩)), (6, .int .i16 t)]) rfl
  clear h3
  have hpS4 := (rS4.t (i := t.toNat) (by omega)).pr
  have hwS4 := (rS4.t (i := t.toNat) (by omega)).wi
  refine nd_done ?_
  refine hK1 _ _ ?_
  clear hK1
  refine wp_seq_k fun K9 hK9 => ?_
  refine nd_start (l := [0, 1, 2, 3, 4, 5]) rfl ?_
  refine nd_batch tabOk tabZ_ok [(0, {}), (1, {}), (2, {}), (3, {}), (4, {}), (5, {})] [0, 1, 4] (T' := [(0, .pointer (some ⟨kb, 0, none⟩)), (1, .int .i16 t), (4, .pointer (some ⟨kb, 2 + (t.toNat * 21), none⟩))]) (φ := (0 ≤ t ∧ t < 256) ∧ True) (rest := []) h8 (by kernel_rfl) rfl ⟨⟨by omega, by omega⟩, trivial⟩ fun a10 h11 => ?_
  clear h8
  refine nd_done ?_
  refine hK9 _ _ ?_
  clear hK9
  refine wp_seq_k fun K12 hK12 => ?_
  refine nd_start (l := [0, 1, 2, 3, 4]) rfl ?_
  refine nd_batch tabOk tabZ_ok [(0, {}), (1, {}), (2, {}), (3, {})] [0, 1, 4, 16] (T' := [(0, .pointer (some ⟨kb, 0, none⟩)), (1, .int .i16 t), (4, .pointer (some ⟨kb, 2 + (t.toNat * 21), none⟩)), (16, .pointer (some ⟨kb, 2 + (t.toNat * 21), none⟩))]) (φ := True) (rest := [4]) h11 (by kernel_rfl) rfl trivial fun a13 h14 => ?_
  clear h11
  refine nd_op ?_
  refine op_store tabOk {k := 0, m := 1, vs := kC bo bc (S4.setT t.toNat { S4.tcb t.toNat with st := 1 })} (L' := [(kb, ⟨kC bo bc (S4.setT t.toNat { S4.tcb t.toNat with st := 1 }), 90, false⟩)]) (φ := kb = kb ∧ Nat.ble (2 + (t.toNat * 21) + 1) (kC bo bc S4).length = true ∧ splice (kC bo bc S4) (2 + (t.toNat * 21)) [.int .u8 1] = kC bo bc (S4.setT t.toNat { S4.tcb t.toNat with st := 1 })) h14 rfl rfl rfl (by kernel_rfl) ⟨rfl, k_in (by omega), (k_tcb_w (i := t.toNat) (k := 0) (by omega) (Nat.le_of_ble_eq_true rfl) (by omega) rfl)⟩ fun w16 h17 => ?_
  obtain ⟨S15, eS15⟩ : ∃ S9, S9 = (S4.setT t.toNat { S4.tcb t.toNat with st := 1 }) := ⟨_, rfl⟩
  rw [← eS15] at h17
  have rS15 : RI S15 := by rw [eS15]; exact rS4.setT ⟨(rS4.t (i := t.toNat) (by omega)).nx, (rS4.t (i := t.toNat) (by omega)).pv, (rS4.t (i := t.toNat) (by omega)).pr, (rS4.t (i := t.toNat) (by omega)).wi, (rS4.t (i := t.toNat) (by omega)).ci, (rS4.t (i := t.toNat) (by omega)).ri, (rS4.t (i := t.toNat) (by omega)).ds⟩
  clear h14
  have hpS15 := (rS15.t (i := t.toNat) (by omega)).pr
  have hwS15 := (rS15.t (i := t.toNat) (by omega)).wi
  refine nd_done ?_
  refine hK12 _ _ ?_
  clear hK12
  refine wp_seq_k fun K18 hK18 => ?_
  refine dr_start (KB := [kb]) (Bi := [[0], [0], [0], [0], [0], [0], [0], [0], [0], [0], [0], []]) mixed h17 fun w19 h20 => ?_
  clear h17
  refine dr_batch tabOk tabZ_ok (by repeat (first | with_reducible exact PF.body | with_reducible apply PF.inB | with_reducible apply PF.next)) [(0, {}), (1, {}), (2, {}), (3, {}), (4, {}), (5, {}), (6, {k := 0, m := 1, vs := [.int .u8 ((S15.tcb t.toNat).prio)], p := 0}), (7, {}), (8, {}), (9, {}), (10, {})] [0, 1, 4, 17, 26, 27] (T' := [(0, .pointer (some ⟨kb, 0, none⟩)), (1, .int .i16 t), (4, .pointer (some ⟨kb, 2 + (t.toNat * 21), none⟩)), (17, .pointer (some ⟨kb, 0, none⟩)), (26, .pointer (some ⟨kb, 6402 + ((((S15.tcb t.toNat).prio).toNat) * 3), none⟩)), (27, .int .i16 t)]) (φ := (kb = kb ∧ cellsAre (kC bo bc S15) (2 + (t.toNat * 21) + 1) [.int .u8 ((S15.tcb t.toNat).prio)]) ∧ (0 ≤ ((S15.tcb t.toNat).prio) ∧ ((S15.tcb t.toNat).prio) < 8) ∧ True) (fuel := 1) h20 (by kernel_rfl) rfl (by kernel_rfl) (by kernel_rfl) ⟨trivial, trivial, trivial, trivial, trivial, trivial, rfl, trivial, trivial, trivial, trivial, trivial⟩ ⟨⟨rfl, (k_tcb (i := t.toNat) (k := 1) (by omega) (by omega) ⟨rfl, trivial⟩)⟩, ⟨by omega, by omega⟩, trivial⟩ fun a22 h23 => ?_
  clear h20
  refine wpAnyK_one (i := 11) (fuel := 0) (by kernel_rfl) ?_
  refine op_call h23 rfl rfl rfl (callOk Tryd.func73 (by decide) rfl) (args := [.pointer (some ⟨kb, 0, none⟩), .pointer (some ⟨kb, 6402 + ((((S15.tcb t.toNat).prio).toNat) * 3), none⟩), .int .i16 t]) rfl (push_ok kb bo bc S15 rS15 (QL.r (((S15.tcb t.toNat).prio).toNat)) (show _ < _ by omega) t ht _ (h23.kn (k := 0) rfl)) ?_
  rintro _ w27 ⟨rfl, hb25, hf26⟩
  refine ⟨_, rfl, ?_⟩
  obtain ⟨S24, eS24⟩ : ∃ S9, S9 = pushP S15 (QL.r (((S15.tcb t.toNat).prio).toNat)) t := ⟨_, rfl⟩
  rw [← eS24] at hb25
  have rS24 : RI S24 := by rw [eS24]; exact push_RI rS15 (show _ < _ by omega) ht
  have h28 := (h23.setBlk (k := 0) rfl rfl hf26 hb25 (L' := [(kb, ⟨kC bo bc S24, 90, false⟩)]) rfl).put (d := some 28) (v := .tuple #[]) (T' := [(28, .tuple #[]), (0, .pointer (some ⟨kb, 0, none⟩)), (1, .int .i16 t), (4, .pointer (some ⟨kb, 2 + (t.toNat * 21), none⟩)), (17, .pointer (some ⟨kb, 0, none⟩)), (26, .pointer (some ⟨kb, 6402 + ((((S15.tcb t.toNat).prio).toNat) * 3), none⟩)), (27, .int .i16 t)]) rfl
  have hkh28 := h23.known
  refine ⟨keepNil, ?_⟩
  clear h23
  have hpS24 := (rS24.t (i := t.toNat) (by omega)).pr
  have hwS24 := (rS24.t (i := t.toNat) (by omega)).wi
  refine wpAnyK_done (by kernel_rfl) ?_ _
  refine hK18 _ _ ?_
  clear hK18
  refine dr_start (KB := [kb]) (Bi := [[0], [0], [0], [0], [0], [0], [0], [0], [0], [0], [0], [0], [0], []]) mixed h28 fun w29 h30 => ?_
  clear h28
  refine dr_batch tabOk tabZ_ok (by repeat (first | with_reducible exact PF.body | with_reducible apply PF.inB | with_reducible apply PF.next)) [(0, {}), (1, {}), (2, {}), (3, {k := 0, m := 1, vs := [.int .u8 S24.busy], p := 0}), (4, {}), (5, {}), (6, {}), (7, {}), (8, {k := 0, m := 1, vs := [.int .u8 ((S24.tcb t.toNat).prio)], p := 0}), (9, {}), (10, {}), (11, {}), (12, {})] [0, 1, 4, 39, 41] (T' := [(0, .pointer (some ⟨kb, 0, none⟩)), (1, .int .i16 t), (4, .pointer (some ⟨kb, 2 + (t.toNat * 21), none⟩)), (39, .int .u8 (bitI .or .u8 S24.busy (shlI .u8 1 ((S24.tcb t.toNat).prio)))), (41, .pointer (some ⟨kb, 6426, none⟩))]) (φ := (kb = kb ∧ cellsAre (kC bo bc S24) 6426 [.int .u8 S24.busy]) ∧ (kb = kb ∧ cellsAre (kC bo bc S24) (2 + (t.toNat * 21) + 1) [.int .u8 ((S24.tcb t.toNat).prio)]) ∧ 0 ≤ ((S24.tcb t.toNat).prio) ∧ True) (fuel := 1) h30 (by kernel_rfl) rfl (by kernel_rfl) (by kernel_rfl) ⟨trivial, trivial, trivial, rfl, trivial, trivial, trivial, trivial, rfl, trivial, trivial, trivial, trivial, trivial⟩ ⟨⟨rfl, k_busy⟩, ⟨rfl, (k_tcb (i := t.toNat) (k := 1) (by omega) (by omega) ⟨rfl, trivial⟩)⟩, (by omega), trivial⟩ fun a32 h33 => ?_
  clear h30
  refine wpAnyK_one (i := 13) (fuel := 0) (by kernel_rfl) ?_
  refine op_store tabOk {k := 0, m := 1, vs := kC bo bc ({ S24 with busy := bitI .or .u8 S24.busy (shlI .u8 1 ((S24.tcb t.toNat).prio)) })} (L' := [(kb, ⟨kC bo bc ({ S24 with busy := bitI .or .u8 S24.busy (shlI .u8 1 ((S24.tcb t.toNat).prio)) }), 90, false⟩)]) (φ := kb = kb ∧ Nat.ble (6426 + 1) (kC bo bc S24).length = true ∧ splice (kC bo bc S24) 6426 [.int .u8 (bitI .or .u8 S24.busy (shlI .u8 1 ((S24.tcb t.toNat).prio)))] = kC bo bc ({ S24 with busy := bitI .or .u8 S24.busy (shlI .u8 1 ((S24.tcb t.toNat).prio)) })) h33 rfl rfl rfl (by kernel_rfl) ⟨rfl, k_in (by omega), (k_busy_w (bitI .or .u8 S24.busy (shlI .u8 1 ((S24.tcb t.toNat).prio))))⟩ fun w35 h36 => ?_
  obtain ⟨S34, eS34⟩ : ∃ S9, S9 = { S24 with busy := bitI .or .u8 S24.busy (shlI .u8 1 ((S24.tcb t.toNat).prio)) } := ⟨_, rfl⟩
  rw [← eS34] at h36
  have rS34 : RI S34 := by rw [eS34]; exact rS24.setBusy _
  have hkh36 := h33.known
  refine ⟨keepNil, ?_⟩
  clear h33
  have hpS34 := (rS34.t (i := t.toNat) (by omega)).pr
  have hwS34 := (rS34.t (i := t.toNat) (by omega)).wi
  refine wpAnyK_done (by kernel_rfl) ?_ _
  try simp only [Exit.then, Exit.inBlock]
  try rw [if_pos trivial]
  exact s_end tabOk tabZ_ok h36 [] (vs := []) (φ := True) rfl (by kernel_rfl) trivial ⟨rfl, (by rw [show wakeP S t = S34 from (by unfold wakeP; simp only; rw [← eS4]; rw [← eS15]; rw [← eS24]; rw [← eS34])]; exact h36.kn (k := 0) rfl), h36.frame⟩

theorem block_ok (kb bo bc : Nat) (S : KP) (rS : RI S) (t s : Int) (on : Rf) (ht : 0 ≤ t ∧ t < 256) (ho : 0 ≤ on.idx ∧ on.idx < 256) (w : World) (hb : w.heap[kb]? = some (Blk.obj ⟨kC bo bc S, 90, false⟩)) :
    Calls Tryd.prog 103 #[.pointer (some ⟨kb, 0, none⟩), .int .i16 t, .int .u8 s, .agg #[.int .u16 on.idx, .int .u32 on.gen]] w fun e w' => e = .returned (.tuple #[]) ∧ w'.heap[kb]? = some (Blk.obj ⟨kC bo bc (blockP S t s on), 90, false⟩) ∧ Fr [kb] w w' := by
  have hpS := (rS.t (i := t.toNat) (by omega)).pr
  have hwS := (rS.t (i := t.toNat) (by omega)).wi
  refine enter0 (n := 38) (K := [kb]) (T := [(0, .pointer (some ⟨kb, 0, none⟩)), (1, .int .i16 t), (2, .int .u8 s), (3, .agg #[.int .u16 on.idx, .int .u32 on.gen])]) (L := [(kb, ⟨kC bo bc S, 90, false⟩)]) (args := [.pointer (some ⟨kb, 0, none⟩), .int .i16 t, .int .u8 s, .agg #[.int .u16 on.idx, .int .u32 on.gen]]) Tryd.func103 rfl rfl rfl rfl (kcons hb knil) (by simp) (kcons (by simp) knil) ?_
  intro a h
  refine wp_seq_k fun K1 hK1 => ?_
  refine nd_start (l := [0]) rfl ?_
  refine nd_op ?_
  refine op_new tabOk (cells := [.int .u16 on.idx, .int .u32 on.gen]) (ty := 39) (ln := none) (L1 := fun b2 => [(kb, ⟨kC bo bc S, 90, false⟩), (b2, ⟨[.int .u16 on.idx, .int .u32 on.gen], 39, false⟩)]) h rfl rfl rfl rfl (by kernel_rfl) (fun _ => rfl) fun b2 w3 a4 h5 hf6 hn7 => ?_
  clear h
  refine nd_done ?_
  refine hK1 _ _ ?_
  clear hK1
  refine wp_seq_k fun K8 hK8 => ?_
  refine nd_start (l := [0, 1, 2]) rfl ?_
  refine nd_batch tabOk tabZ_ok [(0, {}), (1, {})] [7, 0, 1, 2, 3, 8, 9] (T' := [(7, .pointer (some ⟨b2, 0, none⟩)), (0, .pointer (some ⟨kb, 0, none⟩)), (1, .int .i16 t), (2, .int .u8 s), (3, .agg #[.int .u16 on.idx, .int .u32 on.gen]), (8, .pointer (some ⟨kb, 0, none⟩)), (9, .int .i16 t)]) (φ := True) (rest := [2]) h5 (by kernel_rfl) rfl trivial fun a9 h10 => ?_
  clear h5
  refine nd_op ?_
  refine op_call h10 rfl rfl rfl (callOk Tryd.func72 (by decide) rfl) (args := [.pointer (some ⟨kb, 0, none⟩), .int .i16 t]) rfl (leave_ok kb bo bc S rS t ht _ (h10.kn (k := 0) rfl)) ?_
  rintro _ w14 ⟨rfl, hb12, hf13⟩
  refine ⟨_, rfl, ?_⟩
  obtain ⟨S11, eS11⟩ : ∃ S9, S9 = leaveP S t := ⟨_, rfl⟩
  rw [← eS11] at hb12
  have rS11 : RI S11 := by rw [eS11]; exact leave_RI rS ht
  have h15 := (h10.setBlk (k := 0) rfl rfl hf13 hb12 (L' := [(kb, ⟨kC bo bc S11, 90, false⟩), (b2, ⟨[.int .u16 on.idx, .int .u32 on.gen], 39, false⟩)]) rfl).put (d := some 10) (v := .tuple #[]) (T' := [(10, .tuple #[]), (7, .pointer (some ⟨b2, 0, none⟩)), (0, .pointer (some ⟨kb, 0, none⟩)), (1, .int .i16 t), (2, .int .u8 s), (3, .agg #[.int .u16 on.idx, .int .u32 on.gen]), (8, .pointer (some ⟨kb, 0, none⟩)), (9, .int .i16 t)]) rfl
  clear h10
  have hpS11 := (rS11.t (i := t.toNat) (by omega)).pr
  have hwS11 := (rS11.t (i := t.toNat) (by omega)).wi
  refine nd_done ?_
  refine hK8 _ _ ?_
  clear hK8
  refine wp_seq_k fun K16 hK16 => ?_
  refine dr_start (KB := [kb, b2]) (Bi := [[0, 1], [0, 1], [0, 1], [0, 1], [0, 1], [0, 1], [0, 1], [0, 1], [0, 1], [0, 1], [0, 1], [1], [0, 1], [0, 1], [0, 1], [0, 1], [0, 1], []]) mixed h15 fun w17 h18 => ?_
  clear h15
  refine dr_batch tabOk tabZ_ok (by repeat (first | with_reducible exact PF.body | with_reducible apply PF.inB | with_reducible apply PF.next)) [(0, {}), (1, {}), (2, {}), (3, {}), (4, {}), (5, {k := 1, p := 1}), (6, {}), (7, {}), (8, {}), (9, {}), (10, {}), (12, {}), (13, {})] [7, 0, 1, 2, 3, 14, 15, 16, 21, 23] (T' := [(7, .pointer (some ⟨b2, 0, none⟩)), (0, .pointer (some ⟨kb, 0, none⟩)), (1, .int .i16 t), (2, .int .u8 s), (3, .agg #[.int .u16 on.idx, .int .u32 on.gen]), (14, .int .i16 t), (15, .int .u8 s), (16, .agg #[.int .u16 on.idx, .int .u32 on.gen]), (21, .pointer (some ⟨kb, 2 + (t.toNat * 21), none⟩)), (23, .pointer (some ⟨kb, 2, none⟩))]) (φ := (b2 = b2 ∧ Nat.ble (0 + 2) 2 = true) ∧ (0 ≤ t ∧ t < 256) ∧ True) (fuel := 5) h18 (by kernel_rfl) rfl (by kernel_rfl) (by kernel_rfl) ⟨trivial, trivial, trivial, trivial, trivial, rfl, trivial, trivial, trivial, trivial, trivial, trivial, trivial, trivial⟩ ⟨⟨rfl, rfl⟩, ⟨by omega, by omega⟩, trivial⟩ fun a20 h21 => ?_
  clear h18
  refine wpAnyK_one (i := 11) (fuel := 4) (by kernel_rfl) ?_
  refine op_store tabOk {k := 0, m := 1, vs := kC bo bc (S11.setT t.toNat { S11.tcb t.toNat with st := s })} (L' := [(kb, ⟨kC bo bc (S11.setT t.toNat { S11.tcb t.toNat with st := s }), 90, false⟩), (b2, ⟨[.int .u16 on.idx, .int .u32 on.gen], 39, false⟩)]) (φ := kb = kb ∧ Nat.ble (2 + (t.toNat * 21) + 1) (kC bo bc S11).length = true ∧ splice (kC bo bc S11) (2 + (t.toNat * 21)) [.int .u8 s] = kC bo bc (S11.setT t.toNat { S11.tcb t.toNat with st := s })) h21 rfl rfl rfl (by kernel_rfl) ⟨rfl, k_in (by omega), (k_tcb_w (i := t.toNat) (k := 0) (by omega) (Nat.le_of_ble_eq_true rfl) (by omega) rfl)⟩ fun w23 h24 => ?_
  obtain ⟨S22, eS22⟩ : ∃ S9, S9 = (S11.setT t.toNat { S11.tcb t.toNat with st := s }) := ⟨_, rfl⟩
  rw [← eS22] at h24
  have rS22 : RI S22 := by rw [eS22]; exact rS11.setT ⟨(rS11.t (i := t.toNat) (by omega)).nx, (rS11.t (i := t.toNat) (by omega)).pv, (rS11.t (i := t.toNat) (by omega)).pr, (rS11.t (i := t.toNat) (by omega)).wi, (rS11.t (i := t.toNat) (by omega)).ci, (rS11.t (i := t.toNat) (by omega)).ri, (rS11.t (i := t.toNat) (by omega)).ds⟩
  have hkh24 := h21.known
  refine ⟨(keepOf hkh24 h24.known (kcons (keepAt (q := 1) (q' := 1) rfl rfl) knil)), ?_⟩
  clear h21
  have hpS22 := (rS22.t (i := t.toNat) (by omega)).pr
  have hwS22 := (rS22.t (i := t.toNat) (by omega)).wi
  refine dr_batch tabOk tabZ_ok (by repeat (first | with_reducible exact PF.body | with_reducible apply PF.inB | with_reducible apply PF.next)) [(14, {}), (15, {}), (16, {})] [7, 0, 1, 2, 3, 16, 26] (T' := [(7, .pointer (some ⟨b2, 0, none⟩)), (0, .pointer (some ⟨kb, 0, none⟩)), (1, .int .i16 t), (2, .int .u8 s), (3, .agg #[.int .u16 on.idx, .int .u32 on.gen]), (16, .agg #[.int .u16 on.idx, .int .u32 on.gen]), (26, .pointer (some ⟨kb, 2 + (t.toNat * 21) + 2, none⟩))]) (φ := (0 ≤ t ∧ t < 256) ∧ True) (fuel := 1) h24 (by kernel_rfl) rfl (by kernel_rfl) (by kernel_rfl) ⟨trivial, trivial, trivial, trivial⟩ ⟨⟨by omega, by omega⟩, trivial⟩ fun a25 h26 => ?_
  clear h24
  refine wpAnyK_one (i := 17) (fuel := 0) (by kernel_rfl) ?_
  refine op_store tabOk {k := 0, m := 1, vs := kC bo bc (S22.setT t.toNat { S22.tcb t.toNat with wait := ⟨on.idx, on.gen⟩ })} (L' := [(kb, ⟨kC bo bc (S22.setT t.toNat { S22.tcb t.toNat with wait := ⟨on.idx, on.gen⟩ }), 90, false⟩), (b2, ⟨[.int .u16 on.idx, .int .u32 on.gen], 39, false⟩)]) (φ := kb = kb ∧ Nat.ble (2 + (t.toNat * 21) + 2 + 2) (kC bo bc S22).length = true ∧ splice (kC bo bc S22) (2 + (t.toNat * 21) + 2) [.int .u16 on.idx, .int .u32 on.gen] = kC bo bc (S22.setT t.toNat { S22.tcb t.toNat with wait := ⟨on.idx, on.gen⟩ })) h26 rfl rfl rfl (by kernel_rfl) ⟨rfl, k_in (by omega), (k_tcb_w (i := t.toNat) (k := 2) (by omega) (Nat.le_of_ble_eq_true rfl) (by omega) rfl)⟩ fun w28 h29 => ?_
  obtain ⟨S27, eS27⟩ : ∃ S9, S9 = (S22.setT t.toNat { S22.tcb t.toNat with wait := ⟨on.idx, on.gen⟩ }) := ⟨_, rfl⟩
  rw [← eS27] at h29
  have rS27 : RI S27 := by rw [eS27]; exact rS22.setT ⟨(rS22.t (i := t.toNat) (by omega)).nx, (rS22.t (i := t.toNat) (by omega)).pv, (rS22.t (i := t.toNat) (by omega)).pr, ho, (rS22.t (i := t.toNat) (by omega)).ci, (rS22.t (i := t.toNat) (by omega)).ri, (rS22.t (i := t.toNat) (by omega)).ds⟩
  have hkh29 := h26.known
  refine ⟨keepNil, ?_⟩
  clear h26
  have hpS27 := (rS27.t (i := t.toNat) (by omega)).pr
  have hwS27 := (rS27.t (i := t.toNat) (by omega)).wi
  refine wpAnyK_done (by kernel_rfl) ?_ _
  refine hK16 _ _ ?_
  clear hK16
  refine wp_seq_k fun K30 hK30 => ?_
  refine nd_start (l := [0, 1]) rfl ?_
  refine nd_batch tabOk tabZ_ok [(0, {}), (1, {})] [7, 0, 1, 2, 3, 28] (T' := [(7, .pointer (some ⟨b2, 0, none⟩)), (0, .pointer (some ⟨kb, 0, none⟩)), (1, .int .i16 t), (2, .int .u8 s), (3, .agg #[.int .u16 on.idx, .int .u32 on.gen]), (28, .bool (s != 6))]) (φ := True) (rest := []) h29 (by kernel_rfl) rfl trivial fun a31 h32 => ?_
  clear h29
  refine nd_done ?_
  refine hK30 _ _ ?_
  clear hK30
  refine c_split h32 (b := (s != 6)) rfl (fun hc33 => ?_) (fun hc33 => ?_)
  ·
    have hc33f : s ≠ 6 := by simpa using hc33
    refine dr_start (KB := [kb, b2]) (Bi := [[0, 1], [0, 1], [0, 1], [0, 1], [0, 1], [0, 1], [0, 1], [0, 1], []]) mixed h32 fun w34 h35 => ?_
    clear h32
    refine dr_batch tabOk tabZ_ok (by repeat (first | with_reducible exact PF.body | with_reducible apply PF.inB | with_reducible apply PF.next)) [(0, {}), (1, {}), (2, {}), (3, {k := 1, p := 1}), (4, {}), (5, {}), (6, {}), (7, {})] [7, 0, 1, 2, 3, 29, 35, 36] (T' := [(7, .pointer (some ⟨b2, 0, none⟩)), (0, .pointer (some ⟨kb, 0, none⟩)), (1, .int .i16 t), (2, .int .u8 s), (3, .agg #[.int .u16 on.idx, .int .u32 on.gen]), (29, .pointer (some ⟨kb, 0, none⟩)), (35, .pointer (some ⟨kb, 5378 + (on.idx.toNat * 3), none⟩)), (36, .int .i16 t)]) (φ := (b2 = b2 ∧ Nat.ble (0 + 1) 2 = true) ∧ (0 ≤ on.idx ∧ on.idx < 256) ∧ True) (fuel := 1) h35 (by kernel_rfl) rfl (by kernel_rfl) (by kernel_rfl) ⟨trivial, trivial, trivial, rfl, trivial, trivial, trivial, trivial, trivial⟩ ⟨⟨rfl, rfl⟩, ⟨by omega, by omega⟩, trivial⟩ fun a37 h38 => ?_
    clear h35
    refine wpAnyK_one (i := 8) (fuel := 0) (by kernel_rfl) ?_
    refine op_call h38 rfl rfl rfl (callOk Tryd.func73 (by decide) rfl) (args := [.pointer (some ⟨kb, 0, none⟩), .pointer (some ⟨kb, 5378 + (on.idx.toNat * 3), none⟩), .int .i16 t]) rfl (push_ok kb bo bc S27 rS27 (QL.w on.idx.toNat) (show _ < _ by omega) t ht _ (h38.kn (k := 0) rfl)) ?_
    rintro _ w42 ⟨rfl, hb40, hf41⟩
    refine ⟨_, rfl, ?_⟩
    obtain ⟨S39, eS39⟩ : ∃ S9, S9 = pushP S27 (QL.w on.idx.toNat) t := ⟨_, rfl⟩
    rw [← eS39] at hb40
    have rS39 : RI S39 := by rw [eS39]; exact push_RI rS27 (show _ < _ by omega) ht
    have h43 := (h38.setBlk (k := 0) rfl rfl hf41 hb40 (L' := [(kb, ⟨kC bo bc S39, 90, false⟩), (b2, ⟨[.int .u16 on.idx, .int .u32 on.gen], 39, false⟩)]) rfl).put (d := some 37) (v := .tuple #[]) (T' := [(37, .tuple #[]), (7, .pointer (some ⟨b2, 0, none⟩)), (0, .pointer (some ⟨kb, 0, none⟩)), (1, .int .i16 t), (2, .int .u8 s), (3, .agg #[.int .u16 on.idx, .int .u32 on.gen]), (29, .pointer (some ⟨kb, 0, none⟩)), (35, .pointer (some ⟨kb, 5378 + (on.idx.toNat * 3), none⟩)), (36, .int .i16 t)]) rfl
    have hkh43 := h38.known
    refine ⟨keepNil, ?_⟩
    clear h38
    have hpS39 := (rS39.t (i := t.toNat) (by omega)).pr
    have hwS39 := (rS39.t (i := t.toNat) (by omega)).wi
    refine wpAnyK_done (by kernel_rfl) ?_ _
    try simp only [Exit.then, Exit.inBlock]
    try rw [if_pos trivial]
    exact s_end tabOk tabZ_ok h43 [] (vs := []) (φ := True) rfl (by kernel_rfl) trivial ⟨rfl, (by rw [show blockP S t s on = S39 from (by unfold blockP; simp only; rw [← eS11]; rw [← eS22]; rw [← eS27]; (first | rw [if_neg hc33f] | rw [if_neg (fun hz => hz hc33f)]); rw [← eS39])]; exact h43.kn (k := 0) rfl), h43.frame⟩
  ·
    have hc33f : s = 6 := by simpa using hc33
    refine wp_skip ?_
    try simp only [Exit.then, Exit.inBlock]
    try rw [if_pos trivial]
    exact s_end tabOk tabZ_ok h32 [] (vs := []) (φ := True) rfl (by kernel_rfl) trivial ⟨rfl, (by rw [show blockP S t s on = S27 from (by unfold blockP; simp only; rw [← eS11]; rw [← eS22]; rw [← eS27]; (first | rw [if_pos hc33f] | rw [if_pos (fun hz => hz hc33f)]))]; exact h32.kn (k := 0) rfl), h32.frame⟩

end Go.Proofs.Qxb6500918aDoor
