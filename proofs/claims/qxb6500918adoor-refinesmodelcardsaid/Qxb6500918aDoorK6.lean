/-
  load. (Made by program: a symbolic walk that prints its steps.)
-/
import Derived.Test.Qxb6500918aDoorK5
namespace Go.Proofs.Qxb6500918aDoor
open Go.Sx Go.Kn
set_option maxRecDepth 100000
set_option maxHeartbeats 4000000
set_option linter.unusedVariables false
set_option linter.unusedSimpArgs false

theorem load_ok (kb bo bc : Nat) (S : KP) (rS : RI S) (t : Int) (ht : 0 ≤ t ∧ t < 256) (xo : Option Addr) (cx : Nat) (ws : List Int) (hwl : ws.length ≤ 4) (w : World) (hb : w.heap[kb]? = some (Blk.obj ⟨kC bo bc S, 90, false⟩)) (hws : WordsAt [kb] w xo ws) :
    Calls Tryd.prog 102 #[.pointer (some ⟨kb, 0, none⟩), .int .i16 t, .slice xo ws.length cx] w fun e w' => e = .returned (.tuple #[]) ∧ w'.heap[kb]? = some (Blk.obj ⟨kC bo bc (loadP S t ws), 90, false⟩) ∧ Fr [kb] w w' := by
  refine enter0 (n := 29) (K := [kb]) (T := [(0, .pointer (some ⟨kb, 0, none⟩)), (1, .int .i16 t), (2, .slice xo ws.length cx)]) (L := [(kb, ⟨kC bo bc S, 90, false⟩)]) (args := [.pointer (some ⟨kb, 0, none⟩), .int .i16 t, .slice xo ws.length cx]) Tryd.func102 rfl rfl rfl rfl (kcons hb knil) (by simp) (kcons (by simp) knil) ?_
  intro a h
  refine wp_seq_k fun K1 hK1 => ?_
  refine nd_start (l := [0, 1, 2, 3, 4, 5]) rfl ?_
  refine nd_batch tabOk tabZ_ok [(0, {}), (1, {}), (2, {}), (3, {}), (4, {}), (5, {})] [0, 1, 2, 6] (T' := [(0, .pointer (some ⟨kb, 0, none⟩)), (1, .int .i16 t), (2, .slice xo ws.length cx), (6, .pointer (some ⟨kb, 2 + (t.toNat * 21), none⟩))]) (φ := (0 ≤ t ∧ t < 256) ∧ True) (rest := []) h (by kernel_rfl) rfl ⟨⟨by omega, by omega⟩, trivial⟩ fun a2 h3 => ?_
  clear h
  refine nd_done ?_
  refine hK1 _ _ ?_
  clear hK1
  refine wp_seq_k fun K4 hK4 => ?_
  refine nd_start (l := [0, 1, 2, 3, 4, 5]) rfl ?_
  refine nd_batch tabOk tabZ_ok [(0, {}), (1, {}), (2, {}), (3, {}), (4, {})] [0, 1, 2, 6, 13, 16] (T' := [(0, .pointer (some ⟨kb, 0, none⟩)), (1, .int .i16 t), (2, .slice xo ws.length cx), (6, .pointer (some ⟨kb, 2 + (t.toNat * 21), none⟩)), (13, .agg #[.int .u64 0, .int .u64 0, .int .u64 0, .int .u64 0]), (16, .pointer (some ⟨kb, 2 + (t.toNat * 21) + 9, none⟩))]) (φ := True) (rest := [5]) h3 (by kernel_rfl) rfl trivial fun a5 h6 => ?_
  clear h3
  refine nd_op ?_
  refine op_store tabOk {k := 0, m := 1, vs := kC bo bc (S.setT t.toNat { S.tcb t.toNat with m0 := 0, m1 := 0, m2 := 0, m3 := 0 })} (L' := [(kb, ⟨kC bo bc (S.setT t.toNat { S.tcb t.toNat with m0 := 0, m1 := 0, m2 := 0, m3 := 0 }), 90, false⟩)]) (φ := kb = kb ∧ Nat.ble (2 + (t.toNat * 21) + 9 + 4) (kC bo bc S).length = true ∧ splice (kC bo bc S) (2 + (t.toNat * 21) + 9) [.int .u64 0, .int .u64 0, .int .u64 0, .int .u64 0] = kC bo bc (S.setT t.toNat { S.tcb t.toNat with m0 := 0, m1 := 0, m2 := 0, m3 := 0 })) h6 rfl rfl rfl (by kernel_rfl) ⟨rfl, k_in (by omega), (k_tcb_w (i := t.toNat) (k := 9) (by omega) (Nat.le_of_ble_eq_true rfl) (by omega) rfl)⟩ fun w8 h9 => ?_
  obtain ⟨S7, eS7⟩ : ∃ S9, S9 = (S.setT t.toNat { S.tcb t.toNat with m0 := 0, m1 := 0, m2 := 0, m3 := 0 }) := ⟨_, rfl⟩
  rw [← eS7] at h9
  have rS7 : RI S7 := by rw [eS7]; exact rS.setT ⟨(rS.t (i := t.toNat) (by omega)).nx, (rS.t (i := t.toNat) (by omega)).pv, (rS.t (i := t.toNat) (by omega)).pr, (rS.t (i := t.toNat) (by omega)).wi, (rS.t (i := t.toNat) (by omega)).ci, (rS.t (i := t.toNat) (by omega)).ri, (rS.t (i := t.toNat) (by omega)).ds⟩
  clear h6
  refine nd_done ?_
  refine hK4 _ _ ?_
  clear hK4
  refine nd_start (l := [0, 1, 2, 3, 4, 5, 6, 7, 8, 9, 10, 11, 12]) rfl ?_
  refine nd_batch tabOk tabZ_ok [(0, {}), (1, {}), (2, {}), (3, {}), (4, {})] [0, 1, 2, 6, 17, 21] (T' := [(0, .pointer (some ⟨kb, 0, none⟩)), (1, .int .i16 t), (2, .slice xo ws.length cx), (6, .pointer (some ⟨kb, 2 + (t.toNat * 21), none⟩)), (17, .pointer (some ⟨kb, 2 + (t.toNat * 21), none⟩)), (21, .pointer (some ⟨kb, 2 + (t.toNat * 21) + 9, none⟩))]) (φ := True) (rest := [5, 6, 7, 8, 9, 10, 11, 12]) h9 (by kernel_rfl) rfl trivial fun a10 h11 => ?_
  clear h9
  refine nd_op ?_
  refine op_pure (v := .slice (some ⟨kb, 2 + (t.toNat * 21) + 9, none⟩) 4 4) h11 rfl rfl (pure_arrslice tabOk h11.slots rfl rfl rfl rfl rfl) ?_
  have h12 := h11.put (d := some 22) (v := .slice (some ⟨kb, 2 + (t.toNat * 21) + 9, none⟩) 4 4) (T' := [(22, .slice (some ⟨kb, 2 + (t.toNat * 21) + 9, none⟩) 4 4), (0, .pointer (some ⟨kb, 0, none⟩)), (1, .int .i16 t), (2, .slice xo ws.length cx), (6, .pointer (some ⟨kb, 2 + (t.toNat * 21), none⟩)), (17, .pointer (some ⟨kb, 2 + (t.toNat * 21), none⟩)), (21, .pointer (some ⟨kb, 2 + (t.toNat * 21) + 9, none⟩))]) rfl
  clear h11
  refine nd_batch tabOk tabZ_ok [(6, {})] [22, 0, 1, 2, 6, 17, 23] (T' := [(22, .slice (some ⟨kb, 2 + (t.toNat * 21) + 9, none⟩) 4 4), (0, .pointer (some ⟨kb, 0, none⟩)), (1, .int .i16 t), (2, .slice xo ws.length cx), (6, .pointer (some ⟨kb, 2 + (t.toNat * 21), none⟩)), (17, .pointer (some ⟨kb, 2 + (t.toNat * 21), none⟩)), (23, .slice xo ws.length cx)]) (φ := True) (rest := [7, 8, 9, 10, 11, 12]) h12 (by kernel_rfl) rfl trivial fun a13 h14 => ?_
  clear h12
  refine nd_op ?_
  obtain ⟨S15, eS15⟩ : ∃ S9, S9 = (S7.setT t.toNat (putMsg (S7.tcb t.toNat) ws)) := ⟨_, rfl⟩
  have rS15 : RI S15 := by rw [eS15]; exact rS7.setT (putMsg_ok (rS7.t (i := t.toNat) (by omega)) ws)
  have hE : splice (kC bo bc S7) (2 + (t.toNat * 21) + 9) (ws.map wdV) = kC bo bc S15 := (k_tcb_w (i := t.toNat) (k := 9) (by omega) (by rw [List.length_map]; omega) (by omega) (splice_msg _ hwl)).trans (by rw [eS15]; rfl)
  refine op_copy tabOk (k := 0) (vs := ws.map wdV) h14 rfl rfl rfl rfl rfl rfl rfl rfl rfl rfl rfl (hws.fr h14.frame).src hwl (by rw [List.length_map, k_len]; omega) (words_one ws) fun w16 h17 => ?_
  have h18 := (h17.castL (L' := [(kb, ⟨kC bo bc S15, 90, false⟩)]) (by rw [← hE]; rfl)).put (d := some 24) (v := .int .i64 ((ws.length : Nat) : Int)) (T' := [(24, .int .i64 ((ws.length : Nat) : Int)), (22, .slice (some ⟨kb, 2 + (t.toNat * 21) + 9, none⟩) 4 4), (0, .pointer (some ⟨kb, 0, none⟩)), (1, .int .i16 t), (2, .slice xo ws.length cx), (6, .pointer (some ⟨kb, 2 + (t.toNat * 21), none⟩)), (17, .pointer (some ⟨kb, 2 + (t.toNat * 21), none⟩)), (23, .slice xo ws.length cx)]) rfl
  clear h14 h17
  refine nd_batch tabOk tabZ_ok [(8, {m := 1}), (9, {}), (10, {}), (11, {})] [0, 1, 2, 6, 25, 28] (T' := [(0, .pointer (some ⟨kb, 0, none⟩)), (1, .int .i16 t), (2, .slice xo ws.length cx), (6, .pointer (some ⟨kb, 2 + (t.toNat * 21), none⟩)), (25, .int .u8 (IntKind.wrap .u8 ((ws.length : Nat) : Int))), (28, .pointer (some ⟨kb, 2 + (t.toNat * 21) + 13, none⟩))]) (φ := True) (rest := [12]) h18 (by kernel_rfl) rfl trivial fun a19 h20 => ?_
  clear h18
  refine nd_op ?_
  refine op_store tabOk {k := 0, m := 1, vs := kC bo bc (S15.setT t.toNat { S15.tcb t.toNat with len := IntKind.wrap .u8 ((ws.length : Nat) : Int) })} (L' := [(kb, ⟨kC bo bc (S15.setT t.toNat { S15.tcb t.toNat with len := IntKind.wrap .u8 ((ws.length : Nat) : Int) }), 90, false⟩)]) (φ := kb = kb ∧ Nat.ble (2 + (t.toNat * 21) + 13 + 1) (kC bo bc S15).length = true ∧ splice (kC bo bc S15) (2 + (t.toNat * 21) + 13) [.int .u8 (IntKind.wrap .u8 ((ws.length : Nat) : Int))] = kC bo bc (S15.setT t.toNat { S15.tcb t.toNat with len := IntKind.wrap .u8 ((ws.length : Nat) : Int) })) h20 rfl rfl rfl (by kernel_rfl) ⟨rfl, k_in (by omega), (k_tcb_w (i := t.toNat) (k := 13) (by omega) (Nat.le_of_ble_eq_true rfl) (by omega) rfl)⟩ fun w22 h23 => ?_
  obtain ⟨S21, eS21⟩ : ∃ S9, S9 = (S15.setT t.toNat { S15.tcb t.toNat with len := IntKind.wrap .u8 ((ws.length : Nat) : Int) }) := ⟨_, rfl⟩
  rw [← eS21] at h23
  have rS21 : RI S21 := by rw [eS21]; exact rS15.setT ⟨(rS15.t (i := t.toNat) (by omega)).nx, (rS15.t (i := t.toNat) (by omega)).pv, (rS15.t (i := t.toNat) (by omega)).pr, (rS15.t (i := t.toNat) (by omega)).wi, (rS15.t (i := t.toNat) (by omega)).ci, (rS15.t (i := t.toNat) (by omega)).ri, (rS15.t (i := t.toNat) (by omega)).ds⟩
  clear h20
  refine nd_done ?_
  try simp only [Exit.then, Exit.inBlock]
  try rw [if_pos trivial]
  exact s_end tabOk tabZ_ok h23 [] (vs := []) (φ := True) rfl (by kernel_rfl) trivial ⟨rfl, (by rw [show loadP S t ws = S21 from (by unfold loadP; simp only; rw [← eS7]; rw [← eS15]; rw [← eS21])]; exact h23.kn (k := 0) rfl), h23.frame⟩

end Go.Proofs.Qxb6500918aDoor
