/-
  The model: setMsg. (Made by program: a symbolic walk that prints its steps.)
-/
import Derived.Test.Qxb6500918aDoorUh
namespace Go.Proofs.Qxb6500918aDoor
open Go.Sx Go.Kn
set_option maxRecDepth 100000
set_option maxHeartbeats 4000000
set_option linter.unusedVariables false
set_option linter.unusedSimpArgs false

theorem splice_wd (y : Tcb) {ws : List Int} {m : Nat} {v : Int} (hl : ws.length ≤ 4) (hv : ws[m]? = some v) : splice (thC (putMsg y (ws.take m))) (9 + m) [.int .u64 v] = thC (putMsg y (ws.take (m + 1))) := by
  have hm : m < ws.length := (List.getElem?_eq_some_iff.1 hv).1
  match ws, hl with
  | [a0], _ =>
    have : m = 0 := by simp at hm; omega
    subst this; simp at hv; subst hv; rfl
  | [a0, a1], _ =>
    have : m = 0 ∨ m = 1 := by simp at hm; omega
    rcases this with rfl | rfl <;> (simp at hv; subst hv; rfl)
  | [a0, a1, a2], _ =>
    have : m = 0 ∨ m = 1 ∨ m = 2 := by simp at hm; omega
    rcases this with rfl | rfl | rfl <;> (simp at hv; subst hv; rfl)
  | [a0, a1, a2, a3], _ =>
    have : m = 0 ∨ m = 1 ∨ m = 2 ∨ m = 3 := by simp at hm; omega
    rcases this with rfl | rfl | rfl | rfl <;> (simp at hv; subst hv; rfl)
  | [], _ => simp at hm
  | _ :: _ :: _ :: _ :: _ :: _, h => simp at h

theorem setT_setT (a : AK) (x : Nat) (y z : Tcb) : (a.setT x y).setT x z = a.setT x z := by
  unfold AK.setT
  simp only [AK.mk.injEq, and_true, true_and]
  funext j
  by_cases e : j = x
  · subst e; rw [upd_same, upd_same]
  · rw [upd_other _ _ e, upd_other _ _ e, upd_other _ _ e]

theorem setMsg_ok (mb : Nat) (Z : MZ) (R : MR) (a : AK) (C : CP) (x : Nat) (hx : x ∈ sl Z.tl) (xo : Option Addr) (cx : Nat) (ws : List Int) (hwl : ws.length ≤ 4) (w : World) (hH : MH mb Z R a C w) (hws : WordsAt (mdF mb Z R C) w xo ws) :
    Calls Tryd.prog 89 #[.pointer (some ⟨(Z.tp x), 0, none⟩), .slice xo ws.length cx] w fun e w' => e = .returned (.tuple #[]) ∧ MG mb Z R C w Z R (a.setT x (msgA (a.th x) ws)) C w' := by
  obtain ⟨ty3, hg3⟩ := hH.g3
  have hho := hH.ho
  have hkk := hH.md.k
  refine enter (n := 30) (K := mdF mb Z R C) (A := MD (mdF mb Z R C) w.heap.size mb Z R a C) (F := mdF mb Z R C) (T := [(0, .pointer (some ⟨(Z.tp x), 0, none⟩)), (1, .slice xo ws.length cx)]) (L := [(3, ⟨[.int .u16 0, .int .u32 0], ty3, true⟩)]) (args := [.pointer (some ⟨(Z.tp x), 0, none⟩), .slice xo ws.length cx]) Tryd.func89 rfl rfl rfl rfl (kcons hg3 knil) (by simp) (kcons (by intro hq; cases hq) knil) hH.mD MD.stable hH.md.low (kcons (by intro hq; cases hq) knil) ?_
  intro ac h
  refine wp_seq_k fun K1 hK1 => ?_
  refine nd_start (l := [0, 1, 2, 3, 4]) rfl ?_
  refine nd_batch tabOk2 tabZ_ok2 [(0, {}), (1, {}), (2, {}), (3, {})] [0, 1, 7, 9] (T' := [(0, .pointer (some ⟨(Z.tp x), 0, none⟩)), (1, .slice xo ws.length cx), (7, .agg #[.int .u64 0, .int .u64 0, .int .u64 0, .int .u64 0]), (9, .pointer (some ⟨(Z.tp x), 9, none⟩))]) (φ := True) (rest := [4]) h (by kernel_rfl) rfl trivial fun a2 h3 => ?_
  clear h
  refine nd_op ?_
  refine op_mTh (x := x) (off := 9) (v := .agg #[.int .u64 0, .int .u64 0, .int .u64 0, .int .u64 0]) (y := { a.th x with m0 := 0, m1 := 0, m2 := 0, m3 := 0 }) h3 rfl rfl rfl rfl rfl rfl rfl rfl rfl hx rfl rfl (kcons (fun _ => rfl) knil) fun w4 hf5 h6 => ?_
  obtain ⟨a7, ea7⟩ : ∃ z : AK, z = a.setT x { a.th x with m0 := 0, m1 := 0, m2 := 0, m3 := 0 } := ⟨_, rfl⟩
  rw [← ea7] at h6
  clear h3
  have ht8 : a7.th x = { a.th x with m0 := 0, m1 := 0, m2 := 0, m3 := 0 } := by rw [ea7]; exact upd_same _ _ _
  refine nd_done ?_
  refine hK1 _ _ ?_
  clear hK1
  refine wp_seq_k fun K9 hK9 => ?_
  refine wp_seq_k fun K10 hK10 => ?_
  refine nd_start (l := [0, 1, 2]) rfl ?_
  refine nd_batch tabOk2 tabZ_ok2 [(0, {}), (1, {}), (2, {})] [0, 1, 10, 11, 12] (T' := [(0, .pointer (some ⟨(Z.tp x), 0, none⟩)), (1, .slice xo ws.length cx), (10, .slice xo ws.length cx), (11, .int .i64 ((ws.length : Nat) : Int)), (12, .int .i64 0)]) (φ := True) (rest := []) h6 (by kernel_rfl) rfl trivial fun a11 h12 => ?_
  clear h6
  refine nd_done ?_
  refine hK10 _ _ ?_
  clear hK10
  refine wp_block ?_
  have h13 := h12
  rw [show a7 = a.setT x (putMsg { a.th x with m0 := 0, m1 := 0, m2 := 0, m3 := 0 } (ws.take 0)) by rw [ea7]; rfl] at h13
  clear h12
  refine wp_loop_ghost (fun g ga gw => ∃ (m : Nat), (g = ws.length - m) ∧ (m ≤ ws.length) ∧ St (MCx 30 (mdF mb Z R C) w mb Z R (a.setT x (putMsg { a.th x with m0 := 0, m1 := 0, m2 := 0, m3 := 0 } (ws.take m))) C) [(0, .pointer (some ⟨(Z.tp x), 0, none⟩)), (1, .slice xo ws.length cx), (10, .slice xo ws.length cx), (11, .int .i64 ((ws.length : Nat) : Int)), (12, .int .i64 ((m : Nat) : Int))] [(3, ⟨[.int .u16 0, .int .u32 0], ty3, true⟩)] ga gw) ws.length ⟨0, by omega, by omega, (h13.slotsMono (restr_spec (keep := [0, 1, 10, 11, 12]) rfl))⟩ ?_
  clear h13
  rintro g a14 w15 ⟨m, hi17, hi18, h16⟩
  have hig := hi17
  have hmw := hi18
  refine wp_seq_k fun K19 hK19 => ?_
  refine nd_start (l := [0]) rfl ?_
  refine nd_batch tabOk2 tabZ_ok2 [(0, {})] [0, 1, 10, 11, 12, 13] (T' := [(0, .pointer (some ⟨(Z.tp x), 0, none⟩)), (1, .slice xo ws.length cx), (10, .slice xo ws.length cx), (11, .int .i64 ((ws.length : Nat) : Int)), (12, .int .i64 ((m : Nat) : Int)), (13, .bool (decide (((m : Nat) : Int) < ((ws.length : Nat) : Int))))]) (φ := True) (rest := []) h16 (by kernel_rfl) rfl trivial fun a20 h21 => ?_
  clear h16
  refine nd_done ?_
  refine hK19 _ _ ?_
  clear hK19
  refine wp_seq_k fun K22 hK22 => ?_
  refine c_split h21 (b := decide (((m : Nat) : Int) < ((ws.length : Nat) : Int))) rfl (fun hc23 => ?_) (fun hc23 => ?_)
  ·
    have hc23f : ((m : Nat) : Int) < ((ws.length : Nat) : Int) := by simpa using hc23
    obtain ⟨v, hv⟩ : ∃ v, ws[m]? = some v := ⟨ws[m]'(by omega), by simp⟩
    obtain ⟨wb, wk, ho9, hwb, hwc, hwk⟩ := hws.resolve_left (by omega)
    subst ho9
    refine wp_skip ?_
    refine hK22 _ _ ?_
    clear hK22
    refine wp_seq_k fun K24 hK24 => ?_
    refine wp_block ?_
    refine wp_seq_k fun K25 hK25 => ?_
    refine nd_start (l := [0, 1, 2, 3, 4]) rfl ?_
    refine nd_batch tabOk2 tabZ_ok2 [(0, {}), (1, {})] [0, 1, 10, 11, 12, 14, 15] (T' := [(0, .pointer (some ⟨(Z.tp x), 0, none⟩)), (1, .slice (some ⟨wb, wk, none⟩) ws.length cx), (10, .slice (some ⟨wb, wk, none⟩) ws.length cx), (11, .int .i64 ((ws.length : Nat) : Int)), (12, .int .i64 ((m : Nat) : Int)), (14, .int .i64 ((m : Nat) : Int)), (15, .pointer (some ⟨wb, wk + (m * 1), none⟩))]) (φ := (0 ≤ ((m : Nat) : Int) ∧ ((m : Nat) : Int) < ((ws.length : Nat) : Int)) ∧ True) (rest := [2, 3, 4]) h21 (by kernel_rfl) rfl ⟨⟨by omega, by omega⟩, trivial⟩ fun a26 h27 => ?_
    clear h21
    refine nd_op ?_
    refine op_now (v := .int .u64 v) h27 rfl rfl (run_cell tabOk2 h27.slots rfl rfl rfl rfl (by rw [Nat.mul_one]; exact cell_one (cellsAt_fr hwc h27.frame hwb hwk) (by rw [List.getElem?_map, hv]; rfl))) ?_
    have h28 := h27.put (d := some 16) (v := .int .u64 v) (T' := [(16, .int .u64 v), (0, .pointer (some ⟨(Z.tp x), 0, none⟩)), (1, .slice (some ⟨wb, wk, none⟩) ws.length cx), (10, .slice (some ⟨wb, wk, none⟩) ws.length cx), (11, .int .i64 ((ws.length : Nat) : Int)), (12, .int .i64 ((m : Nat) : Int)), (14, .int .i64 ((m : Nat) : Int)), (15, .pointer (some ⟨wb, wk + (m * 1), none⟩))]) rfl
    clear h27
    refine nd_batch tabOk2 tabZ_ok2 [(3, {}), (4, {})] [0, 1, 10, 11, 12, 4, 5] (T' := [(0, .pointer (some ⟨(Z.tp x), 0, none⟩)), (1, .slice (some ⟨wb, wk, none⟩) ws.length cx), (10, .slice (some ⟨wb, wk, none⟩) ws.length cx), (11, .int .i64 ((ws.length : Nat) : Int)), (12, .int .i64 ((m : Nat) : Int)), (4, .int .i64 ((m : Nat) : Int)), (5, .int .u64 v)]) (φ := True) (rest := []) h28 (by kernel_rfl) rfl trivial fun a29 h30 => ?_
    clear h28
    refine nd_done ?_
    refine hK25 _ _ ?_
    clear hK25
    refine nd_start (l := [0, 1, 2, 3, 4, 5, 6]) rfl ?_
    refine nd_batch tabOk2 tabZ_ok2 [(0, {}), (1, {}), (2, {}), (3, {}), (4, {}), (5, {})] [0, 1, 10, 11, 12, 4, 5, 19, 22] (T' := [(0, .pointer (some ⟨(Z.tp x), 0, none⟩)), (1, .slice (some ⟨wb, wk, none⟩) ws.length cx), (10, .slice (some ⟨wb, wk, none⟩) ws.length cx), (11, .int .i64 ((ws.length : Nat) : Int)), (12, .int .i64 ((m : Nat) : Int)), (4, .int .i64 ((m : Nat) : Int)), (5, .int .u64 v), (19, .int .u64 v), (22, .pointer (some ⟨(Z.tp x), 9 + (m * 1), none⟩))]) (φ := (0 ≤ ((m : Nat) : Int) ∧ ((m : Nat) : Int) < 4) ∧ True) (rest := [6]) h30 (by kernel_rfl) rfl ⟨⟨by omega, by omega⟩, trivial⟩ fun a31 h32 => ?_
    clear h30
    refine nd_op ?_
    refine op_mTh (x := x) (off := 9 + (m * 1)) (v := .int .u64 v) (y := (putMsg { a.th x with m0 := 0, m1 := 0, m2 := 0, m3 := 0 } (ws.take (m + 1)))) h32 rfl rfl rfl rfl rfl rfl rfl rfl rfl hx (by rw [Nat.ble_eq]; show 9 + m * 1 + 1 ≤ 19; omega) (by rw [show (a.setT x (putMsg { a.th x with m0 := 0, m1 := 0, m2 := 0, m3 := 0 } (ws.take m))).th x = (putMsg { a.th x with m0 := 0, m1 := 0, m2 := 0, m3 := 0 } (ws.take m)) from upd_same _ _ _, Nat.mul_one]; exact splice_wd _ hwl hv) (kcons (fun _ => rfl) knil) fun w33 hf34 h35 => ?_
    rw [setT_setT] at h35
    clear h32
    refine nd_done ?_
    refine hK24 _ _ ?_
    clear hK24
    refine nd_start (l := [0, 1]) rfl ?_
    refine nd_batch tabOk2 tabZ_ok2 [(0, {}), (1, {})] [0, 1, 10, 11, 4, 5, 12] (T' := [(0, .pointer (some ⟨(Z.tp x), 0, none⟩)), (1, .slice (some ⟨wb, wk, none⟩) ws.length cx), (10, .slice (some ⟨wb, wk, none⟩) ws.length cx), (11, .int .i64 ((ws.length : Nat) : Int)), (4, .int .i64 ((m : Nat) : Int)), (5, .int .u64 v), (12, .int .i64 (((m : Nat) : Int) + 1))]) (φ := inR .i64 (((m : Nat) : Int) + 1) ∧ True) (rest := []) h35 (by kernel_rfl) rfl ⟨⟨by omega, by omega⟩, trivial⟩ fun a36 h37 => ?_
    clear h35
    refine nd_done ?_
    exact ⟨(g - 1), by omega, (m + 1), by omega, by omega, (h37.slotsMono (restr_spec (keep := [0, 1, 10, 11, 12]) rfl))⟩
  ·
    have hc23f : ¬ ((m : Nat) : Int) < ((ws.length : Nat) : Int) := by simpa using hc23
    have hfin : ws.length ≤ m := by omega
    have h38 := h21
    rw [List.take_of_length_le hfin] at h38
    clear h21
    have hty : (a.setT x (putMsg { a.th x with m0 := 0, m1 := 0, m2 := 0, m3 := 0 } ws)).th x = putMsg { a.th x with m0 := 0, m1 := 0, m2 := 0, m3 := 0 } ws := upd_same _ _ _
    refine wp_exit ?_
    refine hK9 _ _ ?_
    clear hK9
    refine nd_start (l := [0, 1, 2, 3, 4, 5, 6]) rfl ?_
    refine nd_batch tabOk2 tabZ_ok2 [(0, {}), (1, {}), (2, {}), (3, {m := 1}), (4, {}), (5, {})] [0, 1, 10, 11, 12, 27, 29] (T' := [(0, .pointer (some ⟨(Z.tp x), 0, none⟩)), (1, .slice xo ws.length cx), (10, .slice xo ws.length cx), (11, .int .i64 ((ws.length : Nat) : Int)), (12, .int .i64 ((m : Nat) : Int)), (27, .int .u8 (IntKind.wrap .u8 ((ws.length : Nat) : Int))), (29, .pointer (some ⟨(Z.tp x), 13, none⟩))]) (φ := True) (rest := [6]) h38 (by kernel_rfl) rfl trivial fun a39 h40 => ?_
    clear h38
    refine nd_op ?_
    refine op_mTh (x := x) (off := 13) (v := .int .u8 (IntKind.wrap .u8 ((ws.length : Nat) : Int))) (y := { putMsg { a.th x with m0 := 0, m1 := 0, m2 := 0, m3 := 0 } ws with len := IntKind.wrap .u8 ((ws.length : Nat) : Int) }) h40 rfl rfl rfl rfl rfl rfl rfl rfl rfl hx rfl (by rw [hty]; rfl) (kcons (fun _ => rfl) knil) fun w41 hf42 h43 => ?_
    obtain ⟨a44, ea44⟩ : ∃ z : AK, z = (a.setT x (putMsg { a.th x with m0 := 0, m1 := 0, m2 := 0, m3 := 0 } ws)).setT x { putMsg { a.th x with m0 := 0, m1 := 0, m2 := 0, m3 := 0 } ws with len := IntKind.wrap .u8 ((ws.length : Nat) : Int) } := ⟨_, rfl⟩
    rw [← ea44] at h43
    clear h40
    have ht45 : a44.th x = { putMsg { a.th x with m0 := 0, m1 := 0, m2 := 0, m3 := 0 } ws with len := IntKind.wrap .u8 ((ws.length : Nat) : Int) } := by rw [ea44]; exact upd_same _ _ _
    refine nd_done ?_
    try simp only [Exit.then, Exit.inBlock]
    try rw [if_pos trivial]
    exact s_end tabOk2 tabZ_ok2 h43 [] (vs := []) (φ := True) rfl (by kernel_rfl) trivial ⟨rfl, mg_end hH h43 hho (by subst ea44; rw [setT_setT]; rfl)⟩

end Go.Proofs.Qxb6500918aDoor
