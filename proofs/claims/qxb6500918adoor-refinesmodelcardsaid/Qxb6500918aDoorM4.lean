/-
  zzSmall1. (Made by program: a symbolic walk that prints its steps.)
-/
import Derived.Test.Qxb6500918aDoorLl
import Derived.Test.Qxb6500918aDoorKU
namespace Go.Proofs.Qxb6500918aDoor
open Go.Sx Go.Kn
set_option maxRecDepth 100000
set_option maxHeartbeats 4000000
set_option linter.unusedVariables false
set_option linter.unusedSimpArgs false

theorem small_ok (ops : List OpV) (o : Option Addr) (c : Nat) (w : World) (hscr : Scr w o ops) :
    Calls Tryd.prog 10 #[.slice o ops.length c] w fun e w' => ∃ b, e = .returned (.bool b) ∧ (b = true → ops.length ≤ 65536) ∧ Fr [] w w' := by
  refine enter0 (n := 25) (K := []) (T := [(0, .slice o ops.length c)]) (L := []) (args := [.slice o ops.length c]) Tryd.func10 rfl rfl rfl rfl knil (by simp) knil ?_
  intro a h
  refine wp_seq_k fun K1 hK1 => ?_
  refine nd_start (l := [0]) rfl ?_
  refine nd_batch tabOk tabZ_ok [(0, {})] [0, 2] (T' := [(0, .slice o ops.length c), (2, .bool false)]) (φ := True) (rest := []) h (by kernel_rfl) rfl trivial fun a2 h3 => ?_
  clear h
  refine nd_done ?_
  refine hK1 _ _ ?_
  clear hK1
  refine wp_seq_k fun K4 hK4 => ?_
  refine nd_start (l := [0, 1, 2]) rfl ?_
  refine nd_batch tabOk tabZ_ok [(0, {}), (1, {}), (2, {})] [0, 2, 3] (T' := [(0, .slice o ops.length c), (2, .bool false), (3, .int .i64 ((ops.length : Nat) : Int))]) (φ := True) (rest := []) h3 (by kernel_rfl) rfl trivial fun a5 h6 => ?_
  clear h3
  refine nd_done ?_
  refine hK4 _ _ ?_
  clear hK4
  refine wp_seq_k fun K7 hK7 => ?_
  refine wp_seq_k fun K8 hK8 => ?_
  refine nd_start (l := [0, 1]) rfl ?_
  refine nd_batch tabOk tabZ_ok [(0, {}), (1, {})] [0, 2, 3, 8] (T' := [(0, .slice o ops.length c), (2, .bool false), (3, .int .i64 ((ops.length : Nat) : Int)), (8, .bool (decide (((ops.length : Nat) : Int) > 65536)))]) (φ := True) (rest := []) h6 (by kernel_rfl) rfl trivial fun a9 h10 => ?_
  clear h6
  refine nd_done ?_
  refine hK8 _ _ ?_
  clear hK8
  refine c_split h10 (b := decide (((ops.length : Nat) : Int) > 65536)) rfl (fun hc11 => ?_) (fun hc11 => ?_)
  ·
    have hc11f : ((ops.length : Nat) : Int) > 65536 := by simpa using hc11
    refine wp_seq_k fun K12 hK12 => ?_
    refine nd_start (l := [0]) rfl ?_
    refine nd_batch tabOk tabZ_ok [(0, {})] [0, 3, 2] (T' := [(0, .slice o ops.length c), (3, .int .i64 ((ops.length : Nat) : Int)), (2, .bool false)]) (φ := True) (rest := []) h10 (by kernel_rfl) rfl trivial fun a13 h14 => ?_
    clear h10
    refine nd_done ?_
    refine hK12 _ _ ?_
    clear hK12
    refine wp_ret ?_
    try simp only [Exit.then, Exit.inBlock]
    try rw [if_pos trivial]
    exact s_ret tabOk tabZ_ok h14 [(.tmp 2, {})] (vs := [.bool false]) (φ := True) rfl (by kernel_rfl) trivial ⟨false, rfl, (fun hq => by cases hq), h14.frame⟩
  ·
    have hc11f : ¬ ((ops.length : Nat) : Int) > 65536 := by simpa using hc11
    have hol : ops.length ≤ 65536 := by omega
    refine wp_skip ?_
    refine hK7 _ _ ?_
    clear hK7
    refine wp_seq_k fun K15 hK15 => ?_
    refine wp_seq_k fun K16 hK16 => ?_
    refine nd_start (l := [0]) rfl ?_
    refine nd_batch tabOk tabZ_ok [(0, {})] [0, 2, 3, 4] (T' := [(0, .slice o ops.length c), (2, .bool false), (3, .int .i64 ((ops.length : Nat) : Int)), (4, .int .i64 0)]) (φ := True) (rest := []) h10 (by kernel_rfl) rfl trivial fun a17 h18 => ?_
    clear h10
    refine nd_done ?_
    refine hK16 _ _ ?_
    clear hK16
    refine wp_block ?_
    refine wp_loop_ghost (fun g ga gw => ∃ (n i : Int), ((g : Int) = ops.length - i) ∧ (0 ≤ i ∧ i ≤ ops.length) ∧ St ⟨25, [], w, fun _ => True, []⟩ [(0, .slice o ops.length c), (2, .bool false), (3, .int .i64 n), (4, .int .i64 i)] [] ga gw) ops.length ⟨((ops.length : Nat) : Int), 0, by simp, ⟨by simp, by simp⟩, (h18.slotsMono (restr_spec (keep := [0, 2, 3, 4]) rfl))⟩ ?_
    clear h18
    rintro g a19 w20 ⟨n, i, hi22, hi23, h21⟩
    have hig := hi22
    have hi0 := hi23
    refine wp_seq_k fun K24 hK24 => ?_
    refine wp_seq_k fun K25 hK25 => ?_
    refine nd_start (l := [0, 1, 2, 3]) rfl ?_
    refine nd_batch tabOk tabZ_ok [(0, {}), (1, {}), (2, {}), (3, {})] [0, 2, 3, 4, 12] (T' := [(0, .slice o ops.length c), (2, .bool false), (3, .int .i64 n), (4, .int .i64 i), (12, .bool (decide (i < ((ops.length : Nat) : Int))))]) (φ := True) (rest := []) h21 (by kernel_rfl) rfl trivial fun a26 h27 => ?_
    clear h21
    refine nd_done ?_
    refine hK25 _ _ ?_
    clear hK25
    refine c_split h27 (b := decide (i < ((ops.length : Nat) : Int))) rfl (fun hc28 => ?_) (fun hc28 => ?_)
    ·
      have hc28f : i < ((ops.length : Nat) : Int) := by simpa using hc28
      obtain ⟨x, hx⟩ : ∃ x, ops[i.toNat]? = some x := ⟨ops[i.toNat]'(by omega), by simp⟩
      obtain ⟨sb29, k030, ho9, hsb31, hsc32⟩ := hscr.get hx
      subst ho9
      refine wp_skip ?_
      refine hK24 _ _ ?_
      clear hK24
      refine wp_seq_k fun K33 hK33 => ?_
      refine wp_block ?_
      refine wp_seq_k fun K34 hK34 => ?_
      refine nd_start (l := [0, 1, 2, 3, 4, 5, 6, 7, 8]) rfl ?_
      refine nd_batch tabOk tabZ_ok [(0, {}), (1, {}), (2, {}), (3, {}), (4, {})] [0, 2, 3, 4, 15, 19] (T' := [(0, .slice (some ⟨sb29, k030, none⟩) ops.length c), (2, .bool false), (3, .int .i64 n), (4, .int .i64 i), (15, .int .i64 n), (19, .pointer (some ⟨sb29, k030 + (i.toNat * 11) + 10, none⟩))]) (φ := (0 ≤ i ∧ i < ((ops.length : Nat) : Int)) ∧ True) (rest := [5, 6, 7, 8]) h27 (by kernel_rfl) rfl ⟨⟨by omega, by omega⟩, trivial⟩ fun a35 h36 => ?_
      clear h27
      refine nd_op ?_
      refine op_now (v := .slice x.xo x.ev.ws.length x.cx) h36 rfl rfl (run_cell tabOk h36.slots rfl rfl rfl rfl (cell_one (CellsAt.fr (hsc32 _ _ hx) h36.frame hsb31) (j := 10) rfl)) ?_
      have h37 := h36.put (d := some 20) (v := .slice x.xo x.ev.ws.length x.cx) (T' := [(20, .slice x.xo x.ev.ws.length x.cx), (0, .slice (some ⟨sb29, k030, none⟩) ops.length c), (2, .bool false), (3, .int .i64 n), (4, .int .i64 i), (15, .int .i64 n), (19, .pointer (some ⟨sb29, k030 + (i.toNat * 11) + 10, none⟩))]) rfl
      clear h36
      refine nd_batch tabOk tabZ_ok [(6, {}), (7, {m := 1}), (8, {})] [0, 2, 4, 3] (T' := [(0, .slice (some ⟨sb29, k030, none⟩) ops.length c), (2, .bool false), (4, .int .i64 i), (3, .int .i64 (IntKind.wrap .i64 (n + ((x.ev.ws.length : Nat) : Int))))]) (φ := True) (rest := []) h37 (by kernel_rfl) rfl trivial fun a38 h39 => ?_
      clear h37
      refine nd_done ?_
      refine hK34 _ _ ?_
      clear hK34
      refine wp_seq_k fun K40 hK40 => ?_
      refine nd_start (l := [0, 1]) rfl ?_
      refine nd_batch tabOk tabZ_ok [(0, {}), (1, {})] [0, 2, 4, 3, 24] (T' := [(0, .slice (some ⟨sb29, k030, none⟩) ops.length c), (2, .bool false), (4, .int .i64 i), (3, .int .i64 (IntKind.wrap .i64 (n + ((x.ev.ws.length : Nat) : Int)))), (24, .bool (decide (IntKind.wrap .i64 (n + ((x.ev.ws.length : Nat) : Int)) > 65536)))]) (φ := True) (rest := []) h39 (by kernel_rfl) rfl trivial fun a41 h42 => ?_
      clear h39
      refine nd_done ?_
      refine hK40 _ _ ?_
      clear hK40
      refine c_split h42 (b := decide (IntKind.wrap .i64 (n + ((x.ev.ws.length : Nat) : Int)) > 65536)) rfl (fun hc43 => ?_) (fun hc43 => ?_)
      ·
        have hc43f : IntKind.wrap .i64 (n + ((x.ev.ws.length : Nat) : Int)) > 65536 := by simpa using hc43
        refine wp_seq_k fun K44 hK44 => ?_
        refine nd_start (l := [0]) rfl ?_
        refine nd_batch tabOk tabZ_ok [(0, {})] [0, 4, 3, 2] (T' := [(0, .slice (some ⟨sb29, k030, none⟩) ops.length c), (4, .int .i64 i), (3, .int .i64 (IntKind.wrap .i64 (n + ((x.ev.ws.length : Nat) : Int)))), (2, .bool false)]) (φ := True) (rest := []) h42 (by kernel_rfl) rfl trivial fun a45 h46 => ?_
        clear h42
        refine nd_done ?_
        refine hK44 _ _ ?_
        clear hK44
        refine wp_ret ?_
        try simp only [Exit.then, Exit.inBlock]
        try rw [if_pos trivial]
        exact s_ret tabOk tabZ_ok h46 [(.tmp 2, {})] (vs := [.bool false]) (φ := True) rfl (by kernel_rfl) trivial ⟨false, rfl, (fun hq => by cases hq), h46.frame⟩
      ·
        have hc43f : ¬ IntKind.wrap .i64 (n + ((x.ev.ws.length : Nat) : Int)) > 65536 := by simpa using hc43
        refine wp_skip ?_
        refine hK33 _ _ ?_
        clear hK33
        refine nd_start (l := [0, 1, 2]) rfl ?_
        refine nd_batch tabOk tabZ_ok [(0, {}), (1, {}), (2, {})] [0, 2, 3, 4] (T' := [(0, .slice (some ⟨sb29, k030, none⟩) ops.length c), (2, .bool false), (3, .int .i64 (IntKind.wrap .i64 (n + ((x.ev.ws.length : Nat) : Int)))), (4, .int .i64 (i + 1))]) (φ := inR .i64 (i + 1) ∧ True) (rest := []) h42 (by kernel_rfl) rfl ⟨⟨by omega, by omega⟩, trivial⟩ fun a47 h48 => ?_
        clear h42
        refine nd_done ?_
        exact ⟨(g - 1), by omega, (IntKind.wrap .i64 (n + ((x.ev.ws.length : Nat) : Int))), (i + 1), by omega, ⟨by omega, by omega⟩, (h48.slotsMono (restr_spec (keep := [0, 2, 3, 4]) rfl))⟩
    ·
      have hc28f : ¬ i < ((ops.length : Nat) : Int) := by simpa using hc28
      refine wp_exit ?_
      refine hK15 _ _ ?_
      clear hK15
      refine wp_seq_k fun K49 hK49 => ?_
      refine nd_start (l := [0]) rfl ?_
      refine nd_batch tabOk tabZ_ok [(0, {})] [0, 3, 4, 2] (T' := [(0, .slice o ops.length c), (3, .int .i64 n), (4, .int .i64 i), (2, .bool true)]) (φ := True) (rest := []) h27 (by kernel_rfl) rfl trivial fun a50 h51 => ?_
      clear h27
      refine nd_done ?_
      refine hK49 _ _ ?_
      clear hK49
      refine wp_ret ?_
      try simp only [Exit.then, Exit.inBlock]
      try rw [if_pos trivial]
      exact s_ret tabOk tabZ_ok h51 [(.tmp 2, {})] (vs := [.bool true]) (φ := True) rfl (by kernel_rfl) trivial ⟨true, rfl, (fun _ => hol), h51.frame⟩

end Go.Proofs.Qxb6500918aDoor
