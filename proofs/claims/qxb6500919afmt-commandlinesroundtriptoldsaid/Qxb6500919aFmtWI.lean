/-
  The size guard, the points of a log. (Made by program: a symbolic walk that prints its steps.)
-/
import Derived.Test.Qxb6500919aFmtTab
import Derived.Test.Qxb6500919aFmtLw
import Derived.Test.Qxb6500919aFmtW1
import Derived.Test.Qxb6500919aFmtW2
import Derived.Test.Qxb6500919aFmtW3
import Derived.Test.Qxb6500919aFmtW4
namespace Go.Proofs.Qxb6500919aFmt
open Go.Sx Go.Rp
set_option maxRecDepth 100000
set_option maxHeartbeats 4000000
set_option linter.unusedVariables false
set_option linter.unusedSimpArgs false

theorem small_ok (o : Option Addr) (n c : Nat) (w : World) : Calls Tryf.prog 4 #[.slice o n c] w fun e w' => e = .returned (.bool (decide (n ≤ 65536))) ∧ Fr [] w w' := by
  refine enter0 (n := 8) (K := []) (T := [(0, .slice o n c)]) (L := []) (args := [.slice o n c]) Tryf.func4 rfl rfl rfl rfl knil (by simp) knil ?_
  intro a h
  refine wp_seq_k fun K1 hK1 => ?_
  refine nd_start (l := [0]) rfl ?_
  refine nd_batch tabOk tabZ_ok [(0, {})] [0, 2] (T' := [(0, .slice o n c), (2, .bool false)]) (φ := True) (rest := []) h (by kernel_rfl) rfl trivial fun a2 h3 => ?_
  clear h
  refine nd_done ?_
  refine hK1 _ _ ?_
  clear hK1
  refine wp_seq_k fun K4 hK4 => ?_
  refine nd_start (l := [0, 1, 2]) rfl ?_
  refine nd_batch tabOk tabZ_ok [(0, {}), (1, {}), (2, {})] [0, 2, 3] (T' := [(0, .slice o n c), (2, .bool false), (3, .int .i64 ((n : Nat) : Int))]) (φ := True) (rest := []) h3 (by kernel_rfl) rfl trivial fun a5 h6 => ?_
  clear h3
  refine nd_done ?_
  refine hK4 _ _ ?_
  clear hK4
  refine wp_seq_k fun K7 hK7 => ?_
  refine wp_seq_k fun K8 hK8 => ?_
  refine nd_start (l := [0, 1]) rfl ?_
  refine nd_batch tabOk tabZ_ok [(0, {}), (1, {})] [0, 2, 3, 7] (T' := [(0, .slice o n c), (2, .bool false), (3, .int .i64 ((n : Nat) : Int)), (7, .bool (decide (((n : Nat) : Int) > 65536)))]) (φ := True) (rest := []) h6 (by kernel_rfl) rfl trivial fun a9 h10 => ?_
  clear h6
  refine nd_done ?_
  refine hK8 _ _ ?_
  clear hK8
  refine c_split h10 (b := decide (((n : Nat) : Int) > 65536)) rfl (fun hc11 => ?_) (fun hc11 => ?_)
  ·
    have hc11f : ((n : Nat) : Int) > 65536 := by simpa using hc11
    refine wp_seq_k fun K12 hK12 => ?_
    refine nd_start (l := [0]) rfl ?_
    refine nd_batch tabOk tabZ_ok [(0, {})] [0, 3, 2] (T' := [(0, .slice o n c), (3, .int .i64 ((n : Nat) : Int)), (2, .bool false)]) (φ := True) (rest := []) h10 (by kernel_rfl) rfl trivial fun a13 h14 => ?_
    clear h10
    refine nd_done ?_
    refine hK12 _ _ ?_
    clear hK12
    refine wp_ret ?_
    try simp only [Exit.then, Exit.inBlock]
    try rw [if_pos trivial]
    exact s_ret tabOk tabZ_ok h14 [(.tmp 2, {})] (vs := [.bool false]) (φ := True) rfl (by kernel_rfl) trivial ⟨by rw [show decide (n ≤ 65536) = false by simp; omega]; rfl, h14.frame⟩
  ·
    have hc11f : ¬ ((n : Nat) : Int) > 65536 := by simpa using hc11
    refine wp_skip ?_
    refine hK7 _ _ ?_
    clear hK7
    refine wp_seq_k fun K15 hK15 => ?_
    refine nd_start (l := [0]) rfl ?_
    refine nd_batch tabOk tabZ_ok [(0, {})] [0, 3, 2] (T' := [(0, .slice o n c), (3, .int .i64 ((n : Nat) : Int)), (2, .bool true)]) (φ := True) (rest := []) h10 (by kernel_rfl) rfl trivial fun a16 h17 => ?_
    clear h10
    refine nd_done ?_
    refine hK15 _ _ ?_
    clear hK15
    refine wp_ret ?_
    try simp only [Exit.then, Exit.inBlock]
    try rw [if_pos trivial]
    exact s_ret tabOk tabZ_ok h17 [(.tmp 2, {})] (vs := [.bool true]) (φ := True) rfl (by kernel_rfl) trivial ⟨by rw [show decide (n ≤ 65536) = true by simp; omega]; rfl, h17.frame⟩

end Go.Proofs.Qxb6500919aFmt
