/-
  The model's variable 'none': laid, and a block of its own.
-/
import Derived.Test.Qxb6500918aDoorNc
import Derived.Test.Qxb6500918aDoorNd
namespace Go.Proofs.Qxb6500918aDoor
open Go Go.Sx Go.Kn Go.ChangeShapes Go.WideShapes Go.ChangeAt Go.RowKit

set_option maxRecDepth 1000000 in
theorem laid3m (os : Os) (args : Array Value) : LaidIn Tryd.prog ((laidWorld os).forCall (fun _ _ => 0) ⟨#[], args, []⟩).memory [("e2e/kernelm.none", Rows.laid_e2e_kernelm_none), ("e2e/kernel.noQueue", Rows.laid_e2e_kernel_noQueue), ("e2e/kernel.noTCB", Rows.laid_e2e_kernel_noTCB)] [3, 2, 1] :=
  LaidIn.of_run [3, 2, 1] 10 (by kernel_rfl) (by kernel_rfl) (by kernel_rfl) (by kernel_rfl)
theorem laid3m_met (os : Os) (args : Array Value) : laidMetH Tryd.prog [("e2e/kernelm.none", Rows.laid_e2e_kernelm_none), ("e2e/kernel.noQueue", Rows.laid_e2e_kernel_noQueue), ("e2e/kernel.noTCB", Rows.laid_e2e_kernel_noTCB)] ((laidWorld os).forCall (fun _ _ => 0) ⟨#[], args, []⟩).memory :=
  laidMetH_of_parts (laid3m os args).met (by kernel_rfl)

set_option maxRecDepth 100000 in
theorem gNoneM : Tryd.prog.globalNamed "e2e/kernelm.none" = some 3 := by kernel_rfl
set_option maxRecDepth 100000 in
theorem gNoneMt : (Tryd.prog.globals[3]?).map (·.type) = some 39 := by kernel_rfl

theorem noneM_of {l : List (String × DataW Unit)} {W : World} (hL : laidMet Tryd.prog l W) (h1 : ("e2e/kernelm.none", Rows.laid_e2e_kernelm_none) ∈ l) : ∃ ty, W.heap[3]? = some (Blk.obj ⟨[.int .u16 0, .int .u32 0], ty, true⟩) := by
  obtain ⟨ps, hv, hn, hz⟩ := hL
  obtain ⟨g, t, cs, fuel, p, hg, ht, hvar, hd, hpl⟩ := vars_pl hv h1
  obtain rfl := Option.some.inj (gNoneM.symm.trans hg)
  obtain rfl : 39 = t := Option.some.inj (gNoneMt.symm.trans ht)
  have hc := nd39 hd rfl
  have hs : 0 < cs.size := by
    rw [← Array.length_toList, hc]; decide
  obtain ⟨⟨c, ty, hh⟩, _⟩ := hz 3 0 (hpl 0 hs)
  unfold World.var? at hvar
  rw [gNoneM] at hvar
  simp only [Option.bind_some, hh, Option.some.injEq] at hvar
  refine ⟨ty, ?_⟩
  rw [hh, hvar]
  have : cs = ([.int .u16 0, .int .u32 0] : List Value).toArray := by rw [← hc]
  rw [this]
  rfl

end Go.Proofs.Qxb6500918aDoor
