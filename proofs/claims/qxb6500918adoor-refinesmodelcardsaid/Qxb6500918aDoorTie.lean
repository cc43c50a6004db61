/-
  DERIVED. GIVEN WITH THE SEED: THE PROGRAM's TIES (one call each: nine closed facts by the kernel) AND EACH ROW's TIE, after the 31st guide's Derived/Test/Toyas{Tie, Card}.lean. No idea stands in it: it is a product of the set-up. Laid BY PROGRAM, IN A SANDBOX (cutbox-door.mjs). By AI agents, Wed Nov 11 2026. No macro, syntax, notation, axiom, sorry.
-/
import Derived.Test.Qxb6500918aDoorRows
import Derived.LaidByTextLater
import Derived.SevenTiedAt
import Derived.LaidSub
import Derived.LaidOnce
namespace Go.Proofs.Qxb6500918aDoor
open Go
set_option maxRecDepth 100000
theorem seatTie1 : Tryd.prog.laidByTextLater [("e2e/kernelm.none", Rows.laid_e2e_kernelm_none), ("e2e/kernel.noQueue", Rows.laid_e2e_kernel_noQueue), ("e2e/kernel.noTCB", Rows.laid_e2e_kernel_noTCB), ("e2e/kernellaw.none", Rows.laid_e2e_kernellaw_none)] [.data, .data, .data, .data] true :=
  Program.laidByTextLater_by_one 29 8 22 (by kernel_rfl) (by kernel_rfl) (by kernel_rfl) (by kernel_rfl) (by kernel_rfl) (by kernel_rfl) (fun _ _ => by kernel_rfl)
theorem noOwnUnsafe : Tryd.pinned.checked.prog.headLifts.contains "ownunsafe" = false := by kernel_rfl
theorem tie : Tryd.prog.laidByTextLater [("e2e/kernelm.none", Rows.laid_e2e_kernelm_none), ("e2e/kernel.noQueue", Rows.laid_e2e_kernel_noQueue), ("e2e/kernel.noTCB", Rows.laid_e2e_kernel_noTCB)] [.data, .data, .data] true :=
  Program.laidByTextLater.sub seatTie1 ["e2e/kernelm.none", "e2e/kernel.noQueue", "e2e/kernel.noTCB"] (by kernel_rfl) (by kernel_rfl)
theorem refinesModel_row_tie : Rows.refinesModelRow.laidByTextAt .later Tryd.pinned [.data, .data, .data] true :=
  OpenClaim.laidByTextAt_later rfl rfl tie noOwnUnsafe
theorem tie2 : Tryd.prog.laidByTextLater [("e2e/kernel.noQueue", Rows.laid_e2e_kernel_noQueue), ("e2e/kernel.noTCB", Rows.laid_e2e_kernel_noTCB)] [.data, .data] true :=
  Program.laidByTextLater.sub seatTie1 ["e2e/kernel.noQueue", "e2e/kernel.noTCB"] (by kernel_rfl) (by kernel_rfl)
theorem refusalsChangeNothing_row_tie : Rows.refusalsChangeNothingRow.laidByTextAt .later Tryd.pinned [.data, .data] true :=
  OpenClaim.laidByTextAt_later rfl rfl tie2 noOwnUnsafe
theorem endpointQueuesAreFIFO_row_tie : Rows.endpointQueuesAreFIFORow.laidByTextAt .later Tryd.pinned [.data, .data] true :=
  OpenClaim.laidByTextAt_later rfl rfl tie2 noOwnUnsafe
theorem notificationsAccumulate_row_tie : Rows.notificationsAccumulateRow.laidByTextAt .later Tryd.pinned [.data, .data] true :=
  OpenClaim.laidByTextAt_later rfl rfl tie2 noOwnUnsafe
theorem stepDependsOnBytesAndEvent_row_tie : Rows.stepDependsOnBytesAndEventRow.laidByTextAt .later Tryd.pinned [.data, .data] true :=
  OpenClaim.laidByTextAt_later rfl rfl tie2 noOwnUnsafe
theorem tie3 : Tryd.prog.laidByTextLater [("e2e/kernel.noQueue", Rows.laid_e2e_kernel_noQueue), ("e2e/kernel.noTCB", Rows.laid_e2e_kernel_noTCB), ("e2e/kernellaw.none", Rows.laid_e2e_kernellaw_none)] [.data, .data, .data] true :=
  Program.laidByTextLater.sub seatTie1 ["e2e/kernel.noQueue", "e2e/kernel.noTCB", "e2e/kernellaw.none"] (by kernel_rfl) (by kernel_rfl)
theorem replyIsOneShot_row_tie : Rows.replyIsOneShotRow.laidByTextAt .later Tryd.pinned [.data, .data, .data] true :=
  OpenClaim.laidByTextAt_later rfl rfl tie3 noOwnUnsafe
theorem schedulerPicksAmongHighest_row_tie : Rows.schedulerPicksAmongHighestRow.laidByTextAt .later Tryd.pinned [.data, .data, .data] true :=
  OpenClaim.laidByTextAt_later rfl rfl tie3 noOwnUnsafe
end Go.Proofs.Qxb6500918aDoor
