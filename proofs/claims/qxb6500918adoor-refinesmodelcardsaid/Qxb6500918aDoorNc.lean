/-
  A start at which the listed variables hold what the program's text lays.
-/
import Derived.Test.Qxb6500918aDoorRows
import Derived.ProofKit
import Derived.LaidLaws
import Derived.LaidHandle
import Derived.Lib.LaidIn
namespace Go.Proofs.Qxb6500918aDoor
open Go

noncomputable def laidWorld (os : Os) : World :=
  let w0 := World.holding Tryd.prog os ⟨#[], #[], []⟩
  let put (h : Array Obj) (g : Nat) (cs : Array Value) : Array Obj := h.modify g fun
    | .cells _ t frozen => .cells cs t frozen
    | o => o
  let h1 := put w0.heap 1 #[.int .u8 0, .int .u8 0, .int .u16 0, .int .u32 0, .int .u16 0, .int .u32 0, .int .u16 0, .int .u32 0, .int .u64 0, .int .u64 0, .int .u64 0, .int .u64 0, .int .u64 0, .int .u8 0, .int .u8 0, .int .u32 0, .int .u32 0, .bool false, .bool false, .int .i16 (-1), .int .i16 (-1)]
  let h2 := put h1 2 #[.int .i16 (-1), .int .i16 (-1), .int .u32 0]
  { w0 with heap := h2 }

set_option maxRecDepth 1000000 in
theorem laid2 (os : Os) (args : Array Value) : LaidIn Tryd.prog ((laidWorld os).forCall (fun _ _ => 0) ⟨#[], args, []⟩).memory [("e2e/kernel.noQueue", Rows.laid_e2e_kernel_noQueue), ("e2e/kernel.noTCB", Rows.laid_e2e_kernel_noTCB)] [2, 1] :=
  LaidIn.of_run [2, 1] 10 (by kernel_rfl) (by kernel_rfl) (by kernel_rfl) (by kernel_rfl)
set_option maxRecDepth 1000000 in
theorem laid3 (os : Os) (args : Array Value) : LaidIn Tryd.prog ((laidWorld os).forCall (fun _ _ => 0) ⟨#[], args, []⟩).memory [("e2e/kernel.noQueue", Rows.laid_e2e_kernel_noQueue), ("e2e/kernel.noTCB", Rows.laid_e2e_kernel_noTCB), ("e2e/kernellaw.none", Rows.laid_e2e_kernellaw_none)] [2, 1, 0] :=
  LaidIn.of_run [2, 1, 0] 10 (by kernel_rfl) (by kernel_rfl) (by kernel_rfl) (by kernel_rfl)

theorem laid2_met (os : Os) (args : Array Value) : laidMetH Tryd.prog [("e2e/kernel.noQueue", Rows.laid_e2e_kernel_noQueue), ("e2e/kernel.noTCB", Rows.laid_e2e_kernel_noTCB)] ((laidWorld os).forCall (fun _ _ => 0) ⟨#[], args, []⟩).memory :=
  laidMetH_of_parts (laid2 os args).met (by kernel_rfl)
theorem laid3_met (os : Os) (args : Array Value) : laidMetH Tryd.prog [("e2e/kernel.noQueue", Rows.laid_e2e_kernel_noQueue), ("e2e/kernel.noTCB", Rows.laid_e2e_kernel_noTCB), ("e2e/kernellaw.none", Rows.laid_e2e_kernellaw_none)] ((laidWorld os).forCall (fun _ _ => 0) ⟨#[], args, []⟩).memory :=
  laidMetH_of_parts (laid3 os args).met (by kernel_rfl)

end Go.Proofs.Qxb6500918aDoor
