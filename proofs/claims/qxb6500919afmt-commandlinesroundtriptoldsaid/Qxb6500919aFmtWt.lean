/-
  A start at which the listed variables hold what the program's text lays.
-/
import Derived.Test.Qxb6500919aFmtLd
import Derived.Deep.DeepWitnessRowRef
import Derived.Lib.LaidIn
import Derived.ProofKit
namespace Go.Proofs.Qxb6500919aFmt
open Go.Sx Go.Rp

def wsC : List Value := [9, 13, 1, 32, 133, 101, 160, 5760, 5600, 8192, 8202, 1, 8232, 8233, 1, 8239, 8287, 48, 12288, 12288, 1].map (Value.int .u16)
def litsOf : DataW Unit → List Value
  | .agg l => l.map fun d => match d with
    | .lit x => x.value
    | _ => .nilIface
  | _ => []

noncomputable def laidWorld (os : Os) : World :=
  let N := (World.settled Tryf.prog os).heap.size
  let w0 := World.holding Tryf.prog os ⟨#[
    .cells #[.slice (some ⟨N + 1, 0, none⟩) 7 7, .slice none 0 0, .int .i64 2] 149 (0, 0), .cells wsC.toArray 152 (0, 0),
    .cells #[.string (bs [118, 97, 108, 117, 101, 32, 111, 117, 116, 32, 111, 102, 32, 114, 97, 110, 103, 101])] 173 (0, 0), .cells #[.string (bs [105, 110, 118, 97, 108, 105, 100, 32, 115, 121, 110, 116, 97, 120])] 173 (0, 0)], #[], []⟩
  let put (h : Array Obj) (g : Nat) (cs : Array Value) : Array Obj := h.modify g fun
    | .cells _ t frozen => .cells cs t frozen
    | o => o
  let h0 := put (put (put w0.heap 0 verbsC.toArray) 1 codesC.toArray) 2 (litsOf Rows.laid_strings_asciiSpace).toArray
  let h1 := put (put (put h0 3 #[.pointer (some ⟨N, 0, none⟩)]) 4 #[.iface 171 (.pointer (some ⟨N + 3, 0, none⟩))]) 5 #[.iface 171 (.pointer (some ⟨N + 2, 0, none⟩))]
  let h2 := put (put (put h1 6 (litsOf Rows.laid_internal_strconv_uint64pow10).toArray) 7 (litsOf Rows.laid_math_bits_deBruijn32tab).toArray) 8 (litsOf Rows.laid_math_bits_deBruijn64tab).toArray
  { w0 with heap := h2 }

noncomputable abbrev N0 : Nat := (World.settled Tryf.prog default).heap.size

set_option maxRecDepth 1000000 in
theorem piece0 (os : Os) (args : Array Value) : LaidIn Tryf.prog ((laidWorld os).forCall (fun _ _ => 0) ⟨#[], args, []⟩).memory (Rows.commandLinesRoundTripRow.laid.take 6) [7, 8, 6, 5, N0 + 2, 4, N0 + 3, 3, N0, N0 + 1] :=
  LaidIn.of_run [7, 8, 6, 5, N0 + 2, 4, N0 + 3, 3, N0, N0 + 1] 10 (by kernel_rfl) (by kernel_rfl) (by kernel_rfl) (by kernel_rfl)
set_option maxRecDepth 1000000 in
theorem piece1 (os : Os) (args : Array Value) : LaidIn Tryf.prog ((laidWorld os).forCall (fun _ _ => 0) ⟨#[], args, []⟩).memory [("strings.asciiSpace", Rows.laid_strings_asciiSpace)] [2] :=
  LaidIn.of_run [2] 10 (by kernel_rfl) (by kernel_rfl) (by kernel_rfl) (by kernel_rfl)
set_option maxRecDepth 1000000 in
theorem piece2 (os : Os) (args : Array Value) : LaidIn Tryf.prog ((laidWorld os).forCall (fun _ _ => 0) ⟨#[], args, []⟩).memory [("e2e/replay.verbs", Rows.laid_e2e_replay_verbs), ("e2e/replay.codeWords", Rows.laid_e2e_replay_codeWords)] [0, 1] :=
  LaidIn.of_run [0, 1] 10 (by kernel_rfl) (by kernel_rfl) (by kernel_rfl) (by kernel_rfl)

theorem laid_met (os : Os) (args : Array Value) : laidMet Tryf.prog Rows.commandLinesRoundTripRow.laid ((laidWorld os).forCall (fun _ _ => 0) ⟨#[], args, []⟩).memory :=
  ((piece0 os args).append ((piece1 os args).append (piece2 os args) (by kernel_rfl)) (by kernel_rfl)).met

theorem witness_row (os : Os) {H : Type} (enc : TypeId × Value → H) :
    (OpenSpec.ofChange Rows.commandLinesRoundTripSpec).preRow enc Tryf.prog Tryf.f3 Rows.commandLinesRoundTripRow.domain false Rows.commandLinesRoundTripRow.laid ((laidWorld os).forCall (fun _ _ => 0) ⟨#[], #[.slice none 0 0], []⟩).memory #[.slice none 0 0] := by
  have hw : (DataW.whole enc Tryf.prog ((laidWorld os).forCall (fun _ _ => 0) ⟨#[], #[.slice none 0 0], []⟩).memory Tryf.f3.params.toList (OpenSpec.ofChange Rows.commandLinesRoundTripSpec).vars false #[Value.slice none 0 0].toList 8).map (fun x => (x.1, x.2.1)) =
      some ([.nil], []) := by kernel_rfl
  obtain ⟨⟨x1, x2, x3⟩, hx, hx1⟩ := Option.map_eq_some_iff.1 hw
  simp only [Prod.mk.injEq] at hx1
  obtain ⟨rfl, rfl⟩ := hx1
  exact OpenSpec.preRow_of_cond 8 hx (by kernel_rfl) (fun k hk => by cases hk) (by kernel_rfl) (laid_met os _)

end Go.Proofs.Qxb6500919aFmt
