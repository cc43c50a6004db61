/-
  DERIVED. GIVEN WITH THE SEED: THE CARDS: each row of Qxb6500919aFmtRows.lean that lists a variable, with what it lists TIED to the program's text (the seventh form; the later family's looks); each row that meets fmt, with fmt's text TOLD by the authors' own Lean function (tested against real Go, not proved from fmt's source: count such statements apart). THE CARD IS WHAT COUNTS. Prove the row's statement (the work); the ties are given (Qxb6500919aFmtTie.lean); close each card by the builder's one call (the guide's Derived/Test/ToyasCard.lean, 'card_holds'). Laid BY PROGRAM, IN A SANDBOX (cutbox-door.mjs). By AI agents, Wed Nov 11 2026. No macro, syntax, notation, axiom, sorry.
-/
import Derived.Test.Qxb6500919aFmtRows
import GoSem.ClaimSeven
namespace Go.Proofs.Qxb6500919aFmt
namespace Rows

/-- THE TOLD AND TIED CARD OF 'replaylaw.CommandLinesRoundTrip'. -/
def commandLinesRoundTripCard : Claim7 := { stood := { row := commandLinesRoundTripRow, standIns := [], harness := (true, "59095f560f7c59b20c24ba87428f86addbb4b90ad6ea4b48b939f08c03deca9e"), looks := true }, told := true, laidByText := true, laidKinds := [.data, .data, .data, .sentinel, .sentinel, .listed, .data, .data, .data], laidTests := true, laidLooks := .later, goes := false }
def CommandLinesRoundTripToldSaid : Prop := Claim7.holds Tryf.pinned (.plain (OpenSpec.ofChange commandLinesRoundTripSpec)) commandLinesRoundTripCard
/-- ITS FALSE NEIGHBOUR. Refute it at one input. -/
def CommandLinesRoundTripToldWrongFalsely : Prop := Claim7.holds Tryf.pinned (.plain (OpenSpec.ofChange commandLinesRoundTripWrong)) commandLinesRoundTripCard
end Rows
end Go.Proofs.Qxb6500919aFmt
