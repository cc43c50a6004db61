/-
  No cell of these rows narrows 'for every input' (looked for: loops, veiled, ifaces, maps, wideKeys, modest, calm, conditions, laid).
  DERIVED. THE GIVEN ROWS OF THIS SEAT. 6 by the template 'for every input the law returns true; each argument reads behind the call as it read before'; 0 by the template 'total and deterministic' (their statements: Qxb6500919aTotals.lean).
  GIVEN WITH THE SEED: the statements are not yours to turn. If you find one false, say at which input.
  Laid BY PROGRAM, IN A SANDBOX (cutbox-rows.mjs): the forced cells as the released guide's own fill.sh prints them over the translation 1d1f0b3527d6dbe9… (all of the seat's roots in one cut). By AI agents, Wed Nov 11 2026. No macro, syntax, notation, axiom, sorry.
-/
import Derived.Test.Qxb6500919aChecked
import GoSem.Claim
import GoSem.ClaimJoined
import GoSem.ClaimMapViews
import Derived.JoinedTies
import Derived.KernelRfl
namespace Go.Proofs.Qxb6500919a
/- THE CELL 'sum', in the pinned program and in every row, IS THE sha256 OF THE DUMP (.gsa) THAT Qxb6500919aProg.lean LOADS. Nothing in Lean hashes anything: it is a label: what it is worth is what the hold of that sum in a sandbox is worth. -/
noncomputable def Try.pinned : Pinned := { name := "qxb6500919a", sum := "1d1f0b3527d6dbe91f81e6a7c047ec7238ddb83178e5a8b25a170130618302e5", checked := Try.checked }
namespace Rows
def none {H : Type} : Left H := { results := [], args := [] }

/-- 'replaylaw.RefinesModel': WHATEVER THE INPUT: true; the input reads as it did. -/
def refinesModelSpec : ChangeSpec := { name := "refinesModel", fn := fun _ => fun
  | [d] => { results := [.lit (.bool true)], args := [d] }
  | _ => none }
def refinesModelRow : OpenClaim := { program := "qxb6500919a", sum := "1d1f0b3527d6dbe91f81e6a7c047ec7238ddb83178e5a8b25a170130618302e5", func := "e2e/replaylaw.RefinesModel", spec := "refinesModel", unfollowed := true, recurses := true, apart := false }
def RefinesModelSaid : Prop := refinesModelRow.holds Try.pinned (OpenSpec.ofChange refinesModelSpec)

/-- ITS FALSE NEIGHBOUR: 'it returns false'. Refute it at one input. -/
def refinesModelWrong : ChangeSpec := { name := "refinesModel", fn := fun _ => fun
  | [d] => { results := [.lit (.bool false)], args := [d] }
  | _ => none }
def RefinesModelWrongFalsely : Prop := refinesModelRow.holds Try.pinned (OpenSpec.ofChange refinesModelWrong)

/-- 'replaylaw.RefusalsChangeNothing': WHATEVER THE INPUT: true; the input reads as it did. -/
def refusalsChangeNothingSpec : ChangeSpec := { name := "refusalsChangeNothing", fn := fun _ => fun
  | [d] => { results := [.lit (.bool true)], args := [d] }
  | _ => none }
def refusalsChangeNothingRow : OpenClaim := { program := "qxb6500919a", sum := "1d1f0b3527d6dbe91f81e6a7c047ec7238ddb83178e5a8b25a170130618302e5", func := "e2e/replaylaw.RefusalsChangeNothing", spec := "refusalsChangeNothing", unfollowed := true, recurses := true, apart := false }
def RefusalsChangeNothingSaid : Prop := refusalsChangeNothingRow.holds Try.pinned (OpenSpec.ofChange refusalsChangeNothingSpec)

/-- ITS FALSE NEIGHBOUR: 'it returns false'. Refute it at one input. -/
def refusalsChangeNothingWrong : ChangeSpec := { name := "refusalsChangeNothing", fn := fun _ => fun
  | [d] => { results := [.lit (.bool false)], args := [d] }
  | _ => none }
def RefusalsChangeNothingWrongFalsely : Prop := refusalsChangeNothingRow.holds Try.pinned (OpenSpec.ofChange refusalsChangeNothingWrong)

/-- 'replaylaw.SeekStartsAtLatestSnapshot': WHATEVER THE INPUT: true; the input reads as it did. -/
def seekStartsAtLatestSnapshotSpec : ChangeSpec := { name := "seekStartsAtLatestSnapshot", fn := fun _ => fun
  | [d] => { results := [.lit (.bool true)], args := [d] }
  | _ => none }
def seekStartsAtLatestSnapshotRow : OpenClaim := { program := "qxb6500919a", sum := "1d1f0b3527d6dbe91f81e6a7c047ec7238ddb83178e5a8b25a170130618302e5", func := "e2e/replaylaw.SeekStartsAtLatestSnapshot", spec := "seekStartsAtLatestSnapshot", unfollowed := true, recurses := true, apart := false }
def SeekStartsAtLatestSnapshotSaid : Prop := seekStartsAtLatestSnapshotRow.holds Try.pinned (OpenSpec.ofChange seekStartsAtLatestSnapshotSpec)

/-- ITS FALSE NEIGHBOUR: 'it returns false'. Refute it at one input. -/
def seekStartsAtLatestSnapshotWrong : ChangeSpec := { name := "seekStartsAtLatestSnapshot", fn := fun _ => fun
  | [d] => { results := [.lit (.bool false)], args := [d] }
  | _ => none }
def SeekStartsAtLatestSnapshotWrongFalsely : Prop := seekStartsAtLatestSnapshotRow.holds Try.pinned (OpenSpec.ofChange seekStartsAtLatestSnapshotWrong)

/-- 'replaylaw.EveryIndexFromEveryPoint': WHATEVER THE INPUT: true; the input reads as it did. -/
def everyIndexFromEveryPointSpec : ChangeSpec := { name := "everyIndexFromEveryPoint", fn := fun _ => fun
  | [d] => { results := [.lit (.bool true)], args := [d] }
  | _ => none }
def everyIndexFromEveryPointRow : OpenClaim := { program := "qxb6500919a", sum := "1d1f0b3527d6dbe91f81e6a7c047ec7238ddb83178e5a8b25a170130618302e5", func := "e2e/replaylaw.EveryIndexFromEveryPoint", spec := "everyIndexFromEveryPoint", unfollowed := true, recurses := true, apart := false }
def EveryIndexFromEveryPointSaid : Prop := everyIndexFromEveryPointRow.holds Try.pinned (OpenSpec.ofChange everyIndexFromEveryPointSpec)

/-- ITS FALSE NEIGHBOUR: 'it returns false'. Refute it at one input. -/
def everyIndexFromEveryPointWrong : ChangeSpec := { name := "everyIndexFromEveryPoint", fn := fun _ => fun
  | [d] => { results := [.lit (.bool false)], args := [d] }
  | _ => none }
def EveryIndexFromEveryPointWrongFalsely : Prop := everyIndexFromEveryPointRow.holds Try.pinned (OpenSpec.ofChange everyIndexFromEveryPointWrong)

/-- 'replaylaw.DivergenceReportedIsFirst': WHATEVER THE INPUT: true; the input reads as it did. -/
def divergenceReportedIsFirstSpec : ChangeSpec := { name := "divergenceReportedIsFirst", fn := fun _ => fun
  | [d] => { results := [.lit (.bool true)], args := [d] }
  | _ => none }
def divergenceReportedIsFirstRow : OpenClaim := { program := "qxb6500919a", sum := "1d1f0b3527d6dbe91f81e6a7c047ec7238ddb83178e5a8b25a170130618302e5", func := "e2e/replaylaw.DivergenceReportedIsFirst", spec := "divergenceReportedIsFirst", unfollowed := true, recurses := true, apart := false }
def DivergenceReportedIsFirstSaid : Prop := divergenceReportedIsFirstRow.holds Try.pinned (OpenSpec.ofChange divergenceReportedIsFirstSpec)

/-- ITS FALSE NEIGHBOUR: 'it returns false'. Refute it at one input. -/
def divergenceReportedIsFirstWrong : ChangeSpec := { name := "divergenceReportedIsFirst", fn := fun _ => fun
  | [d] => { results := [.lit (.bool false)], args := [d] }
  | _ => none }
def DivergenceReportedIsFirstWrongFalsely : Prop := divergenceReportedIsFirstRow.holds Try.pinned (OpenSpec.ofChange divergenceReportedIsFirstWrong)

/-- 'replaylaw.ResumeCutsAtThePosition': WHATEVER THE INPUT: true; the input reads as it did. -/
def resumeCutsAtThePositionSpec : ChangeSpec := { name := "resumeCutsAtThePosition", fn := fun _ => fun
  | [d] => { results := [.lit (.bool true)], args := [d] }
  | _ => none }
def resumeCutsAtThePositionRow : OpenClaim := { program := "qxb6500919a", sum := "1d1f0b3527d6dbe91f81e6a7c047ec7238ddb83178e5a8b25a170130618302e5", func := "e2e/replaylaw.ResumeCutsAtThePosition", spec := "resumeCutsAtThePosition", unfollowed := true, recurses := true, apart := false }
def ResumeCutsAtThePositionSaid : Prop := resumeCutsAtThePositionRow.holds Try.pinned (OpenSpec.ofChange resumeCutsAtThePositionSpec)

/-- ITS FALSE NEIGHBOUR: 'it returns false'. Refute it at one input. -/
def resumeCutsAtThePositionWrong : ChangeSpec := { name := "resumeCutsAtThePosition", fn := fun _ => fun
  | [d] => { results := [.lit (.bool false)], args := [d] }
  | _ => none }
def ResumeCutsAtThePositionWrongFalsely : Prop := resumeCutsAtThePositionRow.holds Try.pinned (OpenSpec.ofChange resumeCutsAtThePositionWrong)

end Rows
end Go.Proofs.Qxb6500919a
