/-
  NARROWER THAN 'FOR EVERY INPUT', by the rows' own cells (each row's printed sentence says how): RefinesModel: laid · RefusalsChangeNothing: laid · EndpointQueuesAreFIFO: laid · ReplyIsOneShot: laid · SchedulerPicksAmongHighest: laid · NotificationsAccumulate: laid · StepDependsOnBytesAndEvent: laid.
  DERIVED. THE GIVEN ROWS OF THIS SEAT. 7 by the template 'for every input the law returns true; each argument reads behind the call as it read before'; 0 by the template 'total and deterministic' (their statements: Qxb6500918aDoorTotals.lean).
  GIVEN WITH THE SEED: the statements are not yours to turn. If you find one false, say at which input.
  Laid BY PROGRAM, IN A SANDBOX (cutbox-rows.mjs): the forced cells as the released guide's own fill.sh prints them over the translation 47ab561eaf5e67f3… (all of the seat's roots in one cut). By AI agents, Wed Nov 11 2026. No macro, syntax, notation, axiom, sorry.
-/
import Derived.Test.Qxb6500918aDoorChecked
import GoSem.Claim
import GoSem.ClaimJoined
import GoSem.ClaimMapViews
import Derived.JoinedTies
import Derived.KernelRfl
namespace Go.Proofs.Qxb6500918aDoor
/- THE CELL 'sum', in the pinned program and in every row, IS THE sha256 OF THE DUMP (.gsa) THAT Qxb6500918aDoorProg.lean LOADS. Nothing in Lean hashes anything: it is a label: what it is worth is what the hold of that sum in a sandbox is worth. -/
noncomputable def Tryd.pinned : Pinned := { name := "qxb6500918adoor", sum := "47ab561eaf5e67f3cf8d9516e5ea98299ac69e8e9fa370a9c945a8ea211493c6", checked := Tryd.checked }
namespace Rows
def none {H : Type} : Left H := { results := [], args := [] }

/- WHAT THE LISTED PACKAGE-LEVEL VARIABLES READ AS WHEN THE CALL BEGINS. Each datum BY PROGRAM (the guide's laid-datum.mjs) off the statement by which the dump's own 'gosem.cut.vars' lays the variable. In a bare row this is a premise. The card (Qxb6500918aDoorCards.lean) ties it to the program's text. -/
def laid_e2e_kernelm_none {H : Type} : DataW H := .agg [.lit (.int .u16 0), .lit (.int .u32 0)]
def laid_e2e_kernel_noQueue {H : Type} : DataW H := .agg [.lit (.int .i16 (-1)), .lit (.int .i16 (-1)), .lit (.int .u32 0)]
def laid_e2e_kernel_noTCB {H : Type} : DataW H := .agg [.agg [.lit (.int .u8 0), .lit (.int .u8 0), .agg [.lit (.int .u16 0), .lit (.int .u32 0)], .agg [.lit (.int .u16 0), .lit (.int .u32 0)], .agg [.lit (.int .u16 0), .lit (.int .u32 0)], .lit (.int .u64 0), .agg [.lit (.int .u64 0), .lit (.int .u64 0), .lit (.int .u64 0), .lit (.int .u64 0)], .lit (.int .u8 0), .lit (.int .u8 0), .lit (.int .u32 0), .lit (.int .u32 0), .lit (.bool false), .lit (.bool false)], .lit (.int .i16 (-1)), .lit (.int .i16 (-1))]
def laid_e2e_kernellaw_none {H : Type} : DataW H := .agg [.lit (.int .u16 0), .lit (.int .u32 0)]

/-- 'kernellaw.RefinesModel': WHATEVER THE INPUT: true; the input reads as it did. -/
def refinesModelSpec : ChangeSpec := { name := "refinesModel", fn := fun _ => fun
  | [d] => { results := [.lit (.bool true)], args := [d] }
  | _ => none }
def refinesModelRow : OpenClaim := { program := "qxb6500918adoor", sum := "47ab561eaf5e67f3cf8d9516e5ea98299ac69e8e9fa370a9c945a8ea211493c6", func := "e2e/kernellaw.RefinesModel", spec := "refinesModel", unfollowed := true, recurses := true, named := ["e2e/kernel.noTCB", "e2e/kernel.noQueue", "e2e/kernelm.none"], plainKeys := false, apart := false, laid := [("e2e/kernelm.none", laid_e2e_kernelm_none), ("e2e/kernel.noQueue", laid_e2e_kernel_noQueue), ("e2e/kernel.noTCB", laid_e2e_kernel_noTCB)] }
def RefinesModelSaid : Prop := refinesModelRow.holds Tryd.pinned (OpenSpec.ofChange refinesModelSpec)

/-- ITS FALSE NEIGHBOUR: 'it returns false'. Refute it at one input. -/
def refinesModelWrong : ChangeSpec := { name := "refinesModel", fn := fun _ => fun
  | [d] => { results := [.lit (.bool false)], args := [d] }
  | _ => none }
def RefinesModelWrongFalsely : Prop := refinesModelRow.holds Tryd.pinned (OpenSpec.ofChange refinesModelWrong)

/-- 'kernellaw.RefusalsChangeNothing': WHATEVER THE INPUT: true; the input reads as it did. -/
def refusalsChangeNothingSpec : ChangeSpec := { name := "refusalsChangeNothing", fn := fun _ => fun
  | [d] => { results := [.lit (.bool true)], args := [d] }
  | _ => none }
def refusalsChangeNothingRow : OpenClaim := { program := "qxb6500918adoor", sum := "47ab561eaf5e67f3cf8d9516e5ea98299ac69e8e9fa370a9c945a8ea211493c6", func := "e2e/kernellaw.RefusalsChangeNothing", spec := "refusalsChangeNothing", unfollowed := true, recurses := true, named := ["e2e/kernel.noTCB", "e2e/kernel.noQueue"], plainKeys := false, apart := false, laid := [("e2e/kernel.noQueue", laid_e2e_kernel_noQueue), ("e2e/kernel.noTCB", laid_e2e_kernel_noTCB)] }
def RefusalsChangeNothingSaid : Prop := refusalsChangeNothingRow.holds Tryd.pinned (OpenSpec.ofChange refusalsChangeNothingSpec)

/-- ITS FALSE NEIGHBOUR: 'it returns false'. Refute it at one input. -/
def refusalsChangeNothingWrong : ChangeSpec := { name := "refusalsChangeNothing", fn := fun _ => fun
  | [d] => { results := [.lit (.bool false)], args := [d] }
  | _ => none }
def RefusalsChangeNothingWrongFalsely : Prop := refusalsChangeNothingRow.holds Tryd.pinned (OpenSpec.ofChange refusalsChangeNothingWrong)

/-- 'kernellaw.EndpointQueuesAreFIFO': WHATEVER THE INPUT: true; the input reads as it did. -/
def endpointQueuesAreFIFOSpec : ChangeSpec := { name := "endpointQueuesAreFIFO", fn := fun _ => fun
  | [d] => { results := [.lit (.bool true)], args := [d] }
  | _ => none }
def endpointQueuesAreFIFORow : OpenClaim := { program := "qxb6500918adoor", sum := "47ab561eaf5e67f3cf8d9516e5ea98299ac69e8e9fa370a9c945a8ea211493c6", func := "e2e/kernellaw.EndpointQueuesAreFIFO", spec := "endpointQueuesAreFIFO", unfollowed := true, recurses := true, named := ["e2e/kernel.noTCB", "e2e/kernel.noQueue"], plainKeys := false, apart := false, laid := [("e2e/kernel.noQueue", laid_e2e_kernel_noQueue), ("e2e/kernel.noTCB", laid_e2e_kernel_noTCB)] }
def EndpointQueuesAreFIFOSaid : Prop := endpointQueuesAreFIFORow.holds Tryd.pinned (OpenSpec.ofChange endpointQueuesAreFIFOSpec)

/-- ITS FALSE NEIGHBOUR: 'it returns false'. Refute it at one input. -/
def endpointQueuesAreFIFOWrong : ChangeSpec := { name := "endpointQueuesAreFIFO", fn := fun _ => fun
  | [d] => { results := [.lit (.bool false)], args := [d] }
  | _ => none }
def EndpointQueuesAreFIFOWrongFalsely : Prop := endpointQueuesAreFIFORow.holds Tryd.pinned (OpenSpec.ofChange endpointQueuesAreFIFOWrong)

/-- 'kernellaw.ReplyIsOneShot': WHATEVER THE INPUT: true; the input reads as it did. -/
def replyIsOneShotSpec : ChangeSpec := { name := "replyIsOneShot", fn := fun _ => fun
  | [d] => { results := [.lit (.bool true)], args := [d] }
  | _ => none }
def replyIsOneShotRow : OpenClaim := { program := "qxb6500918adoor", sum := "47ab561eaf5e67f3cf8d9516e5ea98299ac69e8e9fa370a9c945a8ea211493c6", func := "e2e/kernellaw.ReplyIsOneShot", spec := "replyIsOneShot", unfollowed := true, recurses := true, named := ["e2e/kernellaw.none", "e2e/kernel.noTCB", "e2e/kernel.noQueue"], plainKeys := false, apart := false, laid := [("e2e/kernel.noQueue", laid_e2e_kernel_noQueue), ("e2e/kernel.noTCB", laid_e2e_kernel_noTCB), ("e2e/kernellaw.none", laid_e2e_kernellaw_none)] }
def ReplyIsOneShotSaid : Prop := replyIsOneShotRow.holds Tryd.pinned (OpenSpec.ofChange replyIsOneShotSpec)

/-- ITS FALSE NEIGHBOUR: 'it returns false'. Refute it at one input. -/
def replyIsOneShotWrong : ChangeSpec := { name := "replyIsOneShot", fn := fun _ => fun
  | [d] => { results := [.lit (.bool false)], args := [d] }
  | _ => none }
def ReplyIsOneShotWrongFalsely : Prop := replyIsOneShotRow.holds Tryd.pinned (OpenSpec.ofChange replyIsOneShotWrong)

/-- 'kernellaw.SchedulerPicksAmongHighest': WHATEVER THE INPUT: true; the input reads as it did. -/
def schedulerPicksAmongHighestSpec : ChangeSpec := { name := "schedulerPicksAmongHighest", fn := fun _ => fun
  | [d] => { results := [.lit (.bool true)], args := [d] }
  | _ => none }
def schedulerPicksAmongHighestRow : OpenClaim := { program := "qxb6500918adoor", sum := "47ab561eaf5e67f3cf8d9516e5ea98299ac69e8e9fa370a9c945a8ea211493c6", func := "e2e/kernellaw.SchedulerPicksAmongHighest", spec := "schedulerPicksAmongHighest", inPlace := ["slices.overlaps[e2e/api.Ref]"], unfollowed := true, recurses := true, named := ["e2e/kernellaw.none", "e2e/kernel.noTCB", "e2e/kernel.noQueue"], plainKeys := false, apart := false, laid := [("e2e/kernel.noQueue", laid_e2e_kernel_noQueue), ("e2e/kernel.noTCB", laid_e2e_kernel_noTCB), ("e2e/kernellaw.none", laid_e2e_kernellaw_none)] }
def SchedulerPicksAmongHighestSaid : Prop := schedulerPicksAmongHighestRow.holds Tryd.pinned (OpenSpec.ofChange schedulerPicksAmongHighestSpec)

/-- ITS FALSE NEIGHBOUR: 'it returns false'. Refute it at one input. -/
def schedulerPicksAmongHighestWrong : ChangeSpec := { name := "schedulerPicksAmongHighest", fn := fun _ => fun
  | [d] => { results := [.lit (.bool false)], args := [d] }
  | _ => none }
def SchedulerPicksAmongHighestWrongFalsely : Prop := schedulerPicksAmongHighestRow.holds Tryd.pinned (OpenSpec.ofChange schedulerPicksAmongHighestWrong)

/-- 'kernellaw.NotificationsAccumulate': WHATEVER THE INPUT: true; the input reads as it did. -/
def notificationsAccumulateSpec : ChangeSpec := { name := "notificationsAccumulate", fn := fun _ => fun
  | [d] => { results := [.lit (.bool true)], args := [d] }
  | _ => none }
def notificationsAccumulateRow : OpenClaim := { program := "qxb6500918adoor", sum := "47ab561eaf5e67f3cf8d9516e5ea98299ac69e8e9fa370a9c945a8ea211493c6", func := "e2e/kernellaw.NotificationsAccumulate", spec := "notificationsAccumulate", unfollowed := true, recurses := true, named := ["e2e/kernel.noTCB", "e2e/kernel.noQueue"], plainKeys := false, apart := false, laid := [("e2e/kernel.noQueue", laid_e2e_kernel_noQueue), ("e2e/kernel.noTCB", laid_e2e_kernel_noTCB)] }
def NotificationsAccumulateSaid : Prop := notificationsAccumulateRow.holds Tryd.pinned (OpenSpec.ofChange notificationsAccumulateSpec)

/-- ITS FALSE NEIGHBOUR: 'it returns false'. Refute it at one input. -/
def notificationsAccumulateWrong : ChangeSpec := { name := "notificationsAccumulate", fn := fun _ => fun
  | [d] => { results := [.lit (.bool false)], args := [d] }
  | _ => none }
def NotificationsAccumulateWrongFalsely : Prop := notificationsAccumulateRow.holds Tryd.pinned (OpenSpec.ofChange notificationsAccumulateWrong)

/-- 'kernellaw.StepDependsOnBytesAndEvent': WHATEVER THE INPUT: true; the input reads as it did. -/
def stepDependsOnBytesAndEventSpec : ChangeSpec := { name := "stepDependsOnBytesAndEvent", fn := fun _ => fun
  | [d] => { results := [.lit (.bool true)], args := [d] }
  | _ => none }
def stepDependsOnBytesAndEventRow : OpenClaim := { program := "qxb6500918adoor", sum := "47ab561eaf5e67f3cf8d9516e5ea98299ac69e8e9fa370a9c945a8ea211493c6", func := "e2e/kernellaw.StepDependsOnBytesAndEvent", spec := "stepDependsOnBytesAndEvent", unfollowed := true, recurses := true, named := ["e2e/kernel.noTCB", "e2e/kernel.noQueue"], plainKeys := false, apart := false, laid := [("e2e/kernel.noQueue", laid_e2e_kernel_noQueue), ("e2e/kernel.noTCB", laid_e2e_kernel_noTCB)] }
def StepDependsOnBytesAndEventSaid : Prop := stepDependsOnBytesAndEventRow.holds Tryd.pinned (OpenSpec.ofChange stepDependsOnBytesAndEventSpec)

/-- ITS FALSE NEIGHBOUR: 'it returns false'. Refute it at one input. -/
def stepDependsOnBytesAndEventWrong : ChangeSpec := { name := "stepDependsOnBytesAndEvent", fn := fun _ => fun
  | [d] => { results := [.lit (.bool false)], args := [d] }
  | _ => none }
def StepDependsOnBytesAndEventWrongFalsely : Prop := stepDependsOnBytesAndEventRow.holds Tryd.pinned (OpenSpec.ofChange stepDependsOnBytesAndEventWrong)

end Rows
end Go.Proofs.Qxb6500918aDoor
