/-
  DERIVED. GIVEN WITH THE SEED: THE CARDS: each row of Qxb6500918aDoorRows.lean that lists a variable, with what it lists TIED to the program's text (the seventh form; the later family's looks); each row that meets fmt, with fmt's text TOLD by the authors' own Lean function (tested against real Go, not proved from fmt's source: count such statements apart). THE CARD IS WHAT COUNTS. Prove the row's statement (the work); the ties are given (Qxb6500918aDoorTie.lean); close each card by the builder's one call (the guide's Derived/Test/ToyasCard.lean, 'card_holds'). Laid BY PROGRAM, IN A SANDBOX (cutbox-door.mjs). By AI agents, Wed Nov 11 2026. No macro, syntax, notation, axiom, sorry.
-/
import Derived.Test.Qxb6500918aDoorRows
import GoSem.ClaimSeven
namespace Go.Proofs.Qxb6500918aDoor
namespace Rows

/-- THE TIED CARD OF 'kernellaw.RefinesModel'. -/
def refinesModelCard : Claim7 := { stood := { row := refinesModelRow, standIns := [], harness := (true, "e40829f2aa9e7c6e6a811f99412bf1b8cc14f2bee1b2c212cef0d87f8f8e8b63"), looks := false }, kinds := [], alts := [], laidByText := true, laidKinds := [.data, .data, .data], laidTests := true, laidLooks := .later }
def RefinesModelCardSaid : Prop := Claim7.holds Tryd.pinned (.plain (OpenSpec.ofChange refinesModelSpec)) refinesModelCard

/-- THE TIED CARD OF 'kernellaw.RefusalsChangeNothing'. -/
def refusalsChangeNothingCard : Claim7 := { stood := { row := refusalsChangeNothingRow, standIns := [], harness := (true, "e40829f2aa9e7c6e6a811f99412bf1b8cc14f2bee1b2c212cef0d87f8f8e8b63"), looks := false }, kinds := [], alts := [], laidByText := true, laidKinds := [.data, .data], laidTests := true, laidLooks := .later }
def RefusalsChangeNothingCardSaid : Prop := Claim7.holds Tryd.pinned (.plain (OpenSpec.ofChange refusalsChangeNothingSpec)) refusalsChangeNothingCard

/-- THE TIED CARD OF 'kernellaw.EndpointQueuesAreFIFO'. -/
def endpointQueuesAreFIFOCard : Claim7 := { stood := { row := endpointQueuesAreFIFORow, standIns := [], harness := (true, "e40829f2aa9e7c6e6a811f99412bf1b8cc14f2bee1b2c212cef0d87f8f8e8b63"), looks := false }, kinds := [], alts := [], laidByText := true, laidKinds := [.data, .data], laidTests := true, laidLooks := .later }
def EndpointQueuesAreFIFOCardSaid : Prop := Claim7.holds Tryd.pinned (.plain (OpenSpec.ofChange endpointQueuesAreFIFOSpec)) endpointQueuesAreFIFOCard

/-- THE TIED CARD OF 'kernellaw.ReplyIsOneShot'. -/
def replyIsOneShotCard : Claim7 := { stood := { row := replyIsOneShotRow, standIns := [], harness := (true, "e40829f2aa9e7c6e6a811f99412bf1b8cc14f2bee1b2c212cef0d87f8f8e8b63"), looks := false }, kinds := [], alts := [], laidByText := true, laidKinds := [.data, .data, .data], laidTests := true, laidLooks := .later }
def ReplyIsOneShotCardSaid : Prop := Claim7.holds Tryd.pinned (.plain (OpenSpec.ofChange replyIsOneShotSpec)) replyIsOneShotCard

/-- THE TIED CARD OF 'kernellaw.SchedulerPicksAmongHighest'. -/
def schedulerPicksAmongHighestCard : Claim7 := { stood := { row := schedulerPicksAmongHighestRow, standIns := [], harness := (true, "e40829f2aa9e7c6e6a811f99412bf1b8cc14f2bee1b2c212cef0d87f8f8e8b63"), looks := false }, kinds := [], alts := [], laidByText := true, laidKinds := [.data, .data, .data], laidTests := true, laidLooks := .later }
def SchedulerPicksAmongHighestCardSaid : Prop := Claim7.holds Tryd.pinned (.plain (OpenSpec.ofChange schedulerPicksAmongHighestSpec)) schedulerPicksAmongHighestCard

/-- THE TIED CARD OF 'kernellaw.NotificationsAccumulate'. -/
def notificationsAccumulateCard : Claim7 := { stood := { row := notificationsAccumulateRow, standIns := [], harness := (true, "e40829f2aa9e7c6e6a811f99412bf1b8cc14f2bee1b2c212cef0d87f8f8e8b63"), looks := false }, kinds := [], alts := [], laidByText := true, laidKinds := [.data, .data], laidTests := true, laidLooks := .later }
def NotificationsAccumulateCardSaid : Prop := Claim7.holds Tryd.pinned (.plain (OpenSpec.ofChange notificationsAccumulateSpec)) notificationsAccumulateCard

/-- THE TIED CARD OF 'kernellaw.StepDependsOnBytesAndEvent'. -/
def stepDependsOnBytesAndEventCard : Claim7 := { stood := { row := stepDependsOnBytesAndEventRow, standIns := [], harness := (true, "e40829f2aa9e7c6e6a811f99412bf1b8cc14f2bee1b2c212cef0d87f8f8e8b63"), looks := false }, kinds := [], alts := [], laidByText := true, laidKinds := [.data, .data], laidTests := true, laidLooks := .later }
def StepDependsOnBytesAndEventCardSaid : Prop := Claim7.holds Tryd.pinned (.plain (OpenSpec.ofChange stepDependsOnBytesAndEventSpec)) stepDependsOnBytesAndEventCard
end Rows
end Go.Proofs.Qxb6500918aDoor
