/-
  The row over function 3 and its tied card: RefinesModelCardSaid.
-/
import Derived.Test.Qxb6500918aDoorCards
import Derived.Test.Qxb6500918aDoorTie
import Derived.Test.Qxb6500918aDoorNa
import Derived.Test.Qxb6500918aDoorNe
import Derived.Test.Qxb6500918aDoorNc
import Derived.Test.Qxb6500918aDoorNf
import Derived.Test.Qxb6500918aDoorWk
import Derived.ChangeSame
import Derived.ChangeVars
import Derived.JoinedOf
import Derived.RowKit
import Derived.RowKitTokens
import Derived.Stop.Joined
import Derived.SevenTiedAt
namespace Go.Proofs.Qxb6500918aDoor
open Go.Sx Go.Kn Go.ChangeShapes Go.WideShapes Go.ChangeAt Go.RowKit
set_option linter.unusedVariables false

set_option maxHeartbeats 4000000 in
set_option maxRecDepth 100000 in
theorem refinesModel_lifted (os : Os) (started : os.Started) (H : Type) (enc : TypeId × Value → H) :
    ReturnsInHanded {} Tryd.checked os 3 .any (fun w args => (Rows.refinesModelSpec.pre enc Tryd.prog Tryd.f3 [] false w args ∧ laidMetH Tryd.prog [("e2e/kernelm.none", Rows.laid_e2e_kernelm_none), ("e2e/kernel.noQueue", Rows.laid_e2e_kernel_noQueue), ("e2e/kernel.noTCB", Rows.laid_e2e_kernel_noTCB)] w) ∧ sizedMet enc Tryd.prog Tryd.f3 (OpenSpec.ofChange Rows.refinesModelSpec) false w args)
      (Rows.refinesModelSpec.post enc Tryd.prog Tryd.f3 false true false false) := by
  refine returnsInHanded_of_change_and (C := Tryd.checked) (X := fun w _ => laidMetH Tryd.prog [("e2e/kernelm.none", Rows.laid_e2e_kernelm_none), ("e2e/kernel.noQueue", Rows.laid_e2e_kernel_noQueue), ("e2e/kernel.noTCB", Rows.laid_e2e_kernel_noTCB)] w) (fun _ _ _ hh h => h.of_heap hh) Tryd.own started (by kernel_rfl) Tryd.func3
    (ChangeSpec.witness_at (enc := enc) (C := Tryd.checked) (os := os) (X := fun w _ => laidMetH Tryd.prog [("e2e/kernelm.none", Rows.laid_e2e_kernelm_none), ("e2e/kernel.noQueue", Rows.laid_e2e_kernel_noQueue), ("e2e/kernel.noTCB", Rows.laid_e2e_kernel_noTCB)] w) false (laidWorld os) #[.slice none 0 0] 8 rfl (by kernel_rfl) (by kernel_rfl) (by kernel_rfl) (by kernel_rfl) (by kernel_rfl) (laid3m_met os _)) ?_
  intro W base args ds gs before hval0 hW _ _ hL _
  have hL2 : laidMet Tryd.prog [("e2e/kernelm.none", Rows.laid_e2e_kernelm_none), ("e2e/kernel.noQueue", Rows.laid_e2e_kernel_noQueue), ("e2e/kernel.noTCB", Rows.laid_e2e_kernel_noTCB)] W := hL
  have hg := glob_of hL2 (by simp) (by simp)
  have hval : ∀ (j : Nat) t v, Tryd.f3.params[j]? = some t → args[j]? = some v → Value.okWide Tryd.prog W .any base t v := hval0
  have hW' := hW
  obtain ⟨p, q, hA0, hV, rfl, hfz, hnd⟩ := hW
  have hA : DataW.TrodAll enc Tryd.prog W 0 (fun _ => true) true Tryd.f3.params.toList args.toList ds p := hA0
  rw [Tryd.params3] at hA hval
  obtain ⟨v0, d0, rfl, rfl, h0⟩ := trodAll_one hA
  obtain ⟨rfl, rfl⟩ := trodVars_none hV
  obtain ⟨a0, len, cap, rfl⟩ := okWide_slice Tryd.underlying22 (hval 0 22 v0 rfl rfl)
  have h0k := h0
  obtain ⟨fuel, hf⟩ := h0
  clear hA0 hval0
  simp only [List.append_nil] at hW'
  have hlt : ∀ x ∈ p, x.block < W.heap.size := fun x hx => by simpa using hW'.lt x hx
  obtain ⟨ty3, hg3⟩ := noneM_of hL2 (by simp)
  obtain ⟨ops, rfl, hok, hwd, hscr⟩ := scr_ofX hf
  refine (law3_ok ops a0 cap W hscr (fun x hx => (hok x hx).1) hwd hg.1.1 hg.1.2 hg.2.1 hg.2.2 (fun x hx => (hok x hx).2) hg3).mono fun e W' ⟨he, hg⟩ => ?_
  subst he
  have hb := below_of hg
  exact ⟨_, rfl, [d0], [], p, [], p, [], hW', trodAll_mk1 (shut_bool Tryd.underlying4 _), trodAll_mk1 (Below.trod Tryd.laidOut (by kernel_rfl) (of_decide_eq_true (by kernel_rfl)) h0k hb hlt), rfl, hb.frame _, fun h => by cases h⟩

theorem refinesModel_row : Rows.RefinesModelSaid :=
  OpenClaim.holds_of_wide 3 Tryd.f3 rfl rfl rfl rfl rfl rfl rfl ⟨rfl, rfl, rfl, rfl, rfl⟩ rfl rfl rfl rfl rfl (by kernel_rfl) Tryd.func3 (by kernel_rfl)
    (of_decide_eq_true (by kernel_rfl)) (by unfold Func.isWrapper; first | (rw [if_pos (by decide +kernel)]; kernel_rfl) | (rw [if_neg (by decide +kernel)]; exact ⟨rfl, rfl⟩))
    (fun os started H enc _ => refinesModel_lifted os started H enc)

theorem refinesModel_holds : Rows.RefinesModelCardSaid :=
  Claim7.holds_tied_plain_at .later [] [.data, .data, .data] true (true, "e40829f2aa9e7c6e6a811f99412bf1b8cc14f2bee1b2c212cef0d87f8f8e8b63") false
    refinesModel_row (fun _ h => by cases h) (by kernel_rfl) (fun _ h => by cases h) refinesModel_row_tie rfl ⟨rfl, rfl⟩ (by kernel_rfl) rfl
    (fun f fn hf hfn => by
      obtain rfl : f = 3 := Option.some.inj ((show Tryd.prog.funcNamed "e2e/kernellaw.RefinesModel" = some 3 by kernel_rfl).symm.trans hf) |>.symm
      obtain rfl : fn = Tryd.f3 := (Option.some.inj (Tryd.func3.symm.trans hfn)).symm
      exact ⟨by kernel_rfl, fun j t ht => by
        rw [Tryd.params3] at ht
        have h3 : t = 22 := by
          rcases j with _ | j
          · simpa using ht.symm
          · simp at ht
        subst h3
        exact (show Tryd.prog.wantsStandIn 22 = false by kernel_rfl)⟩)
    (by kernel_rfl)

end Go.Proofs.Qxb6500918aDoor
