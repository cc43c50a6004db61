/-
  The variable 'none', as a block of its own.
-/
import Derived.Test.Qxb6500918aDoorNa
namespace Go.Proofs.Qxb6500918aDoor
open Go.Sx Go.Kn Go.ChangeShapes Go.WideShapes Go.ChangeAt Go.RowKit
set_option maxRecDepth 100000

theorem vars_pl {P : Program} {W : World} : ∀ {l : List (String × DataW Unit)} {ps : List MemPlace}, DataW.LaidVars P W l ps → ∀ {n : String} {d : DataW Unit}, (n, d) ∈ l →
    ∃ g t cs fuel p, P.globalNamed n = some g ∧ (P.globals[g]?).map (·.type) = some t ∧ W.var? P n = some cs ∧ DataW.trod (fun _ => ()) P W 0 (fun _ => true) false fuel t cs.toList = some (d, p) ∧ ∀ i, i < cs.size → MemPlace.cell g i ∈ ps
  | x :: r, ps, ⟨g, t, cs, fuel, p, q, h1, h2, h3, h4, h5, h6⟩, n, d, hm => by
    by_cases e : (n, d) = x
    · subst e
      refine ⟨g, t, cs, fuel, p, h1, h2, h3, h4, fun i hi => ?_⟩
      rw [h6]
      refine List.mem_append_left _ (List.mem_append_left _ ?_)
      unfold MemPlace.row
      exact List.mem_map.2 ⟨i, List.mem_range.2 hi, by simp⟩
    · obtain ⟨g', t', cs', fuel', p', a1, a2, a3, a4, a5⟩ := vars_pl h5 ((List.mem_cons.1 hm).resolve_left e)
      exact ⟨g', t', cs', fuel', p', a1, a2, a3, a4, fun i hi => by rw [h6]; exact List.mem_append_right _ (a5 i hi)⟩

theorem gNone : Tryd.prog.globalNamed "e2e/kernellaw.none" = some 0 := by kernel_rfl
theorem gNonet : (Tryd.prog.globals[0]?).map (·.type) = some 39 := by kernel_rfl

theorem none_of {l : List (String × DataW Unit)} {W : World} (hL : laidMet Tryd.prog l W) (h1 : ("e2e/kernellaw.none", Rows.laid_e2e_kernellaw_none) ∈ l) : ∃ ty, W.heap[0]? = some (Blk.obj ⟨[.int .u16 0, .int .u32 0], ty, true⟩) := by
  obtain ⟨ps, hv, hn, hz⟩ := hL
  obtain ⟨g, t, cs, fuel, p, hg, ht, hvar, hd, hpl⟩ := vars_pl hv h1
  obtain rfl := Option.some.inj (gNone.symm.trans hg)
  obtain rfl : 39 = t := Option.some.inj (gNonet.symm.trans ht)
  have hc := nd39 hd rfl
  have hs : 0 < cs.size := by
    rw [← Array.length_toList, hc]; decide
  obtain ⟨⟨c, ty, hh⟩, _⟩ := hz 0 0 (hpl 0 hs)
  unfold World.var? at hvar
  rw [gNone] at hvar
  simp only [Option.bind_some, hh, Option.some.injEq] at hvar
  refine ⟨ty, ?_⟩
  rw [hh, hvar]
  have : cs = ([.int .u16 0, .int .u32 0] : List Value).toArray := by rw [← hc]
  rw [this]
  rfl

end Go.Proofs.Qxb6500918aDoor
