/-
  Helpers for the comparison of kernel and model: equal structs, equal rows, the length of a map.
-/
import Derived.Test.Qxb6500918aDoorUb
import Derived.Test.Qxb6500918aDoorP4
import Derived.Test.Qxb6500918aDoorP5
import Derived.Test.Qxb6500918aDoorEq
namespace Go.Proofs.Qxb6500918aDoor
open Go.Sx Go.Kn
set_option maxRecDepth 100000

theorem runThS (x : Tcb) : EqRun Tryd.prog 59 (.agg (thC x).toArray) (.agg (thC x).toArray) true := by
  have h : ((x.st == x.st) && ((x.prio == x.prio) && (decide (x.wait = x.wait) && (decide (x.cs = x.cs) && (decide (x.rep = x.rep) && ((x.badge == x.badge) && (((x.m0 == x.m0) && ((x.m1 == x.m1) && ((x.m2 == x.m2) && ((x.m3 == x.m3) && true)))) && ((x.len == x.len) && ((x.got == x.got) && ((x.xfer == x.xfer) && ((x.dst == x.dst) && ((x.grant == x.grant) && ((x.call == x.call) && true))))))))))))) = true := by simp
  rw [← h]
  exact eqRun_of Tryd.eqGuardType59 (eqI_struct Tryd.underlying59 Tryd.stoodInHeld59
    (eqF_cons (by decide) (partC Tryd.isAgg54 rfl) (partC Tryd.isAgg54 rfl) (eqI_int Tryd.underlying54)
    (eqF_cons (by decide) (partC Tryd.isAgg5 rfl) (partC Tryd.isAgg5 rfl) (eqI_int Tryd.underlying5)
    (eqF_cons (by decide) (partG Tryd.isAgg39 Tryd.sizeOf39 rfl) (partG Tryd.isAgg39 Tryd.sizeOf39 rfl) (eqRf x.wait x.wait)
    (eqF_cons (by decide) (partG Tryd.isAgg39 Tryd.sizeOf39 rfl) (partG Tryd.isAgg39 Tryd.sizeOf39 rfl) (eqRf x.cs x.cs)
    (eqF_cons (by decide) (partG Tryd.isAgg39 Tryd.sizeOf39 rfl) (partG Tryd.isAgg39 Tryd.sizeOf39 rfl) (eqRf x.rep x.rep)
    (eqF_cons (by decide) (partC Tryd.isAgg31 rfl) (partC Tryd.isAgg31 rfl) (eqI_int Tryd.underlying31)
    (eqF_cons (by decide) (partG Tryd.isAgg40 Tryd.sizeOf40 rfl) (partG Tryd.isAgg40 Tryd.sizeOf40 rfl) (eqI_array (i := _) (c := 1) Tryd.underlying40 rfl rfl rfl
      (eqA_cons (partC Tryd.isAgg31 rfl) (partC Tryd.isAgg31 rfl) (eqI_int Tryd.underlying31)
      (eqA_cons (partC Tryd.isAgg31 rfl) (partC Tryd.isAgg31 rfl) (eqI_int Tryd.underlying31)
      (eqA_cons (partC Tryd.isAgg31 rfl) (partC Tryd.isAgg31 rfl) (eqI_int Tryd.underlying31)
      (eqA_cons (partC Tryd.isAgg31 rfl) (partC Tryd.isAgg31 rfl) (eqI_int Tryd.underlying31) eqA_nil)))))
    (eqF_cons (by decide) (partC Tryd.isAgg5 rfl) (partC Tryd.isAgg5 rfl) (eqI_int Tryd.underlying5)
    (eqF_cons (by decide) (partC Tryd.isAgg5 rfl) (partC Tryd.isAgg5 rfl) (eqI_int Tryd.underlying5)
    (eqF_cons (by decide) (partC Tryd.isAgg30 rfl) (partC Tryd.isAgg30 rfl) (eqI_int Tryd.underlying30)
    (eqF_cons (by decide) (partC Tryd.isAgg30 rfl) (partC Tryd.isAgg30 rfl) (eqI_int Tryd.underlying30)
    (eqF_cons (by decide) (partC Tryd.isAgg4 rfl) (partC Tryd.isAgg4 rfl) (eqI_bool Tryd.underlying4)
    (eqF_cons (by decide) (partC Tryd.isAgg4 rfl) (partC Tryd.isAgg4 rfl) (eqI_bool Tryd.underlying4) eqF_nil))))))))))))))

theorem runIrqS (q : Irq) : EqRun Tryd.prog 71 (.agg (irqC q).toArray) (.agg (irqC q).toArray) true := by
  have h : (decide (q.ntfn = q.ntfn) && ((q.badge == q.badge) && ((q.masked == q.masked) && true))) = true := by simp
  rw [← h]
  exact eqRun_of Tryd.eqGuardType71 (eqI_struct Tryd.underlying71 Tryd.stoodInHeld71
    (eqF_cons (by decide) (partG Tryd.isAgg39 Tryd.sizeOf39 rfl) (partG Tryd.isAgg39 Tryd.sizeOf39 rfl) (eqRf q.ntfn q.ntfn)
    (eqF_cons (by decide) (partC Tryd.isAgg31 rfl) (partC Tryd.isAgg31 rfl) (eqI_int Tryd.underlying31)
    (eqF_cons (by decide) (partC Tryd.isAgg4 rfl) (partC Tryd.isAgg4 rfl) (eqI_bool Tryd.underlying4) eqF_nil))))

/-- slices.Equal of two equal rows. -/
theorem eqRows {xs : List Rf} (hl : xs.length ≤ 1000) {o1 o2 : Option Addr} {c1 c2 : Nat} {F1 F2 : List Nat} {w : World} (h1 : (rl rfC 39 2 xs o1 c1 F1).at w) (h2 : (rl rfC 39 2 xs o2 c2 F2).at w) (hd : ∀ b ∈ F1, b ∉ F2) :
    Calls Tryd.prog 23 #[.slice o1 xs.length c1, .slice o2 xs.length c2] w fun e w' => e = .returned (.bool true) ∧ Fr [] w w' := by
  by_cases hz : xs.length = 0
  · rw [hz]; exact equalR_none o1 o2 c1 c2 w
  · obtain ⟨b1, cs1, e1, g1, _, _, t1, f1⟩ := Row.open_ h1 (by show 0 < xs.length; omega)
    obtain ⟨b2, cs2, e2, g2, _, _, t2, f2⟩ := Row.open_ h2 (by show 0 < xs.length; omega)
    subst e1 e2
    have f1' : F1 = [b1] := f1
    have f2' : F2 = [b2] := f2
    have hne : b1 ≠ b2 := fun e => hd b1 (by rw [f1']; simp) (by rw [f2', e]; simp)
    refine equalR_some xs hl c1 c2 b1 b2 0 0 cs1 cs2 w g1 g2 hne (fun j r hj => ?_) (fun j r hj => ?_)
    · rw [Nat.zero_add]; exact Row.read rfC_len t1 hj (List.getElem?_eq_some_iff.1 hj).1
    · rw [Nat.zero_add]; exact Row.read rfC_len t2 hj (List.getElem?_eq_some_iff.1 hj).1

section
variable {T : Slots} {L : Mem} {C : Ctx} {a : Act} {o : Oper} {w : World}

theorem rd_len {t e : TypeId} {x : Operand} {r c : Nat} {es : List Mn} (ht : Tryd.prog.underlying t = some (.map 39 e)) (hst : St C T L a w) (hop : o.op = .call ⟨.builtin .len, #[x], #[t]⟩) (hx : evO T x = some (.map (some r))) (hb : w.heap[r]? = some (mapO es c)) : Reads Tryd.prog a o r w (.int .i64 (es.length : Int)) := fun w1 he =>
  exec_len hst.slots hop hx (run_len39 ht (by rw [he]; exact hb))
end
end Go.Proofs.Qxb6500918aDoor
