/-
  For the law: the script in memory, the first session, '==' of two commands.
-/
import Derived.Test.Qxb6500919aFmtV5
import Derived.Test.Qxb6500919aFmtLp
import Derived.Test.Qxb6500919aFmtEq2
import Derived.Test.Qxb6500919aFmtWI
import Derived.Test.Qxb6500919aFmtWK
namespace Go.Proofs.Qxb6500919aFmt
open Go.Sx Go.Rp
set_option maxRecDepth 100000

/-- A script as it lies in memory. -/
structure Scr (w : World) (o : Option Addr) (ops : List Opn) : Prop where
  get : ∀ {i : Nat} {x : Opn}, ops[i]? = some x → ∃ b k0, o = some ⟨b, k0, none⟩ ∧ b < w.heap.size ∧ ∀ j y, ops[j]? = some y → CellsAt w b (k0 + j * 6) (opC y)

/-- The numbers of a command. -/
def _root_.Go.Rp.Opn.rng (o : Opn) : Prop := (-9223372036854775808 ≤ o.n ∧ o.n ≤ 9223372036854775807) ∧ (-9223372036854775808 ≤ o.m ∧ o.m ≤ 9223372036854775807)

theorem ss0_wf : ss0.wf ((0 : Nat) : Int) := by
  have hm : mach0.ok := by constructor <;> (try constructor) <;> decide
  refine ⟨⟨by decide, by decide, by decide, by decide, by decide, ?_, hm, ?_, ?_, ?_, ?_, ?_⟩, hm, by decide, by decide, fun _ => by decide⟩
  all_goals first | (intro x hx; cases hx) | exact List.Pairwise.nil

theorem ss0_hon : Hon [] ss0 := by
  refine ⟨⟨by decide, rfl, rfl, ?_, ?_⟩, rfl⟩
  all_goals (intro x hx; cases hx)

theorem opk_ok {k n m : Int} (h0 : 0 ≤ k) (h1 : k ≤ 255) : (⟨k, n, m, ⟨0, 0, 0⟩⟩ : Opn).ok := ⟨⟨h0, h1⟩, ⟨(by decide : (0 : Int) ≤ 0), (by decide : (0 : Int) ≤ 255)⟩, ⟨(by decide : (0 : Int) ≤ 0), (by decide : (0 : Int) ≤ 4294967295)⟩, ⟨(by decide : (0 : Int) ≤ 0), (by decide : (0 : Int) ≤ 18446744073709551615)⟩⟩

def opEq (o o' : Opn) : Bool := o.kind == o'.kind && (o.n == o'.n && (o.m == o'.m && (evEq o.ev o'.ev && true)))
theorem opEq_iff {o o' : Opn} : opEq o o' = true ↔ o = o' := by cases o; cases o'; simp [opEq, evEq_iff]

theorem eq35 {d : Nat} (o o' : Opn) : EqI (d + 3) 33 (.agg (opC o).toArray) (.agg (opC o').toArray) (opEq o o') :=
  eqI_struct Tryf.underlying33 Tryf.stoodInHeld33
    (eqF_cons (by decide) (partC Tryf.isAgg26 rfl) (partC Tryf.isAgg26 rfl) (eqI_int Tryf.underlying26)
    (eqF_cons (by decide) (partC Tryf.isAgg3 rfl) (partC Tryf.isAgg3 rfl) (eqI_int Tryf.underlying3)
    (eqF_cons (by decide) (partC Tryf.isAgg3 rfl) (partC Tryf.isAgg3 rfl) (eqI_int Tryf.underlying3)
    (eqF_cons (by decide) (partG Tryf.isAgg31 Tryf.sizeOf31 rfl) (partG Tryf.isAgg31 Tryf.sizeOf31 rfl) (eq33 o.ev o'.ev) eqF_nil))))

theorem run35s (o : Opn) : EqRun Tryf.prog 33 (.agg (opC o).toArray) (.agg (opC o).toArray) true := by
  have h := eqRun_of Tryf.eqGuardType33 (eq35 o o)
  rw [opEq_iff.2 rfl] at h
  exact h

theorem ps_neq_same {P : Program} {T : Slots} {a : Act} {o : Oper} {x y : Operand} {t t' : TypeId} {l : List UInt8} (hs : SlotsOk T a) (hop : o.op = .binOp .neq t x y t') (hx : evO T x = some (.string (bs l))) (hy : evO T y = some (.string (bs l))) : Pure P a o (.bool false) := by
  have := ps_neq (P := P) hs hop hx hy
  simpa using this

end Go.Proofs.Qxb6500919aFmt
