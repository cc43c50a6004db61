/-
  A read of an argument's cells.
-/
import Derived.Test.Qxb6500918aDoorSxI
namespace Go.Sx

def CellsAt (w : World) (b k : Nat) (vs : List Value) : Prop := ∀ j v, vs[j]? = some v → w.cell? ⟨b, k + j, none⟩ = some v

section
variable {P : Program} {tab : Tab} {C : Ctx} {T T' : Slots} {L L' : Mem} {w w' : World} {a : Act} {ops : List Oper} {Q : Exit → Act → World → Prop}
  {Kc : Act → World → Prop}

theorem CellsAt.fr {b k : Nat} {vs : List Value} (h : CellsAt w b k vs) (hf : Fr [] w w') (hb : b < w.heap.size) : CellsAt w' b k vs := by
  intro j v hj
  rw [← h j v hj]
  unfold World.cell?
  rw [hf.block b hb (by simp)]

theorem run_loadx {b o : Nat} : ∀ (vs : List Value) (i : Nat) (acc : Array Value), (∀ j v, vs[j]? = some v → w.cell? ⟨b, o + i + j, none⟩ = some v) →
    (loadCellsFrom ⟨b, o, none⟩ i vs.length acc).run P w = .ok (acc ++ vs.toArray) w
  | [], i, acc, _ => by simp [loadCellsFrom]
  | v :: vs, i, acc, h => by
    have hc : w.cell? ((⟨b, o, none⟩ : Addr).add i) = some v := by rw [addr_add]; exact h 0 v rfl
    simp only [List.length_cons, loadCellsFrom, Sem.run_bind, run_load, hc, Result.andThen_ok]
    rw [run_loadx vs (i + 1) (acc.push v) (fun j u hj => by have := h (j + 1) u (by simpa using hj); rw [← this]; congr 2; omega)]
    simp

theorem op_loadx (ht : TabOk P tab) {i : Nat} {o : Oper} {t : TypeId} {x : Operand} {ti : TI} {b k : Nat} {vs : List Value} (hst : St C T L a w) (hi : nth ops i = some o) (hw : wantE ops T o.guard = some true)
    (hop : o.op = .load t x) (hx : evO T x = some (.pointer (some ⟨b, k, none⟩))) (hti : look tab t = some ti) (hagg : isAggD ti.desc = true) (hsz : ti.size = vs.length) (hc : CellsAt w b k vs)
    (hn : Kc (a.put o.dst (.agg vs.toArray)) w) : wpOp P ops.toArray Q i Kc a w := by
  unfold wpOp
  rw [nth_eq] at hi
  simp only [List.getElem?_toArray, hi, wantE_spec hst.slots hw, if_true]
  left
  have hrun : (execOp a.eval o).run P w = .ok (.value (.agg vs.toArray)) w := by
    obtain ⟨dst, op, type, pos, after, guard⟩ := o
    simp only at hop
    subst hop
    simp only [execOp, evO_eval hst.slots hx, Instr.loadAt, Instr.sureAddr, loadVar, Sem.run_bind, Sem.run_pure, Result.andThen_ok, run_isAgg ht hti, hagg, if_true, run_size ht hti, loadCells]
    rw [hsz, run_loadx vs 0 #[] (by simpa [CellsAt] using hc)]
    simp
  simp only [Oper.wp, hrun, Oper.upon]
  exact hn

end
end Go.Sx
