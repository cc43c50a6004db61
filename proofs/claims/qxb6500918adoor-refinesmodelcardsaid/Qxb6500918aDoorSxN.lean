/-
  Operations proved at the world they are met in: a read of a package-level variable, a call that stops.
-/
import Derived.Test.Qxb6500918aDoorStr
import Derived.LoopN
import Derived.Laws.Externs
namespace Go.Sx

section
variable {P : Program} {tab : Tab} {C : Ctx} {T T' : Slots} {L L' : Mem} {w w' : World} {a : Act} {ops : List Oper} {Q : Exit → Act → World → Prop}
  {Kc : Act → World → Prop}

theorem rounds_step {c : Code} {n : Nat} (h : c.wp P (Exit.then (Code.rounds P c Q n) Q) a w) : Code.rounds P c Q (n + 1) a w := h

theorem op_now {i : Nat} {o : Oper} {v : Value} (hst : St C T L a w) (hi : nth ops i = some o) (hw : wantE ops T o.guard = some true) (hr : (execOp a.eval o).run P w = .ok (.value v) w')
    (hn : Kc (a.put o.dst v) w') : wpOp P ops.toArray Q i Kc a w := by
  unfold wpOp
  rw [nth_eq] at hi
  simp only [List.getElem?_toArray, hi, wantE_spec hst.slots hw, if_true]
  left
  simp only [Oper.wp, hr, Oper.upon]
  exact hn

/-- A read of one cell. -/
theorem run_cell (ht : TabOk P tab) {o : Oper} {t : TypeId} {x : Operand} {ti : TI} {b k : Nat} {v : Value} (hs : SlotsOk T a)
    (hop : o.op = .load t x) (hx : evO T x = some (.pointer (some ⟨b, k, none⟩))) (hti : look tab t = some ti) (hagg : isAggD ti.desc = false) (hc : w.cell? ⟨b, k, none⟩ = some v) :
    (execOp a.eval o).run P w = .ok (.value v) w := by
  obtain ⟨dst, op, type, pos, after, guard⟩ := o
  simp only at hop
  subst hop
  simp only [execOp, evO_eval hs hx, Instr.loadAt, Instr.sureAddr, loadVar, Sem.run_bind, Sem.run_pure, Result.andThen_ok, run_isAgg ht hti, hagg]
  simp [run_load, hc]

theorem run_cells (ht : TabOk P tab) {o : Oper} {t : TypeId} {x : Operand} {ti : TI} {b k : Nat} {vs : List Value} (hs : SlotsOk T a)
    (hop : o.op = .load t x) (hx : evO T x = some (.pointer (some ⟨b, k, none⟩))) (hti : look tab t = some ti) (hagg : isAggD ti.desc = true) (hsz : ti.size = vs.length) (hc : CellsAt w b k vs) :
    (execOp a.eval o).run P w = .ok (.value (.agg vs.toArray)) w := by
  obtain ⟨dst, op, type, pos, after, guard⟩ := o
  simp only at hop
  subst hop
  simp only [execOp, evO_eval hs hx, Instr.loadAt, Instr.sureAddr, loadVar, Sem.run_bind, Sem.run_pure, Result.andThen_ok, run_isAgg ht hti, hagg, if_true, run_size ht hti, loadCells]
  rw [hsz, run_loadx vs 0 #[] (by simpa [CellsAt] using hc)]
  simp

/-- A call that the model answers at once. -/
theorem run_ext {f : Nat} {o : Oper} {xs : Array Operand} {tys : Array TypeId} {args : List Value} {v : Value} (hs : SlotsOk T a) (hop : o.op = .call ⟨.value (.func f), xs, tys⟩)
    (ha : evOs T xs.toList = some args) (hc : (callFunc f args.toArray).run P w = .ok (.value v) w') : (execOp a.eval o).run P w = .ok (.value v) w' := by
  have e1 : xs.map a.eval = args.toArray := Array.ext' (by rw [Array.toList_map, evOs_spec hs _ _ ha])
  simp only [execOp, hop, resolve, Act.eval, Deferred.ofValue, Sem.run_bind, Sem.run_pure, Result.andThen_ok, invoke]
  simpa [e1] using hc

theorem pure_index (ht : TabOk P tab) {o : Oper} {x y : Operand} {t e n : Nat} {cs : Array Value} {ti te : TI} {k : IntKind} {i : Int} {v : Value} {φ : Option Prop} (hs : SlotsOk T a)
    (hop : o.op = .index t x y) (hx : evO T x = some (.agg cs)) (hy : evO T y = some (.int k i)) (hti : look tab t = some ti) (hd : ti.desc = .array n e) (hte : look tab e = some te)
    (h0 : 0 ≤ i) (h1 : i < n) (hp : evPart tab e cs.toList (i.toNat * te.size) = some (v, φ)) (hφ : holdsP φ) : Pure P a o v := by
  intro w
  have hu : (underlying t).run P w = .ok (.array n e) w := by rw [← hd]; exact run_und ht hti (by rw [hd]; intro fs; simp)
  simp only [execOp, hop, evO_eval hs hx, evO_eval hs hy, Sem.run_bind, Instr.index, asIntOf, Sem.run_pure, Result.andThen_ok, hu]
  rw [if_pos ⟨h0, h1⟩]
  simp only [Sem.run_bind, run_size ht hte, Result.andThen_ok, run_part ht hp hφ]

def isIface : Option TypeDesc → Bool
  | some (.interface _) => true
  | _ => false

theorem isIface_spec {d : Option TypeDesc} (h : isIface d = true) : ∃ ms, d = some (.interface ms) := by
  unfold isIface at h
  split at h
  · exact ⟨_, rfl⟩
  · cases h

theorem p_nileq {o : Oper} {x : Operand} {t t' : TypeId} {v : Value} (hs : SlotsOk T a) (hop : o.op = .binOp .eql t x (.const .nilIface) t') (hx : evO T x = some v) (hv : v = .nilIface ∨ ∃ u z, v = .iface u z) (hu : isIface (P.underlying t) = true) : Pure P a o (.bool (isNilI v)) := by
  obtain ⟨ms, h⟩ := isIface_spec hu
  exact pure_nileq hs hop hx hv h

theorem p_nilne {o : Oper} {x : Operand} {t t' : TypeId} {v : Value} (hs : SlotsOk T a) (hop : o.op = .binOp .neq t x (.const .nilIface) t') (hx : evO T x = some v) (hv : v = .nilIface ∨ ∃ u z, v = .iface u z) (hu : isIface (P.underlying t) = true) : Pure P a o (.bool !(isNilI v)) := by
  obtain ⟨ms, h⟩ := isIface_spec hu
  exact pure_nilne hs hop hx hv h

end
end Go.Sx
