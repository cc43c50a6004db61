/-
  Pure operations proved outside the evaluator: strings, interfaces, a part of an array's value.
-/
import Derived.Test.Qxb6500918aDoorSxK
namespace Go.Sx

section
variable {P : Program} {tab : Tab} {C : Ctx} {T T' : Slots} {L L' : Mem} {w w' : World} {a : Act} {ops : List Oper} {Q : Exit → Act → World → Prop}
  {Kc : Act → World → Prop}

/-- An operation that yields v whatever the world, and leaves it. -/
def Pure (P : Program) (a : Act) (o : Oper) (v : Value) : Prop := ∀ w, (execOp a.eval o).run P w = .ok (.value v) w

theorem op_pure {i : Nat} {o : Oper} {v : Value} (hst : St C T L a w) (hi : nth ops i = some o) (hw : wantE ops T o.guard = some true) (hr : Pure P a o v) (hn : Kc (a.put o.dst v) w) : wpOp P ops.toArray Q i Kc a w := by
  unfold wpOp
  rw [nth_eq] at hi
  simp only [List.getElem?_toArray, hi, wantE_spec hst.slots hw, if_true]
  left
  simp only [Oper.wp, hr w, Oper.upon]
  exact hn

theorem dr_pure (hQ : PF Q) {i : Nat} {o : Oper} {v : Value} {KB : List Nat} {Bi : List (List Nat)} {N fuel : Nat} {listed : Array Bool} (hst : St C T L a w) (hi : nth ops i = some o) (hw : wantE ops T o.guard = some true) (hN : N = fuel + 1)
    (hs : Region.noSelect ops.toArray = true) (hf : freeK ops.toArray Bi listed i none = true) (hc : (Region.ready .any ops.toArray listed).contains i = true) (hr : Pure P a o v)
    (hn : wpAnyK P ops.toArray Q (Bof KB Bi) fuel (listed.setIfInBounds i true) (a.put o.dst v) w) : wpAnyK P ops.toArray Q (Bof KB Bi) N listed a w := by
  subst hN
  rw [nth_eq] at hi
  have hia : ops.toArray[i]? = some o := by simpa using hi
  exact wpAnyK_take (v := v) hia hs hf hc hQ (.inl ⟨wantE_spec hst.slots hw, fun w1 _ => hr w1⟩) hn

theorem pure_add {o : Oper} {x y : Operand} {t t' : TypeId} {s r : ByteArray} (hs : SlotsOk T a) (hop : o.op = .binOp .add t x y t') (hx : evO T x = some (.string s)) (hy : evO T y = some (.string r)) (hb : s.size + r.size ≤ 4294967296) : Pure P a o (.string (s ++ r)) := by
  intro w
  have h1 : ¬ ((s.size + r.size : Nat) : Int) > IntKind.i64.max := by simp [IntKind.max, IntKind.signed, IntKind.bits]; omega
  simp only [execOp, hop, evO_eval hs hx, evO_eval hs hy, Sem.run_bind, eqGuard, binOp, Op.stringOp, if_neg h1, Sem.run_pure]
  simp

theorem pure_eql {o : Oper} {x y : Operand} {t t' : TypeId} {s r : ByteArray} (hs : SlotsOk T a) (hop : o.op = .binOp .eql t x y t') (hx : evO T x = some (.string s)) (hy : evO T y = some (.string r)) : Pure P a o (.bool (s.toList == r.toList)) := by
  intro w
  simp only [execOp, hop, evO_eval hs hx, evO_eval hs hy, Sem.run_bind, eqGuard, binOp, Op.stringOp, Sem.run_pure]
  simp

theorem pure_neq {o : Oper} {x y : Operand} {t t' : TypeId} {s r : ByteArray} (hs : SlotsOk T a) (hop : o.op = .binOp .neq t x y t') (hx : evO T x = some (.string s)) (hy : evO T y = some (.string r)) : Pure P a o (.bool !(s.toList == r.toList)) := by
  intro w
  simp only [execOp, hop, evO_eval hs hx, evO_eval hs hy, Sem.run_bind, eqGuard, binOp, Op.stringOp, Sem.run_pure]
  simp

theorem pure_len {o : Oper} {x : Operand} {t : TypeId} {s : ByteArray} {ti : TI} (ht : TabOk P tab) (hs : SlotsOk T a) (hop : o.op = .call ⟨.builtin .len, #[x], #[t]⟩) (hx : evO T x = some (.string s)) (hti : look tab t = some ti) (hd : ti.desc = .string) : Pure P a o (.int .i64 s.size) := by
  intro w
  have hu : (underlying t).run P w = .ok .string w := by rw [← hd]; exact run_und ht hti (by rw [hd]; intro fs; simp)
  simp only [execOp, hop, resolve, Sem.run_bind, Sem.run_pure, Result.andThen_ok, invoke, builtin]
  have e1 : (#[x].map a.eval) = #[.string s] := by simp [evO_eval hs hx]
  rw [e1]
  simp [Builtin.len_, hu, goInt]

theorem pure_iface {o : Oper} {x : Operand} {t : TypeId} {v : Value} {ti : TI} (ht : TabOk P tab) (hs : SlotsOk T a) (hop : o.op = .makeInterface t x) (hx : evO T x = some v) (hti : look tab t = some ti) (hns : ∀ fs, ti.desc ≠ .struct fs) (hni : ∀ ms, ti.desc ≠ .interface ms) : Pure P a o (.iface t v) := by
  intro w
  simp only [execOp, hop, evO_eval hs hx, Sem.run_bind, Instr.makeInterface, run_und ht hti hns, Result.andThen_ok]
  cases hd : ti.desc <;> simp_all

def isNilI : Value → Bool
  | .nilIface => true
  | _ => false

theorem equalIn_nil (d : Nat) {t : TypeId} {ms : Array (String × TypeId)} {v : Value} (hv : v = .nilIface ∨ ∃ u z, v = .iface u z) (hu : P.underlying t = some (.interface ms)) : (Op.equalIn (d + 1) t v .nilIface).run P w = .ok (isNilI v) w := by
  rcases hv with rfl | ⟨u, z, rfl⟩ <;> simp [Op.equalIn, underlying, hu, isNilI]

/-- 'err == nil', 'err != nil'. -/
theorem run_nileq {t : TypeId} {ms : Array (String × TypeId)} {v : Value} (hv : v = .nilIface ∨ ∃ u z, v = .iface u z) (hu : P.underlying t = some (.interface ms)) : (Op.equal t v .nilIface).run P w = .ok (isNilI v) w := by
  show (Op.equalIn (9999 + 1) t v .nilIface).run P w = _
  exact equalIn_nil 9999 hv hu

theorem pure_nileq {o : Oper} {x : Operand} {t t' : TypeId} {ms : Array (String × TypeId)} {v : Value} (hs : SlotsOk T a) (hop : o.op = .binOp .eql t x (.const .nilIface) t') (hx : evO T x = some v) (hv : v = .nilIface ∨ ∃ u z, v = .iface u z) (hu : P.underlying t = some (.interface ms)) : Pure P a o (.bool (isNilI v)) := by
  intro w
  have hq := run_nileq (w := w) hv hu
  have e2 : a.eval (.const .nilIface) = .nilIface := rfl
  rcases hv with rfl | ⟨u, z, rfl⟩
  · simp only [execOp, hop, evO_eval hs hx, e2, Sem.run_bind, eqGuard, binOp, Sem.run_pure]
    simp [hq]
  · simp only [execOp, hop, evO_eval hs hx, e2, Sem.run_bind, eqGuard, binOp, Sem.run_pure]
    simp [hq]

theorem pure_nilne {o : Oper} {x : Operand} {t t' : TypeId} {ms : Array (String × TypeId)} {v : Value} (hs : SlotsOk T a) (hop : o.op = .binOp .neq t x (.const .nilIface) t') (hx : evO T x = some v) (hv : v = .nilIface ∨ ∃ u z, v = .iface u z) (hu : P.underlying t = some (.interface ms)) : Pure P a o (.bool !(isNilI v)) := by
  intro w
  have hq := run_nileq (w := w) hv hu
  have e2 : a.eval (.const .nilIface) = .nilIface := rfl
  rcases hv with rfl | ⟨u, z, rfl⟩
  · simp only [execOp, hop, evO_eval hs hx, e2, Sem.run_bind, eqGuard, binOp, Sem.run_pure]
    simp [hq]
  · simp only [execOp, hop, evO_eval hs hx, e2, Sem.run_bind, eqGuard, binOp, Sem.run_pure]
    simp [hq]

end
end Go.Sx
