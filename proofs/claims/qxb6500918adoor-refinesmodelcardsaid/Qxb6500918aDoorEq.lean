/-
  '==' of the program's structs.
-/
import Derived.Test.Qxb6500918aDoorTab
import Derived.Laws.StructEq
import Derived.ChangeKeysEq
namespace Go.Proofs.Qxb6500918aDoor
open Go.Sx Go.Kn
set_option maxRecDepth 100000

deriving instance DecidableEq for Go.Kn.Ent, Go.Kn.Cp, Go.Kn.Irq, Go.Kn.Tcb, Go.Kn.Outp

def EqI (d : Nat) (t : TypeId) (x y : Value) (β : Bool) : Prop := ∀ w, (Op.equalIn d t x y).run Tryd.prog w = .ok β w
def EqF (d : Nat) (xs ys : Array Value) (fs : List Field) (β : Bool) : Prop := ∀ w, (Op.eqFields d xs ys fs).run Tryd.prog w = .ok β w
def EqA (d : Nat) (e : TypeId) (c : Nat) (xs ys : Array Value) (l : List Nat) (β : Bool) : Prop := ∀ w, (Op.eqItems d e c xs ys l).run Tryd.prog w = .ok β w
def PartIs (t : TypeId) (xs : Array Value) (off : Nat) (v : Value) : Prop := ∀ w, (part t xs off).run Tryd.prog w = .ok v w

theorem partC {t : TypeId} {xs : Array Value} {off : Nat} {v : Value} (h : ∀ w, (isAgg t).run Tryd.prog w = .ok false w) (hx : xs[off]? = some v) : PartIs t xs off v := by
  intro w
  simp only [part, Sem.run_bind, h w, Result.andThen_ok, Bool.false_eq_true, if_false, hx, Sem.run_pure]

theorem partG {t : TypeId} {xs ys : Array Value} {off n : Nat} (h : ∀ w, (isAgg t).run Tryd.prog w = .ok true w) (hs : ∀ w, (sizeOf t).run Tryd.prog w = .ok n w) (hx : xs.extract off (off + n) = ys) : PartIs t xs off (.agg ys) := by
  intro w
  simp only [part, Sem.run_bind, h w, Result.andThen_ok, if_true, hs w, hx, Sem.run_pure]

theorem eqI_int {d : Nat} {t : TypeId} {k k' : IntKind} {a b : Int} (h : Tryd.prog.underlying t = some (.int k')) : EqI (d + 1) t (.int k a) (.int k b) (a == b) := fun w => run_equalIn_int w d t k k' a b h
theorem eqI_bool {d : Nat} {t : TypeId} {a b : Bool} (h : Tryd.prog.underlying t = some .bool) : EqI (d + 1) t (.bool a) (.bool b) (a == b) := fun w => run_equalIn_bool' w d t a b h

theorem eqF_nil {d : Nat} {xs ys : Array Value} : EqF d xs ys [] true := fun w => by simp [Op.eqFields]
theorem eqF_cons {d : Nat} {xs ys : Array Value} {f : Field} {fs : List Field} {a b : Value} {β γ : Bool} (hn : f.name ≠ "_") (ha : PartIs f.type xs f.offset a) (hb : PartIs f.type ys f.offset b) (he : EqI d f.type a b β) (hr : EqF d xs ys fs γ) : EqF d xs ys (f :: fs) (β && γ) := by
  intro w
  simp only [Op.eqFields, if_pos hn, Sem.run_bind, ha w, hb w, he w, Result.andThen_ok]
  cases β
  · simp
  · simpa using hr w

theorem eqA_nil {d : Nat} {e : TypeId} {c : Nat} {xs ys : Array Value} : EqA d e c xs ys [] true := fun w => by simp [Op.eqItems]
theorem eqA_cons {d : Nat} {e : TypeId} {c j : Nat} {xs ys : Array Value} {l : List Nat} {a b : Value} {β γ : Bool} (ha : PartIs e xs (j * c) a) (hb : PartIs e ys (j * c) b) (he : EqI d e a b β) (hr : EqA d e c xs ys l γ) : EqA d e c xs ys (j :: l) (β && γ) := by
  intro w
  simp only [Op.eqItems, Sem.run_bind, ha w, hb w, he w, Result.andThen_ok]
  cases β
  · simp
  · simpa using hr w

theorem eqI_struct {d : Nat} {t : TypeId} {xs ys : Array Value} {fs : List Field} {β : Bool} (h : Tryd.prog.underlying t = some (.struct fs.toArray)) (hp : Tryd.prog.stoodInHeld t = false) (hf : EqF d xs ys fs β) : EqI (d + 1) t (.agg xs) (.agg ys) β := by
  intro w
  rw [run_equalIn_struct w d t xs ys (by simp [Program.fieldsOf, h]) hp]
  simpa [Program.fieldsOf, h] using hf w

theorem eqI_array {d n c : Nat} {t e : TypeId} {i : TypeInfo} {xs ys : Array Value} {l : List Nat} {β : Bool} (h : Tryd.prog.underlying t = some (.array n e)) (hi : Tryd.prog.info? e = some i) (hc : Tryd.prog.cellsOf e = c) (hl : List.range n = l) (hf : EqA d e c xs ys l β) : EqI (d + 1) t (.agg xs) (.agg ys) β := by
  intro w
  rw [run_equalIn_array w d xs ys h hi, hc, hl]
  exact hf w

theorem eqRun_of {t : TypeId} {xs ys : Array Value} {β : Bool} (hg : Tryd.prog.eqGuardType Tryd.prog.depth t = false) (h : EqI 10000 t (.agg xs) (.agg ys) β) : EqRun Tryd.prog t (.agg xs) (.agg ys) β :=
  fun w => ⟨h w, fun op xo yo => run_eqGuard_agg w op t xo yo xs ys hg⟩

/-! Refs and entries -/

theorem rf_dec (a b : Rf) : (a.idx == b.idx && (a.gen == b.gen && true)) = decide (a = b) := by
  cases a; cases b; simp [Rf.mk.injEq, Bool.beq_eq_decide_eq]

theorem eqRf {d : Nat} (a b : Rf) : EqI (d + 2) 39 (.agg #[.int .u16 a.idx, .int .u32 a.gen]) (.agg #[.int .u16 b.idx, .int .u32 b.gen]) (decide (a = b)) := by
  rw [← rf_dec]
  exact eqI_struct Tryd.underlying39 Tryd.stoodInHeld39
    (eqF_cons (by decide) (partC Tryd.isAgg37 rfl) (partC Tryd.isAgg37 rfl) (eqI_int Tryd.underlying37)
    (eqF_cons (by decide) (partC Tryd.isAgg30 rfl) (partC Tryd.isAgg30 rfl) (eqI_int Tryd.underlying30) eqF_nil))

theorem runRf (a b : Rf) : EqRun Tryd.prog 39 (.agg #[.int .u16 a.idx, .int .u32 a.gen]) (.agg #[.int .u16 b.idx, .int .u32 b.gen]) (decide (a = b)) := eqRun_of Tryd.eqGuardType39 (eqRf a b)

theorem en_dec (a b : Ent) : (a.ty == b.ty && (a.gen == b.gen && (a.base == b.base && (a.size == b.size && true)))) = decide (a = b) := by
  cases a; cases b; simp [Ent.mk.injEq, Bool.beq_eq_decide_eq]

theorem runEnt (a b : Ent) : EqRun Tryd.prog 128 (.agg #[.int .u8 a.ty, .int .u32 a.gen, .int .u64 a.base, .int .u64 a.size]) (.agg #[.int .u8 b.ty, .int .u32 b.gen, .int .u64 b.base, .int .u64 b.size]) (decide (a = b)) := by
  rw [← en_dec]
  exact eqRun_of Tryd.eqGuardType128 (eqI_struct Tryd.underlying128 Tryd.stoodInHeld128
    (eqF_cons (by decide) (partC Tryd.isAgg32 rfl) (partC Tryd.isAgg32 rfl) (eqI_int Tryd.underlying32)
    (eqF_cons (by decide) (partC Tryd.isAgg30 rfl) (partC Tryd.isAgg30 rfl) (eqI_int Tryd.underlying30)
    (eqF_cons (by decide) (partC Tryd.isAgg31 rfl) (partC Tryd.isAgg31 rfl) (eqI_int Tryd.underlying31)
    (eqF_cons (by decide) (partC Tryd.isAgg31 rfl) (partC Tryd.isAgg31 rfl) (eqI_int Tryd.underlying31) eqF_nil)))))

end Go.Proofs.Qxb6500918aDoor
