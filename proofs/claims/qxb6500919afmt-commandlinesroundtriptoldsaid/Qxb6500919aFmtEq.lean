/-
  '==' of the program's structs.
-/
import Derived.Test.Qxb6500919aFmtTab
import Derived.Test.Qxb6500919aFmtFun
import Derived.Laws.StructEq
import Derived.ChangeKeysEq
namespace Go.Proofs.Qxb6500919aFmt
open Go.Sx Go.Rp
set_option maxRecDepth 100000

def EqI (d : Nat) (t : TypeId) (x y : Value) (β : Bool) : Prop := ∀ w, (Op.equalIn d t x y).run Tryf.prog w = .ok β w
def EqF (d : Nat) (xs ys : Array Value) (fs : List Field) (β : Bool) : Prop := ∀ w, (Op.eqFields d xs ys fs).run Tryf.prog w = .ok β w
def EqA (d : Nat) (e : TypeId) (c : Nat) (xs ys : Array Value) (l : List Nat) (β : Bool) : Prop := ∀ w, (Op.eqItems d e c xs ys l).run Tryf.prog w = .ok β w
def PartIs (t : TypeId) (xs : Array Value) (off : Nat) (v : Value) : Prop := ∀ w, (part t xs off).run Tryf.prog w = .ok v w

theorem partC {t : TypeId} {xs : Array Value} {off : Nat} {v : Value} (h : ∀ w, (isAgg t).run Tryf.prog w = .ok false w) (hx : xs[off]? = some v) : PartIs t xs off v := by
  intro w
  simp only [part, Sem.run_bind, h w, Result.andThen_ok, Bool.false_eq_true, if_false, hx, Sem.run_pure]

theorem partG {t : TypeId} {xs ys : Array Value} {off n : Nat} (h : ∀ w, (isAgg t).run Tryf.prog w = .ok true w) (hs : ∀ w, (sizeOf t).run Tryf.prog w = .ok n w) (hx : xs.extract off (off + n) = ys) : PartIs t xs off (.agg ys) := by
  intro w
  simp only [part, Sem.run_bind, h w, Result.andThen_ok, if_true, hs w, hx, Sem.run_pure]

theorem eqI_int {d : Nat} {t : TypeId} {k k' : IntKind} {a b : Int} (h : Tryf.prog.underlying t = some (.int k')) : EqI (d + 1) t (.int k a) (.int k b) (a == b) := fun w => run_equalIn_int w d t k k' a b h
theorem eqI_bool {d : Nat} {t : TypeId} {a b : Bool} (h : Tryf.prog.underlying t = some .bool) : EqI (d + 1) t (.bool a) (.bool b) (a == b) := fun w => run_equalIn_bool' w d t a b h

theorem eqF_nil {d : Nat} {xs ys : Array Value} : EqF d xs ys [] true := fun w => by simp [Op.eqFields]
theorem eqF_cons {d : Nat} {xs ys : Array Value} {f : Field} {fs : List Field} {a b : Value} {β γ : Bool} (hn : f.name ≠ "_") (ha : PartIs f.type xs f.offset a) (hb : PartIs f.type ys f.offset b) (he : EqI d f.type a b β) (hr : EqF d xs ys fs γ) : EqF d xs ys (f :: fs) (β && γ) := by
  intro w
  simp only [Op.eqFields, if_pos hn, Sem.run_bind, ha w, hb w, he w, Result.andThen_ok]
  cases β
  · simp
  · simpa using hr w

theorem eqA_nil {d : Nat} {e : TypeId} {c : Nat} {xs ys : Array Value} : EqA d e c xs ys [] true := fun w => by simp [Op.eqItems]
theorem eqA_cons {d : Nat} {e : TypeId} {c j : Nat} {xs ys : Array Value} {l : List Nat} {a b : Value} {β γ : Bool} (ha : PartIs e xs (j * c) a) (hb : PartIs e ys (j * c) b) (he : EqI d e a b β) (hr : EqA d e c xs ys l γ) : EqA d e c xs ys (j :: l) (β && γ) := by
  intro w
  simp only [Op.eqItems, Sem.run_bind, ha w, hb w, he w, Result.andThen_ok]
  cases β
  · simp
  · simpa using hr w

theorem eqI_struct {d : Nat} {t : TypeId} {xs ys : Array Value} {fs : List Field} {β : Bool} (h : Tryf.prog.underlying t = some (.struct fs.toArray)) (hp : Tryf.prog.stoodInHeld t = false) (hf : EqF d xs ys fs β) : EqI (d + 1) t (.agg xs) (.agg ys) β := by
  intro w
  rw [run_equalIn_struct w d t xs ys (by simp [Program.fieldsOf, h]) hp]
  simpa [Program.fieldsOf, h] using hf w

theorem eqI_array {d n c : Nat} {t e : TypeId} {i : TypeInfo} {xs ys : Array Value} {l : List Nat} {β : Bool} (h : Tryf.prog.underlying t = some (.array n e)) (hi : Tryf.prog.info? e = some i) (hc : Tryf.prog.cellsOf e = c) (hl : List.range n = l) (hf : EqA d e c xs ys l β) : EqI (d + 1) t (.agg xs) (.agg ys) β := by
  intro w
  rw [run_equalIn_array w d xs ys h hi, hc, hl]
  exact hf w

theorem eqRun_of {t : TypeId} {xs ys : Array Value} {β : Bool} (hg : Tryf.prog.eqGuardType Tryf.prog.depth t = false) (h : EqI 10000 t (.agg xs) (.agg ys) β) : EqRun Tryf.prog t (.agg xs) (.agg ys) β :=
  fun w => ⟨h w, fun op xo yo => run_eqGuard_agg w op t xo yo xs ys hg⟩

def otEq (o o' : Ot) : Bool := o.refused == o'.refused && (o.running == o'.running && (o.value == o'.value && true))
def arEq (a b c e a' b' c' e' : Int) : Bool := a == a' && (b == b' && (c == c' && (e == e' && true)))
def machEq (m m' : Mach) : Bool := m.now == m'.now && (m.cur == m'.cur && (arEq m.s0 m.s1 m.s2 m.s3 m'.s0 m'.s1 m'.s2 m'.s3 && (arEq m.r0 m.r1 m.r2 m.r3 m'.r0 m'.r1 m'.r2 m'.r3 && (m.word == m'.word && true))))
def evEq (e e' : Ev) : Bool := e.kind == e'.kind && (e.pick == e'.pick && (e.arg == e'.arg && true))
def mkEq (e e' : Mk) : Bool := e.idx == e'.idx && (e.sum == e'.sum && true)
def ptEq (p p' : Pt) : Bool := p.idx == p'.idx && (machEq p.st p'.st && (otEq p.out p'.out && true))
def resEq (r r' : Res) : Bool := r.code == r'.code && (r.pos == r'.pos && (r.base == r'.base && (r.fin == r'.fin && (r.live == r'.live && (otEq r.out r'.out && (r.dig == r'.dig && (r.from_ == r'.from_ && (r.replayed == r'.replayed && (r.at_ == r'.at_ && true)))))))))

theorem otEq_iff {o o' : Ot} : otEq o o' = true ↔ o = o' := by cases o; cases o'; simp [otEq]
theorem machEq_iff {m m' : Mach} : machEq m m' = true ↔ m = m' := by cases m; cases m'; simp [machEq, arEq, and_assoc]
theorem evEq_iff {o o' : Ev} : evEq o o' = true ↔ o = o' := by cases o; cases o'; simp [evEq]
theorem mkEq_iff {o o' : Mk} : mkEq o o' = true ↔ o = o' := by cases o; cases o'; simp [mkEq]
theorem ptEq_iff {o o' : Pt} : ptEq o o' = true ↔ o = o' := by cases o; cases o'; simp [ptEq, machEq_iff, otEq_iff]
theorem resEq_iff {o o' : Res} : resEq o o' = true ↔ o = o' := by cases o; cases o'; simp [resEq, otEq_iff]

theorem eq39 {d : Nat} (o o' : Ot) : EqI (d + 2) 44 (.agg (outC o).toArray) (.agg (outC o').toArray) (otEq o o') :=
  eqI_struct Tryf.underlying44 Tryf.stoodInHeld44
    (eqF_cons (by decide) (partC Tryf.isAgg4 rfl) (partC Tryf.isAgg4 rfl) (eqI_bool Tryf.underlying4)
    (eqF_cons (by decide) (partC Tryf.isAgg42 rfl) (partC Tryf.isAgg42 rfl) (eqI_int Tryf.underlying42)
    (eqF_cons (by decide) (partC Tryf.isAgg29 rfl) (partC Tryf.isAgg29 rfl) (eqI_int Tryf.underlying29) eqF_nil)))

theorem eq43 {d : Nat} (a b c e a' b' c' e' : Int) : EqI (d + 2) 55 (.agg #[.int .u8 a, .int .u8 b, .int .u8 c, .int .u8 e]) (.agg #[.int .u8 a', .int .u8 b', .int .u8 c', .int .u8 e']) (arEq a b c e a' b' c' e') :=
  eqI_array (c := 1) (l := [0, 1, 2, 3]) Tryf.underlying55 Tryf.type5 (by kernel_rfl) rfl
    (eqA_cons (partC Tryf.isAgg5 rfl) (partC Tryf.isAgg5 rfl) (eqI_int Tryf.underlying5)
    (eqA_cons (partC Tryf.isAgg5 rfl) (partC Tryf.isAgg5 rfl) (eqI_int Tryf.underlying5)
    (eqA_cons (partC Tryf.isAgg5 rfl) (partC Tryf.isAgg5 rfl) (eqI_int Tryf.underlying5)
    (eqA_cons (partC Tryf.isAgg5 rfl) (partC Tryf.isAgg5 rfl) (eqI_int Tryf.underlying5) eqA_nil))))

theorem eq44 {d : Nat} (a b c e a' b' c' e' : Int) : EqI (d + 2) 56 (.agg #[.int .u64 a, .int .u64 b, .int .u64 c, .int .u64 e]) (.agg #[.int .u64 a', .int .u64 b', .int .u64 c', .int .u64 e']) (arEq a b c e a' b' c' e') :=
  eqI_array (c := 1) (l := [0, 1, 2, 3]) Tryf.underlying56 Tryf.type29 (by kernel_rfl) rfl
    (eqA_cons (partC Tryf.isAgg29 rfl) (partC Tryf.isAgg29 rfl) (eqI_int Tryf.underlying29)
    (eqA_cons (partC Tryf.isAgg29 rfl) (partC Tryf.isAgg29 rfl) (eqI_int Tryf.underlying29)
    (eqA_cons (partC Tryf.isAgg29 rfl) (partC Tryf.isAgg29 rfl) (eqI_int Tryf.underlying29)
    (eqA_cons (partC Tryf.isAgg29 rfl) (partC Tryf.isAgg29 rfl) (eqI_int Tryf.underlying29) eqA_nil))))

theorem eq46 {d : Nat} (m m' : Mach) : EqI (d + 3) 58 (.agg (machC m).toArray) (.agg (machC m').toArray) (machEq m m') :=
  eqI_struct Tryf.underlying58 Tryf.stoodInHeld58
    (eqF_cons (by decide) (partC Tryf.isAgg29 rfl) (partC Tryf.isAgg29 rfl) (eqI_int Tryf.underlying29)
    (eqF_cons (by decide) (partC Tryf.isAgg42 rfl) (partC Tryf.isAgg42 rfl) (eqI_int Tryf.underlying42)
    (eqF_cons (by decide) (partG Tryf.isAgg55 Tryf.sizeOf55 rfl) (partG Tryf.isAgg55 Tryf.sizeOf55 rfl) (eq43 m.s0 m.s1 m.s2 m.s3 m'.s0 m'.s1 m'.s2 m'.s3)
    (eqF_cons (by decide) (partG Tryf.isAgg56 Tryf.sizeOf56 rfl) (partG Tryf.isAgg56 Tryf.sizeOf56 rfl) (eq44 m.r0 m.r1 m.r2 m.r3 m'.r0 m'.r1 m'.r2 m'.r3)
    (eqF_cons (by decide) (partC Tryf.isAgg29 rfl) (partC Tryf.isAgg29 rfl) (eqI_int Tryf.underlying29) eqF_nil)))))

theorem run39 (o o' : Ot) : EqRun Tryf.prog 44 (.agg (outC o).toArray) (.agg (outC o').toArray) (otEq o o') := eqRun_of Tryf.eqGuardType44 (eq39 o o')
theorem run46 (o o' : Mach) : EqRun Tryf.prog 58 (.agg (machC o).toArray) (.agg (machC o').toArray) (machEq o o') := eqRun_of Tryf.eqGuardType58 (eq46 o o')

end Go.Proofs.Qxb6500919aFmt
