/-
  The evaluator is sound: what it says an operation yields, the operation yields.
-/
import Derived.Test.Qxb6500918aDoorSxB
namespace Go.Sx

section
variable {P : Program} {tab : Tab} {a : Act} {T : Slots} {w : World}

def SlotsOk (T : Slots) (a : Act) : Prop := ∀ t v, look T t = some v → a.tmps.getD t undef = v

theorem evO_eval (hs : SlotsOk T a) {x : Operand} {v : Value} (h : evO T x = some v) : a.eval x = v := by
  cases x with
  | tmp t => exact hs t v h
  | const u => simpa [evO, Act.eval] using h
  | global g => simpa [evO, Act.eval] using h
  | func f => simpa [evO, Act.eval] using h

theorem ev1_some {x : Operand} {f : Value → Out} {r : Value × Option Prop} (h : ev1 T x f = some r) : ∃ v, evO T x = some v ∧ f v = some r := by
  unfold ev1 at h
  cases hx : evO T x with
  | none => rw [hx] at h; cases h
  | some v => rw [hx] at h; exact ⟨v, rfl, h⟩

theorem ev2_some {x y : Operand} {f : Value → Value → Out} {r : Value × Option Prop} (h : ev2 T x y f = some r) : ∃ v u, evO T x = some v ∧ evO T y = some u ∧ f v u = some r := by
  unfold ev2 at h
  cases hx : evO T x with
  | none => rw [hx] at h; cases h
  | some v =>
    cases hy : evO T y with
    | none => rw [hx, hy] at h; cases h
    | some u => rw [hx, hy] at h; exact ⟨v, u, rfl, rfl, h⟩

theorem addr_add (b o n : Nat) : (⟨b, o, none⟩ : Addr).add n = ⟨b, o + n, none⟩ := by
  unfold Addr.add
  split
  · simp_all
  · rfl

theorem und_ns (h : TabOk P tab) {t : TypeId} {ti : TI} (ht : look tab t = some ti) (hns : ∀ fs, ti.desc ≠ .struct fs) : P.underlying t = some ti.desc := by
  have h1 := (h t ti ht).1
  cases hu : P.underlying t with
  | none => rw [hu] at h1; cases h1
  | some d =>
    rw [hu] at h1
    simp only [Option.map_some, Option.some.injEq] at h1
    rw [← h1] at hns ⊢
    cases d <;> first | rfl | exact absurd rfl (hns _)

theorem und_st (h : TabOk P tab) {t : TypeId} {ti : TI} (ht : look tab t = some ti) {fs : Array Field} (hd : ti.desc = .struct fs) : ∃ gs : Array Field, fs = gs.map stripF ∧ P.underlying t = some (.struct gs) := by
  have h1 := (h t ti ht).1
  cases hu : P.underlying t with
  | none => rw [hu] at h1; cases h1
  | some d =>
    rw [hu, hd] at h1
    simp only [Option.map_some, Option.some.injEq] at h1
    cases d <;> simp [strip] at h1
    rename_i gs
    exact ⟨gs, h1.symm, rfl⟩

theorem run_und (h : TabOk P tab) {t : TypeId} {ti : TI} (ht : look tab t = some ti) (hns : ∀ fs, ti.desc ≠ .struct fs) : (underlying t).run P w = .ok ti.desc w := by
  simp [underlying, und_ns h ht hns]

theorem run_size (h : TabOk P tab) {t : TypeId} {ti : TI} (ht : look tab t = some ti) : (sizeOf t).run P w = .ok ti.size w := by
  obtain ⟨_, i, hi, hs, _⟩ := h t ti ht
  simp [sizeOf, typeInfo, hi, hs]

theorem run_zero (h : TabOk P tab) {t : TypeId} {ti : TI} (ht : look tab t = some ti) : (zeroValue t).run P w = .ok ti.zero w := by
  obtain ⟨_, i, hi, _, _, hz⟩ := h t ti ht
  simp [zeroValue, typeInfo, hi, hz]

theorem run_isAgg (h : TabOk P tab) {t : TypeId} {ti : TI} (ht : look tab t = some ti) : (isAgg t).run P w = .ok (isAggD ti.desc) w := by
  unfold isAgg
  cases hd : ti.desc with
  | struct fs =>
    obtain ⟨gs, _, hu⟩ := und_st h ht hd
    simp [underlying, hu, isAggD]
  | _ =>
    simp only [Sem.run_bind, run_und h ht (by rw [hd]; intro fs; simp), Result.andThen_ok, hd]
    simp [isAggD]

theorem run_loadCells {b : Nat} {blk : Blk} (hb : w.heap[b]? = some blk.obj) : ∀ (n i o : Nat) (acc : Array Value), o + i + n ≤ blk.cells.length →
    (loadCellsFrom ⟨b, o, none⟩ i n acc).run P w = .ok (acc ++ (cellsFrom blk.cells (o + i) n).toArray) w := by
  intro n
  induction n with
  | zero => intro i o acc _; simp [loadCellsFrom, cellsFrom]
  | succ n ih =>
    intro i o acc h
    have hc : w.cell? ((⟨b, o, none⟩ : Addr).add i) = some ((nth blk.cells (o + i)).getD undef) := by
      rw [addr_add, cell_of_row w b (o + i) _ _ _ hb, nth_eq]
      have : o + i < blk.cells.length := by omega
      simp [this]
    simp only [loadCellsFrom, Sem.run_bind, run_load, hc, Result.andThen_ok, cellsFrom]
    rw [ih (i + 1) o _ (by omega)]
    simp [Nat.add_assoc]

theorem cellsAre_from {cs : List Value} : ∀ {vs : List Value} {o : Nat}, cellsAre cs o vs → cellsFrom cs o vs.length = vs ∧ (vs ≠ [] → o + vs.length ≤ cs.length)
  | [], _, _ => by simp [cellsFrom]
  | v :: vs, o, h => by
    obtain ⟨h1, h2⟩ := h
    have := cellsAre_from h2
    have ho : o < cs.length := by
      rw [nth_eq] at h1
      exact (List.getElem?_eq_some_iff.1 h1).1
    refine ⟨by simp [cellsFrom, h1, this.1], fun _ => ?_⟩
    by_cases hv : vs = []
    · subst hv; simp; omega
    · have := this.2 hv; simp; omega

theorem rdCells_spec {cs : List Value} {o n : Nat} {h : H} {vs : List Value} {φ : Prop} (hn : 0 < n) (hr : rdCells cs o n h = some (vs, φ)) (hφ : φ) :
    vs = cellsFrom cs o n ∧ o + n ≤ cs.length := by
  unfold rdCells at hr
  split at hr
  · simp only [Option.some.injEq, Prod.mk.injEq] at hr
    obtain ⟨rfl, rfl⟩ := hr
    exact ⟨rfl, Nat.le_of_ble_eq_true hφ⟩
  · split at hr
    · rename_i hb
      simp only [Option.some.injEq, Prod.mk.injEq] at hr
      obtain ⟨rfl, rfl⟩ := hr
      have hl := Nat.eq_of_beq_eq_true hb
      have := cellsAre_from hφ
      subst hl
      exact ⟨this.1.symm, this.2 (by intro h0; rw [h0] at hn; simp at hn)⟩
    · cases hr

theorem run_load_blk (ht : TabOk P tab) {L : Mem} {t : TypeId} {x : Value} {h : H} {v : Value} {φ : Option Prop}
    (he : evLoad tab L t x h = some (v, φ)) (hφ : holdsP φ) (hm : ∀ kb, nth L h.k = some kb → w.heap[kb.1]? = some kb.2.obj)
    (hz : ∀ ti, look tab t = some ti → isAggD ti.desc = true → 0 < ti.size) :
    (Instr.loadAt t x).run P w = .ok v w := by
  unfold evLoad at he
  split at he
  · rename_i b o
    split at he
    · rename_i key blk ti hk htt
      have hb := hm _ hk
      split at he
      · rename_i hagg
        split at he
        · rename_i vs ψ hr
          simp only [Option.some.injEq, Prod.mk.injEq] at he
          obtain ⟨rfl, rfl⟩ := he
          obtain ⟨rfl, hψ⟩ := hφ
          obtain ⟨rfl, hlen⟩ := rdCells_spec (hz ti htt hagg) hr hψ
          simp only [Instr.loadAt, Instr.sureAddr, loadVar, Sem.run_bind, Sem.run_pure, Result.andThen_ok, run_isAgg ht htt, hagg, if_true, run_size ht htt, loadCells]
          rw [run_loadCells hb _ _ _ _ (by omega)]
          simp
        · cases he
      · rename_i hagg
        split at he
        · rename_i v' vs' ψ hr
          simp only [Option.some.injEq, Prod.mk.injEq] at he
          obtain ⟨rfl, rfl⟩ := he
          obtain ⟨rfl, hψ⟩ := hφ
          obtain ⟨hv, hlen⟩ := rdCells_spec (by omega) hr hψ
          have hc : w.cell? ⟨b, o, none⟩ = some v' := by
            rw [cell_of_row w b o _ _ _ hb]
            simp only [cellsFrom, List.cons.injEq] at hv
            have : o < blk.cells.length := by omega
            rw [hv.1, nth_eq]
            simp [this]
          simp [Instr.loadAt, Instr.sureAddr, loadVar, run_isAgg ht htt, hagg, hc]
        · cases he
    · cases he
  · cases he

theorem force_spec {b : Bool} {f : Nat} {v : Value} {φ : Option Prop} (h : force b f = some (v, φ)) (hφ : holdsP φ) : v = .bool b := by
  unfold force at h
  split at h <;> simp only [Option.some.injEq, Prod.mk.injEq] at h <;> obtain ⟨rfl, rfl⟩ := h
  · rfl
  · simp only [holdsP] at hφ; rw [hφ]
  · simp only [holdsP] at hφ; rw [hφ]

theorem arith_spec {k : IntKind} {n : Int} {h : H} {v : Value} {φ : Option Prop} (he : arith k n h = some (v, φ)) (hφ : holdsP φ) : v = .int k (k.wrap n) := by
  unfold arith at he
  split at he <;> simp only [Option.some.injEq, Prod.mk.injEq] at he <;> obtain ⟨rfl, rfl⟩ := he
  · rw [wrap_inR hφ]
  · rfl

theorem run_bin_int (t : TypeId) {op : BinOp} {k : IntKind} {x y : Int} {h : H} {v : Value} {φ : Option Prop} (hne1 : op ≠ .shl) (hne2 : op ≠ .shr)
    (he : evInt op k x y h = some (v, φ)) (hφ : holdsP φ) : (binOp op t (.int k x) (.int k y)).run P w = .ok v w := by
  cases op <;> simp only [evInt] at he
  case shl => exact absurd rfl hne1
  case shr => exact absurd rfl hne2
  case add => rw [arith_spec he hφ]; simp [binOp, Op.intArith]
  case sub => rw [arith_spec he hφ]; simp [binOp, Op.intArith]
  case mul => rw [arith_spec he hφ]; simp [binOp, Op.intArith]
  case quo =>
    simp only [Option.some.injEq, Prod.mk.injEq] at he
    obtain ⟨rfl, rfl⟩ := he
    obtain ⟨h1, h2, h3⟩ := hφ
    have : x.tdiv y = x / y := Int.tdiv_eq_ediv_of_nonneg h1
    simp [binOp, Op.intDiv, this, wrap_inR h3]
    omega
  case rem =>
    split at he <;> simp only [Option.some.injEq, Prod.mk.injEq] at he <;> obtain ⟨rfl, rfl⟩ := he
    · obtain ⟨h1, h2⟩ := hφ
      have : x.tmod y = x % y := Int.tmod_eq_emod_of_nonneg h1
      simp [binOp, Op.intDiv, this]
      omega
    · have : y ≠ 0 := hφ
      simp [binOp, Op.intDiv, this]
  case and => simp only [Option.some.injEq, Prod.mk.injEq] at he; obtain ⟨rfl, rfl⟩ := he; simp [binOp, Op.intBits, bitI]
  case or => simp only [Option.some.injEq, Prod.mk.injEq] at he; obtain ⟨rfl, rfl⟩ := he; simp [binOp, Op.intBits, bitI]
  case xor => simp only [Option.some.injEq, Prod.mk.injEq] at he; obtain ⟨rfl, rfl⟩ := he; simp [binOp, Op.intBits, bitI]
  case andNot => simp only [Option.some.injEq, Prod.mk.injEq] at he; obtain ⟨rfl, rfl⟩ := he; simp [binOp, Op.intBits, bitI]
  case eql => rw [force_spec he hφ]; simp [binOp, Op.intCmp]
  case neq => rw [force_spec he hφ]; simp [binOp, Op.intCmp]
  case lss => rw [force_spec he hφ]; simp [binOp, Op.intCmp]
  case leq => rw [force_spec he hφ]; simp [binOp, Op.intCmp]
  case gtr => rw [force_spec he hφ]; simp [binOp, Op.intCmp]
  case geq => rw [force_spec he hφ]; simp [binOp, Op.intCmp]

theorem run_guard_int (op : BinOp) (t : TypeId) (xo yo : Operand) (k k' : IntKind) (x y : Int) : (eqGuard op t xo yo (.int k x) (.int k' y)).run P w = .ok () w := by
  unfold eqGuard
  cases op <;> simp

theorem run_eqAgg {neg : Bool} {t : TypeId} {x y : Value} {h : H} {v : Value} {φ : Option Prop} (he : evEqAgg P neg t x y h = some (v, φ)) (hφ : holdsP φ) :
    ∃ β, EqRun P t x y β ∧ v = .bool (neg.xor β) := by
  unfold evEqAgg at he
  split at he
  · split at he
    · simp only [Option.some.injEq, Prod.mk.injEq] at he
      obtain ⟨rfl, rfl⟩ := he
      exact ⟨_, hφ, rfl⟩
    · cases he
  · simp only [Option.some.injEq, Prod.mk.injEq] at he
    obtain ⟨rfl, rfl⟩ := he
    exact ⟨_, hφ, by simp⟩
  · simp only [Option.some.injEq, Prod.mk.injEq] at he
    obtain ⟨rfl, rfl⟩ := he
    exact ⟨_, hφ, by simp⟩

theorem equal_bool (t : TypeId) (x y : Bool) (hu : P.underlying t = some .bool) : (Op.equal t (.bool x) (.bool y)).run P w = .ok (x == y) w := by
  show (Op.equalIn (9999 + 1) t (.bool x) (.bool y)).run P w = _
  exact run_equalIn_bool w 9999 t x y hu

theorem equalIn_ptr (d : Nat) (t e : TypeId) (p q : Option Addr) (c : Bool) (hu : P.underlying t = some (.pointer e)) (hc : ptrEq p q = some c) :
    (Op.equalIn (d + 1) t (.pointer p) (.pointer q)).run P w = .ok c w := by
  cases p <;> cases q <;> simp [ptrEq] at hc <;> subst hc <;> simp [Op.equalIn, underlying, hu]

theorem equal_ptr (t e : TypeId) (p q : Option Addr) (c : Bool) (hu : P.underlying t = some (.pointer e)) (hc : ptrEq p q = some c) :
    (Op.equal t (.pointer p) (.pointer q)).run P w = .ok c w := by
  show (Op.equalIn (9999 + 1) t (.pointer p) (.pointer q)).run P w = _
  exact equalIn_ptr 9999 t e p q c hu hc

theorem bin_bool (op : BinOp) (t : TypeId) (xo yo : Operand) (x y : Bool) (hu : P.underlying t = some .bool) (hop : op = .eql ∨ op = .neq) :
    (do eqGuard op t xo yo (.bool x) (.bool y); binOp op t (.bool x) (.bool y) : Sem Value).run P w = .ok (.bool (if op = .eql then x == y else x != y)) w := by
  rcases hop with rfl | rfl
  · simp only [Sem.run_bind, eqGuard, binOp, equal_bool t x y hu]
    simp
  · simp only [Sem.run_bind, eqGuard, binOp, equal_bool t x y hu]
    simp [bne]

theorem run_bin (ht : TabOk P tab) {op : BinOp} {t : TypeId} {xo yo : Operand} {x y : Value} {h : H} {v : Value} {φ : Option Prop}
    (he : evBin P tab op t x y h = some (v, φ)) (hφ : holdsP φ) :
    (do eqGuard op t xo yo x y; binOp op t x y : Sem Value).run P w = .ok v w := by
  unfold evBin at he
  split at he
  · rename_i k a k' b
    simp only [Sem.run_bind, run_guard_int, Result.andThen_ok]
    cases op
    case shr =>
      simp only [Option.some.injEq, Prod.mk.injEq] at he
      obtain ⟨rfl, rfl⟩ := he
      have : ¬ b < 0 := by have : 0 ≤ b := hφ; omega
      simp [binOp, Op.shift, shrI, this]
    case shl =>
      simp only [Option.some.injEq, Prod.mk.injEq] at he
      obtain ⟨rfl, rfl⟩ := he
      have : ¬ b < 0 := by have : 0 ≤ b := hφ; omega
      simp [binOp, Op.shift, shlI, this]
    all_goals
      simp only at he
      split at he
      · rename_i hk
        have := sameK_eq hk
        subst this
        exact run_bin_int t (by simp) (by simp) he hφ
      · cases he
  · rename_i a b
    split at he
    · rename_i hl
      have hu := und_ns ht hl (by intro fs; simp)
      split at he
      · rw [force_spec he hφ]
        simpa using bin_bool (w := w) .eql t xo yo a b hu (.inl rfl)
      · rw [force_spec he hφ]
        simpa using bin_bool (w := w) .neq t xo yo a b hu (.inr rfl)
      · cases he
    · cases he
  · rename_i xs ys
    split at he
    · obtain ⟨β, hβ, rfl⟩ := run_eqAgg he hφ
      simp only [Sem.run_bind, (hβ w).2, Result.andThen_ok, binOp, (hβ w).1]
      simp
    · obtain ⟨β, hβ, rfl⟩ := run_eqAgg he hφ
      simp only [Sem.run_bind, (hβ w).2, Result.andThen_ok, binOp, (hβ w).1]
      simp
    · cases he
  · rename_i p q
    split at he
    · rename_i hl
      have hu := und_ns ht hl (by intro fs; simp)
      split at he
      · rename_i c hc
        have heq : (Op.equal t (.pointer p) (.pointer q)).run P w = .ok c w := equal_ptr t _ p q c hu hc
        split at he
        · simp only [Option.some.injEq, Prod.mk.injEq] at he
          obtain ⟨rfl, rfl⟩ := he
          simp only [Sem.run_bind, eqGuard, binOp]
          simp [heq]
        · simp only [Option.some.injEq, Prod.mk.injEq] at he
          obtain ⟨rfl, rfl⟩ := he
          simp only [Sem.run_bind, eqGuard, binOp]
          simp [heq]
        · cases he
      · cases he
    · cases he
  · cases he
end
end Go.Sx
