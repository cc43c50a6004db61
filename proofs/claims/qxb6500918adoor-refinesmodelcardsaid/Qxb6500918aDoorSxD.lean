/-
  The evaluator is sound, the remaining operations; the theorem on one operation.
-/
import Derived.Test.Qxb6500918aDoorSxC
namespace Go.Sx

section
variable {P : Program} {tab : Tab} {a : Act} {T : Slots} {w : World}

theorem run_field (ht : TabOk P tab) {s : TypeId} {x : Value} {i : Nat} {v : Value} {φ : Option Prop} (he : evField tab s x i = some (v, φ)) :
    (Instr.fieldAt s x i).run P w = .ok v w := by
  unfold evField at he
  split at he
  · rename_i b o
    split at he
    · rename_i hl
      split at he
      · rename_i f hf
        split at he
        · rename_i ti hti
          split at he
          · rename_i hz
            simp only [Option.some.injEq, Prod.mk.injEq] at he
            obtain ⟨rfl, rfl⟩ := he
            have hne : ti.size ≠ 0 := Nat.ne_of_beq_eq_false hz
            obtain ⟨gs, rfl, hu⟩ := und_st ht hl rfl
            rw [nth_eq, Array.getElem?_toList] at hf
            simp only [Array.getElem?_map, Option.map_eq_some_iff] at hf
            obtain ⟨g, hg, rfl⟩ := hf
            have hti' : look tab g.type = some ti := hti
            simp [Instr.fieldAt, underlying, hu, hg, Instr.sureAddr, fieldPlace, run_size ht hti', hne, addr_add, stripF]
          · cases he
        · cases he
      · cases he
    · cases he
  · cases he

theorem run_indexAddr (ht : TabOk P tab) {t : TypeId} {x ix : Value} {v : Value} {φ : Option Prop} (he : evIndexAddr tab t x ix = some (v, φ)) (hφ : holdsP φ) :
    (Instr.indexAt t x ix).run P w = .ok v w := by
  unfold evIndexAddr at he
  split at he
  · rename_i k i
    split at he
    · rename_i ti hl
      split at he
      · rename_i e hd
        split at he
        · rename_i b o len c te hte
          simp only [Option.some.injEq, Prod.mk.injEq] at he
          obtain ⟨rfl, rfl⟩ := he
          have h2 : 0 ≤ i ∧ i < (len : Int) := hφ
          simp [Instr.indexAt, asIntOf, run_und ht hl (by rw [hd]; intro fs; simp), hd, h2, run_size ht hte, addr_add]
        · cases he
      · rename_i n e hd
        split at he
        · rename_i b o te hte
          simp only [Option.some.injEq, Prod.mk.injEq] at he
          obtain ⟨rfl, rfl⟩ := he
          have h2 : 0 ≤ i ∧ i < (n : Int) := hφ
          simp [Instr.indexAt, asIntOf, run_und ht hl (by rw [hd]; intro fs; simp), hd, h2, run_size ht hte, addr_add, Instr.sureAddr]
        · cases he
      · cases he
    · cases he
  · cases he

theorem addr_add_zero (x : Addr) : x.add 0 = x := by simp [Addr.add]

theorem run_sliceE (ht : TabOk P tab) {t : TypeId} {x : Value} {lo hi : Option Value} {v : Value} {φ : Option Prop} (he : evSlice tab t x lo hi = some (v, φ)) (hφ : holdsP φ) :
    (Instr.sliceAt t x lo hi none).run P w = .ok v w := by
  unfold evSlice at he
  split at he
  · rename_i base len c
    split at he
    · rename_i hl
      split at he
      · rename_i te hte
        split at he
        · rename_i k n
          simp only [Option.some.injEq, Prod.mk.injEq] at he
          obtain ⟨rfl, rfl⟩ := he
          obtain ⟨h1, h2⟩ := hφ
          have hb : (if c = 0 then base else base.map (·.add (0 * te.size))) = base := by
            split
            · rfl
            · cases base with
              | none => rfl
              | some q => simp [addr_add_zero]
          simp [Instr.sliceAt, run_und ht hl (by intro fs; simp), Instr.slice, Instr.sliceBounds, Instr.sliceBound, asIntOf, h1, h2, run_size ht hte]
          simpa using hb
        · rename_i k l
          simp only [Option.some.injEq, Prod.mk.injEq] at he
          obtain ⟨rfl, rfl⟩ := he
          obtain ⟨h1, h2⟩ := hφ
          simp [Instr.sliceAt, run_und ht hl (by intro fs; simp), Instr.slice, Instr.sliceBounds, Instr.sliceBound, asIntOf, h1, h2, run_size ht hte, sliceBase]
        · rename_i k l k' n
          simp only [Option.some.injEq, Prod.mk.injEq] at he
          obtain ⟨rfl, rfl⟩ := he
          obtain ⟨h1, h2, h3⟩ := hφ
          have h4 : 0 ≤ n := by omega
          simp [Instr.sliceAt, run_und ht hl (by intro fs; simp), Instr.slice, Instr.sliceBounds, Instr.sliceBound, asIntOf, h1, h3, h4, run_size ht hte, sliceBase]
          intro hx
          exfalso
          omega
        · cases he
      · cases he
    · cases he
  · cases he

theorem splice_foldl : ∀ (vs : List Value) (k off : Nat) (cells : List Value),
    (vs.zipIdx k).foldl (fun (cs : Array Value) (p : Value × Nat) => cs.setIfInBounds (off + p.2) p.1) cells.toArray = (splice cells (off + k) vs).toArray
  | [], _, _, _ => by simp [splice]
  | v :: vs, k, off, cells => by
    simp only [List.zipIdx_cons, List.foldl_cons, splice, setL_eq]
    have := splice_foldl vs (k + 1) off (cells.set (off + k) v)
    simp only [← Nat.add_assoc] at this
    rw [← this]
    simp

theorem fillE_spec {place place' : Nat → Option (Nat × Nat)} (hp : ∀ i r, place i = some r → place' i = some r) : ∀ (ps : List (Nat × Value)) (cells cs : List Value), fillE place cells ps = some cs →
    Instr.fill place' cells.toArray ps = some cs.toArray
  | [], cells, cs, h => by simp only [fillE, Option.some.injEq] at h; subst h; rfl
  | (i, v) :: ps, cells, cs, h => by
    simp only [fillE] at h
    cases hi : place i with
    | none => rw [hi] at h; cases h
    | some r =>
      obtain ⟨off, size⟩ := r
      rw [hi] at h
      simp only at h
      split at h
      · rename_i hb
        simp only [Bool.and_eq_true] at hb
        have h1 := Nat.eq_of_beq_eq_true hb.1
        have h2 := Nat.le_of_ble_eq_true hb.2
        simp only [Instr.fill, hp _ _ hi]
        rw [if_neg (by simp [vcells_eq, h1]; omega)]
        have hf : (v.cells.zipIdx.foldl (fun (cs : Array Value) (p : Value × Nat) => cs.setIfInBounds (off + p.2) p.1) cells.toArray) = (splice cells off (vcells v)).toArray := by
          rw [vcells_eq, ← Array.foldl_toList]
          simpa using splice_foldl (vcells v) 0 off cells
        exact hf ▸ fillE_spec hp ps _ _ h
      · cases h

theorem run_places (ht : TabOk P tab) : ∀ (fs : List Field), allIn tab fs = true →
    (fs.mapM fun f => (do pure (f.offset, ← sizeOf f.type) : Sem (Nat × Nat))).run P w = .ok (fs.map fun f => (f.offset, ((look tab f.type).map (·.size)).getD 0)) w
  | [], _ => by simp
  | f :: fs, h => by
    simp only [allIn] at h
    split at h
    · rename_i ti hti
      have := run_places ht fs h
      simp only [List.mapM_cons, Sem.run_bind, run_size ht hti, Result.andThen_ok, Sem.run_pure, this, List.map_cons, hti, Option.map_some, Option.getD_some]
    · cases h

theorem placeS_spec {gs : Array Field} {i : Nat} {r : Nat × Nat} (hr : placeS tab (gs.map stripF).toList i = some r) :
    (gs.map fun f => (f.offset, ((look tab f.type).map (·.size)).getD 0))[i]? = some r := by
  unfold placeS at hr
  split at hr
  · rename_i f hf
    rw [nth_eq, Array.getElem?_toList] at hf
    simp only [Array.getElem?_map, Option.map_eq_some_iff] at hf
    obtain ⟨g, hg, rfl⟩ := hf
    split at hr
    · rename_i ti' hti'
      simp only [Option.some.injEq] at hr
      subst hr
      have hti2 : look tab g.type = some ti' := hti'
      simp [hg, hti2, stripF]
    · cases hr
  · cases hr

theorem allIn_strip : ∀ (gs : List Field), allIn tab (gs.map stripF) = true → allIn tab gs = true
  | [], _ => rfl
  | g :: gs, h => by
    simp only [List.map_cons, allIn] at h ⊢
    split at h
    · rename_i ti hti
      have hti' : look tab g.type = some ti := hti
      rw [hti']
      exact allIn_strip gs h
    · cases h

theorem run_build (ht : TabOk P tab) {t : TypeId} {ps : List (Nat × Value)} {v : Value} {φ : Option Prop} (he : evBuild tab t ps = some (v, φ)) :
    (Instr.build t ps.toArray).run P w = .ok v w := by
  unfold evBuild at he
  split at he
  · rename_i ti hl
    split at he
    · rename_i fs hd
      obtain ⟨gs, rfl, hu⟩ := und_st ht hl hd
      split at he
      · rename_i hall
        split at he
        · rename_i cs hf
          simp only [Option.some.injEq, Prod.mk.injEq] at he
          obtain ⟨rfl, rfl⟩ := he
          have hm := run_places (w := w) ht gs.toList (allIn_strip gs.toList (by rw [← Array.toList_map]; exact hall))
          have hm' : (gs.mapM fun f => (do pure (f.offset, ← sizeOf f.type) : Sem (Nat × Nat))).run P w = .ok (gs.map fun f => (f.offset, ((look tab f.type).map (·.size)).getD 0)) w := by
            rw [← Array.toArray_toList (xs := gs), List.mapM_toArray]
            simp only [Sem.run_map, hm, Result.andThen_ok]
            rw [List.map_toArray]
          have hfill := fillE_spec (place' := fun i => (gs.map fun f => (f.offset, ((look tab f.type).map (·.size)).getD 0))[i]?) (fun i r hr => placeS_spec hr) ps _ _ hf
          simp only [Instr.build, Sem.run_bind, run_zero ht hl, Result.andThen_ok, underlying, run_program, hu, Sem.run_pure, hm', vcells_eq, hfill]
        · cases he
      · cases he
    · rename_i n e hd
      split at he
      · rename_i te hte
        split at he
        · rename_i cs hf
          simp only [Option.some.injEq, Prod.mk.injEq] at he
          obtain ⟨rfl, rfl⟩ := he
          have hfill := fillE_spec (place' := fun i => some (i * te.size, te.size)) (fun i r hr => hr) ps _ _ hf
          simp only [Instr.build, Sem.run_bind, run_zero ht hl, Result.andThen_ok, run_und ht hl (by rw [hd]; intro fs; simp), hd, run_size ht hte, vcells_eq, hfill]
          simp
        · cases he
      · cases he
    · cases he
  · cases he

theorem evParts_spec (hs : SlotsOk T a) : ∀ (l : List (Nat × Operand)) (ps : List (Nat × Value)), evParts T evO l = some ps → l.map (fun p => (p.1, a.eval p.2)) = ps
  | [], ps, h => by simp only [evParts, Option.some.injEq] at h; subst h; rfl
  | (i, x) :: l, ps, h => by
    simp only [evParts] at h
    cases hx : evO T x with
    | none => rw [hx] at h; cases h
    | some v =>
      cases hl : evParts T evO l with
      | none => rw [hx, hl] at h; cases h
      | some vs =>
        rw [hx, hl] at h
        simp only [Option.some.injEq] at h
        subst h
        simp [evO_eval hs hx, evParts_spec hs l vs hl]

theorem evOs_spec (hs : SlotsOk T a) : ∀ (l : List Operand) (vs : List Value), evOs T l = some vs → l.map a.eval = vs
  | [], vs, h => by simp only [evOs, Option.some.injEq] at h; subst h; rfl
  | x :: l, vs, h => by
    simp only [evOs] at h
    cases hx : evO T x with
    | none => rw [hx] at h; cases h
    | some v =>
      cases hl : evOs T l with
      | none => rw [hx, hl] at h; cases h
      | some us =>
        rw [hx, hl] at h
        simp only [Option.some.injEq] at h
        subst h
        simp [evO_eval hs hx, evOs_spec hs l us hl]

theorem optV_spec (hs : SlotsOk T a) {x : Option Operand} {l : Option Value} (h : optV T x = some l) : x.map a.eval = l := by
  cases x with
  | none => simpa [optV] using h
  | some y =>
    simp only [optV] at h
    split at h
    · rename_i v hv
      simp only [Option.some.injEq] at h
      subst h
      simp [evO_eval hs hv]
    · cases h

theorem evPick_spec (hs : SlotsOk T a) {c x y : Operand} {h : H} {v : Value} {φ : Option Prop} (he : evPick (evO T c) (evO T x) (evO T y) h = some (v, φ)) :
    ∃ β, a.eval c = .bool β ∧ (if β then a.eval x else a.eval y) = v := by
  unfold evPick at he
  split at he
  · rename_i β hc
    refine ⟨β, evO_eval hs hc, ?_⟩
    split at he
    · split at he
      · split at he
        · rename_i u hu
          simp only [Option.some.injEq, Prod.mk.injEq] at he
          obtain ⟨rfl, rfl⟩ := he
          simp [evO_eval hs hu]
        · cases he
      · split at he
        · rename_i u hu
          simp only [Option.some.injEq, Prod.mk.injEq] at he
          obtain ⟨rfl, rfl⟩ := he
          simp [evO_eval hs hu]
        · cases he
    · split at he
      · rename_i p q hp hq
        simp only [Option.some.injEq, Prod.mk.injEq] at he
        obtain ⟨rfl, rfl⟩ := he
        rw [evO_eval hs hp, evO_eval hs hq]
        cases β <;> rfl
      · cases he
  · cases he

theorem run_convE (ht : TabOk P tab) {s d : TypeId} {x : Value} {h : H} {v : Value} {φ : Option Prop} (he : evConv tab s d x h = some (v, φ)) (hφ : holdsP φ) :
    (convert s d x).run P w = .ok v w := by
  unfold evConv at he
  split at he
  · rename_i ts hs hd
    rw [arith_spec he hφ]
    unfold convert
    have h1 := (ht _ _ hs).1
    cases hu : P.underlying s with
    | none => rw [hu] at h1; cases h1
    | some ds =>
      have hus : (underlying s).run P w = .ok ds w := by simp [underlying, hu]
      simp only [Sem.run_bind, hus, run_und ht hd (by intro fs; simp), Result.andThen_ok]
      simp [Conv.intToInt]
  · cases he

theorem cellsFrom_extract (cs : List Value) : ∀ (n o : Nat), o + n ≤ cs.length → cellsFrom cs o n = (cs.drop o).take n
  | 0, o, _ => by simp [cellsFrom]
  | n + 1, o, h => by
    have ho : o < cs.length := by omega
    rw [cellsFrom, cellsFrom_extract cs n (o + 1) (by omega), nth_eq, List.drop_eq_getElem_cons ho, List.take_succ_cons]
    simp [ho]

theorem run_part (ht : TabOk P tab) {t : TypeId} {cs : Array Value} {o : Nat} {v : Value} {φ : Option Prop} (he : evPart tab t cs.toList o = some (v, φ)) (hφ : holdsP φ) :
    (part t cs o).run P w = .ok v w := by
  unfold evPart at he
  split at he
  · rename_i ti hti
    split at he
    · rename_i hagg
      simp only [Option.some.injEq, Prod.mk.injEq] at he
      obtain ⟨rfl, rfl⟩ := he
      have hl := Nat.le_of_ble_eq_true hφ
      simp only [part, Sem.run_bind, run_isAgg ht hti, Result.andThen_ok, hagg, if_true, run_size ht hti, Sem.run_pure]
      rw [cellsFrom_extract _ _ _ hl]
      congr 2
      apply Array.ext'
      simp
    · rename_i hagg
      split at he
      · rename_i u hu
        simp only [Option.some.injEq, Prod.mk.injEq] at he
        obtain ⟨rfl, rfl⟩ := he
        rw [nth_eq, Array.getElem?_toList] at hu
        simp [part, run_isAgg ht hti, hagg, hu]
      · cases he
  · cases he

theorem evY_run (ht : TabOk P tab) {L : Mem} (hs : SlotsOk T a) {o : Oper} {h : H} {v : Value} {φ : Option Prop}
    (he : evY P tab L T o.op h = some (v, φ)) (hφ : holdsP φ)
    (hm : isLoad o.op = true → ∀ kb, nth L h.k = some kb → w.heap[kb.1]? = some kb.2.obj)
    (hz : ∀ t ti, look tab t = some ti → isAggD ti.desc = true → 0 < ti.size) :
    (execOp a.eval o).run P w = .ok (.value v) w := by
  obtain ⟨dst, op, type, pos, after, guard⟩ := o
  simp only at he hm
  unfold evY at he
  split at he
  · obtain ⟨u, hu, hr⟩ := ev1_some he
    simp only [Option.some.injEq, Prod.mk.injEq] at hr
    obtain ⟨rfl, rfl⟩ := hr
    simp [execOp, evO_eval hs hu]
  · obtain ⟨u, hu, hr⟩ := ev1_some he
    simp only [Option.some.injEq, Prod.mk.injEq] at hr
    obtain ⟨rfl, rfl⟩ := hr
    simp [execOp, evO_eval hs hu]
  · obtain ⟨β, h1, h2⟩ := evPick_spec hs he
    simp only [execOp, h1, asBool, Sem.run_bind, Sem.run_pure, Result.andThen_ok]
    rw [h2]
  · obtain ⟨u, hu, hr⟩ := ev1_some he
    unfold evNil at hr
    split at hr
    · simp only [Option.some.injEq, Prod.mk.injEq] at hr
      obtain ⟨rfl, rfl⟩ := hr
      simp [execOp, evO_eval hs hu]
    · cases hr
  · obtain ⟨u, hu, hr⟩ := ev1_some he
    simp only [execOp, evO_eval hs hu, Sem.run_bind, run_field ht hr, Result.andThen_ok, Sem.run_pure]
  · rename_i t x
    obtain ⟨u, hu, hr⟩ := ev1_some he
    simp only [execOp, evO_eval hs hu, Sem.run_bind, run_load_blk ht hr hφ (hm rfl) (fun ti h1 h2 => hz t ti h1 h2), Result.andThen_ok, Sem.run_pure]
  · rename_i bop t x y ty
    obtain ⟨u, u', hu, hu', hr⟩ := ev2_some he
    have := run_bin (w := w) (xo := x) (yo := y) ht hr hφ
    simp only [execOp, evO_eval hs hu, evO_eval hs hu'] 
    rw [Sem.run_bind, this]
    simp
  · obtain ⟨u, hu, hr⟩ := ev1_some he
    unfold evNot at hr
    split at hr
    · simp only [Option.some.injEq, Prod.mk.injEq] at hr
      obtain ⟨rfl, rfl⟩ := hr
      simp [execOp, evO_eval hs hu, Op.unary]
    · cases hr
  · obtain ⟨u, hu, hr⟩ := ev1_some he
    simp only [execOp, evO_eval hs hu, Sem.run_bind, run_convE ht hr hφ, Result.andThen_ok, Sem.run_pure]
  · obtain ⟨u, u', hu, hu', hr⟩ := ev2_some he
    simp only [execOp, evO_eval hs hu, evO_eval hs hu', Sem.run_bind, run_indexAddr ht hr hφ, Result.andThen_ok, Sem.run_pure]
  · split at he
    · rename_i l r hl hr'
      obtain ⟨u, hu, hr⟩ := ev1_some he
      simp only [execOp, evO_eval hs hu, optV_spec hs hl, optV_spec hs hr', Option.map_none, Sem.run_bind, run_sliceE ht hr hφ, Result.andThen_ok, Sem.run_pure]
    · cases he
  · rename_i t parts
    split at he
    · rename_i ps hps
      have h1 : parts.map (fun p => (p.1, a.eval p.2)) = ps.toArray := Array.ext' (by rw [Array.toList_map, evParts_spec hs _ _ hps])
      have := run_build (w := w) ht he
      simp only [execOp, Sem.run_bind]
      have h2 : (parts.map fun x => match x with | (i, x) => (i, a.eval x)) = ps.toArray := h1
      rw [h2, this]
      simp
    · cases he
  · obtain ⟨u, hu, hr⟩ := ev1_some he
    unfold evExtract at hr
    split at hr
    · split at hr
      · rename_i vs u' hn
        simp only [Option.some.injEq, Prod.mk.injEq] at hr
        obtain ⟨rfl, rfl⟩ := hr
        rw [nth_eq, Array.getElem?_toList] at hn
        simp [execOp, evO_eval hs hu, Instr.extract, hn]
      · cases hr
    · cases hr
  · obtain ⟨u, hu, hr⟩ := ev1_some he
    unfold evFieldV at hr
    split at hr
    · rename_i cs _ _ _ fs hl
      obtain ⟨gs, rfl, hug⟩ := und_st ht hl rfl
      split at hr
      · rename_i f hf
        rw [nth_eq, Array.getElem?_toList] at hf
        simp only [Array.getElem?_map, Option.map_eq_some_iff] at hf
        obtain ⟨g, hg, rfl⟩ := hf
        have := run_part (w := w) ht hr hφ
        simp only [stripF] at this
        simp [execOp, evO_eval hs hu, Instr.field, underlying, hug, hg, asAgg, this]
      · cases hr
    · cases hr
  · rename_i fn first captured
    split at he
    · rename_i vs us h1 h2
      simp only [Option.some.injEq, Prod.mk.injEq] at he
      obtain ⟨rfl, rfl⟩ := he
      have e1 : first.map a.eval = vs.toArray := Array.ext' (by rw [Array.toList_map, evOs_spec hs _ _ h1])
      have e2 : captured.map a.eval = us.toArray := Array.ext' (by rw [Array.toList_map, evOs_spec hs _ _ h2])
      simp [execOp, e1, e2, Instr.makeFunc]
    · cases he
  · rename_i c
    obtain ⟨callee, args, argTypes⟩ := c
    unfold evCall at he
    simp only at he
    split at he
    · split at he
      · rename_i x t ts hx htl
        obtain ⟨u, hu, hr⟩ := ev1_some he
        have hargs : args = #[x] := Array.toList_inj.1 (by simpa using hx)
        have htys : argTypes = (t :: ts).toArray := Array.toList_inj.1 (by simpa using htl)
        subst hargs htys
        unfold evLen at hr
        split at hr
        · rename_i ti hti
          split at hr
          · rename_i e hd
            split at hr
            · simp only [Option.some.injEq, Prod.mk.injEq] at hr
              obtain ⟨rfl, rfl⟩ := hr
              simp [execOp, resolve, invoke, builtin, Builtin.len_, evO_eval hs hu, run_und ht hti (by rw [hd]; intro fs; simp), hd, goInt]
            · cases hr
          · rename_i n e hd
            simp only [Option.some.injEq, Prod.mk.injEq] at hr
            obtain ⟨rfl, rfl⟩ := hr
            simp [execOp, resolve, invoke, builtin, Builtin.len_, evO_eval hs hu, run_und ht hti (by rw [hd]; intro fs; simp), hd, goInt]
          · cases hr
        · cases hr
      · cases he
    · split at he
      · rename_i x y hx
        obtain ⟨u, u', hu, hu', hr⟩ := ev2_some he
        have hargs : args = #[x, y] := Array.toList_inj.1 (by simpa using hx)
        subst hargs
        unfold evMax at hr
        split at hr
        · simp only [Option.some.injEq, Prod.mk.injEq] at hr
          obtain ⟨rfl, rfl⟩ := hr
          simp [execOp, resolve, invoke, builtin, Builtin.max_, Builtin.max2, evO_eval hs hu, evO_eval hs hu']
        · cases hr
      · cases he
    · split at he
      · rename_i x y hx
        obtain ⟨u, u', hu, hu', hr⟩ := ev2_some he
        have hargs : args = #[x, y] := Array.toList_inj.1 (by simpa using hx)
        subst hargs
        unfold evMin at hr
        split at hr
        · simp only [Option.some.injEq, Prod.mk.injEq] at hr
          obtain ⟨rfl, rfl⟩ := hr
          simp [execOp, resolve, invoke, builtin, Builtin.min_, Builtin.min2, evO_eval hs hu, evO_eval hs hu']
        · cases hr
      · cases he
    · cases he
  · cases he
end
end Go.Sx
