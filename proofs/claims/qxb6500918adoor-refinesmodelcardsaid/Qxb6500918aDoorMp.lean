/-
  A Go map keyed by references, as a list of entries.
-/
import Derived.Test.Qxb6500918aDoorP3
import Derived.Test.Qxb6500918aDoorEq
import Derived.MapKept
namespace Go.Kn
open Go.Sx

structure Mn where
  k : Rf
  v : Value
  b : Nat

def rfV (r : Rf) : Value := .agg #[.int .u16 r.idx, .int .u32 r.gen]
def mnE (e : Mn) : MapEntry := ⟨rfV e.k, e.v, e.b⟩
def mapO (es : List Mn) (c : Nat) : Obj := .map (es.map mnE).toArray c

def fnd (k : Rf) : List Mn → Nat → Option (Nat × Value)
  | [], _ => none
  | e :: es, i => if k = e.k then some (i, e.v) else fnd k es (i + 1)

end Go.Kn

namespace Go.Proofs.Qxb6500918aDoor
open Go.Sx Go.Kn
set_option maxRecDepth 100000

variable {w : World}

def putH (w : World) (r : Nat) (o : Obj) : World := { w with heap := w.heap.setIfInBounds r o }
theorem putH_same {r : Nat} {o o' : Obj} (h : w.heap[r]? = some o) : (putH w r o').heap[r]? = some o' := by
  have := lt_of_heap h
  simp [putH, this]
theorem putH_fr {r : Nat} {o : Obj} : Fr [r] w (putH w r o) := ⟨rfl, rfl, rfl, by simp [putH], fun b _ hb => by simp at hb; simp [putH, Array.getElem?_setIfInBounds_ne (Ne.symm hb)]⟩
theorem run_get {r c : Nat} {es : Array MapEntry} (h : w.heap[r]? = some (.map es c)) : (getObj r).run Tryd.prog w = .ok (.map es c) w := by simp [getObj, Sem.run, h]
theorem run_set {r c : Nat} {es : Array MapEntry} (o' : Obj) (h : w.heap[r]? = some (.map es c)) : (setObj r o').run Tryd.prog w = .ok () (putH w r o') := by simp [setObj, Sem.run, h, putH]

theorem run_eq39 (a b : Rf) : (Op.equal 39 (rfV a) (rfV b)).run Tryd.prog w = .ok (decide (a = b)) w := eqRf (d := 9998) a b w

theorem run_asking (k : Rf) : ∀ (es : List Mn) (i : Nat), (Instr.findAsking 39 (rfV k) (es.map mnE) i).run Tryd.prog w = .ok (fnd k es i) w
  | [], i => rfl
  | e :: es, i => by
    have h : (Op.equal 39 (rfV k) (mnE e).key).run Tryd.prog w = .ok (decide (k = e.k)) w := run_eq39 k e.k
    simp only [List.map_cons, Instr.findAsking, Sem.run_bind, h, Result.andThen_ok, fnd]
    by_cases hk : k = e.k
    · rw [if_pos hk]; simp [hk, mnE]
    · rw [if_neg hk]; simp only [hk, decide_false, Bool.false_eq_true, if_false]; exact run_asking k es (i + 1)

theorem run_find (k : Rf) (es : List Mn) : (Instr.findKey 39 (rfV k) (es.map mnE)).run Tryd.prog w = .ok (fnd k es 0) w := by
  have hu : (underlying 39).run Tryd.prog w = .ok _ w := run_underlying (w := w) Tryd.underlying39
  simp only [Instr.findKey, Sem.run_bind, hu, Result.andThen_ok]
  cases es with
  | nil => rfl
  | cons e es =>
    exact run_asking k (e :: es) 0

theorem run_check37 (b : Bool) (n : Nat) (x : Int) : (Instr.checkKey b (n + 1) 37 (.int .u16 x)).run Tryd.prog w = .ok () w := by
  have hu : (underlying 37).run Tryd.prog w = .ok _ w := run_underlying (w := w) Tryd.underlying37
  rw [Instr.checkKey]
  simp only [Sem.run_bind, hu, Result.andThen_ok, Sem.run_pure]
theorem run_check30 (b : Bool) (n : Nat) (x : Int) : (Instr.checkKey b (n + 1) 30 (.int .u32 x)).run Tryd.prog w = .ok () w := by
  have hu : (underlying 30).run Tryd.prog w = .ok _ w := run_underlying (w := w) Tryd.underlying30
  rw [Instr.checkKey]
  simp only [Sem.run_bind, hu, Result.andThen_ok, Sem.run_pure]

theorem run_check39 (b : Bool) (n : Nat) (k : Rf) : (Instr.checkKey b (n + 2) 39 (rfV k)).run Tryd.prog w = .ok () w := by
  have hu : (underlying 39).run Tryd.prog w = .ok _ w := run_underlying (w := w) Tryd.underlying39
  have h1 : (part 37 #[.int .u16 k.idx, .int .u32 k.gen] 0).run Tryd.prog w = .ok (.int .u16 k.idx) w := partC Tryd.isAgg37 rfl w
  have h2 : (part 30 #[.int .u16 k.idx, .int .u32 k.gen] 1).run Tryd.prog w = .ok (.int .u32 k.gen) w := partC Tryd.isAgg30 rfl w
  have c1 := run_check37 (w := w) b n k.idx
  have c2 := run_check30 (w := w) b n k.gen
  generalize hn : n + 1 = m at c1 c2
  rw [show n + 2 = m + 1 by omega, Instr.checkKey]
  simp only [Sem.run_bind, hu, Result.andThen_ok, rfV]
  rw [← Array.forIn_toList]
  simp only [List.forIn_cons, List.forIn_nil, Sem.run_bind]
  rw [if_pos (by decide)]
  simp only [Sem.run_bind, h1, Result.andThen_ok, c1, Sem.run_pure]
  rw [if_pos (by decide)]
  simp only [Sem.run_bind, h2, Result.andThen_ok, c2, Sem.run_pure]

/-- What a look finds. -/
def getV (es : List Mn) (k : Rf) (z : Value) : Value := match fnd k es 0 with | some (_, v) => v | none => z

theorem run_lookup39 {t e : TypeId} (ht : Tryd.prog.underlying t = some (.map 39 e)) {z : Value} (hz : (zeroValue e).run Tryd.prog w = .ok z w) {r c : Nat} {es : List Mn} (hb : w.heap[r]? = some (mapO es c)) (k : Rf) :
    (Instr.lookup t (.map (some r)) (rfV k) false).run Tryd.prog w = .ok (getV es k z) w := by
  have hu : (underlying t).run Tryd.prog w = .ok _ w := run_underlying (w := w) ht
  have hg : (getObj r).run Tryd.prog w = .ok (mapO es c) w := run_get hb
  have hc := fun b => run_check39 (w := w) b 9998 k
  have hf := run_find (w := w) k es
  simp only [Instr.lookup, Sem.run_bind, hu, Result.andThen_ok, hg, mapO, Sem.run_pure, hc, hf]
  unfold getV
  cases fnd k es 0 with
  | none => simp only [Sem.run_bind, hz, Result.andThen_ok, Sem.run_pure]; rfl
  | some p => rfl

theorem run_entry39 {t e : TypeId} (ht : Tryd.prog.underlying t = some (.map 39 e)) {z : Value} (hz : (zeroValue e).run Tryd.prog w = .ok z w) {r c : Nat} {es : List Mn} (hb : w.heap[r]? = some (mapO es c)) {k : Rf} (hn : fnd k es 0 = none) :
    (Instr.mapEntry t (.map (some r)) (rfV k)).run Tryd.prog w = .ok (.tuple #[z, goInt c]) (putH w r (mapO (es ++ [⟨k, z, c⟩]) (c + 1))) := by
  have hu : (underlying t).run Tryd.prog w = .ok _ w := run_underlying (w := w) ht
  have hg : (getObj r).run Tryd.prog w = .ok (mapO es c) w := run_get hb
  have hc := run_check39 (w := w) false 9998 k
  have hf := run_find (w := w) k es
  rw [hn] at hf
  have hs : (setObj r (.map ((es.map mnE).toArray.push ⟨rfV k, z, c⟩) (c + 1))).run Tryd.prog w = .ok () (putH w r (.map ((es.map mnE).toArray.push ⟨rfV k, z, c⟩) (c + 1))) := run_set _ hb
  simp only [Instr.mapEntry, Sem.run_bind, hu, Result.andThen_ok, hg, mapO, hc, hf, hz, hs, Sem.run_pure]
  simp [mnE]

theorem run_update39 {t e : TypeId} (ht : Tryd.prog.underlying t = some (.map 39 e)) {r c : Nat} {es : List Mn} (hb : w.heap[r]? = some (mapO es c)) {k : Rf} (hn : fnd k es 0 = none) (v : Value) :
    (Instr.mapUpdate t (.map (some r)) (rfV k) v).run Tryd.prog w = .ok () (putH w r (mapO (es ++ [⟨k, v, c⟩]) (c + 1))) := by
  have hu : (underlying t).run Tryd.prog w = .ok _ w := run_underlying (w := w) ht
  have hg : (getObj r).run Tryd.prog w = .ok (mapO es c) w := run_get hb
  have hc := run_check39 (w := w) false 9998 k
  have hf := run_find (w := w) k es
  rw [hn] at hf
  have hs : (setObj r (.map ((es.map mnE).toArray.push ⟨rfV k, v, c⟩) (c + 1))).run Tryd.prog w = .ok () (putH w r (.map ((es.map mnE).toArray.push ⟨rfV k, v, c⟩) (c + 1))) := run_set _ hb
  simp only [Instr.mapUpdate, Sem.run_bind, hu, Result.andThen_ok, hg, mapO, hc, hf, hs]
  simp [mnE]

theorem fnd_none {k : Rf} : ∀ {es : List Mn} {i : Nat}, (∀ e ∈ es, e.k ≠ k) → fnd k es i = none
  | [], _, _ => rfl
  | e :: es, i, h => by
    rw [fnd, if_neg (fun hq => h e (by simp) hq.symm)]
    exact fnd_none (fun x hx => h x (List.mem_cons_of_mem _ hx))

theorem fnd_mid {k : Rf} : ∀ {pre : List Mn} {e : Mn} {post : List Mn} {i : Nat}, (∀ x ∈ pre, x.k ≠ k) → e.k = k → fnd k (pre ++ e :: post) i = some (i + pre.length, e.v)
  | [], e, post, i, _, he => by simp [fnd, he]
  | x :: pre, e, post, i, h, he => by
    rw [List.cons_append, fnd, if_neg (fun hq => h x (by simp) hq.symm), fnd_mid (fun y hy => h y (List.mem_cons_of_mem _ hy)) he]
    simp; omega

theorem modify_end {α : Type} : ∀ (l : List α) (x : α) (f : α → α), (l ++ [x]).modify l.length f = l ++ [f x]
  | [], x, f => rfl
  | y :: l, x, f => by
    show (y :: (l ++ [x])).modify (l.length + 1) f = _
    rw [List.modify_succ_cons, modify_end l x f]; rfl

theorem erase_mid {α : Type} : ∀ (l : List α) (x : α) (r : List α), (l ++ x :: r).eraseIdx l.length = l ++ r
  | [], _, _ => rfl
  | y :: l, x, r => by
    show (y :: (l ++ x :: r)).eraseIdx (l.length + 1) = _
    rw [List.eraseIdx_cons_succ, erase_mid l x r]; rfl

theorem run_store39 {t : TypeId} {r c c2 : Nat} {es : List Mn} {k : Rf} {z v : Value} (hb : w.heap[r]? = some (mapO (es ++ [⟨k, z, c⟩]) c2)) (hn : ∀ e ∈ es, e.b ≠ c) :
    (Instr.entryStore t (.map (some r)) (goInt c) v).run Tryd.prog w = .ok () (putH w r (mapO (es ++ [⟨k, v, c⟩]) c2)) := by
  have hg : (getObj r).run Tryd.prog w = .ok (mapO (es ++ [⟨k, z, c⟩]) c2) w := run_get hb
  have hi : ((es ++ [(⟨k, z, c⟩ : Mn)]).map mnE).toArray.findIdx? (fun (e : MapEntry) => (e.born : Int) == (c : Int)) = some es.length := by
    rw [List.findIdx?_toArray, List.map_append, List.findIdx?_append]
    have h1 : (es.map mnE).findIdx? (fun e => (e.born : Int) == (c : Int)) = none := by
      rw [List.findIdx?_eq_none_iff]
      intro x hx
      obtain ⟨e, he, rfl⟩ := List.mem_map.1 hx
      have := hn e he
      simp [mnE]; omega
    rw [h1]
    simp [mnE]
  have hm : ((es ++ [(⟨k, z, c⟩ : Mn)]).map mnE).toArray.modify es.length (fun (e : MapEntry) => { e with val := v }) = ((es ++ [(⟨k, v, c⟩ : Mn)]).map mnE).toArray := by
    apply Array.ext'
    rw [Array.toList_modify, List.map_append, List.map_append]
    have := modify_end (es.map mnE) (mnE ⟨k, z, c⟩) (fun (e : MapEntry) => { e with val := v })
    rw [List.length_map] at this
    exact this
  have ha : (asInt (goInt c)).run Tryd.prog w = .ok (c : Int) w := rfl
  simp only [Instr.entryStore, Sem.run_bind, hg, mapO, Result.andThen_ok, ha, hi]
  rw [hm]
  exact run_set _ hb

theorem run_delete39 {t ty : TypeId} {e : TypeId} (ht : Tryd.prog.underlying t = some (.map 39 e)) {r c : Nat} {pre post : List Mn} {x : Mn} {k : Rf} (hb : w.heap[r]? = some (mapO (pre ++ x :: post) c)) (h1 : ∀ y ∈ pre, y.k ≠ k) (h2 : x.k = k) :
    (Builtin.delete_ #[t, 39] ty #[.map (some r), rfV k]).run Tryd.prog w = .ok (.tuple #[]) (putH w r (mapO (pre ++ post) c)) := by
  have hu : (underlying t).run Tryd.prog w = .ok _ w := run_underlying (w := w) ht
  have hg : (getObj r).run Tryd.prog w = .ok (mapO (pre ++ x :: post) c) w := run_get hb
  have hc := fun b => run_check39 (w := w) b 9998 k
  have hf := run_find (w := w) k (pre ++ x :: post)
  rw [fnd_mid h1 h2] at hf
  have hm : ((pre ++ x :: post).map mnE).toArray.eraseIdxIfInBounds (0 + pre.length) = ((pre ++ post).map mnE).toArray := by
    apply Array.ext'
    have := erase_mid (pre.map mnE) (mnE x) (post.map mnE)
    rw [List.length_map] at this
    simpa [Array.eraseIdxIfInBounds] using this
  have hs := run_set (w := w) (.map (((pre ++ x :: post).map mnE).toArray.eraseIdxIfInBounds (0 + pre.length)) c) hb
  rw [hm] at hs
  simp only [Builtin.delete_, show (#[t, 39] : Array TypeId)[0]? = some t from rfl, show (#[.map (some r), rfV k] : Array Value)[0]? = some (.map (some r)) from rfl, show (#[.map (some r), rfV k] : Array Value)[1]? = some (rfV k) from rfl, Sem.run_bind, hu, Result.andThen_ok, hg, mapO, hc, hf, hm, hs, Sem.run_pure]

theorem run_delete39n {t ty : TypeId} {e : TypeId} (ht : Tryd.prog.underlying t = some (.map 39 e)) {r c : Nat} {es : List Mn} {k : Rf} (hb : w.heap[r]? = some (mapO es c)) (h1 : ∀ y ∈ es, y.k ≠ k) :
    (Builtin.delete_ #[t, 39] ty #[.map (some r), rfV k]).run Tryd.prog w = .ok (.tuple #[]) (putH w r (mapO es c)) := by
  have hu : (underlying t).run Tryd.prog w = .ok _ w := run_underlying (w := w) ht
  have hg : (getObj r).run Tryd.prog w = .ok (mapO es c) w := run_get hb
  have hc := fun b => run_check39 (w := w) b 9998 k
  have hf := run_find (w := w) k es
  rw [fnd_none h1] at hf
  have hs := run_set (w := w) (.map (es.map mnE).toArray c) hb
  simp only [Builtin.delete_, show (#[t, 39] : Array TypeId)[0]? = some t from rfl, show (#[.map (some r), rfV k] : Array Value)[0]? = some (.map (some r)) from rfl, show (#[.map (some r), rfV k] : Array Value)[1]? = some (rfV k) from rfl, Sem.run_bind, hu, Result.andThen_ok, hg, mapO, hc, hf, hs, Sem.run_pure]

theorem run_len39 {t ty : TypeId} {e : TypeId} (ht : Tryd.prog.underlying t = some (.map 39 e)) {r c : Nat} {es : List Mn} (hb : w.heap[r]? = some (mapO es c)) :
    (Builtin.len_ #[t] ty #[.map (some r)]).run Tryd.prog w = .ok (.int .i64 es.length) w := by
  have hu : (underlying t).run Tryd.prog w = .ok _ w := run_underlying (w := w) ht
  have hg : (getObj r).run Tryd.prog w = .ok (mapO es c) w := run_get hb
  simp only [Builtin.len_, show (#[t] : Array TypeId)[0]? = some t from rfl, show (#[.map (some r)] : Array Value)[0]? = some (.map (some r)) from rfl, Sem.run_bind, hu, Result.andThen_ok, hg, mapO, Sem.run_pure]
  simp [goInt]

end Go.Proofs.Qxb6500918aDoor
