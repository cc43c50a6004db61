/-
  Reads of one block, in any order; maps keyed by references: entries that are there.
-/
import Derived.Test.Qxb6500918aDoorMs
import Derived.Test.Qxb6500918aDoorQe
namespace Go.Sx

section
variable {P : Program} {tab : Tab} {C : Ctx} {T T' : Slots} {L L' : Mem} {w w' : World} {a : Act} {ops : List Oper} {Q : Exit → Act → World → Prop}
  {Kc : Act → World → Prop}

/-- The operation reads block b alone. -/
def Reads (P : Program) (a : Act) (o : Oper) (b : Nat) (w : World) (v : Value) : Prop := ∀ w1 : World, w1.heap[b]? = w.heap[b]? → (execOp a.eval o).run P w1 = .ok (.value v) w1

theorem op_read {i : Nat} {o : Oper} {v : Value} {b : Nat} (hst : St C T L a w) (hi : nth ops i = some o) (hw : wantE ops T o.guard = some true) (hr : Reads P a o b w v) (hn : Kc (a.put o.dst v) w) : wpOp P ops.toArray Q i Kc a w :=
  op_now hst hi hw (hr w rfl) hn

theorem dr_read (hQ : PF Q) {i : Nat} {o : Oper} {v : Value} {b p : Nat} {KB : List Nat} {Bi : List (List Nat)} {N fuel : Nat} {listed : Array Bool} (hst : St C T L a w) (hi : nth ops i = some o) (hw : wantE ops T o.guard = some true) (hN : N = fuel + 1)
    (hs : Region.noSelect ops.toArray = true) (hf : freeK ops.toArray Bi listed i (some p) = true) (hc : (Region.ready .any ops.toArray listed).contains i = true) (hb : KB.getD p 0 = b) (hr : Reads P a o b w v)
    (hn : wpAnyK P ops.toArray Q (Bof KB Bi) fuel (listed.setIfInBounds i true) (a.put o.dst v) w) : wpAnyK P ops.toArray Q (Bof KB Bi) N listed a w := by
  subst hN
  rw [nth_eq] at hi
  have hia : ops.toArray[i]? = some o := by simpa using hi
  refine wpAnyK_take (v := v) hia hs hf hc hQ (.inl ⟨wantE_spec hst.slots hw, fun w1 hS => hr w1 ?_⟩) hn
  have := hS p rfl
  rw [hb] at this
  exact this

theorem cellsAt_same {w w1 : World} {b k : Nat} {vs : List Value} (h : CellsAt w b k vs) (he : w1.heap[b]? = w.heap[b]?) : CellsAt w1 b k vs := fun j v hj => by
  have := h j v hj
  unfold World.cell? at this ⊢
  rw [he]; exact this

theorem rd_cell (ht : TabOk P tab) {o : Oper} {t : TypeId} {x : Operand} {ti : TI} {b k : Nat} {v : Value} (hst : St C T L a w)
    (hop : o.op = .load t x) (hx : evO T x = some (.pointer (some ⟨b, k, none⟩))) (hti : look tab t = some ti) (hagg : isAggD ti.desc = false) (hc : CellsAt w b k [v]) : Reads P a o b w v := fun _ he =>
  run_cell ht hst.slots hop hx hti hagg (by have := cellsAt_same hc he 0 v rfl; simpa using this)

theorem rd_cells (ht : TabOk P tab) {o : Oper} {t : TypeId} {x : Operand} {ti : TI} {b k : Nat} {vs : List Value} (hst : St C T L a w)
    (hop : o.op = .load t x) (hx : evO T x = some (.pointer (some ⟨b, k, none⟩))) (hti : look tab t = some ti) (hagg : isAggD ti.desc = true) (hsz : ti.size = vs.length) (hc : CellsAt w b k vs) : Reads P a o b w (.agg vs.toArray) := fun _ he =>
  run_cells ht hst.slots hop hx hti hagg hsz (cellsAt_same hc he)

/-- Blocks that an effect leaves alone. -/
theorem keep_nil {w w' : World} : Keep [] w w' := fun _ h => by cases h

end
end Go.Sx

namespace Go.Proofs.Qxb6500918aDoor
open Go.Sx Go.Kn
set_option maxRecDepth 100000

section
variable {w : World}

theorem stays_rf (k : Rf) : (Instr.keyThatStays (rfV k) (rfV k)).run Tryd.prog w = .ok (rfV k) w := by
  have h : Instr.sameBits 10000 (rfV k) (rfV k) = true := by simp [rfV, Instr.sameBits]
  simp [Instr.keyThatStays, h]

theorem run_lookup39ok {t e : TypeId} (ht : Tryd.prog.underlying t = some (.map 39 e)) {z : Value} (hz : (zeroValue e).run Tryd.prog w = .ok z w) {r c : Nat} {es : List Mn} (hb : w.heap[r]? = some (mapO es c)) (k : Rf) :
    (Instr.lookup t (.map (some r)) (rfV k) true).run Tryd.prog w = .ok (.tuple #[getV es k z, .bool (fnd k es 0).isSome]) w := by
  have hu : (underlying t).run Tryd.prog w = .ok _ w := run_underlying (w := w) ht
  have hg : (getObj r).run Tryd.prog w = .ok (mapO es c) w := run_get hb
  have hc := fun b => run_check39 (w := w) b 9998 k
  have hf := run_find (w := w) k es
  simp only [Instr.lookup, Sem.run_bind, hu, Result.andThen_ok, hg, mapO, Sem.run_pure, hc, hf]
  unfold getV
  cases fnd k es 0 with
  | none => simp only [Sem.run_bind, hz, Result.andThen_ok, Sem.run_pure]; rfl
  | some p => rfl

theorem modify_mid {α : Type} : ∀ (l : List α) (x : α) (r : List α) (f : α → α), (l ++ x :: r).modify l.length f = l ++ f x :: r
  | [], x, r, f => rfl
  | y :: l, x, r, f => by
    show (y :: (l ++ x :: r)).modify (l.length + 1) f = _
    rw [List.modify_succ_cons, modify_mid l x r f]; rfl

theorem run_update39e {t e : TypeId} (ht : Tryd.prog.underlying t = some (.map 39 e)) {r c : Nat} {pre post : List Mn} {x : Mn} {k : Rf} (hb : w.heap[r]? = some (mapO (pre ++ x :: post) c)) (h1 : ∀ y ∈ pre, y.k ≠ k) (h2 : x.k = k) (v : Value) :
    (Instr.mapUpdate t (.map (some r)) (rfV k) v).run Tryd.prog w = .ok () (putH w r (mapO (pre ++ ⟨k, v, x.b⟩ :: post) c)) := by
  have hu : (underlying t).run Tryd.prog w = .ok _ w := run_underlying (w := w) ht
  have hg : (getObj r).run Tryd.prog w = .ok (mapO (pre ++ x :: post) c) w := run_get hb
  have hc := run_check39 (w := w) false 9998 k
  have hf := run_find (w := w) k (pre ++ x :: post)
  rw [fnd_mid h1 h2] at hf
  have hk : ((((pre ++ x :: post).map mnE).toArray[0 + pre.length]?).map (·.key)).getD (rfV k) = rfV k := by
    rw [List.getElem?_toArray, List.getElem?_map, Nat.zero_add, List.getElem?_append_right (Nat.le_refl _)]
    simp [mnE, h2]
  have hm : ((pre ++ x :: post).map mnE).toArray.modify (0 + pre.length) (fun (e : MapEntry) => { e with key := rfV k, val := v }) = ((pre ++ (⟨k, v, x.b⟩ : Mn) :: post).map mnE).toArray := by
    apply Array.ext'
    rw [Array.toList_modify, Nat.zero_add]
    have := modify_mid (pre.map mnE) (mnE x) (post.map mnE) (fun (e : MapEntry) => { e with key := rfV k, val := v })
    rw [List.length_map] at this
    simpa [mnE] using this
  have hs := run_set (w := w) (.map ((pre ++ (⟨k, v, x.b⟩ : Mn) :: post).map mnE).toArray c) hb
  simp only [Instr.mapUpdate, Sem.run_bind, hu, Result.andThen_ok, hg, mapO, hc, hf, hk, stays_rf, hm]
  exact hs

theorem run_entry39e {t e : TypeId} (ht : Tryd.prog.underlying t = some (.map 39 e)) {r c : Nat} {pre post : List Mn} {x : Mn} {k : Rf} (hb : w.heap[r]? = some (mapO (pre ++ x :: post) c)) (h1 : ∀ y ∈ pre, y.k ≠ k) (h2 : x.k = k) :
    (Instr.mapEntry t (.map (some r)) (rfV k)).run Tryd.prog w = .ok (.tuple #[x.v, goInt x.b]) (putH w r (mapO (pre ++ x :: post) c)) := by
  have hu : (underlying t).run Tryd.prog w = .ok _ w := run_underlying (w := w) ht
  have hg : (getObj r).run Tryd.prog w = .ok (mapO (pre ++ x :: post) c) w := run_get hb
  have hc := run_check39 (w := w) false 9998 k
  have hf := run_find (w := w) k (pre ++ x :: post)
  rw [fnd_mid h1 h2] at hf
  have hk : ((((pre ++ x :: post).map mnE).toArray[0 + pre.length]?).map (·.key)).getD (rfV k) = rfV k := by
    rw [List.getElem?_toArray, List.getElem?_map, Nat.zero_add, List.getElem?_append_right (Nat.le_refl _)]
    simp [mnE, h2]
  have hbn : ((((pre ++ x :: post).map mnE).toArray[0 + pre.length]?).map (fun (y : MapEntry) => (y.born : Int))).getD 0 = (x.b : Int) := by
    rw [List.getElem?_toArray, List.getElem?_map, Nat.zero_add, List.getElem?_append_right (Nat.le_refl _)]
    simp [mnE]
  have hm : ((pre ++ x :: post).map mnE).toArray.modify (0 + pre.length) (fun (e : MapEntry) => { e with key := rfV k }) = ((pre ++ x :: post).map mnE).toArray := by
    apply Array.ext'
    rw [Array.toList_modify, Nat.zero_add]
    have := modify_mid (pre.map mnE) (mnE x) (post.map mnE) (fun (e : MapEntry) => { e with key := rfV k })
    rw [List.length_map] at this
    simpa [mnE, h2] using this
  have hs := run_set (w := w) (.map ((pre ++ x :: post).map mnE).toArray c) hb
  simp only [Instr.mapEntry, Sem.run_bind, hu, Result.andThen_ok, hg, mapO, hc, hf, hk, stays_rf, hm]
  rw [hs]
  simp only [Result.andThen_ok, Sem.run_pure, hbn]

theorem run_store39e {t : TypeId} {r c2 : Nat} {pre post : List Mn} {x : Mn} {v : Value} (hb : w.heap[r]? = some (mapO (pre ++ x :: post) c2)) (hn : ∀ e ∈ pre, e.b ≠ x.b) :
    (Instr.entryStore t (.map (some r)) (goInt x.b) v).run Tryd.prog w = .ok () (putH w r (mapO (pre ++ ⟨x.k, v, x.b⟩ :: post) c2)) := by
  have hg : (getObj r).run Tryd.prog w = .ok (mapO (pre ++ x :: post) c2) w := run_get hb
  have hi : ((pre ++ x :: post).map mnE).toArray.findIdx? (fun (e : MapEntry) => (e.born : Int) == (x.b : Int)) = some pre.length := by
    rw [List.findIdx?_toArray, List.map_append, List.findIdx?_append]
    have h1 : (pre.map mnE).findIdx? (fun e => (e.born : Int) == (x.b : Int)) = none := by
      rw [List.findIdx?_eq_none_iff]
      intro y hy
      obtain ⟨e, he, rfl⟩ := List.mem_map.1 hy
      have := hn e he
      simp [mnE]; omega
    rw [h1]
    simp [mnE, List.findIdx?_cons]
  have hm : ((pre ++ x :: post).map mnE).toArray.modify pre.length (fun (e : MapEntry) => { e with val := v }) = ((pre ++ (⟨x.k, v, x.b⟩ : Mn) :: post).map mnE).toArray := by
    apply Array.ext'
    rw [Array.toList_modify]
    have := modify_mid (pre.map mnE) (mnE x) (post.map mnE) (fun (e : MapEntry) => { e with val := v })
    rw [List.length_map] at this
    simpa [mnE] using this
  have ha : (asInt (goInt x.b)).run Tryd.prog w = .ok (x.b : Int) w := rfl
  simp only [Instr.entryStore, Sem.run_bind, hg, mapO, Result.andThen_ok, ha, hi]
  rw [hm]
  exact run_set _ hb

theorem zero51 : (zeroValue 51).run Tryd.prog w = .ok (.slice none 0 0) w := by kernel_rfl
theorem zero106 : (zeroValue 106).run Tryd.prog w = .ok (.pointer none) w := by kernel_rfl
theorem zero31 : (zeroValue 31).run Tryd.prog w = .ok (.int .u64 0) w := by kernel_rfl

end

section
variable {T : Slots} {L : Mem} {C : Ctx} {a : Act} {o : Oper} {w w' : World}

theorem exec_lookupB {t : TypeId} {x i : Operand} {b : Bool} {m key v : Value} (hs : SlotsOk T a) (hop : o.op = .lookup t x i b) (hx : evO T x = some m) (hi : evO T i = some key) (hr : (Instr.lookup t m key b).run Tryd.prog w = .ok v w) : (execOp a.eval o).run Tryd.prog w = .ok (.value v) w := by
  simp only [execOp, hop, evO_eval hs hx, evO_eval hs hi, Sem.run_bind, hr, Result.andThen_ok, Sem.run_pure]

theorem rd_look {t e : TypeId} {x i : Operand} {r c : Nat} {es : List Mn} {k : Rf} {z : Value} (ht : Tryd.prog.underlying t = some (.map 39 e)) (hz : ∀ w : World, (zeroValue e).run Tryd.prog w = .ok z w) (hst : St C T L a w) (hop : o.op = .lookup t x i false) (hx : evO T x = some (.map (some r))) (hi : evO T i = some (rfV k)) (hb : w.heap[r]? = some (mapO es c)) {v : Value} (hv : getV es k z = v) :
    Reads Tryd.prog a o r w v := fun w1 he => by
  subst hv
  exact exec_lookupB hst.slots hop hx hi (run_lookup39 ht (hz w1) (by rw [he]; exact hb) k)

theorem rd_lookB {t e : TypeId} {x i : Operand} {r c : Nat} {es : List Mn} {k : Rf} {z : Value} (ht : Tryd.prog.underlying t = some (.map 39 e)) (hz : ∀ w : World, (zeroValue e).run Tryd.prog w = .ok z w) (hst : St C T L a w) (hop : o.op = .lookup t x i true) (hx : evO T x = some (.map (some r))) (hi : evO T i = some (rfV k)) (hb : w.heap[r]? = some (mapO es c)) {v : Value} {b : Bool} (hv : getV es k z = v) (hbv : (fnd k es 0).isSome = b) :
    Reads Tryd.prog a o r w (.tuple #[v, .bool b]) := fun w1 he => by
  subst hv hbv
  exact exec_lookupB hst.slots hop hx hi (run_lookup39ok ht (hz w1) (by rw [he]; exact hb) k)

end
end Go.Proofs.Qxb6500918aDoor
