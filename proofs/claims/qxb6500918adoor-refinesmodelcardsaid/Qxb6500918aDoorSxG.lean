/-
  Rows: a slice that is held whole (nil, or over a block of its own from the block's first cell on); append.
-/
import Derived.Test.Qxb6500918aDoorSxF
namespace Go.Sx

/-- The slice (o, n, c) of elements of type e, sz cells each, holds the cells vals; its block is F. -/
def Row (w : World) (o : Option Addr) (n c : Nat) (e : TypeId) (sz : Nat) (vals : List Value) (F : List Nat) : Prop :=
  vals.length = n * sz ∧ ((o = none ∧ n = 0 ∧ c = 0 ∧ F = []) ∨
    ∃ b cs, o = some ⟨b, 0, none⟩ ∧ w.heap[b]? = some (Blk.obj ⟨cs, e, true⟩) ∧ cs.length = c * sz ∧ n ≤ c ∧ cs.take (n * sz) = vals ∧ F = [b])

theorem Row.nil (w : World) (e : TypeId) (sz : Nat) : Row w none 0 0 e sz [] [] := ⟨by simp, .inl ⟨rfl, rfl, rfl, rfl⟩⟩

section
variable {P : Program} {tab : Tab} {C : Ctx} {T T' : Slots} {L L' : Mem} {w w' : World} {a : Act} {ops : List Oper} {Q : Exit → Act → World → Prop}
  {Kc : Act → World → Prop} {o : Option Addr} {n c : Nat} {e : TypeId} {sz : Nat} {vals : List Value} {F : List Nat}

theorem Row.stable : Stable (fun w => Row w o n c e sz vals F) F := by
  intro w w' h hr
  refine ⟨hr.1, ?_⟩
  rcases hr.2 with h1 | ⟨b, cs, h1, h2, h3, h4, h5, h6⟩
  · exact .inl h1
  · exact .inr ⟨b, cs, h1, by rw [h b (by simp [h6])]; exact h2, h3, h4, h5, h6⟩

theorem Row.low (h : Row w o n c e sz vals F) : ∀ b ∈ F, b < w.heap.size := by
  intro b hb
  rcases h.2 with ⟨_, _, _, h4⟩ | ⟨b', cs, h1, h2, h3, h4, h5, h6⟩
  · rw [h4] at hb; cases hb
  · rw [h6] at hb; simp at hb; subst hb; exact lt_of_heap h2

theorem Row.fr (h : Row w o n c e sz vals F) {M : List Nat} (hfr : Fr M w w') (hM : ∀ b ∈ F, b ∉ M) : Row w' o n c e sz vals F :=
  Row.stable w w' (fun b hb => hfr.block b (h.low b hb) (hM b hb)) h

theorem Row.nodup (h : Row w o n c e sz vals F) : F.Nodup := by
  rcases h.2 with ⟨_, _, _, h4⟩ | ⟨b', cs, h1, h2, h3, h4, h5, h6⟩
  · rw [h4]; exact List.nodup_nil
  · rw [h6]; simp

/-- A row that is not empty has a block. -/
theorem Row.open_ (h : Row w o n c e sz vals F) (hn : 0 < n) : ∃ b cs, o = some ⟨b, 0, none⟩ ∧ w.heap[b]? = some (Blk.obj ⟨cs, e, true⟩) ∧ cs.length = c * sz ∧ n ≤ c ∧ cs.take (n * sz) = vals ∧ F = [b] := by
  rcases h.2 with ⟨_, h2, _⟩ | h
  · omega
  · exact h

theorem cellsAre_of_take {cs : List Value} : ∀ (vs : List Value) (k : Nat), (cs.drop k).take vs.length = vs → cellsAre cs k vs
  | [], _, _ => trivial
  | v :: vs, k, h => by
    have h0 : (cs.drop k)[0]? = some v := by
      have := congrArg (·[0]?) h
      simpa using this
    refine ⟨by rw [nth_eq]; simpa using h0, cellsAre_of_take vs (k + 1) ?_⟩
    have h1 : k < cs.length := by
      rcases Nat.lt_or_ge k cs.length with h' | h'
      · exact h'
      · rw [List.drop_eq_nil_of_le h'] at h0; cases h0
    rw [List.drop_eq_getElem_cons h1, List.length_cons, List.take_succ_cons] at h
    exact (List.cons.inj h).2

theorem take_drop_of_take {cs vals : List Value} {N k m : Nat} (h : cs.take N = vals) (hk : k + m ≤ N) : (cs.drop k).take m = (vals.drop k).take m := by
  subst h
  rw [List.drop_take, List.take_take, Nat.min_eq_left (by omega)]

/-- Element i of a row of encoded elements. -/
theorem flat_at {α : Type} (enc : α → List Value) (sz : Nat) (hsz : ∀ x, (enc x).length = sz) : ∀ (xs : List α) (i : Nat) (x : α), xs[i]? = some x →
    ((xs.flatMap enc).drop (i * sz)).take sz = enc x
  | [], i, x, h => by simp at h
  | y :: xs, 0, x, h => by
    simp at h
    subst h
    rw [List.flatMap_cons, Nat.zero_mul, List.drop_zero, List.take_append_of_le_length (by rw [hsz]; omega), ← hsz y, List.take_length]
  | y :: xs, i + 1, x, h => by
    simp at h
    rw [List.flatMap_cons, Nat.succ_mul, Nat.add_comm, ← List.drop_drop]
    rw [List.drop_append_of_le_length (by rw [hsz]; omega)]
    rw [← hsz y, List.drop_length, List.nil_append, hsz y]
    exact flat_at enc sz hsz xs i x h

theorem flat_length {α : Type} (enc : α → List Value) (sz : Nat) (hsz : ∀ x, (enc x).length = sz) : ∀ (xs : List α), (xs.flatMap enc).length = xs.length * sz
  | [] => by simp
  | x :: xs => by rw [List.flatMap_cons, List.length_append, hsz, flat_length enc sz hsz xs, List.length_cons, Nat.succ_mul, Nat.add_comm]

theorem flat_take {α : Type} (enc : α → List Value) (sz : Nat) (hsz : ∀ x, (enc x).length = sz) : ∀ (xs : List α) (k : Nat), (xs.flatMap enc).take (k * sz) = (xs.take k).flatMap enc
  | [], k => by simp
  | x :: xs, 0 => by simp
  | x :: xs, k + 1 => by
    rw [List.flatMap_cons, List.take_succ_cons, List.flatMap_cons, Nat.succ_mul, Nat.add_comm]
    have : sz + k * sz = (enc x).length + k * sz := by rw [hsz]
    rw [this, List.take_length_add_append, flat_take enc sz hsz xs k]

theorem Row.read {α : Type} {enc : α → List Value} {xs : List α} (hsz : ∀ x, (enc x).length = sz) {cs : List Value} (ht : cs.take (n * sz) = xs.flatMap enc) {i : Nat} {x : α} (hx : xs[i]? = some x) (hi : i < n) :
    cellsAre cs (i * sz) (enc x) := by
  apply cellsAre_of_take
  rw [hsz x, take_drop_of_take ht (by have := Nat.mul_le_mul_right sz (Nat.succ_le_of_lt hi); rw [Nat.succ_mul] at this; exact this)]
  exact flat_at enc sz hsz xs i x hx

/-- A row cut short: 'x[:k]'. -/
theorem Row.cut {α : Type} {enc : α → List Value} {xs : List α} (hsz : ∀ x, (enc x).length = sz) (h : Row w o xs.length c e sz (xs.flatMap enc) F) {k : Nat} (hk : k ≤ xs.length) :
    Row w o k c e sz ((xs.take k).flatMap enc) F := by
  refine ⟨by rw [flat_length enc sz hsz, List.length_take, Nat.min_eq_left hk], ?_⟩
  rcases h.2 with ⟨h1, h2, h3, h4⟩ | ⟨b, cs, h1, h2, h3, h4, h5, h6⟩
  · exact .inl ⟨h1, by omega, h3, h4⟩
  · refine .inr ⟨b, cs, h1, h2, h3, by omega, ?_, h6⟩
    rw [← flat_take enc sz hsz, ← h5, List.take_take, Nat.min_eq_left (Nat.mul_le_mul_right sz hk)]

theorem splice_eq : ∀ (vs cells : List Value) (off : Nat), off + vs.length ≤ cells.length → splice cells off vs = cells.take off ++ vs ++ cells.drop (off + vs.length)
  | [], cells, off, _ => by simp [splice]
  | v :: vs, cells, off, h => by
    simp only [List.length_cons] at h
    rw [splice, setL_eq, splice_eq vs _ _ (by simp; omega)]
    have h1 : (cells.set off v).take (off + 1) = cells.take off ++ [v] := by
      rw [List.take_add_one, List.take_set_of_le (by omega)]
      simp [show off < cells.length by omega]
    have h2 : (cells.set off v).drop (off + 1 + vs.length) = cells.drop (off + (vs.length + 1)) := by
      rw [List.drop_set_of_lt (by omega)]
      congr 1; omega
    rw [h1, h2]
    simp

/-- What append takes its new elements from. -/
def Src (w : World) (o : Option Addr) (m sz : Nat) (vs : List Value) : Prop :=
  vs.length = m * sz ∧ (m = 0 ∨ ∃ b k blk, o = some ⟨b, k, none⟩ ∧ w.heap[b]? = some (Blk.obj blk) ∧ cellsAre blk.cells k vs)

theorem run_first {b k : Nat} {blk : Blk} (sz m : Nat) (hb : w.heap[b]? = some blk.obj) {vs : List Value} (hl : vs.length = m * sz) (hc : cellsAre blk.cells k vs) (ln cp : Nat) :
    (Builtin.firstCells sz m (.slice (some ⟨b, k, none⟩) ln cp)).run P w = .ok vs.toArray w := by
  simp only [Builtin.firstCells, loadCells]
  rw [← hl]
  have h1 := cellsAre_from hc
  by_cases hv : vs = []
  · subst hv; simp [loadCellsFrom]
  · rw [run_loadCells hb _ _ _ _ (by have := h1.2 hv; omega)]
    simp [h1.1]

theorem growBy_le (newLen : Nat) : ∀ (r c : Nat), c ≤ newLen + (newLen + 768) / 4 → Builtin.growBy newLen r c ≤ newLen + (newLen + 768) / 4
  | 0, c, h => h
  | r + 1, c, h => by
    simp only [Builtin.growBy]
    split
    · exact h
    · exact growBy_le newLen r _ (by omega)

theorem nextcap_le (need cap : Nat) (h : cap < need) : Builtin.nextslicecap need cap ≤ 2 * need + 200 := by
  unfold Builtin.nextslicecap
  split
  · omega
  · split
    · omega
    · have := growBy_le need 4 cap (by omega)
      omega

theorem run_append (ht : TabOk P tab) {t t' : TypeId} {ti ti' te : TI} {e' : TypeId} (hti : look tab t = some ti) (hd : ti.desc = .slice e) (hti' : look tab t' = some ti') (hd' : ti'.desc = .slice e') (hte : look tab e = some te)
    (hz : (vcells te.zero).length = te.size) (hby : te.bytes ≤ 1024) {n c m cx : Nat} {so xo : Option Addr} {vals vs : List Value} {F : List Nat} (ty : TypeId)
    (hr : Row w so n c e te.size vals F) (hs : Src w xo m te.size vs) (hb : n + m ≤ 2147483648) (hone : ∀ v ∈ vs, v.oneCell' = true) :
    ∃ so' c' F' w', (Builtin.append_ #[t, t'] ty #[.slice so n c, .slice xo m cx]).run P w = .ok (.slice so' (n + m) c') w' ∧ Row w' so' (n + m) c' e te.size (vals ++ vs) F' ∧ Fr F w w' ∧ (∀ b ∈ F', b ∈ F ∨ w.heap.size ≤ b) ∧ Fr F w w' := by
  obtain ⟨hu, i, hi, hsz, hbt, hzo⟩ := ht _ _ hte
  have hlen : (vals ++ vs).length = (n + m) * te.size := by rw [List.length_append, hr.1, hs.1, Nat.add_mul]
  have hnew : (Builtin.firstCells te.size m (.slice xo m cx)).run P w = .ok vs.toArray w := by
    rcases hs.2 with hm | ⟨b, k, blk, rfl, hbk, hc⟩
    · subst hm
      have : vs = [] := by have := hs.1; simp at this; exact this
      subst this
      cases xo <;> simp [Builtin.firstCells, loadCells, loadCellsFrom]
    · exact run_first te.size m hbk hs.1 hc m cx
  by_cases hroom : n + m ≤ c
  · -- in place
    rcases hr.2 with ⟨rfl, hn0, hc0, rfl⟩ | ⟨b, cs, rfl, hbk, hcl, hnc, htk, rfl⟩
    · have hm0 : m = 0 := by omega
      subst hm0 hn0 hc0
      have : vs = [] := by have := hs.1; simp at this; exact this
      subst this
      refine ⟨none, 0, [], w, ?_, ⟨by simp [hr.1], .inl ⟨rfl, rfl, rfl, rfl⟩⟩, Fr.refl _ _, (fun b hb => by cases hb), Fr.refl _ _⟩
      simp only [Builtin.append_, List.getElem?_toArray, List.getElem?_cons_zero, List.getElem?_cons_succ]
      simp [run_und ht hti (by rw [hd]; intro fs; simp), hd, run_size ht hte, run_und ht hti' (by rw [hd']; intro fs; simp), hd', Builtin.lenOf, hnew]
    · have hroom' : 0 + n * te.size + vs.length ≤ cs.length := by
        rw [hs.1, hcl, Nat.zero_add, ← Nat.add_mul]; exact Nat.mul_le_mul_right _ hroom
      obtain ⟨w', hw1, hw2⟩ := run_storeCells (P := P) vs 0 (0 + n * te.size) ⟨cs, e, true⟩ w hbk (by simpa using hroom') hone
      have hfr : Fr [b] w w' := ⟨hw2.os, hw2.tape, hw2.output, Nat.le_of_eq hw2.size.symm, fun k _ hk => hw2.else_ k (by simpa using hk)⟩
      refine ⟨some ⟨b, 0, none⟩, c, [b], w', ?_, ⟨hlen, .inr ⟨b, splice cs (n * te.size) vs, rfl, ?_, by rw [splice_length]; exact hcl, hroom, ?_, rfl⟩⟩, hfr, fun b hb => .inl hb, hfr⟩
      · simp only [Builtin.append_, List.getElem?_toArray, List.getElem?_cons_zero, List.getElem?_cons_succ]
        have hw1' : (storeCells ⟨b, n * te.size, none⟩ vs).run P w = .ok () w' := by simpa using hw1
        simp [run_und ht hti (by rw [hd]; intro fs; simp), hd, run_size ht hte, run_und ht hti' (by rw [hd']; intro fs; simp), hd', Builtin.lenOf, hnew, hroom, addr_add, hw1']
      · rw [hw2.at_]; simp [Blk.obj]
      · rw [splice_eq _ _ _ (by simpa using hroom'), ← htk, List.append_assoc]
        rw [show (n + m) * te.size = (cs.take (n * te.size) ++ vs).length by
          rw [List.length_append, List.length_take, hs.1, Nat.add_mul, Nat.min_eq_left (by have := hroom'; omega)]]
        rw [← List.append_assoc, List.take_left']
        rfl
  · -- a new row
    have hold : (Builtin.firstCells te.size n (.slice so n c)).run P w = .ok vals.toArray w := by
      rcases hr.2 with ⟨rfl, hn0, hc0, rfl⟩ | ⟨b, cs, rfl, hbk, hcl, hnc, htk, rfl⟩
      · have : vals = [] := by have := hr.1; rw [hn0] at this; simp at this; exact this
        subst this
        simp [Builtin.firstCells]
      · refine run_first te.size n hbk hr.1 (cellsAre_of_take _ _ ?_) n c
        rw [hr.1, List.drop_zero]; exact htk
    have hcap := nextcap_le (n + m) c (by omega)
    have hbound : Builtin.nextslicecap (n + m) c * i.bytes ≤ 2 ^ 48 := by
      have h3 : Builtin.nextslicecap (n + m) c * i.bytes ≤ (2 * (n + m) + 200) * 1024 := Nat.mul_le_mul hcap (by rw [hbt]; exact hby)
      omega
    have hq : (Question.appendCap (n + m) c e).forced = false := rfl
    let cap' := (Question.appendCap (n + m) c e).cut (w.tape w.drawn (Question.appendCap (n + m) c e))
    have hge : n + m ≤ cap' := by simp [cap', Question.cut]
    let cells := vals ++ vs ++ (Builtin.zeroCells te.zero.cells (cap' - (n + m))).toList
    have hzl : (Builtin.zeroCells te.zero.cells (cap' - (n + m))).size = (cap' - (n + m)) * te.size := by
      simp [Builtin.zeroCells, vcells_eq, hz]
    have hcells : cells.length = cap' * te.size := by
      show (vals ++ vs ++ (Builtin.zeroCells te.zero.cells (cap' - (n + m))).toList).length = _
      rw [List.length_append, hlen, Array.length_toList, hzl, ← Nat.add_mul, Nat.add_sub_cancel' hge]
    refine ⟨some ⟨w.heap.size, 0, none⟩, cap', [w.heap.size], (w.drew.alloc (Blk.obj ⟨cells, e, true⟩)), ?_, ⟨hlen, .inr ⟨w.heap.size, cells, rfl, ?_, hcells, hge, ?_, rfl⟩⟩, ?_, fun b hb => .inr (by simp at hb; omega), ?_⟩
    · simp only [Builtin.append_, List.getElem?_toArray, List.getElem?_cons_zero, List.getElem?_cons_succ]
      have hni : ¬ ((n + m : Nat) : Int) > IntKind.max .i64 := by simp [IntKind.max, IntKind.signed, IntKind.bits]; omega
      have hby0 : (typeInfo e).run P w = .ok i w := by simp [typeInfo, hi]
      have hby1 : (typeInfo e).run P w.drew = .ok i w.drew := by simp [typeInfo, hi]
      have hold' : (Builtin.firstCells te.size n (.slice so n c)).run P w.drew = .ok vals.toArray w.drew := by
        rcases hr.2 with ⟨rfl, hn0, hc0, rfl⟩ | ⟨b, cs, rfl, hbk, hcl, hnc, htk, rfl⟩
        · have : vals = [] := by have := hr.1; rw [hn0] at this; simp at this; exact this
          subst this
          simp [Builtin.firstCells]
        · refine run_first (w := w.drew) te.size n (blk := ⟨cs, e, true⟩) hbk hr.1 (cellsAre_of_take _ _ ?_) n c
          rw [hr.1, List.drop_zero]; exact htk
      have hnew' : (Builtin.firstCells te.size m (.slice xo m cx)).run P w.drew = .ok vs.toArray w.drew := by
        rcases hs.2 with hm | ⟨b, k, blk, rfl, hbk, hc⟩
        · subst hm
          have : vs = [] := by have := hs.1; simp at this; exact this
          subst this
          cases xo <;> simp [Builtin.firstCells, loadCells, loadCellsFrom]
        · exact run_first (w := w.drew) te.size m hbk hs.1 hc m cx
      simp only [Sem.run_bind, run_und ht hti (by rw [hd]; intro fs; simp), hd, Result.andThen_ok, run_size ht hte, run_und ht hti' (by rw [hd']; intro fs; simp), hd', Sem.run_pure, Builtin.lenOf]
      simp only [Bool.false_eq_true, if_false, Sem.run_bind, Sem.run_pure, Result.andThen_ok]
      rw [if_neg hroom]
      simp only [Sem.run_bind, Result.andThen_ok, hby0, false_or]
      rw [if_neg (by rintro ⟨h, _⟩; exact hni h)]
      simp only [Sem.run_bind, Result.andThen_ok, hby0]
      rw [if_neg (by omega)]
      simp only [Sem.run_pure, Result.andThen_ok, run_choose, hq, Bool.false_eq_true, if_false, World.drew_eq, hby1, run_askRoom, hold', Bool.not_false, if_true, hnew', Sem.run_bind, run_zero ht hte, newRow, run_newObj]
      congr 1
      simp only [World.alloc, Blk.obj, cells, cap']
      have hcc : ∀ z : Array Value, vals.toArray ++ vs.toArray ++ z = (vals ++ vs ++ z.toList).toArray := fun z => by
        apply Array.ext'; simp
      rw [hcc]
    · exact heap_alloc_new _ _
    · show (vals ++ vs ++ _).take _ = _
      rw [← hlen, List.take_left']
      rfl
    · exact ⟨rfl, rfl, rfl, by simp, fun b hb _ => heap_alloc_old w.drew _ b hb⟩
    · exact ⟨rfl, rfl, rfl, by simp, fun b hb _ => heap_alloc_old w.drew _ b hb⟩

theorem op_append (ht : TabOk P tab) {i : Nat} {op : Oper} {s x : Operand} {t t' : TypeId} {ti ti' te : TI} {e' : TypeId} {n c m cx : Nat} {so xo : Option Addr} {vals vs : List Value} {F : List Nat}
    (hst : St C T L a w) (hi : nth ops i = some op) (hw : wantE ops T op.guard = some true) (hop : op.op = .call ⟨.builtin .append, #[s, x], #[t, t']⟩)
    (hs : evO T s = some (.slice so n c)) (hx : evO T x = some (.slice xo m cx)) (hti : look tab t = some ti) (hd : ti.desc = .slice e) (hti' : look tab t' = some ti') (hd' : ti'.desc = .slice e') (hte : look tab e = some te)
    (hz : (vcells te.zero).length = te.size) (hby : Nat.ble te.bytes 1024 = true) (hr : Row w so n c e te.size vals F) (hsrc : Src w xo m te.size vs) (hb : n + m ≤ 2147483648) (hone : allOne vs = true)
    (hn : ∀ so' c' F' w', Row w' so' (n + m) c' e te.size (vals ++ vs) F' → Fr F w w' → (∀ b ∈ F', b ∈ F ∨ w.heap.size ≤ b) → Kc (a.put op.dst (.slice so' (n + m) c')) w') : wpOp P ops.toArray Q i Kc a w := by
  unfold wpOp
  rw [nth_eq] at hi
  simp only [List.getElem?_toArray, hi, wantE_spec hst.slots hw, if_true]
  left
  obtain ⟨so', c', F', w', h1, h2, h3, h4, _⟩ := run_append (w := w) (cx := cx) ht hti hd hti' hd' hte hz (Nat.le_of_ble_eq_true hby) op.type hr hsrc hb (allOne_spec hone)
  have hrun : (execOp a.eval op).run P w = .ok (.value (.slice so' (n + m) c')) w' := by
    simp only [execOp, hop, resolve, Sem.run_bind, Sem.run_pure, Result.andThen_ok, invoke, builtin]
    have e1 : (#[s, x].map a.eval) = #[.slice so n c, .slice xo m cx] := by simp [evO_eval hst.slots hs, evO_eval hst.slots hx]
    rw [e1, h1]
    simp
  simp only [Oper.wp, hrun, Oper.upon]
  exact hn so' c' F' w' h2 h3 h4

/-- The one row that is carried, behind an append to it. -/
theorem St.row1 {nn : Nat} {K : List Nat} {w0 : World} {so so' : Option Addr} {n n' c c' : Nat} {vals vals' : List Value} {F F' : List Nat}
    (hst : St ⟨nn, K, w0, fun w => Row w so n c e sz vals F, F⟩ T L a w) (hK : ∀ b ∈ F, b ∈ K ∨ w0.heap.size ≤ b) (hL : ∀ kb ∈ L, kb.2.ro = true → kb.1 ∉ F)
    (hr : Row w' so' n' c' e sz vals' F') (hfr : Fr F w w') (hF : ∀ b ∈ F', b ∈ F ∨ w.heap.size ≤ b) : St ⟨nn, K, w0, fun w => Row w so' n' c' e sz vals' F', F'⟩ T L a w' :=
  hst.callF hfr (fun _ h => h) hK hL hr Row.stable hr.low hF

theorem row1_keys {K F F' : List Nat} {w0 : World} (hK : ∀ b ∈ F, b ∈ K ∨ w0.heap.size ≤ b) (h0 : w0.heap.size ≤ w.heap.size) (hF : ∀ b ∈ F', b ∈ F ∨ w.heap.size ≤ b) : ∀ b ∈ F', b ∈ K ∨ w0.heap.size ≤ b := by
  intro b hb
  rcases hF b hb with h | h
  · exact hK b h
  · right; omega

/-- A slice of one new block, as a source. -/
theorem src_one {b : Nat} {blk : Blk} {m sz : Nat} {vs : List Value} (hb : w.heap[b]? = some blk.obj) (hl : vs.length = m * sz) (hc : cellsAre blk.cells 0 vs) : Src w (some ⟨b, 0, none⟩) m sz vs :=
  ⟨hl, .inr ⟨b, 0, blk, rfl, hb, hc⟩⟩

theorem src_row (h : Row w o n c e sz vals F) : Src w o n sz vals := by
  refine ⟨h.1, ?_⟩
  rcases h.2 with ⟨_, h2, _⟩ | ⟨b, cs, h1, h2, h3, h4, h5, h6⟩
  · exact .inl h2
  · exact .inr ⟨b, 0, _, h1, h2, cellsAre_of_take _ _ (by rw [h.1, List.drop_zero]; exact h5)⟩

end
end Go.Sx
