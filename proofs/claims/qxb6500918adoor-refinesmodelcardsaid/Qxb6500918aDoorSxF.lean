/-
  Single effects (store, new block, call), tests, the end of a body, the entry into a body.
-/
import Derived.Test.Qxb6500918aDoorSxE
namespace Go.Sx

section
variable {P : Program} {tab : Tab} {C : Ctx} {T T' : Slots} {L L' : Mem} {w w' : World} {a : Act} {ops : List Oper} {Q : Exit → Act → World → Prop}
  {Kc : Act → World → Prop}

def setM (L : Mem) : Nat → Blk → Mem :=
  match L with
  | [] => fun _ _ => []
  | x :: r => fun k blk => match k with
    | 0 => (x.1, blk) :: r
    | m + 1 => x :: setM r m blk

theorem setM_eq : ∀ (L : Mem) (k : Nat) (blk : Blk), setM L k blk = (match nth L k with | some kb => L.set k (kb.1, blk) | none => L)
  | [], k, blk => by simp [setM, nth]
  | x :: r, 0, blk => by simp [setM, nth]
  | x :: r, k + 1, blk => by
    simp only [setM, nth, setM_eq r k blk]
    cases nth r k <;> simp

theorem setM_keys (L : Mem) (k : Nat) (blk : Blk) : (setM L k blk).map (·.1) = L.map (·.1) := by
  rw [setM_eq, nth_eq]
  split
  · rename_i kb h
    rw [List.map_set]
    apply List.ext_getElem?
    intro i
    rw [List.getElem?_set]
    split
    · rename_i hik
      subst hik
      have hlt := (List.getElem?_eq_some_iff.1 h).1
      rw [if_pos (by simpa using hlt)]
      simp [h]
    · rfl
  · rfl

def allOne : List Value → Bool
  | [] => true
  | v :: r => match v with
    | .agg _ => false
    | .tuple _ => false
    | _ => allOne r

theorem allOne_spec : ∀ {vs : List Value}, allOne vs = true → ∀ v ∈ vs, v.oneCell' = true
  | [], _, v, hv => by cases hv
  | u :: r, h, v, hv => by
    have hu : u.oneCell' = true ∧ allOne r = true := by
      cases u <;> simp [allOne] at h <;> simp [Value.oneCell', h]
    rcases List.mem_cons.1 hv with rfl | hv
    · exact hu.1
    · exact allOne_spec hu.2 v hv

/-- What a store leaves: one block turned. -/
structure Wrote (b : Nat) (o : Obj) (w w' : World) : Prop where
  os : w'.os = w.os
  tape : w'.tape = w.tape
  output : w'.output = w.output
  size : w'.heap.size = w.heap.size
  at_ : w'.heap[b]? = some o
  else_ : ∀ k, k ≠ b → w'.heap[k]? = w.heap[k]?

theorem run_storeCells {b : Nat} : ∀ (vs : List Value) (i off : Nat) (blk : Blk) (w : World), w.heap[b]? = some blk.obj → off + i + vs.length ≤ blk.cells.length → (∀ v ∈ vs, v.oneCell' = true) →
    ∃ w', (storeCells ⟨b, off, none⟩ vs i).run P w = .ok () w' ∧ Wrote b (Blk.obj ⟨splice blk.cells (off + i) vs, blk.ty, false⟩) w w'
  | [], i, off, blk, w, hb, _, _ => ⟨w, by simp [storeCells], rfl, rfl, rfl, rfl, hb, fun _ _ => rfl⟩
  | v :: vs, i, off, blk, w, hb, hl, hv => by
    have hc : w.cell? ((⟨b, off, none⟩ : Addr).add i) = some (blk.cells[off + i]'(by simp at hl; omega)) := by
      rw [addr_add, cell_of_row w b (off + i) _ _ _ hb]
      simp
    have hfz : w.frozen? ((⟨b, off, none⟩ : Addr).add i) = false := by
      rw [addr_add]; exact frozen_of_row w b _ _ _ hb
    have hs : (w.setCell ((⟨b, off, none⟩ : Addr).add i) v).heap[b]? = some (Blk.obj ⟨blk.cells.set (off + i) v, blk.ty, false⟩) := by
      rw [addr_add, heap_setCell_same w b (off + i) _ _ v hb]
      simp [Blk.obj]
    obtain ⟨w', hr, hw⟩ := run_storeCells vs (i + 1) off ⟨blk.cells.set (off + i) v, blk.ty, false⟩ _ hs (by simp at hl ⊢; omega) (fun u hu => hv u (List.mem_cons_of_mem _ hu))
    refine ⟨w', ?_, ?_⟩
    · simp only [storeCells, Sem.run_bind, run_store P w _ v .plain (hv v (List.mem_cons_self ..)), hc, hfz, Bool.false_eq_true, if_false, Result.andThen_ok]
      exact hr
    · refine ⟨hw.os, hw.tape, hw.output, by rw [hw.size]; simp [World.setCell], ?_, fun k hk => ?_⟩
      · rw [hw.at_]; simp [splice, setL_eq, Nat.add_assoc]
      · rw [hw.else_ k hk]; exact heap_setCell_other w _ k v (by rw [addr_add]; exact hk)

theorem nodup_key {L : Mem} (h : (L.map (·.1)).Nodup) {i j : Nat} {x y : Nat × Blk} (hi : nth L i = some x) (hj : nth L j = some y) (hne : i ≠ j) : x.1 ≠ y.1 := by
  rw [nth_eq] at hi hj
  have h1 : (L.map (·.1))[i]? = some x.1 := by simp [hi]
  have h2 : (L.map (·.1))[j]? = some y.1 := by simp [hj]
  intro he
  have hlt := (List.getElem?_eq_some_iff.1 h1).1
  exact hne ((List.getElem?_inj hlt h).1 (by rw [h1, h2, he]))

theorem St.wrote (hst : St C T L a w) {k key : Nat} {blk blk' : Blk} (hk : nth L k = some (key, blk)) (hro : blk.ro = false) (hw : Wrote key blk'.obj w w') : St C T (setM L k blk') a w' := by
  have hmem : (key, blk) ∈ L := by rw [nth_eq] at hk; exact List.mem_of_getElem? hk
  have hFr : Fr [key] w w' := ⟨hw.os, hw.tape, hw.output, Nat.le_of_eq hw.size.symm, fun b _ hb => hw.else_ b (by simpa using hb)⟩
  have hcase : ∀ kb ∈ setM L k blk', kb = (key, blk') ∨ kb ∈ L := by
    intro kb hkb
    rw [setM_eq, hk] at hkb
    simp only at hkb
    rcases List.mem_or_eq_of_mem_set hkb with h | h
    · exact .inr h
    · exact .inl h
  refine ⟨hst.size, hst.defs, hst.slots, ?_, ?_, ?_, ?_, ?_, hst.stab, ?_, ?_⟩
  · intro kb hkb
    rw [setM_eq, hk] at hkb
    simp only at hkb
    obtain ⟨i, hi⟩ := List.getElem?_of_mem hkb
    rw [List.getElem?_set] at hi
    split at hi
    · split at hi
      · simp only [Option.some.injEq] at hi; subst hi; exact hw.at_
      · cases hi
    · rename_i hne
      have hin : nth L i = some kb := by rw [nth_eq]; exact hi
      rw [hw.else_ kb.1 (nodup_key hst.nodup hin hk (fun h => hne h.symm))]
      exact hst.known kb (List.mem_of_getElem? hi)
  · rw [setM_keys]; exact hst.nodup
  · intro kb hkb h
    rcases hcase kb hkb with rfl | h'
    · exact hst.keys (key, blk) hmem hro
    · exact hst.keys kb h' h
  · refine hst.frame.trans hFr ?_
    intro b hb
    simp at hb
    subst hb
    exact hst.keys _ hmem hro
  · refine hst.stab w w' (fun b hb => hw.else_ b (fun h => ?_)) hst.inv
    subst h
    exact hst.disj _ hmem hro hb
  · intro b hb; rw [hw.size]; exact hst.low b hb
  · intro kb hkb h
    rcases hcase kb hkb with rfl | h'
    · exact hst.disj (key, blk) hmem hro
    · exact hst.disj kb h' h

def evStore (tab : Tab) (L : Mem) (T : Slots) (op : Op) (h : H) : Option (Mem × Prop) :=
  match op with
  | .store t xa xv => match evO T xa, evO T xv, look tab t with
    | some (.pointer (some ⟨b, o, none⟩)), some v, some ti => match nth L h.k with
      | some (key, blk) => match Nat.beq (vcells v).length ti.size && (allOne (vcells v) && !blk.ro) with
        | true => match h.m with
          | 0 => some (setM L h.k ⟨splice blk.cells o (vcells v), blk.ty, false⟩, b = key ∧ Nat.ble (o + ti.size) blk.cells.length = true)
          | _ => some (setM L h.k ⟨h.vs, blk.ty, false⟩, b = key ∧ Nat.ble (o + ti.size) blk.cells.length = true ∧ splice blk.cells o (vcells v) = h.vs)
        | false => none
      | none => none
    | _, _, _ => none
  | _ => none

theorem evStore_run (ht : TabOk P tab) {o : Oper} {h : H} {φ : Prop} (hst : St C T L a w) (he : evStore tab L T o.op h = some (L', φ)) (hφ : φ) :
    ∃ w', (execOp a.eval o).run P w = .ok .skip w' ∧ St C T L' a w' := by
  obtain ⟨dst, op, type, pos, after, guard⟩ := o
  simp only at he
  unfold evStore at he
  split at he
  · rename_i t xa xv
    split at he
    · rename_i b off v ti ha hv hti
      split at he
      · rename_i key blk hk
        have hb := hst.known _ (by rw [nth_eq] at hk; exact List.mem_of_getElem? hk)
        split at he
        · rename_i hc
          simp only [Bool.and_eq_true] at hc
          have hlen := Nat.eq_of_beq_eq_true hc.1
          have hone := allOne_spec hc.2.1
          have hro : blk.ro = false := by simpa using hc.2.2
          have key' : ∀ (hbk : b = key) (hle : Nat.ble (off + ti.size) blk.cells.length = true), ∃ w', (execOp a.eval ⟨dst, .store t xa xv, type, pos, after, guard⟩).run P w = .ok .skip w' ∧ Wrote key (Blk.obj ⟨splice blk.cells off (vcells v), blk.ty, false⟩) w w' := by
            intro hbk hle
            subst hbk
            have hle' := Nat.le_of_ble_eq_true hle
            obtain ⟨w1, h1, h2⟩ := run_storeCells (P := P) (vcells v) 0 off blk w hb (by omega) hone
            refine ⟨w1, ?_, h2⟩
            have hsz : v.cells.size = ti.size := by rw [vcells_eq]; simpa using hlen
            have hcl : v.cells.toList = vcells v := by rw [vcells_eq]
            simp only [execOp, evO_eval hst.slots ha, evO_eval hst.slots hv, Instr.storeAt, Instr.sureAddr, storeVar, Sem.run_bind, Sem.run_pure, Result.andThen_ok, run_size ht hti, hsz, hcl]
            simp [h1]
          split at he
          · simp only [Option.some.injEq, Prod.mk.injEq] at he
            obtain ⟨rfl, rfl⟩ := he
            obtain ⟨w1, h1, h2⟩ := key' hφ.1 hφ.2
            exact ⟨w1, h1, hst.wrote hk hro h2⟩
          · simp only [Option.some.injEq, Prod.mk.injEq] at he
            obtain ⟨rfl, rfl⟩ := he
            obtain ⟨w1, h1, h2⟩ := key' hφ.1 hφ.2.1
            exact ⟨w1, h1, hst.wrote hk hro (by rw [hφ.2.2] at h2; exact h2)⟩
        · cases he
      · cases he
    · cases he
  · cases he

theorem op_store (ht : TabOk P tab) {i : Nat} {o : Oper} (h : H) {φ : Prop} (hst : St C T L a w) (hi : nth ops i = some o) (hw : wantE ops T o.guard = some true) (hd : o.dst = none)
    (he : evStore tab L T o.op h = some (L', φ)) (hφ : φ) (hn : ∀ w', St C T L' a w' → Kc a w') : wpOp P ops.toArray Q i Kc a w := by
  unfold wpOp
  rw [nth_eq] at hi
  simp only [List.getElem?_toArray, hi, wantE_spec hst.slots hw, if_true]
  obtain ⟨w', h1, h2⟩ := evStore_run ht hst he hφ
  left
  simp only [Oper.wp, h1, Oper.upon, hd, Act.put]
  exact hn w' h2

/-! New blocks -/

def newV (b : Nat) : Option Nat → Value
  | none => .pointer (some ⟨b, 0, none⟩)
  | some n => .slice (some ⟨b, 0, none⟩) n n

def rep (z : List Value) : Nat → List Value
  | 0 => []
  | n + 1 => z ++ rep z n

def evNew (tab : Tab) (T : Slots) (op : Op) : Option (List Value × TypeId × Option Nat) :=
  match op with
  | .alloc t => match look tab t with
    | some ti => some (vcells ti.zero, t, none)
    | none => none
  | .box t x => match evO T x with
    | some v => some (vcells v, t, none)
    | none => none
  | .buildSlice t len parts => match look tab t, evParts T evO parts.toList with
    | some { desc := .slice e, .. }, some ps => match look tab e with
      | some te => match Nat.beq (vcells te.zero).length te.size && Nat.ble (len * te.size) 16777216 && Nat.ble 1 te.size && Nat.ble 1 len with
        | true => match fillE (fun i => some (i * te.size, te.size)) (rep (vcells te.zero) len) ps with
          | some cs => some (cs, e, some len)
          | none => none
        | false => none
      | none => none
    | _, _ => none
  | _ => none

theorem rep_length (z : List Value) : ∀ n, (rep z n).length = n * z.length
  | 0 => by simp [rep]
  | n + 1 => by simp [rep, rep_length z n, Nat.succ_mul]; omega

theorem rep_getElem (z : List Value) (hz : 0 < z.length) : ∀ (n i : Nat), i < n * z.length → (rep z n)[i]? = z[i % z.length]?
  | 0, i, h => by simp at h
  | n + 1, i, h => by
    rw [rep]
    by_cases hi : i < z.length
    · rw [List.getElem?_append_left hi, Nat.mod_eq_of_lt hi]
    · rw [List.getElem?_append_right (by omega), rep_getElem z hz n (i - z.length) (by rw [Nat.succ_mul] at h; omega)]
      rw [Nat.mod_eq_sub_mod (a := i) (by omega)]

theorem zeros_eq (z : List Value) (n : Nat) (hz : 0 < z.length) : (Array.range (n * z.length)).map (fun i => z.toArray[i % z.toArray.size]!) = (rep z n).toArray := by
  apply Array.ext'
  apply List.ext_getElem?
  intro i
  rcases Nat.lt_or_ge i (n * z.length) with hi | hi
  · have hm : i % z.length < z.length := Nat.mod_lt _ hz
    simp [hi, rep_getElem z hz n i hi, hm]
  · have h1 : (rep z n)[i]? = none := List.getElem?_eq_none (by rw [rep_length]; exact hi)
    simp [h1]; omega

theorem evNew_run (ht : TabOk P tab) {o : Oper} {cells : List Value} {ty : TypeId} {ln : Option Nat} (hs : SlotsOk T a) (he : evNew tab T o.op = some (cells, ty, ln)) :
    (execOp a.eval o).run P w = .ok (.value (newV w.heap.size ln)) (w.alloc (Blk.obj ⟨cells, ty, false⟩)) := by
  obtain ⟨dst, op, type, pos, after, guard⟩ := o
  simp only at he
  unfold evNew at he
  split at he
  · split at he
    · rename_i ti hti
      simp only [Option.some.injEq, Prod.mk.injEq] at he
      obtain ⟨rfl, rfl, rfl⟩ := he
      simp only [execOp, Instr.alloc, Sem.run_bind, run_zero ht hti, Result.andThen_ok, newVar, newRow, run_newObj, Sem.run_pure, newV, vcells_eq, Blk.obj]
      rfl
    · cases he
  · split at he
    · rename_i v hv
      simp only [Option.some.injEq, Prod.mk.injEq] at he
      obtain ⟨rfl, rfl, rfl⟩ := he
      simp only [execOp, Instr.box, evO_eval hs hv, Sem.run_bind, Result.andThen_ok, newVar, newRow, run_newObj, Sem.run_pure, newV, vcells_eq, Blk.obj]
      rfl
    · cases he
  · rename_i t len parts
    split at he
    · rename_i e ps hl hps
      split at he
      · rename_i te hte
        split at he
        · rename_i hc
          simp only [Bool.and_eq_true] at hc
          obtain ⟨⟨⟨hc1, hc2⟩, hc3⟩, hc4⟩ := hc
          have e1 := Nat.eq_of_beq_eq_true hc1
          have e2 := Nat.le_of_ble_eq_true hc2
          have e3 := Nat.le_of_ble_eq_true hc3
          have e4 := Nat.le_of_ble_eq_true hc4
          split at he
          · rename_i cs hf
            simp only [Option.some.injEq, Prod.mk.injEq] at he
            obtain ⟨rfl, rfl, rfl⟩ := he
            have hparts : (parts.map fun x => match x with | (i, x) => (i, a.eval x)) = ps.toArray :=
              Array.ext' (by rw [Array.toList_map]; exact evParts_spec hs _ _ hps)
            have hfill := fillE_spec (place' := fun i => some (i * te.size, te.size)) (fun i r hr => hr) ps _ _ hf
            have hne : len * te.size ≠ 0 := Nat.mul_ne_zero (by omega) (by omega)
            have hz : (Array.range (len * te.size)).map (fun i => (vcells te.zero).toArray[i % (vcells te.zero).toArray.size]!) = (rep (vcells te.zero) len).toArray := by
              rw [← e1]; exact zeros_eq _ _ (by omega)
            simp only [execOp, hparts, Instr.buildSlice, Sem.run_bind, run_und ht hl (by intro fs; simp), Result.andThen_ok, run_size ht hte]
            rw [if_neg (by simpa using e2), if_neg hne]
            simp only [Sem.run_bind, run_zero ht hte, Result.andThen_ok, Sem.run_pure, vcells_eq, hz, hfill, newRow, run_newObj, newV, Blk.obj]
            rfl
          · cases he
        · cases he
      · cases he
    · cases he
  · cases he

theorem fr_alloc (K : List Nat) (w : World) (o : Obj) : Fr K w (w.alloc o) :=
  ⟨rfl, rfl, rfl, by simp, fun b hb _ => heap_alloc_old w o b hb⟩

theorem St.fresh (hst : St C T L a w) (hfr : Fr [] w w') {b : Nat} {blk : Blk} (hb : w.heap.size ≤ b) (hk : w'.heap[b]? = some blk.obj) : St C T (L ++ [(b, blk)]) a w' := by
  have hlt : ∀ kb ∈ L, kb.1 < w.heap.size := fun kb h => lt_of_heap (hst.known kb h)
  refine ⟨hst.size, hst.defs, hst.slots, ?_, ?_, ?_, hst.frame.trans hfr (fun b hb => by cases hb), ?_, hst.stab, ?_, ?_⟩
  · intro kb h
    rcases List.mem_append.1 h with h | h
    · rw [hfr.block kb.1 (hlt kb h) (by simp)]; exact hst.known kb h
    · simp at h; subst h; exact hk
  · rw [List.map_append, List.nodup_append]
    refine ⟨hst.nodup, by simp, fun x hx y hy => ?_⟩
    simp at hy
    subst hy
    obtain ⟨kb, h1, rfl⟩ := List.mem_map.1 hx
    have := hlt kb h1
    omega
  · intro kb h hr
    rcases List.mem_append.1 h with h | h
    · exact hst.keys kb h hr
    · simp at h; subst h; right; have := hst.frame.size; show C.w0.heap.size ≤ b; omega
  · exact hst.stab w w' (fun b hb => hfr.block b (hst.low b hb) (by simp)) hst.inv
  · intro b hb; exact Nat.lt_of_lt_of_le (hst.low b hb) hfr.size
  · intro kb h hr
    rcases List.mem_append.1 h with h | h
    · exact hst.disj kb h hr
    · simp at h; subst h; intro hF; have := hst.low _ hF; simp only at this; omega

theorem op_new (ht : TabOk P tab) {i : Nat} {o : Oper} {cells : List Value} {ty : TypeId} {ln : Option Nat} {d : Nat} {L1 : Nat → Mem} (hst : St C T L a w) (hi : nth ops i = some o) (hw : wantE ops T o.guard = some true)
    (hd : o.dst = some d) (hdn : Nat.blt d C.n = true) (he : evNew tab T o.op = some (cells, ty, ln)) (hL : ∀ b, L ++ [(b, ⟨cells, ty, false⟩)] = L1 b)
    (hn : ∀ b w' a', St C ((d, newV b ln) :: T) (L1 b) a' w' → Fr [] w w' → w.heap.size ≤ b → Kc a' w') : wpOp P ops.toArray Q i Kc a w := by
  unfold wpOp
  rw [nth_eq] at hi
  simp only [List.getElem?_toArray, hi, wantE_spec hst.slots hw, if_true]
  left
  simp only [Oper.wp, evNew_run ht hst.slots he, Oper.upon]
  refine hn w.heap.size _ _ ?_ (fr_alloc [] w _) (Nat.le_refl _)
  rw [← hL, hd]
  exact (hst.fresh (fr_alloc [] w _) (Nat.le_refl _) (heap_alloc_new w _)).put (by simp [putS, hdn])

/-! Calls -/

def CallOk (P : Program) (f : FuncId) : Prop := ∀ args w, (callFunc f args).run P w = .ok (.enter f args) w

theorem callOk {f : FuncId} {fn : Func} (hf : P.funcs[f]? = some fn) (hn : (fn.name == "runtime.NumGoroutine") = false) (hb : fn.body.isNone = false) : CallOk P f := by
  intro args w
  have hn' : fn.name ≠ "runtime.NumGoroutine" := by simpa using hn
  have hb' : fn.body ≠ none := fun h => by rw [h] at hb; cases hb
  simp [callFunc, hf, hn', hb']

theorem call_run {f : FuncId} (hc : CallOk P f) {o : Oper} {xs : Array Operand} {tys : Array TypeId} {args : List Value} (hs : SlotsOk T a) (hop : o.op = .call ⟨.value (.func f), xs, tys⟩)
    (ha : evOs T xs.toList = some args) : (execOp a.eval o).run P w = .ok (.enter f args.toArray) w := by
  have e1 : xs.map a.eval = args.toArray := Array.ext' (by rw [Array.toList_map, evOs_spec hs _ _ ha])
  simp only [execOp, hop, resolve, Act.eval, Deferred.ofValue, Sem.run_bind, Sem.run_pure, Result.andThen_ok, invoke]
  simpa [e1] using hc args.toArray w

theorem op_call {i f : Nat} {o : Oper} {xs : Array Operand} {tys : Array TypeId} {args : List Value} {R : Ending → World → Prop} (hst : St C T L a w) (hi : nth ops i = some o) (hw : wantE ops T o.guard = some true)
    (hop : o.op = .call ⟨.value (.func f), xs, tys⟩) (hc : CallOk P f) (ha : evOs T xs.toList = some args) (hC : Calls P f args.toArray w R)
    (hn : ∀ e w', R e w' → ∃ v, e = .returned v ∧ Kc (a.put o.dst v) w') : wpOp P ops.toArray Q i Kc a w := by
  unfold wpOp
  rw [nth_eq] at hi
  simp only [List.getElem?_toArray, hi, wantE_spec hst.slots hw, if_true]
  left
  simp only [Oper.wp, call_run hc hst.slots hop ha, Oper.upon]
  refine hC.mono fun e w' hR => ?_
  obtain ⟨v, rfl, hv⟩ := hn e w' hR
  exact hv

/-- Behind a call, everything said anew. -/
theorem St.call (hst : St C T L a w) {M : List Nat} (hfr : Fr M w w') (hM : ∀ b ∈ M, b ∈ C.K ∨ C.w0.heap.size ≤ b) {A' : World → Prop} {F' : List Nat}
    (hk : ∀ kb ∈ L', w'.heap[kb.1]? = some kb.2.obj) (hnd : (L'.map (·.1)).Nodup) (hkeys : ∀ kb ∈ L', kb.2.ro = false → kb.1 ∈ C.K ∨ C.w0.heap.size ≤ kb.1)
    (hA : A' w') (hs : Stable A' F') (hlow : ∀ b ∈ F', b < w'.heap.size) (hdisj : ∀ kb ∈ L', kb.2.ro = false → kb.1 ∉ F') : St ⟨C.n, C.K, C.w0, A', F'⟩ T L' a w' :=
  ⟨hst.size, hst.defs, hst.slots, hk, hnd, hkeys, hst.frame.trans hfr hM, hA, hs, hlow, hdisj⟩

/-- Behind a call that only makes memory. -/
theorem St.grow (hst : St C T L a w) (hfr : Fr [] w w') : St C T L a w' :=
  ⟨hst.size, hst.defs, hst.slots, fun kb h => by rw [hfr.block kb.1 (lt_of_heap (hst.known kb h)) (by simp)]; exact hst.known kb h, hst.nodup, hst.keys,
   hst.frame.trans hfr (fun b hb => by cases hb), hst.stab w w' (fun b hb => hfr.block b (hst.low b hb) (by simp)) hst.inv, hst.stab,
   fun b hb => Nat.lt_of_lt_of_le (hst.low b hb) hfr.size, hst.disj⟩

/-- Behind a call that turns blocks of F alone. -/
theorem St.callF (hst : St C T L a w) {M : List Nat} (hfr : Fr M w w') (hM : ∀ b ∈ M, b ∈ C.F) (hMK : ∀ b ∈ M, b ∈ C.K ∨ C.w0.heap.size ≤ b) {A' : World → Prop} {F' : List Nat}
    (hL : ∀ kb ∈ L, kb.2.ro = true → kb.1 ∉ M) (hA : A' w') (hs : Stable A' F') (hlow : ∀ b ∈ F', b < w'.heap.size) (hF : ∀ b ∈ F', b ∈ C.F ∨ w.heap.size ≤ b) :
    St ⟨C.n, C.K, C.w0, A', F'⟩ T L a w' := by
  have hlt : ∀ kb ∈ L, kb.1 < w.heap.size := fun kb h => lt_of_heap (hst.known kb h)
  refine hst.call hfr hMK (fun kb h => ?_) hst.nodup hst.keys hA hs hlow (fun kb h hr hf => ?_)
  · rw [hfr.block kb.1 (hlt kb h) (fun hm => ?_)]
    · exact hst.known kb h
    · cases hro : kb.2.ro with
      | true => exact hL kb h hro hm
      | false => exact hst.disj kb h hro (hM _ hm)
  · rcases hF _ hf with h1 | h1
    · exact hst.disj kb h hr h1
    · have := hlt kb h; omega

/-- A block that the fact A tells of, opened for reading. -/
theorem St.open_ (hst : St C T L a w) {b : Nat} {cells : List Value} {ty : TypeId} (hb : w.heap[b]? = some (Blk.obj ⟨cells, ty, true⟩)) (hF : b ∉ L.map (·.1)) :
    St C T (L ++ [(b, ⟨cells, ty, true⟩)]) a w := by
  refine ⟨hst.size, hst.defs, hst.slots, ?_, ?_, ?_, hst.frame, hst.inv, hst.stab, hst.low, ?_⟩
  · intro kb h
    rcases List.mem_append.1 h with h | h
    · exact hst.known kb h
    · simp at h; subst h; exact hb
  · rw [List.map_append, List.nodup_append]
    refine ⟨hst.nodup, by simp, fun x hx y hy => ?_⟩
    simp at hy
    subst hy
    intro he
    subst he
    exact hF hx
  · intro kb h hr
    rcases List.mem_append.1 h with h | h
    · exact hst.keys kb h hr
    · simp at h; subst h; cases hr
  · intro kb h hr
    rcases List.mem_append.1 h with h | h
    · exact hst.disj kb h hr
    · simp at h; subst h; cases hr

/-- A stretch of the walk begins anew: the world of old is the world at hand. -/
theorem St.rebase (hst : St C T L a w) {K' : List Nat} (hK : ∀ kb ∈ L, kb.2.ro = false → kb.1 ∈ K') : St ⟨C.n, K', w, C.A, C.F⟩ T L a w :=
  ⟨hst.size, hst.defs, hst.slots, hst.known, hst.nodup, fun kb h hr => .inl (hK kb h hr), Fr.refl _ _, hst.inv, hst.stab, hst.low, hst.disj⟩

/-- The fact A told otherwise. -/
theorem St.say (hst : St C T L a w) {A' : World → Prop} {F' : List Nat} (hA : A' w) (hs : Stable A' F') (hlow : ∀ b ∈ F', b < w.heap.size) (hd : ∀ kb ∈ L, kb.2.ro = false → kb.1 ∉ F') : St ⟨C.n, C.K, C.w0, A', F'⟩ T L a w :=
  ⟨hst.size, hst.defs, hst.slots, hst.known, hst.nodup, hst.keys, hst.frame, hA, hs, hlow, hd⟩

/-- A known block outside M is as it was. -/
theorem St.stays (hst : St C T L a w) {M : List Nat} (hfr : Fr M w w') {k : Nat} {kb : Nat × Blk} (hk : nth L k = some kb) (hM : kb.1 ∉ M) : w'.heap[kb.1]? = some kb.2.obj := by
  have h := hst.known kb (by rw [nth_eq] at hk; exact List.mem_of_getElem? hk)
  rw [hfr.block kb.1 (lt_of_heap h) hM]; exact h

theorem St.ne (hst : St C T L a w) (i j : Nat) {x y : Nat × Blk} (hi : nth L i = some x) (hj : nth L j = some y) (hne : Nat.beq i j = false) : x.1 ≠ y.1 :=
  nodup_key hst.nodup hi hj (Nat.ne_of_beq_eq_false hne)

/-! Forgetting and reordering -/

theorem St.memMono (hst : St C T L a w) (hs : List.Sublist L' L) : St C T L' a w :=
  ⟨hst.size, hst.defs, hst.slots, fun kb h => hst.known kb (hs.subset h), (hs.map _).nodup hst.nodup, fun kb h => hst.keys kb (hs.subset h), hst.frame, hst.inv, hst.stab, hst.low, fun kb h => hst.disj kb (hs.subset h)⟩

theorem St.conv (hst : St C T L a w) (h : ∀ t v, look T' t = some v → look T t = some v) : St C T' L a w := hst.slotsMono h

theorem keepOf (h : ∀ kb ∈ L, w.heap[kb.1]? = some kb.2.obj) (h' : ∀ kb ∈ L', w'.heap[kb.1]? = some kb.2.obj) {B : List Nat}
    (hB : ∀ b ∈ B, ∃ blk, (b, blk) ∈ L ∧ (b, blk) ∈ L') : Keep B w w' := by
  intro b hb
  obtain ⟨blk, h1, h2⟩ := hB b hb
  rw [h _ h1, h' _ h2]

theorem keepNil : Keep [] w w' := fun _ h => by cases h

theorem St.keepFr (hst : St C T L a w) (hfr : Fr [] w w') {B : List Nat} (hB : ∀ b ∈ B, b ∈ L.map (·.1)) : Keep B w w' := by
  intro b hb
  obtain ⟨kb, h1, rfl⟩ := List.mem_map.1 (hB b hb)
  exact hfr.block _ (lt_of_heap (hst.known kb h1)) (by simp)

/-! Tests -/

theorem c_true (hst : St C T L a w) {c : Operand} {x y : Code} (hc : evO T c = some (.bool true)) (h : x.wp P Q a w) : (Code.cond c x y).wp P Q a w :=
  wp_cond_true (evO_eval hst.slots hc) h

theorem c_false (hst : St C T L a w) {c : Operand} {x y : Code} (hc : evO T c = some (.bool false)) (h : y.wp P Q a w) : (Code.cond c x y).wp P Q a w :=
  wp_cond_false (evO_eval hst.slots hc) h

theorem c_split (hst : St C T L a w) {c : Operand} {x y : Code} {b : Bool} (hc : evO T c = some (.bool b)) (h1 : b = true → x.wp P Q a w) (h2 : b = false → y.wp P Q a w) : (Code.cond c x y).wp P Q a w :=
  wp_cond_split (evO_eval hst.slots hc) h1 h2

/-! The end of a body -/

def evRes (tab : Tab) (L : Mem) (T : Slots) : List (ResultVar × H) → Option (List Value × Prop)
  | [] => some ([], True)
  | (.tmp t, _) :: r => match look T t, evRes tab L T r with
    | some v, some (vs, φ) => some (v :: vs, φ)
    | _, _ => none
  | (.cell p t, h) :: r => match look T p with
    | some x => match evLoad tab L t x h, evRes tab L T r with
      | some (v, φ), some (vs, ψ) => some (v :: vs, holdsP φ ∧ ψ)
      | _, _ => none
    | none => none

theorem evRes_run (ht : TabOk P tab) (hz : TabZ tab) (hst : St C T L a w) {g : ResultVar → Sem Value} (g1 : ∀ t, g (.tmp t) = pure (a.tmps.getD t undef))
    (g2 : ∀ p t, g (.cell p t) = (do loadVar t (← asAddr (a.tmps.getD p undef)) : Sem Value)) : ∀ (rs : List (ResultVar × H)) (vs : List Value) (φ : Prop), evRes tab L T rs = some (vs, φ) → φ →
    ((rs.map (·.1)).mapM g).run P w = .ok vs w
  | [], vs, φ, he, _ => by
    simp only [evRes, Option.some.injEq, Prod.mk.injEq] at he
    obtain ⟨rfl, rfl⟩ := he
    simp
  | (.tmp t, h) :: r, vs, φ, he, hφ => by
    simp only [evRes] at he
    split at he
    · rename_i v us ψ h1 h2
      simp only [Option.some.injEq, Prod.mk.injEq] at he
      obtain ⟨rfl, rfl⟩ := he
      have := evRes_run ht hz hst g1 g2 r us ψ h2 hφ
      simp only [List.map_cons, List.mapM_cons, g1, Sem.run_bind, Sem.run_pure, Result.andThen_ok, hst.slots t v h1, this]
    · cases he
  | (.cell p t, h) :: r, vs, φ, he, hφ => by
    simp only [evRes] at he
    split at he
    · rename_i x hx
      split at he
      · rename_i v χ us ψ h1 h2
        simp only [Option.some.injEq, Prod.mk.injEq] at he
        obtain ⟨rfl, rfl⟩ := he
        have := evRes_run ht hz hst g1 g2 r us ψ h2 hφ.2
        have hl := run_load_blk (w := w) ht h1 hφ.1 (fun kb hk => hst.known kb (by rw [nth_eq] at hk; exact List.mem_of_getElem? hk)) (fun ti h1 h2 => hz t ti h1 h2)
        have hx' := hst.slots p x hx
        have hl' : (do loadVar t (← asAddr x) : Sem Value).run P w = .ok v w := by
          unfold evLoad at h1
          split at h1
          · simpa [Instr.loadAt, Instr.sureAddr, asAddr] using hl
          · cases h1
        simp only [List.map_cons, List.mapM_cons, g2]
        rw [Sem.run_bind, hx', hl']
        simp only [Result.andThen_ok, Sem.run_bind, this, Sem.run_pure]
      · cases he
    · cases he

def resV : List Value → Value
  | [v] => v
  | vs => .tuple vs.toArray

theorem results_run (ht : TabOk P tab) (hz : TabZ tab) (hst : St C T L a w) {fn : Func} (rs : List (ResultVar × H)) {vs : List Value} {φ : Prop} (hrs : fn.results = (rs.map (·.1)).toArray)
    (he : evRes tab L T rs = some (vs, φ)) (hφ : φ) : (results fn a.tmps).run P w = .ok (resV vs) w := by
  unfold results
  rw [hrs, List.mapM_toArray]
  simp only [Sem.run_bind, Sem.run_map]
  rw [evRes_run ht hz hst (fun _ => rfl) (fun _ _ => rfl) rs vs φ he hφ]
  simp only [Result.andThen_ok, Sem.run_pure]
  match vs with
  | [] => simp [resV]
  | [v] => simp [resV]
  | v :: u :: r => simp [resV]

theorem s_ret (ht : TabOk P tab) (hz : TabZ tab) (hst : St C T L a w) {fn : Func} {R : Ending → World → Prop} (rs : List (ResultVar × H)) {vs : List Value} {φ : Prop} (hrs : fn.results = (rs.map (·.1)).toArray)
    (he : evRes tab L T rs = some (vs, φ)) (hφ : φ) (hR : R (.returned (resV vs)) w) : bodyPost P fn R .ret a w :=
  ⟨hst.defs, _, results_run ht hz hst rs hrs he hφ, hR⟩

theorem s_end (ht : TabOk P tab) (hz : TabZ tab) (hst : St C T L a w) {fn : Func} {R : Ending → World → Prop} (rs : List (ResultVar × H)) {vs : List Value} {φ : Prop} (hrs : fn.results = (rs.map (·.1)).toArray)
    (he : evRes tab L T rs = some (vs, φ)) (hφ : φ) (hR : R (.returned (resV vs)) w) : bodyPost P fn R .normal a w :=
  ⟨hst.defs, _, results_run ht hz hst rs hrs he hφ, hR⟩

/-! The entry -/

def slots0 (i : Nat) : List Value → Slots
  | [] => []
  | v :: r => (i, v) :: slots0 (i + 1) r

theorem slots0_ok : ∀ (vs : List Value) (pre : List Value) (m : Nat), SlotsOk (slots0 pre.length vs) { tmps := (pre ++ vs).toArray ++ Array.replicate m undef, defers := [] }
  | [], pre, m => fun t v h => by cases h
  | v :: vs, pre, m => by
    intro t u h
    simp only [slots0, look] at h
    cases hb : Nat.beq pre.length t with
    | true =>
      rw [hb] at h
      have := Nat.eq_of_beq_eq_true hb
      simp only [Option.some.injEq] at h
      subst this h
      rw [Array.getD_eq_getD_getElem?, Array.getElem?_append_left (by simp)]
      simp
    | false =>
      rw [hb] at h
      have := slots0_ok vs (pre ++ [v]) m t u (by simpa using h)
      simpa using this

theorem enter {f : FuncId} {fn : Func} {c : Code} {args : List Value} {R : Ending → World → Prop} {n : Nat} {K : List Nat} {A : World → Prop} {F : List Nat}
    (hf : P.funcs[f]? = some fn) (hb : fn.body = some c) (hn : fn.ntmps = n) (hlen : Nat.ble args.length n = true)
    (hT : slots0 0 args = T) (hk : ∀ kb ∈ L, w.heap[kb.1]? = some kb.2.obj) (hnd : (L.map (·.1)).Nodup) (hkeys : ∀ kb ∈ L, kb.2.ro = false → kb.1 ∈ K)
    (hA : A w) (hs : Stable A F) (hlow : ∀ b ∈ F, b < w.heap.size) (hd : ∀ kb ∈ L, kb.2.ro = false → kb.1 ∉ F)
    (h : ∀ a, St ⟨n, K, w, A, F⟩ T L a w → c.wp P (bodyPost P fn R) a w) : Calls P f args.toArray w R := by
  refine calls_of_wp hf hb (h _ ?_)
  have hl := Nat.le_of_ble_eq_true hlen
  refine ⟨?_, rfl, ?_, hk, hnd, fun kb h hr => .inl (hkeys kb h hr), Fr.refl _ _, hA, hs, hlow, hd⟩
  · simp [hn]; omega
  · rw [← hT]
    simpa using slots0_ok args [] (fn.ntmps - args.toArray.size)

theorem stableTrue : Stable (fun _ => True) [] := fun _ _ _ h => h

/-- The entry where no fact beside the known blocks is carried. -/
theorem enter0 {f : FuncId} {fn : Func} {c : Code} {args : List Value} {R : Ending → World → Prop} {n : Nat} {K : List Nat}
    (hf : P.funcs[f]? = some fn) (hb : fn.body = some c) (hn : fn.ntmps = n) (hlen : Nat.ble args.length n = true)
    (hT : slots0 0 args = T) (hk : ∀ kb ∈ L, w.heap[kb.1]? = some kb.2.obj) (hnd : (L.map (·.1)).Nodup) (hkeys : ∀ kb ∈ L, kb.2.ro = false → kb.1 ∈ K)
    (h : ∀ a, St ⟨n, K, w, fun _ => True, []⟩ T L a w → c.wp P (bodyPost P fn R) a w) : Calls P f args.toArray w R :=
  enter hf hb hn hlen hT hk hnd hkeys trivial stableTrue (fun _ h => by cases h) (fun _ _ _ h => by cases h) h

end
end Go.Sx
