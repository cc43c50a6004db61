/-
  append of cells that lie anywhere; a Go map keyed by strings; '==' of what a step answers.
-/
import Derived.Test.Qxb6500918aDoorMs
import Derived.Test.Qxb6500918aDoorM3
import Derived.Test.Qxb6500918aDoorPC
import Derived.Test.Qxb6500918aDoorQe
namespace Go.Sx

section
variable {P : Program} {tab : Tab} {C : Ctx} {T T' : Slots} {L L' : Mem} {w w' : World} {a : Act} {ops : List Oper} {Q : Exit → Act → World → Prop}
  {Kc : Act → World → Prop} {e : TypeId} {sz : Nat}

theorem first_cells {b k m : Nat} {vs : List Value} (hl : vs.length = m * sz) (hc : CellsAt w b k vs) (ln cp : Nat) : (Builtin.firstCells sz m (.slice (some ⟨b, k, none⟩) ln cp)).run P w = .ok vs.toArray w := by
  simp only [Builtin.firstCells, loadCells]
  rw [← hl, run_loadx vs 0 #[] (by simpa [CellsAt] using hc)]
  simp

theorem first_any {m : Nat} {xo : Option Addr} {vs : List Value} (hl : vs.length = m * sz) (hc : m = 0 ∨ ∃ b k, xo = some ⟨b, k, none⟩ ∧ CellsAt w b k vs) (cp : Nat) : (Builtin.firstCells sz m (.slice xo m cp)).run P w = .ok vs.toArray w := by
  rcases hc with hm | ⟨b, k, rfl, hc⟩
  · subst hm
    have : vs = [] := by simpa using hl
    subst this
    cases xo <;> simp [Builtin.firstCells, loadCells, loadCellsFrom]
  · exact first_cells hl hc m cp

/-- append to an empty slice: a new row, or the empty one. -/
theorem run_append0 (ht : TabOk P tab) {t t' : TypeId} {ti ti' te : TI} {e' : TypeId} (hti : look tab t = some ti) (hd : ti.desc = .slice e) (hti' : look tab t' = some ti') (hd' : ti'.desc = .slice e') (hte : look tab e = some te)
    (hz : (vcells te.zero).length = te.size) (hby : te.bytes ≤ 1024) {m cx b0 : Nat} {xo : Option Addr} {vs : List Value} (ty : TypeId)
    (hb0 : w.heap[b0]? = some (Blk.obj ⟨[], e, false⟩)) (hl : vs.length = m * te.size) (hc : m = 0 ∨ ∃ b k, xo = some ⟨b, k, none⟩ ∧ CellsAt w b k vs) (hb : m ≤ 2147483648) :
    ∃ so' c' F' w', (Builtin.append_ #[t, t'] ty #[.slice (some ⟨b0, 0, none⟩) 0 0, .slice xo m cx]).run P w = .ok (.slice so' m c') w' ∧ Row w' so' m c' e te.size vs F' ∧ Fr [] w w' ∧ (∀ b ∈ F', b = b0 ∨ w.heap.size ≤ b) := by
  obtain ⟨hu, i, hi, hsz, hbt, hzo⟩ := ht _ _ hte
  have hnew : (Builtin.firstCells te.size m (.slice xo m cx)).run P w = .ok vs.toArray w := first_any hl hc cx
  by_cases hm : m = 0
  · subst hm
    have hv : vs = [] := by simpa using hl
    subst hv
    refine ⟨some ⟨b0, 0, none⟩, 0, [b0], w, ?_, ⟨by simp, .inr ⟨b0, [], rfl, hb0, by simp, Nat.le_refl _, by simp, rfl⟩⟩, Fr.refl _ _, fun x hx => .inl (by simpa using hx)⟩
    simp only [Builtin.append_, List.getElem?_toArray, List.getElem?_cons_zero, List.getElem?_cons_succ]
    simp [run_und ht hti (by rw [hd]; intro fs; simp), hd, run_size ht hte, run_und ht hti' (by rw [hd']; intro fs; simp), hd', Builtin.lenOf, hnew, storeCells]
  · have hold : ∀ w, (Builtin.firstCells te.size 0 (.slice (some ⟨b0, 0, none⟩) 0 0)).run P w = .ok #[] w := fun w => by
      simp [Builtin.firstCells, loadCells, loadCellsFrom]
    have hnew' : (Builtin.firstCells te.size m (.slice xo m cx)).run P w.drew = .ok vs.toArray w.drew := first_any (w := w.drew) hl hc cx
    have hcap := nextcap_le m 0 (by omega)
    have hbound : Builtin.nextslicecap m 0 * i.bytes ≤ 2 ^ 48 := by
      have h3 : Builtin.nextslicecap m 0 * i.bytes ≤ (2 * m + 200) * 1024 := Nat.mul_le_mul hcap (by rw [hbt]; exact hby)
      omega
    have hq : (Question.appendCap m 0 e).forced = false := rfl
    let cap' := (Question.appendCap m 0 e).cut (w.tape w.drawn (Question.appendCap m 0 e))
    have hge : m ≤ cap' := by simp [cap', Question.cut]
    let cells := vs ++ (Builtin.zeroCells te.zero.cells (cap' - m)).toList
    have hzl : (Builtin.zeroCells te.zero.cells (cap' - m)).size = (cap' - m) * te.size := by
      simp [Builtin.zeroCells, vcells_eq, hz]
    have hcells : cells.length = cap' * te.size := by
      show (vs ++ (Builtin.zeroCells te.zero.cells (cap' - m)).toList).length = _
      rw [List.length_append, hl, Array.length_toList, hzl, ← Nat.add_mul, Nat.add_sub_cancel' hge]
    refine ⟨some ⟨w.heap.size, 0, none⟩, cap', [w.heap.size], (w.drew.alloc (Blk.obj ⟨cells, e, true⟩)), ?_, ⟨hl, .inr ⟨w.heap.size, cells, rfl, ?_, hcells, hge, ?_, rfl⟩⟩, ?_, fun b hb => .inr (by simp at hb; omega)⟩
    · simp only [Builtin.append_, List.getElem?_toArray, List.getElem?_cons_zero, List.getElem?_cons_succ]
      have hni : ¬ ((0 + m : Nat) : Int) > IntKind.max .i64 := by simp [IntKind.max, IntKind.signed, IntKind.bits]; omega
      have hby0 : (typeInfo e).run P w = .ok i w := by simp [typeInfo, hi]
      have hby1 : (typeInfo e).run P w.drew = .ok i w.drew := by simp [typeInfo, hi]
      simp only [Sem.run_bind, run_und ht hti (by rw [hd]; intro fs; simp), hd, Result.andThen_ok, run_size ht hte, run_und ht hti' (by rw [hd']; intro fs; simp), hd', Sem.run_pure, Builtin.lenOf]
      simp only [Bool.false_eq_true, if_false, Sem.run_bind, Sem.run_pure, Result.andThen_ok]
      rw [if_neg (by omega)]
      simp only [Sem.run_bind, Result.andThen_ok, hby0, false_or]
      rw [if_neg (by rintro ⟨h, _⟩; exact hni h)]
      simp only [Sem.run_bind, Result.andThen_ok, hby0, Nat.zero_add]
      rw [if_neg (by omega)]
      simp only [Sem.run_pure, Result.andThen_ok, run_choose, hq, Bool.false_eq_true, if_false, World.drew_eq, hby1, run_askRoom, hold, Bool.not_false, if_true, hnew', Sem.run_bind, run_zero ht hte, newRow, run_newObj]
      congr 1
      simp only [World.alloc, Blk.obj, cells, cap']
      have hcc : ∀ z : Array Value, #[] ++ vs.toArray ++ z = (vs ++ z.toList).toArray := fun z => by
        apply Array.ext'; simp
      rw [hcc]
    · exact heap_alloc_new _ _
    · show (vs ++ _).take _ = _
      rw [← hl, List.take_left']
      rfl
    · exact ⟨rfl, rfl, rfl, by simp, fun b hb _ => heap_alloc_old w.drew _ b hb⟩

theorem op_append0 (ht : TabOk P tab) {i : Nat} {op : Oper} {s x : Operand} {t t' : TypeId} {ti ti' te : TI} {e' : TypeId} {m cx b0 : Nat} {xo : Option Addr} {vs : List Value}
    (hst : St C T L a w) (hi : nth ops i = some op) (hw : wantE ops T op.guard = some true) (hop : op.op = .call ⟨.builtin .append, #[s, x], #[t, t']⟩)
    (hs : evO T s = some (.slice (some ⟨b0, 0, none⟩) 0 0)) (hx : evO T x = some (.slice xo m cx)) (hti : look tab t = some ti) (hd : ti.desc = .slice e) (hti' : look tab t' = some ti') (hd' : ti'.desc = .slice e') (hte : look tab e = some te)
    (hz : (vcells te.zero).length = te.size) (hby : Nat.ble te.bytes 1024 = true) (hb0 : w.heap[b0]? = some (Blk.obj ⟨[], e, false⟩)) (hl : vs.length = m * te.size) (hc : m = 0 ∨ ∃ b k, xo = some ⟨b, k, none⟩ ∧ CellsAt w b k vs) (hb : m ≤ 2147483648)
    (hn : ∀ so' c' F' w', Row w' so' m c' e te.size vs F' → Fr [] w w' → (∀ b ∈ F', b = b0 ∨ w.heap.size ≤ b) → Kc (a.put op.dst (.slice so' m c')) w') : wpOp P ops.toArray Q i Kc a w := by
  unfold wpOp
  rw [nth_eq] at hi
  simp only [List.getElem?_toArray, hi, wantE_spec hst.slots hw, if_true]
  left
  obtain ⟨so', c', F', w', h1, h2, h3, h4⟩ := run_append0 (w := w) (cx := cx) ht hti hd hti' hd' hte hz (Nat.le_of_ble_eq_true hby) op.type hb0 hl hc hb
  have hrun : (execOp a.eval op).run P w = .ok (.value (.slice so' m c')) w' := by
    simp only [execOp, hop, resolve, Sem.run_bind, Sem.run_pure, Result.andThen_ok, invoke, builtin]
    have e1 : (#[s, x].map a.eval) = #[.slice (some ⟨b0, 0, none⟩) 0 0, .slice xo m cx] := by simp [evO_eval hst.slots hs, evO_eval hst.slots hx]
    rw [e1, h1]
    simp
  simp only [Oper.wp, hrun, Oper.upon]
  exact hn so' c' F' w' h2 h3 h4

end
end Go.Sx

namespace Go.Kn
open Go.Sx

structure Sn where
  k : ByteArray
  v : Value
  b : Nat

def snE (e : Sn) : MapEntry := ⟨.string e.k, e.v, e.b⟩
def mapS (es : List Sn) (c : Nat) : Obj := .map (es.map snE).toArray c

def sfnd (k : ByteArray) : List Sn → Nat → Option (Nat × Value)
  | [], _ => none
  | e :: es, i => if k = e.k then some (i, e.v) else sfnd k es (i + 1)

end Go.Kn

namespace Go.Proofs.Qxb6500918aDoor
open Go.Sx Go.Kn
set_option maxRecDepth 100000

variable {w : World}

theorem ba_beq (a b : ByteArray) : (a == b) = decide (a = b) := by
  have := Go.MapKept.bytes_beq a b
  by_cases h : a = b
  · rw [decide_eq_true h]; exact this.2 h
  · rw [decide_eq_false h]
    cases hq : (a == b) with
    | false => rfl
    | true => exact absurd (this.1 hq) h

theorem snow (k : ByteArray) : ∀ (es : List Sn) (i : Nat), Instr.findNow .string (.string k) (es.map snE) i = some (sfnd k es i)
  | [], _ => rfl
  | e :: es, i => by
    rw [List.map_cons, Instr.findNow, sfnd]
    have : Instr.sameNow .string (.string k) (snE e).key = some (decide (k = e.k)) := by
      show some (k == e.k) = _
      rw [ba_beq]
    rw [this]
    by_cases h : k = e.k
    · rw [if_pos h, decide_eq_true h]; rfl
    · rw [if_neg h, decide_eq_false h]; exact snow k es (i + 1)

theorem run_findS (k : ByteArray) (es : List Sn) : (Instr.findKey 9 (.string k) (es.map snE)).run Tryd.prog w = .ok (sfnd k es 0) w := by
  have hu : (underlying 9).run Tryd.prog w = .ok _ w := run_underlying (w := w) Tryd.underlying9
  simp only [Instr.findKey, Sem.run_bind, hu, Result.andThen_ok, snow, Sem.run_pure]

theorem run_checkS (b : Bool) (n : Nat) (k : ByteArray) : (Instr.checkKey b (n + 1) 9 (.string k)).run Tryd.prog w = .ok () w := by
  have hu : (underlying 9).run Tryd.prog w = .ok _ w := run_underlying (w := w) Tryd.underlying9
  rw [Instr.checkKey]
  simp only [Sem.run_bind, hu, Result.andThen_ok, Sem.run_pure]

theorem run_lookupS {t e : TypeId} (ht : Tryd.prog.underlying t = some (.map 9 e)) {z : Value} (hz : (zeroValue e).run Tryd.prog w = .ok z w) {r c : Nat} {es : List Sn} (hb : w.heap[r]? = some (mapS es c)) (k : ByteArray) :
    (Instr.lookup t (.map (some r)) (.string k) false).run Tryd.prog w = .ok (match sfnd k es 0 with | some (_, v) => v | none => z) w := by
  have hu : (underlying t).run Tryd.prog w = .ok _ w := run_underlying (w := w) ht
  have hg : (getObj r).run Tryd.prog w = .ok (mapS es c) w := run_get hb
  have hc := fun b => run_checkS (w := w) b 9999 k
  have hf := run_findS (w := w) k es
  simp only [Instr.lookup, Sem.run_bind, hu, Result.andThen_ok, hg, mapS, Sem.run_pure, hc, hf]
  cases sfnd k es 0 with
  | none => simp only [Sem.run_bind, hz, Result.andThen_ok, Sem.run_pure]; rfl
  | some p => rfl

theorem run_updateS {t e : TypeId} (ht : Tryd.prog.underlying t = some (.map 9 e)) {r c : Nat} {es : List Sn} (hb : w.heap[r]? = some (mapS es c)) {k : ByteArray} (hn : sfnd k es 0 = none) (v : Value) :
    (Instr.mapUpdate t (.map (some r)) (.string k) v).run Tryd.prog w = .ok () (putH w r (mapS (es ++ [⟨k, v, c⟩]) (c + 1))) := by
  have hu : (underlying t).run Tryd.prog w = .ok _ w := run_underlying (w := w) ht
  have hg : (getObj r).run Tryd.prog w = .ok (mapS es c) w := run_get hb
  have hc := run_checkS (w := w) false 9999 k
  have hf := run_findS (w := w) k es
  rw [hn] at hf
  have hs : (setObj r (.map ((es.map snE).toArray.push ⟨.string k, v, c⟩) (c + 1))).run Tryd.prog w = .ok () (putH w r (.map ((es.map snE).toArray.push ⟨.string k, v, c⟩) (c + 1))) := run_set _ hb
  simp only [Instr.mapUpdate, Sem.run_bind, hu, Result.andThen_ok, hg, mapS, hc, hf, hs]
  simp [snE]

theorem sfnd_none {k : ByteArray} : ∀ {es : List Sn} {i : Nat}, (∀ e ∈ es, e.k ≠ k) → sfnd k es i = none
  | [], _, _ => rfl
  | e :: es, i, h => by
    rw [sfnd, if_neg (fun hq => h e (by simp) hq.symm)]
    exact sfnd_none (fun x hx => h x (List.mem_cons_of_mem _ hx))

theorem sfnd_mid {k : ByteArray} : ∀ {pre : List Sn} {e : Sn} {post : List Sn} {i : Nat}, (∀ x ∈ pre, x.k ≠ k) → e.k = k → sfnd k (pre ++ e :: post) i = some (i + pre.length, e.v)
  | [], e, post, i, _, he => by simp [sfnd, he]
  | x :: pre, e, post, i, h, he => by
    rw [List.cons_append, sfnd, if_neg (fun hq => h x (by simp) hq.symm), sfnd_mid (fun y hy => h y (List.mem_cons_of_mem _ hy)) he]
    simp; omega

theorem runOutS (o : Outp) : EqRun Tryd.prog 42 (.agg #[.int .u8 o.code, .int .u16 o.run.idx, .int .u32 o.run.gen, .int .u64 o.badge, .int .u64 o.m0, .int .u64 o.m1, .int .u64 o.m2, .int .u64 o.m3, .int .u8 o.len, .int .u8 o.got]) (.agg #[.int .u8 o.code, .int .u16 o.run.idx, .int .u32 o.run.gen, .int .u64 o.badge, .int .u64 o.m0, .int .u64 o.m1, .int .u64 o.m2, .int .u64 o.m3, .int .u8 o.len, .int .u8 o.got]) true := by
  have h : ((o.code == o.code) && (decide (o.run = o.run) && ((o.badge == o.badge) && (((o.m0 == o.m0) && ((o.m1 == o.m1) && ((o.m2 == o.m2) && ((o.m3 == o.m3) && true)))) && ((o.len == o.len) && ((o.got == o.got) && true)))))) = true := by simp
  rw [← h]
  exact eqRun_of Tryd.eqGuardType42 (eqI_struct Tryd.underlying42 Tryd.stoodInHeld42
    (eqF_cons (by decide) (partC Tryd.isAgg36 rfl) (partC Tryd.isAgg36 rfl) (eqI_int Tryd.underlying36)
    (eqF_cons (by decide) (partG Tryd.isAgg39 Tryd.sizeOf39 rfl) (partG Tryd.isAgg39 Tryd.sizeOf39 rfl) (eqRf o.run o.run)
    (eqF_cons (by decide) (partC Tryd.isAgg31 rfl) (partC Tryd.isAgg31 rfl) (eqI_int Tryd.underlying31)
    (eqF_cons (by decide) (partG Tryd.isAgg40 Tryd.sizeOf40 rfl) (partG Tryd.isAgg40 Tryd.sizeOf40 rfl) (eqI_array (i := _) (c := 1) Tryd.underlying40 rfl rfl rfl
      (eqA_cons (partC Tryd.isAgg31 rfl) (partC Tryd.isAgg31 rfl) (eqI_int Tryd.underlying31)
      (eqA_cons (partC Tryd.isAgg31 rfl) (partC Tryd.isAgg31 rfl) (eqI_int Tryd.underlying31)
      (eqA_cons (partC Tryd.isAgg31 rfl) (partC Tryd.isAgg31 rfl) (eqI_int Tryd.underlying31)
      (eqA_cons (partC Tryd.isAgg31 rfl) (partC Tryd.isAgg31 rfl) (eqI_int Tryd.underlying31) eqA_nil)))))
    (eqF_cons (by decide) (partC Tryd.isAgg5 rfl) (partC Tryd.isAgg5 rfl) (eqI_int Tryd.underlying5)
    (eqF_cons (by decide) (partC Tryd.isAgg5 rfl) (partC Tryd.isAgg5 rfl) (eqI_int Tryd.underlying5) eqF_nil)))))))

/-! Strings of bytes -/

theorem strOf_data : ∀ (xs : List Int) (r : ByteArray), (xs.foldl (fun r n => r.push (UInt8.ofNat n.toNat)) r).data.toList = r.data.toList ++ xs.map (fun n => UInt8.ofNat n.toNat)
  | [], r => by simp
  | x :: xs, r => by
    rw [List.foldl_cons, strOf_data xs]
    simp

theorem strOf_inj {xs ys : List Int} (hx : ∀ x ∈ xs, 0 ≤ x ∧ x < 256) (hy : ∀ y ∈ ys, 0 ≤ y ∧ y < 256) (h : strOf xs = strOf ys) : xs = ys := by
  have h1 : xs.map (fun n => UInt8.ofNat n.toNat) = ys.map (fun n => UInt8.ofNat n.toNat) := by
    have := congrArg (fun s : ByteArray => s.data.toList) h
    unfold strOf at this
    simp only [strOf_data] at this
    simpa using this
  clear h
  induction xs generalizing ys with
  | nil => cases ys with
    | nil => rfl
    | cons y ys => simp at h1
  | cons x xs ih => cases ys with
    | nil => simp at h1
    | cons y ys =>
      simp only [List.map_cons, List.cons.injEq] at h1
      have a := hx x (by simp)
      have b := hy y (by simp)
      have e : x = y := by
        have := congrArg UInt8.toNat h1.1
        rw [UInt8.toNat_ofNat', UInt8.toNat_ofNat'] at this
        omega
      rw [e, ih (fun z hz => hx z (List.mem_cons_of_mem _ hz)) (fun z hz => hy z (List.mem_cons_of_mem _ hz)) h1.2]

theorem uvar_byte : ∀ (k : Nat) {v : Int}, 0 ≤ v → v < 128 ^ (k + 1) → ∀ x ∈ uvar k v, 0 ≤ x ∧ x < 256
  | 0, v, h0, h1, x, hx => by
    simp [uvar] at hx
    subst hx
    simp at h1
    omega
  | k + 1, v, h0, h1, x, hx => by
    by_cases e : 128 ≤ v
    · rw [uvar_step e] at hx
      obtain ⟨g, hg, h2⟩ := pow_step e h1
      obtain rfl : k = g := by omega
      rcases List.mem_cons.1 hx with hq | hq
      · omega
      · exact uvar_byte k (by omega) h2 x hq
    · rw [uvar_stop e] at hx
      simp at hx
      omega

theorem uvs_byte {vs : List Int} (h : ∀ v ∈ vs, u64r v) : ∀ x ∈ uvs vs, 0 ≤ x ∧ x < 256 := fun x hx => by
  obtain ⟨v, hv, hx⟩ := List.mem_flatMap.1 hx
  exact uvar_byte 9 (h v hv).1 (u64_pow (h v hv)) x hx

end Go.Proofs.Qxb6500918aDoor
