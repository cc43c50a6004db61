/-
  The model's state in memory: maps of threads, queues and words, the ready rows, the store and the space.
-/
import Derived.Test.Qxb6500918aDoorSa
namespace Go.Sx

section
variable {P : Program} {tab : Tab} {C : Ctx} {T T' : Slots} {L L' : Mem} {w w' : World} {a : Act} {ops : List Oper} {Q : Exit → Act → World → Prop}
  {Kc : Act → World → Prop}

/-- A store into a block that is carried. -/
theorem op_put (ht : TabOk P tab) {i : Nat} {o : Oper} {t : TypeId} {xa xv : Operand} {ti : TI} {b off : Nat} {v : Value} {blk : Blk} (hst : St C T L a w) (hi : nth ops i = some o) (hw : wantE ops T o.guard = some true) (hd : o.dst = none)
    (hop : o.op = .store t xa xv) (ha : evO T xa = some (.pointer (some ⟨b, off, none⟩))) (hv : evO T xv = some v) (hti : look tab t = some ti) (hlen : (vcells v).length = ti.size) (hone : allOne (vcells v) = true)
    (hb : w.heap[b]? = some blk.obj) (hle : off + (vcells v).length ≤ blk.cells.length)
    (hn : ∀ w', w'.heap[b]? = some (Blk.obj ⟨splice blk.cells off (vcells v), blk.ty, false⟩) → Fr [b] w w' → Kc a w') : wpOp P ops.toArray Q i Kc a w := by
  unfold wpOp
  rw [nth_eq] at hi
  simp only [List.getElem?_toArray, hi, wantE_spec hst.slots hw, if_true]
  obtain ⟨w1, h1, h2⟩ := run_storeCells (P := P) (vcells v) 0 off blk w hb (by omega) (allOne_spec hone)
  have hsz : v.cells.size = ti.size := by rw [vcells_eq]; simpa using hlen
  have hcl : v.cells.toList = vcells v := by rw [vcells_eq]
  have hrun : (execOp a.eval o).run P w = .ok .skip w1 := by
    obtain ⟨dst, op, type, pos, after, guard⟩ := o
    simp only at hop
    subst hop
    simp only [execOp, evO_eval hst.slots ha, evO_eval hst.slots hv, Instr.storeAt, Instr.sureAddr, storeVar, Sem.run_bind, Sem.run_pure, Result.andThen_ok, run_size ht hti, hsz, hcl]
    simp [h1]
  left
  simp only [Oper.wp, hrun, Oper.upon, hd, Act.put]
  exact hn w1 (by rw [h2.at_]; simp) ⟨h2.os, h2.tape, h2.output, Nat.le_of_eq h2.size.symm, fun k _ hk => h2.else_ k (by simpa using hk)⟩

end
end Go.Sx

namespace Go.Kn
open Go.Sx Go.Proofs.Qxb6500918aDoor

inductive MLoc where
  | m | t | q | w | cp
  | th (x : Nat)
  | qr (i : Nat)
  | rr (p : Nat)
deriving DecidableEq

/-- What the model keeps for long: the blocks of its maps, the entries, the names. -/
structure MZ where
  mo : Nat
  mc : Nat
  nd : Nat → Nat
  tb : Nat
  qb : Nat
  wb : Nat
  tl : List (Nat × Nat)
  tc : Nat
  tp : Nat → Nat
  ql : List (Nat × Nat)
  qc : Nat
  ky : Nat → Rf

/-- What turns: the rows, the words' entries; a row that is being written. -/
structure MR where
  qo : Nat → Option Addr
  qk : Nat → Nat
  qF : Nat → List Nat
  ro : Nat → Option Addr
  rk : Nat → Nat
  rF : Nat → List Nat
  wl : List (Nat × Nat)
  wc : Nat
  ho : Option MLoc

abbrev sl (l : List (Nat × Nat)) : List Nat := l.map (·.1)
abbrev kys (Z : MZ) (xs : List Nat) : List Rf := xs.map Z.ky

def AK.setQ (a : AK) (L : QL) (xs : List Nat) : AK := { a with q := fun L' => if L' = L then xs else a.q L' }

def slV (Z : MZ) (R : MR) (a : AK) (p : Nat) : Value := .slice (R.ro p) (kys Z (a.q (.r p))).length (R.rk p)
def curR (Z : MZ) (a : AK) : Rf := if a.cur = -1 then ⟨0, 0⟩ else Z.ky a.cur.toNat
def mdP (Z : MZ) : List Value := [.pointer (some ⟨Z.mo, 0, none⟩), .pointer (some ⟨Z.mc, 0, none⟩), .map (some Z.tb), .map (some Z.qb), .map (some Z.wb)]
def mdU (Z : MZ) (a : AK) : List Value := [.int .u16 (curR Z a).idx, .int .u32 (curR Z a).gen]
def mdC (Z : MZ) (R : MR) (a : AK) : List Value := mdP Z ++ (arr 8 one (slV Z R a) ++ (mdU Z a ++ (arr 16 irqC a.irq ++ [.int .u64 a.now])))

def tE (Z : MZ) (e : Nat × Nat) : Mn := ⟨Z.ky e.1, .pointer (some ⟨Z.tp e.1, 0, none⟩), e.2⟩
def qE (Z : MZ) (R : MR) (a : AK) (e : Nat × Nat) : Mn := ⟨Z.ky e.1, .slice (R.qo e.1) (kys Z (a.q (.w e.1))).length (R.qk e.1), e.2⟩
def wE (Z : MZ) (a : AK) (e : Nat × Nat) : Mn := ⟨Z.ky e.1, .int .u64 (a.word e.1), e.2⟩

abbrev rowQ (Z : MZ) (R : MR) (a : AK) (i : Nat) : RS := rl rfC 39 2 (kys Z (a.q (.w i))) (R.qo i) (R.qk i) (R.qF i)
abbrev rowR (Z : MZ) (R : MR) (a : AK) (p : Nat) : RS := rl rfC 39 2 (kys Z (a.q (.r p))) (R.ro p) (R.rk p) (R.rF p)

def MLoc.ok (Z : MZ) : MLoc → Prop
  | .th x => x ∈ sl Z.tl
  | .qr i => i ∈ sl Z.ql
  | .rr p => p < 8
  | _ => True

def locF (mb : Nat) (Z : MZ) (R : MR) (C : CP) : MLoc → List Nat
  | .m => [mb]
  | .t => [Z.tb]
  | .q => [Z.qb]
  | .w => [Z.wb]
  | .cp => capF Z.mo Z.mc Z.nd C
  | .th x => [Z.tp x]
  | .qr i => R.qF i
  | .rr p => R.rF p

structure MK (Z : MZ) (R : MR) : Prop where
  tn : (sl Z.tl).Nodup
  qn : (sl Z.ql).Nodup
  wn : (sl R.wl).Nodup
  bq : (Z.ql.map (·.2)).Nodup
  tc : ∀ e ∈ Z.tl, e.2 < Z.tc
  qc : ∀ e ∈ Z.ql, e.2 < Z.qc
  tx : ∀ x ∈ sl Z.tl, x < 256
  qx : ∀ x ∈ sl Z.ql, x < 256
  wx : ∀ x ∈ sl R.wl, x < 256
  kx : ∀ x, x < 256 → (Z.ky x).idx = (x : Int)
  kg : ∀ x, x < 256 → 1 ≤ (Z.ky x).gen
  wq : ∀ x ∈ sl R.wl, x ∈ sl Z.ql ∨ R.ho = some (.qr x)

structure MD0 (mb : Nat) (Z : MZ) (R : MR) (a : AK) (C : CP) (w : World) : Prop where
  k : MK Z R
  m : w.heap[mb]? = some (Blk.obj ⟨mdC Z R a, 104, false⟩)
  t : w.heap[Z.tb]? = some (mapO (Z.tl.map (tE Z)) Z.tc)
  th : ∀ x, x ∈ sl Z.tl → w.heap[Z.tp x]? = some (Blk.obj ⟨thC (a.th x), 59, false⟩)
  q : w.heap[Z.qb]? = some (mapO (Z.ql.map (qE Z R a)) Z.qc)
  qr : ∀ i, i ∈ sl Z.ql → R.ho ≠ some (.qr i) → (rowQ Z R a i).at w
  wm : w.heap[Z.wb]? = some (mapO (R.wl.map (wE Z a)) R.wc)
  rr : ∀ p, p < 8 → R.ho ≠ some (.rr p) → (rowR Z R a p).at w
  hh : ∀ l, R.ho = some l → locF mb Z R C l = []
  cp : CapAt w Z.mo Z.mc Z.nd C
  dj : ∀ l l', l.ok Z → l'.ok Z → l ≠ l' → ∀ b ∈ locF mb Z R C l, b ∉ locF mb Z R C l'
  w0 : ∀ i ∈ sl Z.ql, i ∉ sl R.wl → a.word i = 0

def mdF (mb : Nat) (Z : MZ) (R : MR) (C : CP) : List Nat :=
  mb :: Z.tb :: Z.qb :: Z.wb :: ((sl Z.tl).map Z.tp ++ ((sl Z.ql).flatMap R.qF ++ ((List.range 8).flatMap R.rF ++ capF Z.mo Z.mc Z.nd C)))

section
variable {mb : Nat} {Z : MZ} {R : MR} {a : AK} {C : CP} {w w' : World}

theorem mem_mdF {b : Nat} : b ∈ mdF mb Z R C ↔ ∃ l, l.ok Z ∧ b ∈ locF mb Z R C l := by
  constructor
  · intro h
    unfold mdF at h
    simp only [List.mem_cons, List.mem_append] at h
    rcases h with h | h | h | h | h | h | h | h
    · exact ⟨.m, trivial, by simp [locF, h]⟩
    · exact ⟨.t, trivial, by simp [locF, h]⟩
    · exact ⟨.q, trivial, by simp [locF, h]⟩
    · exact ⟨.w, trivial, by simp [locF, h]⟩
    · obtain ⟨x, hx, e⟩ := List.mem_map.1 h
      exact ⟨.th x, hx, by simp [locF, e]⟩
    · obtain ⟨i, hi, e⟩ := List.mem_flatMap.1 h
      exact ⟨.qr i, hi, e⟩
    · obtain ⟨p, hp, e⟩ := List.mem_flatMap.1 h
      exact ⟨.rr p, List.mem_range.1 hp, e⟩
    · exact ⟨.cp, trivial, h⟩
  · rintro ⟨l, hl, h⟩
    unfold mdF
    simp only [List.mem_cons, List.mem_append]
    cases l with
    | m => simp [locF] at h; exact .inl h
    | t => simp [locF] at h; exact .inr (.inl h)
    | q => simp [locF] at h; exact .inr (.inr (.inl h))
    | w => simp [locF] at h; exact .inr (.inr (.inr (.inl h)))
    | cp => exact .inr (.inr (.inr (.inr (.inr (.inr (.inr h))))))
    | th x => simp [locF] at h; exact .inr (.inr (.inr (.inr (.inl (List.mem_map.2 ⟨x, hl, h.symm⟩)))))
    | qr i => exact .inr (.inr (.inr (.inr (.inr (.inl (List.mem_flatMap.2 ⟨i, hl, h⟩))))))
    | rr p => exact .inr (.inr (.inr (.inr (.inr (.inr (.inl (List.mem_flatMap.2 ⟨p, List.mem_range.2 hl, h⟩)))))))

theorem MD0.lowL (h : MD0 mb Z R a C w) {l : MLoc} (hl : l.ok Z) : ∀ b ∈ locF mb Z R C l, b < w.heap.size := by
  intro b hb
  by_cases hho : R.ho = some l
  · rw [h.hh l hho] at hb; cases hb
  cases l with
  | m => simp [locF] at hb; rw [hb]; exact lt_of_heap h.m
  | t => simp [locF] at hb; rw [hb]; exact lt_of_heap h.t
  | q => simp [locF] at hb; rw [hb]; exact lt_of_heap h.q
  | w => simp [locF] at hb; rw [hb]; exact lt_of_heap h.wm
  | cp => exact h.cp.low b hb
  | th x => simp [locF] at hb; rw [hb]; exact lt_of_heap (h.th x hl)
  | qr i => exact Row.low (h.qr i hl hho) b hb
  | rr p => exact Row.low (h.rr p hl hho) b hb

theorem MD0.low (h : MD0 mb Z R a C w) : ∀ b ∈ mdF mb Z R C, b < w.heap.size := fun b hb => by
  obtain ⟨l, hl, hb⟩ := mem_mdF.1 hb
  exact h.lowL hl b hb

theorem MD0.stable : Stable (MD0 mb Z R a C) (mdF mb Z R C) := by
  intro w w' hs h
  have hb : ∀ {l : MLoc}, l.ok Z → ∀ b ∈ locF mb Z R C l, w'.heap[b]? = w.heap[b]? := fun hl b hb => hs b (mem_mdF.2 ⟨_, hl, hb⟩)
  refine ⟨h.k, ?_, ?_, fun x hx => ?_, ?_, fun i hi hho => ?_, ?_, fun p hp hho => ?_, h.hh, ?_, h.dj, h.w0⟩
  · rw [hb (l := .m) trivial mb (by simp [locF])]; exact h.m
  · rw [hb (l := .t) trivial Z.tb (by simp [locF])]; exact h.t
  · rw [hb (l := .th x) hx (Z.tp x) (by simp [locF])]; exact h.th x hx
  · rw [hb (l := .q) trivial Z.qb (by simp [locF])]; exact h.q
  · exact Row.stable w w' (fun b hq => hb (l := .qr i) hi b hq) (h.qr i hi hho)
  · rw [hb (l := .w) trivial Z.wb (by simp [locF])]; exact h.wm
  · exact Row.stable w w' (fun b hq => hb (l := .rr p) hp b hq) (h.rr p hp hho)
  · exact CapAt.stable w w' (fun b hq => hb (l := .cp) trivial b hq) h.cp

theorem MD0.fr (h : MD0 mb Z R a C w) {M : List Nat} (hf : Fr M w w') (hM : ∀ b ∈ mdF mb Z R C, b ∉ M) : MD0 mb Z R a C w' :=
  MD0.stable w w' (fun b hb => hf.block b (h.low b hb) (hM b hb)) h

/-- What an effect on one place leaves alone. -/
theorem MD0.keep (h : MD0 mb Z R a C w) {l0 l : MLoc} (h0 : l0.ok Z) (hl : l.ok Z) (hne : l ≠ l0) {M : List Nat} (hM : ∀ b ∈ M, b ∈ locF mb Z R C l0) (hf : Fr M w w') : ∀ b ∈ locF mb Z R C l, w'.heap[b]? = w.heap[b]? := fun b hb =>
  hf.block b (h.lowL hl b hb) (fun hq => h.dj l l0 hl h0 hne b hb (hM b hq))

/-- Blocks of a row that was there or is new: apart from all other places. -/
theorem MD0.apart (h : MD0 mb Z R a C w) {l0 : MLoc} (h0 : l0.ok Z) {F : List Nat} {n : Nat} (hn : w.heap.size ≤ n) (hF : ∀ b ∈ F, b ∈ locF mb Z R C l0 ∨ n ≤ b) {l : MLoc} (hl : l.ok Z) (hne : l ≠ l0) : ∀ b ∈ locF mb Z R C l, b ∉ F := fun b hb hq => by
  rcases hF b hq with h1 | h1
  · exact h.dj l l0 hl h0 hne b hb h1
  · have := h.lowL hl b hb; omega

/-! The cells of the model -/

theorem slV_one (v : Value) : (one v).length = 1 := rfl

theorem md_len : (mdC Z R a).length = 80 := by
  simp only [mdC, List.length_append, arr_len one_len, arr_len irqC_len]; rfl

theorem md_p {k : Nat} {vs : List Value} (h : cellsAre (mdP Z) k vs) : cellsAre (mdC Z R a) k vs := cellsAre_app_left h

theorem md_r {p o : Nat} (hp : p < 8) (ho : o = 5 + p) : cellsAre (mdC Z R a) o [slV Z R a p] :=
  mid_read one_len (pre := mdP Z) (f := slV Z R a) (i := p) (k := 0) hp ⟨rfl, trivial⟩ (by simp [mdP]; omega)

theorem mdC_cur : mdC Z R a = (mdP Z ++ arr 8 one (slV Z R a)) ++ (mdU Z a ++ (arr 16 irqC a.irq ++ [.int .u64 a.now])) := by
  unfold mdC; rw [app3 (mdP Z)]
theorem md_pre : (mdP Z ++ arr 8 one (slV Z R a)).length = 13 := by rw [List.length_append, arr_len one_len]; rfl

theorem md_cur : cellsAre (mdC Z R a) 13 [.int .u16 (curR Z a).idx, .int .u32 (curR Z a).gen] := by
  have := cellsAre_app_right (a := mdP Z ++ arr 8 one (slV Z R a)) (b := mdU Z a ++ (arr 16 irqC a.irq ++ [.int .u64 a.now])) (k := 0) (vs := [.int .u16 (curR Z a).idx, .int .u32 (curR Z a).gen]) ⟨rfl, rfl, trivial⟩
  rw [md_pre, ← mdC_cur] at this
  exact this

theorem mdC_irq : mdC Z R a = (mdP Z ++ arr 8 one (slV Z R a) ++ mdU Z a) ++ (arr 16 irqC a.irq ++ [.int .u64 a.now]) := by
  rw [mdC_cur, app3 (mdP Z ++ arr 8 one (slV Z R a))]
theorem md_pre2 : (mdP Z ++ arr 8 one (slV Z R a) ++ mdU Z a).length = 15 := by rw [List.length_append, md_pre]; rfl

theorem md_irq {i k o : Nat} {vs : List Value} (hi : i < 16) (ho : o = 15 + (i * 4 + k)) (h : cellsAre (irqC (a.irq i)) k vs) : cellsAre (mdC Z R a) o vs := by
  rw [mdC_irq]; exact mid_read irqC_len hi h (by rw [md_pre2]; exact ho)

theorem mdC_now : mdC Z R a = (mdP Z ++ arr 8 one (slV Z R a) ++ mdU Z a ++ arr 16 irqC a.irq) ++ [.int .u64 a.now] := by
  rw [mdC_irq, app3 (mdP Z ++ arr 8 one (slV Z R a) ++ mdU Z a)]
theorem md_pre3 : (mdP Z ++ arr 8 one (slV Z R a) ++ mdU Z a ++ arr 16 irqC a.irq).length = 79 := by rw [List.length_append, md_pre2, arr_len irqC_len]

theorem md_now : cellsAre (mdC Z R a) 79 [.int .u64 a.now] := by
  have := cellsAre_app_right (a := mdP Z ++ arr 8 one (slV Z R a) ++ mdU Z a ++ arr 16 irqC a.irq) (b := [.int .u64 a.now]) (k := 0) (vs := [.int .u64 a.now]) ⟨rfl, trivial⟩
  rw [md_pre3, ← mdC_now] at this
  exact this

theorem md_r_w {p o : Nat} {v : Value} (hp : p < 8) (ho : o = 5 + p) {R' : MR} {a' : AK} (hv : slV Z R' a' p = v) (he : ∀ x, x < 8 → x ≠ p → slV Z R' a' x = slV Z R a x) (hc : a'.cur = a.cur) (hi : a'.irq = a.irq) (hn : a'.now = a.now) : splice (mdC Z R a) o [v] = mdC Z R' a' := by
  unfold mdC
  rw [mid_write one_len (pre := mdP Z) (f := slV Z R a) (i := p) (k := 0) (a' := v) hp (Nat.le_refl _) rfl (by simp [mdP]; omega)]
  rw [arr_ext (f := upd (slV Z R a) p v) (g := slV Z R' a') (fun x hx => by
    by_cases e : x = p
    · subst e; rw [upd_same, hv]
    · rw [upd_other _ _ e, he x hx e])]
  have hu : mdU Z a' = mdU Z a := by unfold mdU curR; rw [hc]
  rw [hu, hi, hn]

theorem md_cur_w {r : Rf} {c : Int} (hr : curR Z { a with cur := c } = r) : splice (mdC Z R a) 13 [.int .u16 r.idx, .int .u32 r.gen] = mdC Z R { a with cur := c } := by
  have e : slV Z R { a with cur := c } = slV Z R a := rfl
  rw [mdC_cur, mdC_cur, e]
  have := splice_app_right [.int .u16 r.idx, .int .u32 r.gen] (mdP Z ++ arr 8 one (slV Z R a)) (mdU Z a ++ (arr 16 irqC a.irq ++ [.int .u64 a.now])) 0
  rw [md_pre] at this
  rw [this]
  congr 1
  show [.int .u16 r.idx, .int .u32 r.gen] ++ (arr 16 irqC a.irq ++ [.int .u64 a.now]) = _
  unfold mdU
  rw [hr]

theorem md_irq_w {i k o : Nat} {vs : List Value} {q' : Irq} (hi : i < 16) (hk : k + vs.length ≤ 4) (ho : o = 15 + (i * 4 + k)) (h : splice (irqC (a.irq i)) k vs = irqC q') : splice (mdC Z R a) o vs = mdC Z R (a.setI i q') := by
  have e1 : slV Z R (a.setI i q') = slV Z R a := rfl
  have e2 : mdU Z (a.setI i q') = mdU Z a := rfl
  rw [mdC_irq, mdC_irq, e1, e2]
  exact mid_write irqC_len hi hk h (by rw [md_pre2]; exact ho)

theorem md_now_w (n : Int) : splice (mdC Z R a) 79 [.int .u64 n] = mdC Z R { a with now := n } := by
  have e1 : slV Z R { a with now := n } = slV Z R a := rfl
  have e2 : mdU Z { a with now := n } = mdU Z a := rfl
  rw [mdC_now, mdC_now, e1, e2]
  have := splice_app_right [.int .u64 n] (mdP Z ++ arr 8 one (slV Z R a) ++ mdU Z a ++ arr 16 irqC a.irq) [.int .u64 a.now] 0
  rw [md_pre3] at this
  exact this

end
end Go.Kn
