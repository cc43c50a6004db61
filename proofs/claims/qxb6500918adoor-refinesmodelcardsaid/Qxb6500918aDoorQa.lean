/-
  The kernel's state without its links: threads, queues as lists. What every operation does to it.
-/
import Derived.Test.Qxb6500918aDoorOj
namespace Go.Kn
open Go.Sx Go.Proofs.Qxb6500918aDoor

structure AK where
  th : Nat → Tcb
  q : QL → List Nat
  word : Nat → Int
  cur : Int
  irq : Nat → Irq
  now : Int

def AK.setT (a : AK) (i : Nat) (x : Tcb) : AK := { a with th := upd a.th i x }
def AK.setI (a : AK) (i : Nat) (q : Irq) : AK := { a with irq := upd a.irq i q }
def AK.setW (a : AK) (i : Nat) (v : Int) : AK := { a with word := upd a.word i v }

structure Abs (S : KP) (a : AK) : Prop where
  ri : RI S
  li : LIQ S a.q
  th : ∀ i, i < 256 → a.th i = unl (S.tcb i)
  wd : ∀ i, i < 256 → a.word i = S.word i
  cu : a.cur = S.cur
  ir : ∀ l, l < 16 → a.irq l = S.irq l
  nw : a.now = S.now

def leaveA (a : AK) (t : Nat) : AK :=
  { a with th := upd a.th t { a.th t with st := 0, wait := ⟨0, 0⟩ }, q := qCut a.q (place (a.th t)) t, cur := if (a.th t).st = 2 then -1 else a.cur }
def wakeA (a : AK) (t : Nat) : AK :=
  { a with th := upd a.th t { a.th t with st := 1, wait := ⟨0, 0⟩ }, q := qPush (qCut a.q (place (a.th t)) t) (.r (a.th t).prio.toNat) t, cur := if (a.th t).st = 2 then -1 else a.cur }
def blockA (a : AK) (t : Nat) (s : Int) (o : Rf) : AK :=
  { a with th := upd a.th t { a.th t with st := s, wait := o }, q := if s = 6 then qCut a.q (place (a.th t)) t else qPush (qCut a.q (place (a.th t)) t) (.w o.idx.toNat) t, cur := if (a.th t).st = 2 then -1 else a.cur }
def oldestA (a : AK) (o : Rf) (s : Int) : Int :=
  if hdI (a.q (.w o.idx.toNat)) (-1) ≠ -1 ∧ (a.th (hdI (a.q (.w o.idx.toNat)) (-1)).toNat).st = s then hdI (a.q (.w o.idx.toNat)) (-1) else -1

section
variable {S : KP} {a : AK} {C : CP} {ev : Ev}

theorem wake_curE (S : KP) (t : Int) : (wakeP S t).cur = if (S.tcb t.toNat).st = 2 then -1 else S.cur := by
  unfold wakeP; dsimp only; rw [push_cur, setT_cur, leave_curE]
theorem block_curE (S : KP) (t s : Int) (o : Rf) : (blockP S t s o).cur = if (S.tcb t.toNat).st = 2 then -1 else S.cur := by
  unfold blockP; dsimp only
  split
  · rw [setT_cur, setT_cur, leave_curE]
  · rw [push_cur, setT_cur, setT_cur, leave_curE]

theorem Abs.leave (h : Abs S a) {t : Int} (ht : 0 ≤ t ∧ t < 256) : Abs (leaveP S t) (leaveA a t.toNat) where
  ri := leave_RI h.ri ht
  li := by
    have h1 := leave_LIQ h.ri h.li (t := t.toNat) (by omega)
    rw [show ((t.toNat : Nat) : Int) = t by omega] at h1
    have e : place (a.th t.toNat) = place (S.tcb t.toNat) := by rw [h.th _ (by omega)]; rfl
    show LIQ _ (qCut a.q (place (a.th t.toNat)) t.toNat)
    rw [e]; exact h1
  th i hi := by
    show upd a.th t.toNat { a.th t.toNat with st := 0, wait := ⟨0, 0⟩ } i = _
    rw [unl_leave]
    by_cases e : i = t.toNat
    · subst e; rw [upd_same, if_pos rfl, h.th _ hi]; rfl
    · rw [upd_other _ _ e, if_neg e, h.th i hi]
  wd i hi := by rw [(leave_rst S t).w]; exact h.wd i hi
  cu := by
    show (if (a.th t.toNat).st = 2 then -1 else a.cur) = _
    rw [leave_curE, h.th _ (by omega), h.cu]; rfl
  ir l hl := by rw [(leave_rst S t).i]; exact h.ir l hl
  nw := by rw [(leave_rst S t).n]; exact h.nw

theorem Abs.wake (h : Abs S a) {t : Int} (ht : 0 ≤ t ∧ t < 256) : Abs (wakeP S t) (wakeA a t.toNat) where
  ri := wake_RI h.ri ht
  li := by
    have h1 := wake_LIQ h.ri h.li (t := t.toNat) (by omega)
    rw [show ((t.toNat : Nat) : Int) = t by omega] at h1
    have e : place (a.th t.toNat) = place (S.tcb t.toNat) := by rw [h.th _ (by omega)]; rfl
    have e2 : (a.th t.toNat).prio = (S.tcb t.toNat).prio := by rw [h.th _ (by omega)]; rfl
    show LIQ _ (qPush (qCut a.q (place (a.th t.toNat)) t.toNat) (.r (a.th t.toNat).prio.toNat) t.toNat)
    rw [e, e2]; exact h1
  th i hi := by
    show upd a.th t.toNat { a.th t.toNat with st := 1, wait := ⟨0, 0⟩ } i = _
    rw [unl_wake]
    by_cases e : i = t.toNat
    · subst e; rw [upd_same, if_pos rfl, h.th _ hi]; rfl
    · rw [upd_other _ _ e, if_neg e, h.th i hi]
  wd i hi := by rw [(wake_rst S t).w]; exact h.wd i hi
  cu := by
    show (if (a.th t.toNat).st = 2 then -1 else a.cur) = _
    rw [wake_curE, h.th _ (by omega), h.cu]; rfl
  ir l hl := by rw [(wake_rst S t).i]; exact h.ir l hl
  nw := by rw [(wake_rst S t).n]; exact h.nw

theorem Abs.block (h : Abs S a) {t : Int} (ht : 0 ≤ t ∧ t < 256) {s : Int} {o : Rf} (ho : 0 ≤ o.idx ∧ o.idx < 256) (hs : s = 3 ∨ s = 4 ∨ s = 5 ∨ s = 6) : Abs (blockP S t s o) (blockA a t.toNat s o) where
  ri := block_RI h.ri ht ho
  li := by
    have e : place (a.th t.toNat) = place (S.tcb t.toNat) := by rw [h.th _ (by omega)]; rfl
    show LIQ _ (if s = 6 then qCut a.q (place (a.th t.toNat)) t.toNat else qPush (qCut a.q (place (a.th t.toNat)) t.toNat) (.w o.idx.toNat) t.toNat)
    rw [e]
    split
    · rename_i e6; subst e6
      have h1 := blockR_LIQ h.ri h.li (t := t.toNat) (by omega) (o := o)
      rw [show ((t.toNat : Nat) : Int) = t by omega] at h1
      exact h1
    · have h1 := block_LIQ h.ri h.li (t := t.toNat) (by omega) (s := s) ho (by omega)
      rw [show ((t.toNat : Nat) : Int) = t by omega] at h1
      exact h1
  th i hi := by
    show upd a.th t.toNat { a.th t.toNat with st := s, wait := o } i = _
    rw [unl_block]
    by_cases e : i = t.toNat
    · subst e; rw [upd_same, if_pos rfl, h.th _ hi]; rfl
    · rw [upd_other _ _ e, if_neg e, h.th i hi]
  wd i hi := by rw [(block_rst S t s o).w]; exact h.wd i hi
  cu := by
    show (if (a.th t.toNat).st = 2 then -1 else a.cur) = _
    rw [block_curE, h.th _ (by omega), h.cu]; rfl
  ir l hl := by rw [(block_rst S t s o).i]; exact h.ir l hl
  nw := by rw [(block_rst S t s o).n]; exact h.nw

/-- One thread's block turned in what no queue looks at. -/
theorem Abs.one {S' : KP} (h : Abs S a) {t : Nat} {x : Tcb} (hr : RI S') (hq : LIQ S' a.q) (ht : x = unl (S'.tcb t)) (ho : ∀ i, i ≠ t → S'.tcb i = S.tcb i) (hw : Rst S S') (hc : S'.cur = S.cur) : Abs S' (a.setT t x) where
  ri := hr
  li := hq
  th i hi := by
    show upd a.th t x i = _
    by_cases e : i = t
    · subst e; rw [upd_same]; exact ht
    · rw [upd_other _ _ e, ho i e]; exact h.th i hi
  wd i hi := by rw [hw.w]; exact h.wd i hi
  cu := by rw [hc]; exact h.cu
  ir l hl := by rw [hw.i]; exact h.ir l hl
  nw := by rw [hw.n]; exact h.nw

theorem Abs.like (h : Abs S a) {t : Nat} (ht : t < 256) {y x : Tcb} (e : Like y (S.tcb t)) (hx : x = unl y) : Abs (S.setT t y) (a.setT t x) :=
  h.one (h.ri.setT (e.tok (h.ri.t ht))) (h.li.like e) (by rw [setT_same]; exact hx) (fun i hi => setT_other _ _ hi) (setT_rst _ _ _) rfl

/-- The same, where the fields that the ranges look at may turn too. -/
theorem Abs.set (h : Abs S a) {t : Nat} {y x : Tcb} (hy : TOk y) (hl : y.next = (S.tcb t).next ∧ y.prev = (S.tcb t).prev) (hs : y.st = (S.tcb t).st) (hp : place y = place (S.tcb t)) (hx : x = unl y) : Abs (S.setT t y) (a.setT t x) :=
  h.one (h.ri.setT hy) (h.li.setT hl hs hp) (by rw [setT_same]; exact hx) (fun i hi => setT_other _ _ hi) (setT_rst _ _ _) rfl

theorem Abs.oldest (h : Abs S a) {o : Rf} (ho : 0 ≤ o.idx ∧ o.idx < 256) (s : Int) : oldestP S o s = oldestA a o s := by
  unfold oldestP oldestA
  rw [h.li.head (i := o.idx.toNat) (by omega)]
  by_cases e : hdI (a.q (.w o.idx.toNat)) (-1) = -1
  · rw [if_neg (fun hq => hq.1 e), if_neg (fun hq => hq.1 e)]
  · have hr : (hdI (a.q (.w o.idx.toNat)) (-1)).toNat < 256 := by
      cases hq : a.q (.w o.idx.toNat) with
      | nil => rw [hq] at e; exact absurd rfl e
      | cons x r =>
        have := (h.li.lx.ch (L := .w o.idx.toNat) (show _ < 256 by omega)).lt x (by rw [hq]; simp)
        simpa [hdI] using this
    rw [h.th _ hr]; rfl

theorem Abs.oldest_rng (h : Abs S a) {o : Rf} (ho : 0 ≤ o.idx ∧ o.idx < 256) {s : Int} (hn : oldestA a o s ≠ -1) : 0 ≤ oldestA a o s ∧ oldestA a o s < 256 := by
  rw [← h.oldest ho] at hn ⊢
  exact lk_nat (oldest_lk h.ri ho s) hn

theorem Abs.setWord (h : Abs S a) {i : Nat} (v : Int) : Abs { S with word := upd S.word i v } (a.setW i v) where
  ri := h.ri.setWord _
  li := h.li.same rfl (fun L => by cases L <;> rfl) rfl rfl
  th := h.th
  wd j hj := by
    show upd a.word i v j = upd S.word i v j
    by_cases e : j = i
    · subst e; rw [upd_same, upd_same]
    · rw [upd_other _ _ e, upd_other _ _ e]; exact h.wd j hj
  cu := h.cu
  ir := h.ir
  nw := h.nw

theorem Abs.setI (h : Abs S a) {i : Nat} {q : Irq} (hq : 0 ≤ q.ntfn.idx ∧ q.ntfn.idx < 256) : Abs (S.setI i q) (a.setI i q) where
  ri := h.ri.setIrq hq
  li := h.li.same rfl (fun L => by cases L <;> rfl) rfl rfl
  th := h.th
  wd := h.wd
  cu := h.cu
  ir j hj := by
    show upd a.irq i q j = upd S.irq i q j
    by_cases e : j = i
    · subst e; rw [upd_same, upd_same]
    · rw [upd_other _ _ e, upd_other _ _ e]; exact h.ir j hj
  nw := h.nw

def signalA (a : AK) (o : Rf) (b : Int) : AK :=
  if oldestA a o 5 ≠ -1 then wakeA (a.setT (oldestA a o 5).toNat { a.th (oldestA a o 5).toNat with badge := b }) (oldestA a o 5).toNat
  else a.setW o.idx.toNat (bitI .or .u64 (a.word o.idx.toNat) b)

theorem Abs.signal (h : Abs S a) {o : Rf} (ho : 0 ≤ o.idx ∧ o.idx < 256) (b : Int) : Abs (signalP S o b) (signalA a o b) := by
  unfold signalP signalA
  rw [h.oldest ho]
  by_cases e : oldestA a o 5 = -1
  · rw [if_neg (fun hq => hq e), if_neg (fun hq => hq e), h.wd _ (by omega)]
    exact h.setWord _
  · rw [if_pos e, if_pos e]
    have hr := h.oldest_rng ho e
    refine (h.like (t := (oldestA a o 5).toNat) (by omega) (y := { S.tcb (oldestA a o 5).toNat with badge := b }) ⟨rfl, rfl, rfl, rfl, rfl, rfl, rfl, rfl⟩ ?_).wake hr
    rw [h.th _ (by omega)]; rfl

def msgA (x : Tcb) (ws : List Int) : Tcb := { putMsg { x with m0 := 0, m1 := 0, m2 := 0, m3 := 0 } ws with len := IntKind.wrap .u8 (ws.length : Int) }

theorem msgA_unl (x : Tcb) (ws : List Int) : msgA (unl x) ws = unl (msgA x ws) := by
  unfold msgA unl
  rcases ws with _ | ⟨b, _ | ⟨c, _ | ⟨d, _ | ⟨e, r⟩⟩⟩⟩ <;> rfl

theorem Abs.load (h : Abs S a) {t : Int} (ht : 0 ≤ t ∧ t < 256) (ws : List Int) : Abs (loadP S t ws) (a.setT t.toNat (msgA (a.th t.toNat) ws)) := by
  refine h.one (load_RI h.ri ht ws) (load_LIQ h.li t ws) ?_ (fun i hi => ?_) ⟨rfl, rfl, rfl⟩ rfl
  · rw [load_t, h.th _ (by omega), msgA_unl]; rfl
  · unfold loadP; dsimp only; rw [setT_other _ _ hi, setT_other _ _ hi, setT_other _ _ hi]

def del0A (a : AK) (f t : Nat) : AK :=
  a.setT t { a.th t with m0 := (a.th f).m0, m1 := (a.th f).m1, m2 := (a.th f).m2, m3 := (a.th f).m3, len := (a.th f).len, badge := (a.th f).badge, got := 0 }

def deliverA (a : AK) (C : CP) (f t : Nat) : AK × CP :=
  if ((del0A a f t).th f).grant = false ∨ ((del0A a f t).th f).xfer = 0 then (del0A a f t, C) else
  if (lookP C.ent ((del0A a f t).th f).cs (IntKind.wrap .u32 (((del0A a f t).th f).xfer - 1))).2 = 0 ∧ (lookP C.ent ((del0A a f t).th t).cs ((del0A a f t).th t).dst).2 = 0 then
    if (deriveP C.cel (lookP C.ent ((del0A a f t).th t).cs ((del0A a f t).th t).dst).1.toNat (lookP C.ent ((del0A a f t).th f).cs (IntKind.wrap .u32 (((del0A a f t).th f).xfer - 1))).1.toNat 7 0).2 = 0 then
      ((del0A a f t).setT t { (del0A a f t).th t with got := 1 }, { C with cel := (deriveP C.cel (lookP C.ent ((del0A a f t).th t).cs ((del0A a f t).th t).dst).1.toNat (lookP C.ent ((del0A a f t).th f).cs (IntKind.wrap .u32 (((del0A a f t).th f).xfer - 1))).1.toNat 7 0).1 })
    else (del0A a f t, { C with cel := (deriveP C.cel (lookP C.ent ((del0A a f t).th t).cs ((del0A a f t).th t).dst).1.toNat (lookP C.ent ((del0A a f t).th f).cs (IntKind.wrap .u32 (((del0A a f t).th f).xfer - 1))).1.toNat 7 0).1 })
  else (del0A a f t, C)

theorem Abs.del0 (h : Abs S a) {f t : Int} (hf : 0 ≤ f ∧ f < 256) (ht : 0 ≤ t ∧ t < 256) : Abs (deliver0 S f t) (del0A a f.toNat t.toNat) := by
  have hq : LIQ (deliver0 S f t) a.q := by
    have h0 := h.li
    unfold deliver0; dsimp only
    refine LIQ.setT (LIQ.setT (LIQ.setT (LIQ.setT h0 ?_ ?_ ?_) ?_ ?_ ?_) ?_ ?_ ?_) ?_ ?_ ?_
    all_goals first | exact ⟨rfl, rfl⟩ | rfl
  refine h.one (deliver0_RI h.ri ht) hq ?_ (fun i hi => deliver0_o S f t hi) ⟨rfl, rfl, rfl⟩ rfl
  rw [deliver0_t, h.th _ (by omega), h.th f.toNat (by omega)]; rfl

theorem Abs.deliver (h : Abs S a) {f t : Int} (hf : 0 ≤ f ∧ f < 256) (ht : 0 ≤ t ∧ t < 256) : Abs (deliverP S C f t).1 (deliverA a C f.toNat t.toNat).1 ∧ (deliverP S C f t).2 = (deliverA a C f.toNat t.toNat).2 := by
  have h4 := h.del0 hf ht
  have ef := h4.th f.toNat (by omega)
  have et := h4.th t.toNat (by omega)
  have e1 : ((del0A a f.toNat t.toNat).th f.toNat).grant = ((deliver0 S f t).tcb f.toNat).grant := by rw [ef]; rfl
  have e2 : ((del0A a f.toNat t.toNat).th f.toNat).xfer = ((deliver0 S f t).tcb f.toNat).xfer := by rw [ef]; rfl
  have e3 : ((del0A a f.toNat t.toNat).th f.toNat).cs = ((deliver0 S f t).tcb f.toNat).cs := by rw [ef]; rfl
  have e4 : ((del0A a f.toNat t.toNat).th t.toNat).cs = ((deliver0 S f t).tcb t.toNat).cs := by rw [et]; rfl
  have e5 : ((del0A a f.toNat t.toNat).th t.toNat).dst = ((deliver0 S f t).tcb t.toNat).dst := by rw [et]; rfl
  unfold deliverP deliverA
  dsimp only
  rw [e1, e2, e3, e4, e5]
  split
  · exact ⟨h4, rfl⟩
  split
  · split
    · exact ⟨h4.like (by omega) ⟨rfl, rfl, rfl, rfl, rfl, rfl, rfl, rfl⟩ (by rw [et]; rfl), rfl⟩
    · exact ⟨h4, rfl⟩
  · exact ⟨h4, rfl⟩

def settleA (a : AK) (E : Nat → Ent) (f t : Nat) : AK :=
  if (a.th f).call = true then (blockA a f 6 (refP E (t : Int))).setT t { (blockA a f 6 (refP E (t : Int))).th t with rep := refP E (f : Int) }
  else if (f : Int) ≠ a.cur then wakeA a f else a

theorem Abs.settle (h : Abs S a) (E : Nat → Ent) {f t : Int} (hf : 0 ≤ f ∧ f < 256) (ht : 0 ≤ t ∧ t < 256) : Abs (settleP S E f t) (settleA a E f.toNat t.toNat) := by
  have e1 : (a.th f.toNat).call = (S.tcb f.toNat).call := by rw [h.th _ (by omega)]; rfl
  unfold settleP settleA
  rw [e1, h.cu, show ((f.toNat : Nat) : Int) = f by omega, show ((t.toNat : Nat) : Int) = t by omega]
  split
  · have h1 := h.block hf (s := 6) (o := refP E t) (ref_idx (.inr ht)) (by simp)
    have hy : TOk { (blockP S f 6 (refP E t)).tcb t.toNat with rep := refP E f } := by
      have := h1.ri.t (i := t.toNat) (by omega)
      exact ⟨this.nx, this.pv, this.pr, this.wi, this.ci, ref_idx (.inr hf), this.ds⟩
    exact h1.set hy ⟨rfl, rfl⟩ rfl rfl (by rw [h1.th _ (by omega)]; rfl)
  · split
    · exact h.wake hf
    · exact h

def findA (a : AK) (C : CP) (ad want need : Int) : Cp × Int × Int :=
  if (lookP C.ent (a.th a.cur.toNat).cs ad).2 ≠ 0 then (cp0, -1, (lookP C.ent (a.th a.cur.toNat).cs ad).2) else
  if (C.cel (lookP C.ent (a.th a.cur.toNat).cs ad).1.toNat).cap.ty = 0 then ((C.cel (lookP C.ent (a.th a.cur.toNat).cs ad).1.toNat).cap, (lookP C.ent (a.th a.cur.toNat).cs ad).1, 3) else
  if (C.cel (lookP C.ent (a.th a.cur.toNat).cs ad).1.toNat).cap.ty ≠ want then ((C.cel (lookP C.ent (a.th a.cur.toNat).cs ad).1.toNat).cap, (lookP C.ent (a.th a.cur.toNat).cs ad).1, 4) else
  if bitI .and .u8 (C.cel (lookP C.ent (a.th a.cur.toNat).cs ad).1.toNat).cap.rights need ≠ need then ((C.cel (lookP C.ent (a.th a.cur.toNat).cs ad).1.toNat).cap, (lookP C.ent (a.th a.cur.toNat).cs ad).1, 5) else ((C.cel (lookP C.ent (a.th a.cur.toNat).cs ad).1.toNat).cap, (lookP C.ent (a.th a.cur.toNat).cs ad).1, 0)

theorem Abs.cs (h : Abs S a) (hcur : 0 ≤ S.cur ∧ S.cur < 256) : (a.th a.cur.toNat).cs = (S.tcb S.cur.toNat).cs := by
  rw [h.cu, h.th _ (by omega)]; rfl

theorem Abs.find (h : Abs S a) (hcur : 0 ≤ S.cur ∧ S.cur < 256) (ad want need : Int) : findP S C ad want need = findA a C ad want need := by
  unfold findP findA
  dsimp only
  rw [h.cs hcur]

def sendA (a : AK) (C : CP) (ev : Ev) : AK × CP × Int :=
  if (findA a C ev.addr 4 2).2.2 ≠ 0 then (a, C, (findA a C ev.addr 4 2).2.2) else
  if (ev.ws.length : Int) > 4 then (a, C, 8) else
  let c := (findA a C ev.addr 4 2).1
  let t := a.cur.toNat
  let a5 := a.setT t { msgA (a.th t) ev.ws with badge := c.badge, grant := (bitI .and .u8 c.rights 4 != 0), call := (ev.kind == 5), xfer := ev.xfer }
  if oldestA a5 c.obj 4 = -1 then (blockA a5 t 3 c.obj, C, 0) else
  let d := deliverA a5 C t (oldestA a5 c.obj 4).toNat
  (settleA (wakeA d.1 (oldestA a5 c.obj 4).toNat) d.2.ent t (oldestA a5 c.obj 4).toNat, d.2, 0)

theorem Abs.send (h : Abs S a) (hC : CI C) (he : EvOk ev) (hcur : 0 ≤ S.cur ∧ S.cur < 256) : Abs (sendP S C ev).1 (sendA a C ev).1 ∧ (sendP S C ev).2 = (sendA a C ev).2 := by
  have hn : S.cur.toNat < 256 := by omega
  rw [send_eq]
  unfold sendA
  have hf := find_cases h.ri hC hcur (ad := ev.addr) (want := 4) (need := 2) he.addr.1 (by decide)
  rw [h.find hcur] at hf ⊢
  by_cases e0 : (findA a C ev.addr 4 2).2.2 ≠ 0
  · rw [if_pos e0, if_pos e0]; exact ⟨h, rfl⟩
  rw [if_neg e0, if_neg e0]
  by_cases e1 : (ev.ws.length : Int) > 4
  · rw [if_pos e1, if_pos e1]; exact ⟨h, rfl⟩
  rw [if_neg e1, if_neg e1]
  have ho := hf e0
  generalize (findA a C ev.addr 4 2).1 = c at ho ⊢
  dsimp only
  have h5 : Abs (send5 S ev c) (a.setT a.cur.toNat { msgA (a.th a.cur.toNat) ev.ws with badge := c.badge, grant := (bitI .and .u8 c.rights 4 != 0), call := (ev.kind == 5), xfer := ev.xfer }) := by
    rw [h.cu]
    refine h.one (send5_ok2 ⟨h.ri, _, h.li⟩ hcur).ri (send5_LIQ h.li) ?_ (fun i hi => send5_o hi) ⟨rfl, rfl, rfl⟩ rfl
    rw [send5_t, h.th _ hn, msgA_unl]; rfl
  generalize (a.setT a.cur.toNat { msgA (a.th a.cur.toNat) ev.ws with badge := c.badge, grant := (bitI .and .u8 c.rights 4 != 0), call := (ev.kind == 5), xfer := ev.xfer }) = a5 at h5 ⊢
  rw [h5.oldest ho, h.cu]
  by_cases e2 : oldestA a5 c.obj 4 = -1
  · rw [if_pos e2, if_pos e2]
    exact ⟨h5.block hcur ho (.inl rfl), rfl⟩
  rw [if_neg e2, if_neg e2]
  have hr := h5.oldest_rng ho e2
  have hd := h5.deliver (C := C) hcur hr
  rw [hd.2]
  exact ⟨(hd.1.wake hr).settle _ hcur hr, rfl⟩

theorem Abs.report (h : Abs S a) (hcur : 0 ≤ S.cur ∧ S.cur < 256) (ou : Outp) : reportP S ou = { ou with badge := (a.th a.cur.toNat).badge, m0 := (a.th a.cur.toNat).m0, m1 := (a.th a.cur.toNat).m1, m2 := (a.th a.cur.toNat).m2, m3 := (a.th a.cur.toNat).m3, len := (a.th a.cur.toNat).len, got := (a.th a.cur.toNat).got } := by
  unfold reportP
  rw [h.cu, h.th _ (by omega)]; rfl

def reportA (a : AK) (ou : Outp) : Outp := { ou with badge := (a.th a.cur.toNat).badge, m0 := (a.th a.cur.toNat).m0, m1 := (a.th a.cur.toNat).m1, m2 := (a.th a.cur.toNat).m2, m3 := (a.th a.cur.toNat).m3, len := (a.th a.cur.toNat).len, got := (a.th a.cur.toNat).got }

def recvA (a : AK) (C : CP) (ev : Ev) (ou : Outp) : AK × CP × Outp × Int :=
  if (findA a C ev.addr 4 1).2.2 ≠ 0 then (a, C, ou, (findA a C ev.addr 4 1).2.2) else
  let o := (findA a C ev.addr 4 1).1.obj
  let a1 := a.setT a.cur.toNat { a.th a.cur.toNat with dst := ev.dst }
  if oldestA a1 o 3 = -1 then (blockA a1 a.cur.toNat 4 o, C, ou, 0) else
  let d := deliverA a1 C (oldestA a1 o 3).toNat a.cur.toNat
  let a3 := settleA d.1 d.2.ent (oldestA a1 o 3).toNat a.cur.toNat
  (a3, d.2, reportA a3 ou, 0)

theorem Abs.recv (h : Abs S a) (hC : CI C) (he : EvOk ev) (hcur : 0 ≤ S.cur ∧ S.cur < 256) (ou : Outp) : Abs (recvP S C ev ou).1 (recvA a C ev ou).1 ∧ (recvP S C ev ou).2 = (recvA a C ev ou).2 := by
  have hn : S.cur.toNat < 256 := by omega
  unfold recvP recvA
  dsimp only
  have hf := find_cases h.ri hC hcur (ad := ev.addr) (want := 4) (need := 1) he.addr.1 (by decide)
  rw [h.find hcur] at hf ⊢
  by_cases e0 : (findA a C ev.addr 4 1).2.2 ≠ 0
  · rw [if_pos e0, if_pos e0]; exact ⟨h, rfl⟩
  rw [if_neg e0, if_neg e0]
  have ho := hf e0
  generalize (findA a C ev.addr 4 1).1.obj = o at ho ⊢
  have h1 : Abs (S.setT S.cur.toNat { S.tcb S.cur.toNat with dst := ev.dst }) (a.setT a.cur.toNat { a.th a.cur.toNat with dst := ev.dst }) := by
    rw [h.cu]
    have := h.ri.t hn
    exact h.set ⟨this.nx, this.pv, this.pr, this.wi, this.ci, this.ri, he.dst⟩ ⟨rfl, rfl⟩ rfl rfl (by rw [h.th _ hn]; rfl)
  have hst : (S.setT S.cur.toNat { S.tcb S.cur.toNat with dst := ev.dst }).cur = S.cur := rfl
  rw [hst]
  have hcu := h.cu
  have hst2 : ∀ i, ((S.setT S.cur.toNat { S.tcb S.cur.toNat with dst := ev.dst }).tcb i).st = (S.tcb i).st := fun i => setT_st (a := { S.tcb S.cur.toNat with dst := ev.dst }) rfl i
  have hs2 : (S.tcb S.cur.toNat).st = 2 := (h.li.cu S.cur.toNat hn).2 (by omega)
  generalize a.setT a.cur.toNat { a.th a.cur.toNat with dst := ev.dst } = a1 at h1 ⊢
  generalize S.setT S.cur.toNat { S.tcb S.cur.toNat with dst := ev.dst } = S1 at h1 hst hst2 ⊢
  rw [h1.oldest ho, hcu]
  by_cases e2 : oldestA a1 o 3 = -1
  · rw [if_pos e2, if_pos e2]
    exact ⟨h1.block hcur ho (.inr (.inl rfl)), rfl⟩
  rw [if_neg e2, if_neg e2]
  have hr := h1.oldest_rng ho e2
  have hd := h1.deliver (C := C) hr hcur
  rw [deliver_cur, hst, hd.2]
  have h3 := hd.1.settle (deliverA a1 C (oldestA a1 o 3).toNat S.cur.toNat).2.ent hr hcur
  have hos : (S1.tcb (oldestA a1 o 3).toNat).st = 3 := by
    rw [← h1.oldest ho] at e2 ⊢; exact oldest_st e2
  have hc3 : (settleP (deliverP S1 C (oldestA a1 o 3) S.cur).1 (deliverA a1 C (oldestA a1 o 3).toNat S.cur.toNat).2.ent (oldestA a1 o 3) S.cur).cur = S.cur := by
    rw [settle_cur (by rw [deliver_st, hos]; decide), deliver_cur, hst]
  refine ⟨h3, ?_⟩
  rw [h3.report (by rw [hc3]; exact hcur)]
  rfl

def replyA (a : AK) (C : CP) (ev : Ev) : AK × Int :=
  let c := a.cur.toNat
  if (a.th c).rep = ⟨0, 0⟩ then (a, 12) else
  if (ev.ws.length : Int) > 4 then (a, 8) else
  let t := (a.th c).rep.idx.toNat
  if typeOfP C.ent (a.th c).rep ≠ 3 ∨ (a.th t).st ≠ 6 ∨ (a.th t).wait ≠ refP C.ent a.cur then (a, 13) else
  let a3 := a.setT t { msgA (a.th t) ev.ws with badge := 0, got := 0 }
  let a4 := wakeA a3 t
  (a4.setT c { a4.th c with rep := ⟨0, 0⟩ }, 0)

theorem Abs.reply (h : Abs S a) (hcur : 0 ≤ S.cur ∧ S.cur < 256) : Abs (replyP S C ev).1 (replyA a C ev).1 ∧ (replyP S C ev).2 = (replyA a C ev).2 := by
  have hn : S.cur.toNat < 256 := by omega
  have hri := (h.ri.t hn).ri
  have e1 : (a.th a.cur.toNat).rep = (S.tcb S.cur.toNat).rep := by rw [h.cu, h.th _ hn]; rfl
  have e2 : (a.th (S.tcb S.cur.toNat).rep.idx.toNat).st = (S.tcb (S.tcb S.cur.toNat).rep.idx.toNat).st := by rw [h.th _ (by omega)]; rfl
  have e3 : (a.th (S.tcb S.cur.toNat).rep.idx.toNat).wait = (S.tcb (S.tcb S.cur.toNat).rep.idx.toNat).wait := by rw [h.th _ (by omega)]; rfl
  unfold replyP replyA
  dsimp only
  rw [e1, e2, e3, h.cu]
  split
  · exact ⟨h, rfl⟩
  split
  · exact ⟨h, rfl⟩
  split
  · exact ⟨h, rfl⟩
  have h1 := h.load hri ev.ws
  have h2 := h1.like (t := (S.tcb S.cur.toNat).rep.idx.toNat) (by omega) (y := { (loadP S (S.tcb S.cur.toNat).rep.idx ev.ws).tcb (S.tcb S.cur.toNat).rep.idx.toNat with badge := 0 }) ⟨rfl, rfl, rfl, rfl, rfl, rfl, rfl, rfl⟩ rfl
  have h3 := h2.like (t := (S.tcb S.cur.toNat).rep.idx.toNat) (by omega) (y := { ((loadP S (S.tcb S.cur.toNat).rep.idx ev.ws).setT (S.tcb S.cur.toNat).rep.idx.toNat { (loadP S (S.tcb S.cur.toNat).rep.idx ev.ws).tcb (S.tcb S.cur.toNat).rep.idx.toNat with badge := 0 }).tcb (S.tcb S.cur.toNat).rep.idx.toNat with got := 0 }) ⟨rfl, rfl, rfl, rfl, rfl, rfl, rfl, rfl⟩ rfl
  have ea : ((a.setT (S.tcb S.cur.toNat).rep.idx.toNat (msgA (a.th (S.tcb S.cur.toNat).rep.idx.toNat) ev.ws)).setT (S.tcb S.cur.toNat).rep.idx.toNat (unl { (loadP S (S.tcb S.cur.toNat).rep.idx ev.ws).tcb (S.tcb S.cur.toNat).rep.idx.toNat with badge := 0 })).setT (S.tcb S.cur.toNat).rep.idx.toNat (unl { ((loadP S (S.tcb S.cur.toNat).rep.idx ev.ws).setT (S.tcb S.cur.toNat).rep.idx.toNat { (loadP S (S.tcb S.cur.toNat).rep.idx ev.ws).tcb (S.tcb S.cur.toNat).rep.idx.toNat with badge := 0 }).tcb (S.tcb S.cur.toNat).rep.idx.toNat with got := 0 }) = a.setT (S.tcb S.cur.toNat).rep.idx.toNat { msgA (a.th (S.tcb S.cur.toNat).rep.idx.toNat) ev.ws with badge := 0, got := 0 } := by
    unfold AK.setT
    dsimp only
    congr 1
    funext j
    by_cases e : j = (S.tcb S.cur.toNat).rep.idx.toNat
    · subst e
      rw [upd_same, upd_same, setT_same, load_t, h.th _ (by omega), msgA_unl]; rfl
    · rw [upd_other _ _ e, upd_other _ _ e, upd_other _ _ e, upd_other _ _ e]
  rw [ea] at h3
  have h4 := h3.wake hri
  refine ⟨?_, rfl⟩
  have := h4.ri.t hn
  exact h4.set ⟨this.nx, this.pv, this.pr, this.wi, this.ci, z256, this.ds⟩ ⟨rfl, rfl⟩ rfl rfl (by rw [h4.th _ hn]; rfl)

def waitA (a : AK) (C : CP) (ev : Ev) (ou : Outp) : AK × Outp × Int :=
  if (findA a C ev.addr 5 1).2.2 ≠ 0 then (a, ou, (findA a C ev.addr 5 1).2.2) else
  let o := (findA a C ev.addr 5 1).1.obj
  if a.word o.idx.toNat = 0 then (blockA a a.cur.toNat 5 o, ou, 0) else
  let a1 := (a.setT a.cur.toNat { a.th a.cur.toNat with badge := a.word o.idx.toNat }).setW o.idx.toNat 0
  (a1, reportA a1 ou, 0)

theorem Abs.wait (h : Abs S a) (hC : CI C) (he : EvOk ev) (hcur : 0 ≤ S.cur ∧ S.cur < 256) (ou : Outp) : Abs (waitP S C ev ou).1 (waitA a C ev ou).1 ∧ (waitP S C ev ou).2 = (waitA a C ev ou).2 := by
  have hn : S.cur.toNat < 256 := by omega
  unfold waitP waitA
  dsimp only
  have hf := find_cases h.ri hC hcur (ad := ev.addr) (want := 5) (need := 1) he.addr.1 (by decide)
  rw [h.find hcur] at hf ⊢
  by_cases e0 : (findA a C ev.addr 5 1).2.2 ≠ 0
  · rw [if_pos e0, if_pos e0]; exact ⟨h, rfl⟩
  rw [if_neg e0, if_neg e0]
  have ho := hf e0
  generalize (findA a C ev.addr 5 1).1.obj = o at ho ⊢
  rw [h.wd _ (by omega)]
  by_cases e1 : S.word o.idx.toNat = 0
  · rw [if_pos e1, if_pos e1, h.cu]
    exact ⟨h.block hcur ho (.inr (.inr (.inl rfl))), rfl⟩
  rw [if_neg e1, if_neg e1, h.cu]
  have h1 := h.like (t := S.cur.toNat) hn (y := { S.tcb S.cur.toNat with badge := S.word o.idx.toNat }) (x := { a.th S.cur.toNat with badge := S.word o.idx.toNat }) ⟨rfl, rfl, rfl, rfl, rfl, rfl, rfl, rfl⟩ (by rw [h.th _ hn]; rfl)
  have h2 := h1.setWord (i := o.idx.toNat) 0
  exact ⟨h2, by rw [h2.report hcur]; rfl⟩

def interruptA (a : AK) (C : CP) (l : Int) : AK × Int :=
  if l ≥ 16 then (a, 8) else
  if typeOfP C.ent (a.irq l.toNat).ntfn ≠ 5 then (a, 14) else
  if (a.irq l.toNat).masked = true then (a, 15) else
  (signalA (a.setI l.toNat { a.irq l.toNat with masked := true }) (a.irq l.toNat).ntfn (a.irq l.toNat).badge, 0)

theorem Abs.interrupt (h : Abs S a) {l : Int} (hl : 0 ≤ l) : Abs (interruptP S C l).1 (interruptA a C l).1 ∧ (interruptP S C l).2 = (interruptA a C l).2 := by
  unfold interruptP interruptA
  dsimp only
  by_cases e0 : l ≥ 16
  · rw [if_pos e0, if_pos e0]; exact ⟨h, rfl⟩
  rw [if_neg e0, if_neg e0, h.ir _ (by omega)]
  split
  · exact ⟨h, rfl⟩
  split
  · exact ⟨h, rfl⟩
  have hq := h.ri.irq (i := l.toNat) (by omega)
  have h1 := h.setI (i := l.toNat) (q := { S.irq l.toNat with masked := true }) hq
  have e : (S.setI l.toNat { S.irq l.toNat with masked := true }).irq l.toNat = { S.irq l.toNat with masked := true } := upd_same _ _ _
  rw [e]
  exact ⟨h1.signal hq _, rfl⟩

def lineA (a : AK) (C : CP) (ev : Ev) : AK × Int :=
  if ev.arg ≥ 16 then (a, 8) else
  if ev.kind = 18 then
    if (findA a C ev.addr 5 2).2.2 = 0 then (a.setI ev.arg.toNat ⟨(findA a C ev.addr 5 2).1.obj, (findA a C ev.addr 5 2).1.badge, false⟩, (findA a C ev.addr 5 2).2.2) else (a, (findA a C ev.addr 5 2).2.2)
  else
  if (a.irq ev.arg.toNat).ntfn = ⟨0, 0⟩ then (a, 14) else
  if (a.irq ev.arg.toNat).masked = false then (a, 11) else
  (a.setI ev.arg.toNat { a.irq ev.arg.toNat with masked := false }, 0)

theorem Abs.line (h : Abs S a) (hC : CI C) (he : EvOk ev) (hcur : 0 ≤ S.cur ∧ S.cur < 256) : Abs (lineP S C ev).1 (lineA a C ev).1 ∧ (lineP S C ev).2 = (lineA a C ev).2 := by
  have ha := he.arg
  unfold lineP lineA
  dsimp only
  by_cases e0 : ev.arg ≥ 16
  · rw [if_pos e0, if_pos e0]; exact ⟨h, rfl⟩
  rw [if_neg e0, if_neg e0]
  have hf := find_cases h.ri hC hcur (ad := ev.addr) (want := 5) (need := 2) he.addr.1 (by decide)
  rw [h.find hcur] at hf ⊢
  split
  · split
    · rename_i e1
      exact ⟨h.setI (hf (by rw [e1]; simp)), rfl⟩
    · exact ⟨h, rfl⟩
  · rw [h.ir _ (by omega)]
    split
    · exact ⟨h, rfl⟩
    split
    · exact ⟨h, rfl⟩
    exact ⟨h.setI (q := { S.irq ev.arg.toNat with masked := false }) (h.ri.irq (i := ev.arg.toNat) (by omega)), rfl⟩

def controlA (a : AK) (C : CP) (ev : Ev) : AK × Int :=
  if (findA a C ev.addr 3 2).2.2 ≠ 0 then (a, (findA a C ev.addr 3 2).2.2) else
  let t := (findA a C ev.addr 3 2).1.obj.idx.toNat
  if ev.kind = 14 then
    if (findA a C ev.node 2 1).2.2 ≠ 0 then (a, (findA a C ev.node 2 1).2.2) else
    (a.setT t { a.th t with cs := (findA a C ev.node 2 1).1.obj }, 0)
  else if ev.kind = 15 then
    if ev.arg ≥ 8 then (a, 8) else
    if (a.th t).st ≠ 1 then (a.setT t { a.th t with prio := ev.arg }, 0) else
    (wakeA ((leaveA a t).setT t { (leaveA a t).th t with prio := ev.arg }) t, 0)
  else if ev.kind = 16 then
    if (a.th t).st ≠ 0 then (a, 11) else (wakeA a t, 0)
  else if ev.kind = 17 then
    if (a.th t).st = 0 then (a, 11) else (leaveA a t, 0)
  else (a, 0)

theorem Abs.control (h : Abs S a) (hC : CI C) (he : EvOk ev) (hcur : 0 ≤ S.cur ∧ S.cur < 256) : Abs (controlP S C ev).1 (controlA a C ev).1 ∧ (controlP S C ev).2 = (controlA a C ev).2 := by
  have hag := he.arg
  unfold controlP controlA
  dsimp only
  have hf := find_cases h.ri hC hcur (ad := ev.addr) (want := 3) (need := 2) he.addr.1 (by decide)
  have hg := find_cases h.ri hC hcur (ad := ev.node) (want := 2) (need := 1) he.node.1 (by decide)
  rw [h.find hcur] at hf hg ⊢
  rw [h.find hcur]
  by_cases e0 : (findA a C ev.addr 3 2).2.2 ≠ 0
  · rw [if_pos e0, if_pos e0]; exact ⟨h, rfl⟩
  rw [if_neg e0, if_neg e0]
  have ho := hf e0
  generalize (findA a C ev.addr 3 2).1.obj.idx = t at ho ⊢
  have hn : t.toNat < 256 := by omega
  have hT := h.ri.t hn
  have est : (a.th t.toNat).st = (S.tcb t.toNat).st := by rw [h.th _ hn]; rfl
  split
  · by_cases e1 : (findA a C ev.node 2 1).2.2 ≠ 0
    · rw [if_pos e1, if_pos e1]; exact ⟨h, rfl⟩
    rw [if_neg e1, if_neg e1]
    exact ⟨h.set (y := { S.tcb t.toNat with cs := (findA a C ev.node 2 1).1.obj }) ⟨hT.nx, hT.pv, hT.pr, hT.wi, hg e1, hT.ri, hT.ds⟩ ⟨rfl, rfl⟩ rfl rfl (by rw [h.th _ hn]; rfl), rfl⟩
  split
  · by_cases e1 : ev.arg ≥ 8
    · rw [if_pos e1, if_pos e1]; exact ⟨h, rfl⟩
    rw [if_neg e1, if_neg e1, est]
    by_cases e2 : (S.tcb t.toNat).st ≠ 1
    · rw [if_pos e2, if_pos e2]
      exact ⟨h.set (y := { S.tcb t.toNat with prio := ev.arg }) ⟨hT.nx, hT.pv, ⟨hag.1, show ev.arg < 8 by omega⟩, hT.wi, hT.ci, hT.ri, hT.ds⟩ ⟨rfl, rfl⟩ rfl (by unfold place; dsimp only; rw [if_neg e2, if_neg e2]) (by rw [h.th _ hn]; rfl), rfl⟩
    rw [if_neg e2, if_neg e2]
    have h1 := h.leave ho
    have hT1 := h1.ri.t hn
    have hs1 : ((leaveP S t).tcb t.toNat).st = 0 := by
      have := sw_leave S t t.toNat; rw [if_pos rfl] at this; exact congrArg Prod.fst this
    have h2 := h1.set (t := t.toNat) (y := { (leaveP S t).tcb t.toNat with prio := ev.arg }) (x := { (leaveA a t.toNat).th t.toNat with prio := ev.arg }) ⟨hT1.nx, hT1.pv, ⟨hag.1, show ev.arg < 8 by omega⟩, hT1.wi, hT1.ci, hT1.ri, hT1.ds⟩ ⟨rfl, rfl⟩ rfl (by unfold place; dsimp only; rw [hs1]; rfl) (by rw [h1.th _ hn]; rfl)
    exact ⟨h2.wake ho, rfl⟩
  split
  · rw [est]
    split
    · exact ⟨h, rfl⟩
    · exact ⟨h.wake ho, rfl⟩
  split
  · rw [est]
    split
    · exact ⟨h, rfl⟩
    · exact ⟨h.leave ho, rfl⟩
  · exact ⟨h, rfl⟩

def drawA (a : AK) (d : Int) : AK := a.setT a.cur.toNat { a.th a.cur.toNat with m0 := d, m1 := 0, m2 := 0, m3 := 0, len := 1 }

theorem Abs.draw (h : Abs S a) (hcur : 0 ≤ S.cur ∧ S.cur < 256) (d : Int) : Abs (drawP S d) (drawA a d) := by
  have hn : S.cur.toNat < 256 := by omega
  unfold drawA
  rw [h.cu]
  refine h.one (draw_ok2 ⟨h.ri, _, h.li⟩ hcur d).ri ?_ ?_ (fun i hi => ?_) ⟨rfl, rfl, rfl⟩ rfl
  · unfold drawP; dsimp only
    refine LIQ.like (LIQ.like h.li ?_) ?_ <;> exact ⟨rfl, rfl, rfl, rfl, rfl, rfl, rfl, rfl⟩
  · unfold drawP; dsimp only
    rw [setT_same, setT_same, h.th _ hn]; rfl
  · unfold drawP; dsimp only
    rw [setT_other _ _ hi, setT_other _ _ hi]

def sigA (a : AK) (C : CP) (ev : Ev) : AK × Int :=
  if (findA a C ev.addr 5 2).2.2 = 0 then (signalA a (findA a C ev.addr 5 2).1.obj (findA a C ev.addr 5 2).1.badge, (findA a C ev.addr 5 2).2.2) else (a, (findA a C ev.addr 5 2).2.2)

theorem Abs.sig (h : Abs S a) (hC : CI C) (he : EvOk ev) (hcur : 0 ≤ S.cur ∧ S.cur < 256) : Abs (sigP S C ev).1 (sigA a C ev).1 ∧ (sigP S C ev).2 = (sigA a C ev).2 := by
  unfold sigP sigA
  dsimp only
  have hf := find_cases h.ri hC hcur (ad := ev.addr) (want := 5) (need := 2) he.addr.1 (by decide)
  rw [h.find hcur] at hf ⊢
  split
  · rename_i e1
    exact ⟨h.signal (hf (by rw [e1]; simp)) _, rfl⟩
  · exact ⟨h, rfl⟩

end
end Go.Kn
