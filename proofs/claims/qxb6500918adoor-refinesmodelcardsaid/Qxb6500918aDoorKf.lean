/-
  The kernel's queues as plain functions; the ranges that keep every index inside its array.
-/
import Derived.Test.Qxb6500918aDoorSxP
import Derived.Test.Qxb6500918aDoorKd
namespace Go.Kn
open Go.Sx

theorem k_in {bo bc : Nat} {S : KP} {o : Nat} (h : o ≤ 6493) : Nat.ble o (kC bo bc S).length = true := by rw [k_len]; exact Nat.ble_eq_true_of_le h

theorem q_in2 {L : QL} (h : L.ok) {o : Nat} (ho : o ≤ L.off + 3) : o ≤ 6493 := Nat.le_trans ho (q_in h (Nat.le_refl _))

theorem z256 : (0 : Int) ≤ 0 ∧ (0 : Int) < 256 := by decide

/-- nobody, or a slot. -/
def lk (x : Int) : Prop := x = -1 ∨ (0 ≤ x ∧ x < 256)

structure TOk (t : Tcb) : Prop where
  nx : lk t.next
  pv : lk t.prev
  pr : 0 ≤ t.prio ∧ t.prio < 8
  wi : 0 ≤ t.wait.idx ∧ t.wait.idx < 256
  ci : 0 ≤ t.cs.idx ∧ t.cs.idx < 256
  ri : 0 ≤ t.rep.idx ∧ t.rep.idx < 256
  ds : 0 ≤ t.dst ∧ t.dst < 4294967296

structure QOk (q : Qu) : Prop where
  hd : lk q.head
  tl : lk q.tail

structure RI (S : KP) : Prop where
  t : ∀ {i : Nat}, i < 256 → TOk (S.tcb i)
  q : ∀ {L : QL}, L.ok → QOk (S.q L)
  cur : lk S.cur
  irq : ∀ {i : Nat}, i < 16 → 0 ≤ (S.irq i).ntfn.idx ∧ (S.irq i).ntfn.idx < 256

theorem setT_q (S : KP) (i : Nat) (a : Tcb) (L : QL) : (S.setT i a).q L = S.q L := by cases L <;> rfl
theorem setT_same (S : KP) (i : Nat) (a : Tcb) : (S.setT i a).tcb i = a := upd_same _ _ _
theorem setT_other (S : KP) {i j : Nat} (a : Tcb) (h : j ≠ i) : (S.setT i a).tcb j = S.tcb j := upd_other _ _ h
theorem setQ_tcb (S : KP) (L : QL) (q : Qu) : (S.setQ L q).tcb = S.tcb := by cases L <;> rfl
theorem setQ_cur (S : KP) (L : QL) (q : Qu) : (S.setQ L q).cur = S.cur := by cases L <;> rfl
theorem setQ_irq (S : KP) (L : QL) (q : Qu) : (S.setQ L q).irq = S.irq := by cases L <;> rfl
theorem setQ_same (S : KP) (L : QL) (q : Qu) : (S.setQ L q).q L = q := by cases L <;> simp [KP.setQ, KP.q, upd_same]
theorem setQ_other (S : KP) {L L' : QL} (q : Qu) (h : L' ≠ L) : (S.setQ L q).q L' = S.q L' := by
  cases L <;> cases L' <;> simp only [KP.setQ, KP.q]
  · exact upd_other _ _ (fun e => h (by rw [e]))
  · exact upd_other _ _ (fun e => h (by rw [e]))

theorem RI.setT {S : KP} (h : RI S) {i : Nat} {a : Tcb} (ha : TOk a) : RI (S.setT i a) where
  t {j} hj := by
    by_cases e : j = i
    · subst e; rw [setT_same]; exact ha
    · rw [setT_other _ _ e]; exact h.t hj
  q {L} hL := by rw [setT_q]; exact h.q hL
  cur := h.cur
  irq := h.irq

theorem RI.setQ {S : KP} (h : RI S) {L : QL} {q : Qu} (hq : QOk q) : RI (S.setQ L q) where
  t {j} hj := by rw [setQ_tcb]; exact h.t hj
  q {L'} hL := by
    by_cases e : L' = L
    · subst e; rw [setQ_same]; exact hq
    · rw [setQ_other _ _ e]; exact h.q hL
  cur := by rw [setQ_cur]; exact h.cur
  irq {i} hi := by rw [setQ_irq]; exact h.irq hi

theorem RI.setCur {S : KP} (h : RI S) {c : Int} (hc : lk c) : RI { S with cur := c } := ⟨h.t, fun {L} hL => by have := h.q hL; cases L <;> exact this, hc, h.irq⟩
theorem RI.setBusy {S : KP} (h : RI S) (c : Int) : RI { S with busy := c } := ⟨h.t, fun {L} hL => by have := h.q hL; cases L <;> exact this, h.cur, h.irq⟩
theorem RI.setNow {S : KP} (h : RI S) (c : Int) : RI { S with now := c } := ⟨h.t, fun {L} hL => by have := h.q hL; cases L <;> exact this, h.cur, h.irq⟩
theorem RI.setWord {S : KP} (h : RI S) (f : Nat → Int) : RI { S with word := f } := ⟨h.t, fun {L} hL => by have := h.q hL; cases L <;> exact this, h.cur, h.irq⟩
theorem RI.setIrq {S : KP} (h : RI S) {i : Nat} {q : Irq} (hq : 0 ≤ q.ntfn.idx ∧ q.ntfn.idx < 256) : RI { S with irq := upd S.irq i q } := ⟨h.t, fun {L} hL => by have := h.q hL; cases L <;> exact this, h.cur, fun {j} hj => by
  by_cases e : j = i
  · subst e; show 0 ≤ (upd S.irq j q j).ntfn.idx ∧ (upd S.irq j q j).ntfn.idx < 256; rw [upd_same]; exact hq
  · show 0 ≤ (upd S.irq i q j).ntfn.idx ∧ (upd S.irq i q j).ntfn.idx < 256; rw [upd_other _ _ e]; exact h.irq hj⟩

/-! The queues' operations -/

def pushP (S : KP) (L : QL) (t : Int) : KP :=
  let S1 := S.setT t.toNat { S.tcb t.toNat with prev := (S.q L).tail }
  let S2 := S1.setT t.toNat { S1.tcb t.toNat with next := -1 }
  let S3 := if (S2.q L).tail = -1 then S2.setQ L { S2.q L with head := t } else S2.setT (S2.q L).tail.toNat { S2.tcb (S2.q L).tail.toNat with next := t }
  let S4 := S3.setQ L { S3.q L with tail := t }
  S4.setQ L { S4.q L with n := IntKind.wrap .u32 ((S4.q L).n + 1) }

def unlinkP (S : KP) (L : QL) (t : Int) : KP :=
  let prev := (S.tcb t.toNat).prev
  let next := (S.tcb t.toNat).next
  let S1 := if prev = -1 then S.setQ L { S.q L with head := next } else S.setT prev.toNat { S.tcb prev.toNat with next := next }
  let S2 := if next = -1 then S1.setQ L { S1.q L with tail := prev } else S1.setT next.toNat { S1.tcb next.toNat with prev := prev }
  S2.setQ L { S2.q L with n := IntKind.wrap .u32 ((S2.q L).n - 1) }

def leave1 (S : KP) (t : Int) : KP :=
  if (S.tcb t.toNat).st = 2 then { S with cur := -1 }
  else if (S.tcb t.toNat).st = 1 then
    let S1 := unlinkP S (.r (S.tcb t.toNat).prio.toNat) t
    if (S1.rdy (S1.tcb t.toNat).prio.toNat).n = 0 then { S1 with busy := bitI .andNot .u8 S1.busy (shlI .u8 1 (S1.tcb t.toNat).prio) } else S1
  else if (S.tcb t.toNat).st = 3 ∨ (S.tcb t.toNat).st = 4 ∨ (S.tcb t.toNat).st = 5 then unlinkP S (.w (S.tcb t.toNat).wait.idx.toNat) t
  else S

def leaveP (S : KP) (t : Int) : KP :=
  let S1 := leave1 S t
  let S2 := S1.setT t.toNat { S1.tcb t.toNat with st := 0 }
  S2.setT t.toNat { S2.tcb t.toNat with wait := ⟨0, 0⟩ }

def wakeP (S : KP) (t : Int) : KP :=
  let S1 := leaveP S t
  let S2 := S1.setT t.toNat { S1.tcb t.toNat with st := 1 }
  let S3 := pushP S2 (.r (S2.tcb t.toNat).prio.toNat) t
  { S3 with busy := bitI .or .u8 S3.busy (shlI .u8 1 (S3.tcb t.toNat).prio) }

def blockP (S : KP) (t s : Int) (on : Rf) : KP :=
  let S1 := leaveP S t
  let S2 := S1.setT t.toNat { S1.tcb t.toNat with st := s }
  let S3 := S2.setT t.toNat { S2.tcb t.toNat with wait := on }
  if s = 6 then S3 else pushP S3 (.w on.idx.toNat) t

def oldestP (S : KP) (o : Rf) (s : Int) : Int :=
  if (S.wq o.idx.toNat).head ≠ -1 ∧ (S.tcb (S.wq o.idx.toNat).head.toNat).st = s then (S.wq o.idx.toNat).head else -1

def signalP (S : KP) (o : Rf) (b : Int) : KP :=
  if oldestP S o 5 ≠ -1 then wakeP (S.setT (oldestP S o 5).toNat { S.tcb (oldestP S o 5).toNat with badge := b }) (oldestP S o 5)
  else { S with word := upd S.word o.idx.toNat (bitI .or .u64 (S.word o.idx.toNat) b) }

/-- What a step answers. -/
structure Outp where
  code : Int
  run : Rf
  badge : Int
  m0 : Int
  m1 : Int
  m2 : Int
  m3 : Int
  len : Int
  got : Int

def outC (o : Outp) : List Value := [.int .u8 o.code, .int .u16 o.run.idx, .int .u32 o.run.gen, .int .u64 o.badge, .int .u64 o.m0, .int .u64 o.m1, .int .u64 o.m2, .int .u64 o.m3, .int .u8 o.len, .int .u8 o.got]
def out0 : Outp := ⟨0, ⟨0, 0⟩, 0, 0, 0, 0, 0, 0, 0⟩

def reportP (S : KP) (o : Outp) : Outp :=
  let x := S.tcb S.cur.toNat
  { o with badge := x.badge, m0 := x.m0, m1 := x.m1, m2 := x.m2, m3 := x.m3, len := x.len, got := x.got }

theorem lk_nat {x : Int} (h : lk x) (hne : x ≠ -1) : 0 ≤ x ∧ x < 256 := h.resolve_left hne

theorem push_RI {S : KP} (h : RI S) {L : QL} (hL : L.ok) {t : Int} (ht : 0 ≤ t ∧ t < 256) : RI (pushP S L t) := by
  have htn : t.toNat < 256 := by omega
  have h1 := h.setT (i := t.toNat) (a := { S.tcb t.toNat with prev := (S.q L).tail }) ⟨(h.t htn).nx, (h.q hL).tl, (h.t htn).pr, (h.t htn).wi, (h.t htn).ci, (h.t htn).ri, (h.t htn).ds⟩
  have h2 := h1.setT (i := t.toNat) (a := { (S.setT t.toNat { S.tcb t.toNat with prev := (S.q L).tail }).tcb t.toNat with next := -1 }) ⟨.inl rfl, (h1.t htn).pv, (h1.t htn).pr, (h1.t htn).wi, (h1.t htn).ci, (h1.t htn).ri, (h1.t htn).ds⟩
  unfold pushP
  simp only
  have h3 : ∀ S3, RI S3 → RI ((S3.setQ L { S3.q L with tail := t }).setQ L { (S3.setQ L { S3.q L with tail := t }).q L with n := IntKind.wrap .u32 (((S3.setQ L { S3.q L with tail := t }).q L).n + 1) }) := by
    intro S3 g3
    have g4 := g3.setQ (L := L) (q := { S3.q L with tail := t }) ⟨(g3.q hL).hd, .inr ht⟩
    exact g4.setQ ⟨(g4.q hL).hd, (g4.q hL).tl⟩
  apply h3
  split
  · exact h2.setQ ⟨.inr ht, (h2.q hL).tl⟩
  · rename_i hne
    have hb := lk_nat (h2.q hL).tl hne
    have hbn : (((S.setT t.toNat { S.tcb t.toNat with prev := (S.q L).tail }).setT t.toNat { (S.setT t.toNat { S.tcb t.toNat with prev := (S.q L).tail }).tcb t.toNat with next := -1 }).q L).tail.toNat < 256 := by omega
    exact h2.setT ⟨.inr ht, (h2.t hbn).pv, (h2.t hbn).pr, (h2.t hbn).wi, (h2.t hbn).ci, (h2.t hbn).ri, (h2.t hbn).ds⟩

theorem unlink_RI {S : KP} (h : RI S) {L : QL} (hL : L.ok) {t : Int} (ht : 0 ≤ t ∧ t < 256) : RI (unlinkP S L t) := by
  have htn : t.toNat < 256 := by omega
  have hp := (h.t htn).pv
  have hn := (h.t htn).nx
  unfold unlinkP
  simp only
  have h1 : RI (if (S.tcb t.toNat).prev = -1 then S.setQ L { S.q L with head := (S.tcb t.toNat).next } else S.setT (S.tcb t.toNat).prev.toNat { S.tcb (S.tcb t.toNat).prev.toNat with next := (S.tcb t.toNat).next }) := by
    split
    · exact h.setQ ⟨hn, (h.q hL).tl⟩
    · rename_i hne
      have hb := lk_nat hp hne
      have hbn : (S.tcb t.toNat).prev.toNat < 256 := by omega
      exact h.setT ⟨hn, (h.t hbn).pv, (h.t hbn).pr, (h.t hbn).wi, (h.t hbn).ci, (h.t hbn).ri, (h.t hbn).ds⟩
  generalize (if (S.tcb t.toNat).prev = -1 then S.setQ L { S.q L with head := (S.tcb t.toNat).next } else S.setT (S.tcb t.toNat).prev.toNat { S.tcb (S.tcb t.toNat).prev.toNat with next := (S.tcb t.toNat).next }) = S1 at h1 ⊢
  have h2 : RI (if (S.tcb t.toNat).next = -1 then S1.setQ L { S1.q L with tail := (S.tcb t.toNat).prev } else S1.setT (S.tcb t.toNat).next.toNat { S1.tcb (S.tcb t.toNat).next.toNat with prev := (S.tcb t.toNat).prev }) := by
    split
    · exact h1.setQ ⟨(h1.q hL).hd, hp⟩
    · rename_i hne
      have hb := lk_nat hn hne
      have hbn : (S.tcb t.toNat).next.toNat < 256 := by omega
      exact h1.setT ⟨(h1.t hbn).nx, hp, (h1.t hbn).pr, (h1.t hbn).wi, (h1.t hbn).ci, (h1.t hbn).ri, (h1.t hbn).ds⟩
  generalize (if (S.tcb t.toNat).next = -1 then S1.setQ L { S1.q L with tail := (S.tcb t.toNat).prev } else S1.setT (S.tcb t.toNat).next.toNat { S1.tcb (S.tcb t.toNat).next.toNat with prev := (S.tcb t.toNat).prev }) = S2 at h2 ⊢
  exact h2.setQ ⟨(h2.q hL).hd, (h2.q hL).tl⟩

theorem leave1_RI {S : KP} (h : RI S) {t : Int} (ht : 0 ≤ t ∧ t < 256) : RI (leave1 S t) := by
  have htn : t.toNat < 256 := by omega
  have hpr := (h.t htn).pr
  have hwi := (h.t htn).wi
  unfold leave1
  split
  · exact h.setCur (.inl rfl)
  · split
    · have h1 := unlink_RI h (L := .r (S.tcb t.toNat).prio.toNat) (show (S.tcb t.toNat).prio.toNat < 8 by omega) ht
      simp only
      split
      · exact h1.setBusy _
      · exact h1
    · split
      · exact unlink_RI h (L := .w (S.tcb t.toNat).wait.idx.toNat) (show (S.tcb t.toNat).wait.idx.toNat < 256 by omega) ht
      · exact h

theorem leave_RI {S : KP} (h : RI S) {t : Int} (ht : 0 ≤ t ∧ t < 256) : RI (leaveP S t) := by
  have htn : t.toNat < 256 := by omega
  have h1 := leave1_RI h ht
  have h2 := h1.setT (i := t.toNat) (a := { (leave1 S t).tcb t.toNat with st := 0 }) ⟨(h1.t htn).nx, (h1.t htn).pv, (h1.t htn).pr, (h1.t htn).wi, (h1.t htn).ci, (h1.t htn).ri, (h1.t htn).ds⟩
  exact h2.setT ⟨(h2.t htn).nx, (h2.t htn).pv, (h2.t htn).pr, z256, (h2.t htn).ci, (h2.t htn).ri, (h2.t htn).ds⟩

theorem wake_RI {S : KP} (h : RI S) {t : Int} (ht : 0 ≤ t ∧ t < 256) : RI (wakeP S t) := by
  have htn : t.toNat < 256 := by omega
  have h1 := leave_RI h ht
  have h2 := h1.setT (i := t.toNat) (a := { (leaveP S t).tcb t.toNat with st := 1 }) ⟨(h1.t htn).nx, (h1.t htn).pv, (h1.t htn).pr, (h1.t htn).wi, (h1.t htn).ci, (h1.t htn).ri, (h1.t htn).ds⟩
  have hp := (h2.t htn).pr
  have h3 := push_RI h2 (L := .r (((leaveP S t).setT t.toNat { (leaveP S t).tcb t.toNat with st := 1 }).tcb t.toNat).prio.toNat) (show _ < 8 by omega) ht
  exact h3.setBusy _

theorem block_RI {S : KP} (h : RI S) {t : Int} (ht : 0 ≤ t ∧ t < 256) {s : Int} {on : Rf} (ho : 0 ≤ on.idx ∧ on.idx < 256) : RI (blockP S t s on) := by
  have htn : t.toNat < 256 := by omega
  have h1 := leave_RI h ht
  have h2 := h1.setT (i := t.toNat) (a := { (leaveP S t).tcb t.toNat with st := s }) ⟨(h1.t htn).nx, (h1.t htn).pv, (h1.t htn).pr, (h1.t htn).wi, (h1.t htn).ci, (h1.t htn).ri, (h1.t htn).ds⟩
  have h3 := h2.setT (i := t.toNat) (a := { ((leaveP S t).setT t.toNat { (leaveP S t).tcb t.toNat with st := s }).tcb t.toNat with wait := on }) ⟨(h2.t htn).nx, (h2.t htn).pv, (h2.t htn).pr, ho, (h2.t htn).ci, (h2.t htn).ri, (h2.t htn).ds⟩
  unfold blockP
  simp only
  split
  · exact h3
  · exact push_RI h3 (L := .w on.idx.toNat) (show on.idx.toNat < 256 by omega) ht

theorem oldest_lk {S : KP} (h : RI S) {o : Rf} (ho : 0 ≤ o.idx ∧ o.idx < 256) (s : Int) : lk (oldestP S o s) := by
  unfold oldestP
  split
  · exact (h.q (L := .w o.idx.toNat) (show o.idx.toNat < 256 by omega)).hd
  · exact .inl rfl

/-! Loading words -/

def putMsg (x : Tcb) : List Int → Tcb
  | [] => x
  | [a] => { x with m0 := a }
  | [a, b] => { x with m0 := a, m1 := b }
  | [a, b, c] => { x with m0 := a, m1 := b, m2 := c }
  | a :: b :: c :: d :: _ => { x with m0 := a, m1 := b, m2 := c, m3 := d }

def wdV (n : Int) : Value := .int .u64 n

theorem splice_msg (x : Tcb) {ws : List Int} (h : ws.length ≤ 4) : splice (tcbC x) 9 (ws.map wdV) = tcbC (putMsg x ws) := by
  match ws, h with
  | [], _ => rfl
  | [a], _ => rfl
  | [a, b], _ => rfl
  | [a, b, c], _ => rfl
  | [a, b, c, d], _ => rfl
  | a :: b :: c :: d :: e :: r, h => simp at h

theorem putMsg_ok {x : Tcb} (h : TOk x) : ∀ (ws : List Int), TOk (putMsg x ws)
  | [] => h
  | [_] => ⟨h.nx, h.pv, h.pr, h.wi, h.ci, h.ri, h.ds⟩
  | [_, _] => ⟨h.nx, h.pv, h.pr, h.wi, h.ci, h.ri, h.ds⟩
  | [_, _, _] => ⟨h.nx, h.pv, h.pr, h.wi, h.ci, h.ri, h.ds⟩
  | _ :: _ :: _ :: _ :: _ => ⟨h.nx, h.pv, h.pr, h.wi, h.ci, h.ri, h.ds⟩

def loadP (S : KP) (t : Int) (ws : List Int) : KP :=
  let S1 := S.setT t.toNat { S.tcb t.toNat with m0 := 0, m1 := 0, m2 := 0, m3 := 0 }
  let S2 := S1.setT t.toNat (putMsg (S1.tcb t.toNat) ws)
  S2.setT t.toNat { S2.tcb t.toNat with len := IntKind.wrap .u8 (ws.length : Int) }

theorem load_RI {S : KP} (h : RI S) {t : Int} (ht : 0 ≤ t ∧ t < 256) (ws : List Int) : RI (loadP S t ws) := by
  have htn : t.toNat < 256 := by omega
  have h1 := h.setT (i := t.toNat) (a := { S.tcb t.toNat with m0 := 0, m1 := 0, m2 := 0, m3 := 0 }) ⟨(h.t htn).nx, (h.t htn).pv, (h.t htn).pr, (h.t htn).wi, (h.t htn).ci, (h.t htn).ri, (h.t htn).ds⟩
  have h2 := h1.setT (i := t.toNat) (putMsg_ok (h1.t htn) ws)
  exact h2.setT ⟨(h2.t htn).nx, (h2.t htn).pv, (h2.t htn).pr, (h2.t htn).wi, (h2.t htn).ci, (h2.t htn).ri, (h2.t htn).ds⟩

/-- Words in memory, outside the blocks K. -/
def WordsAt (K : List Nat) (w : World) (o : Option Addr) (ws : List Int) : Prop :=
  ws.length = 0 ∨ ∃ b k, o = some ⟨b, k, none⟩ ∧ b < w.heap.size ∧ CellsAt w b k (ws.map wdV) ∧ b ∉ K

theorem cellsAt_fr {K : List Nat} {w w' : World} {b k : Nat} {vs : List Value} (h : CellsAt w b k vs) (hf : Fr K w w') (hb : b < w.heap.size) (hK : b ∉ K) : CellsAt w' b k vs := by
  intro j v hj
  rw [← h j v hj]
  unfold World.cell?
  rw [hf.block b hb hK]

theorem WordsAt.fr {K : List Nat} {w w' : World} {o : Option Addr} {ws : List Int} (h : WordsAt K w o ws) (hf : Fr K w w') : WordsAt K w' o ws := by
  rcases h with h | ⟨b, k, h1, h2, h3, h4⟩
  · exact .inl h
  · exact .inr ⟨b, k, h1, Nat.lt_of_lt_of_le h2 hf.size, cellsAt_fr h3 hf h2 h4, h4⟩

theorem WordsAt.mono {K K' : List Nat} {w : World} {o : Option Addr} {ws : List Int} (h : WordsAt K w o ws) (hK : ∀ b ∈ K', b ∈ K) : WordsAt K' w o ws := by
  rcases h with h | ⟨b, k, h1, h2, h3, h4⟩
  · exact .inl h
  · exact .inr ⟨b, k, h1, h2, h3, fun hq => h4 (hK b hq)⟩

theorem WordsAt.src {K : List Nat} {w : World} {o : Option Addr} {ws : List Int} (h : WordsAt K w o ws) : SrcC w o ws.length (ws.map wdV) := by
  refine ⟨by simp, ?_⟩
  rcases h with h | ⟨b, k, h1, h2, h3, _⟩
  · exact .inl h
  · exact .inr ⟨b, k, h1, h3⟩

theorem words_one (ws : List Int) : allOne (ws.map wdV) = true := by
  induction ws with
  | nil => rfl
  | cons a r ih => simpa [allOne, wdV] using ih

end Go.Kn
