/-
  The system calls as plain functions.
-/
import Derived.Test.Qxb6500918aDoorKi
namespace Go.Kn
open Go.Sx

structure Ev where
  kind : Int
  pick : Int
  draw : Int
  addr : Int
  node : Int
  dst : Int
  xfer : Int
  ty : Int
  arg : Int
  badge : Int
  ws : List Int

structure EvOk (e : Ev) : Prop where
  kind : 0 ≤ e.kind ∧ e.kind < 256
  pick : 0 ≤ e.pick ∧ e.pick < 4294967296
  addr : 0 ≤ e.addr ∧ e.addr < 4294967296
  node : 0 ≤ e.node ∧ e.node < 4294967296
  dst : 0 ≤ e.dst ∧ e.dst < 4294967296
  ty : 0 ≤ e.ty ∧ e.ty < 256
  arg : 0 ≤ e.arg ∧ e.arg < 18446744073709551616

/-- An interrupt line set. -/
def KP.setI (S : KP) (i : Nat) (q : Irq) : KP := { S with irq := upd S.irq i q }

def settleP (S : KP) (E : Nat → Ent) (f t : Int) : KP :=
  if (S.tcb f.toNat).call = true then
    let S1 := blockP S f 6 (refP E t)
    S1.setT t.toNat { S1.tcb t.toNat with rep := refP E f }
  else if f ≠ S.cur then wakeP S f else S

def deliver0 (S : KP) (f t : Int) : KP :=
  let S1 := S.setT t.toNat { S.tcb t.toNat with m0 := (S.tcb f.toNat).m0, m1 := (S.tcb f.toNat).m1, m2 := (S.tcb f.toNat).m2, m3 := (S.tcb f.toNat).m3 }
  let S2 := S1.setT t.toNat { S1.tcb t.toNat with len := (S.tcb f.toNat).len }
  let S3 := S2.setT t.toNat { S2.tcb t.toNat with badge := (S.tcb f.toNat).badge }
  S3.setT t.toNat { S3.tcb t.toNat with got := 0 }

def deliverP (S : KP) (C : CP) (f t : Int) : KP × CP :=
  let S4 := deliver0 S f t
  if (S4.tcb f.toNat).grant = false ∨ (S4.tcb f.toNat).xfer = 0 then (S4, C) else
  let a := lookP C.ent (S4.tcb f.toNat).cs (IntKind.wrap .u32 ((S4.tcb f.toNat).xfer - 1))
  let b := lookP C.ent (S4.tcb t.toNat).cs (S4.tcb t.toNat).dst
  if a.2 = 0 ∧ b.2 = 0 then
    let d := deriveP C.cel b.1.toNat a.1.toNat 7 0
    if d.2 = 0 then (S4.setT t.toNat { S4.tcb t.toNat with got := 1 }, { C with cel := d.1 }) else (S4, { C with cel := d.1 })
  else (S4, C)

def sendP (S : KP) (C : CP) (ev : Ev) : KP × CP × Int :=
  let f := findP S C ev.addr 4 2
  if f.2.2 ≠ 0 then (S, C, f.2.2) else
  if (ev.ws.length : Int) > 4 then (S, C, 8) else
  let t := S.cur
  let S1 := loadP S t ev.ws
  let S2 := S1.setT t.toNat { S1.tcb t.toNat with badge := f.1.badge }
  let S3 := S2.setT t.toNat { S2.tcb t.toNat with grant := (bitI .and .u8 f.1.rights 4 != 0) }
  let S4 := S3.setT t.toNat { S3.tcb t.toNat with call := (ev.kind == 5) }
  let S5 := S4.setT t.toNat { S4.tcb t.toNat with xfer := ev.xfer }
  if oldestP S5 f.1.obj 4 = -1 then (blockP S5 t 3 f.1.obj, C, 0) else
  let d := deliverP S5 C t (oldestP S5 f.1.obj 4)
  let S7 := wakeP d.1 (oldestP S5 f.1.obj 4)
  (settleP S7 d.2.ent t (oldestP S5 f.1.obj 4), d.2, 0)

def recvP (S : KP) (C : CP) (ev : Ev) (ou : Outp) : KP × CP × Outp × Int :=
  let f := findP S C ev.addr 4 1
  if f.2.2 ≠ 0 then (S, C, ou, f.2.2) else
  let S1 := S.setT S.cur.toNat { S.tcb S.cur.toNat with dst := ev.dst }
  if oldestP S1 f.1.obj 3 = -1 then (blockP S1 S1.cur 4 f.1.obj, C, ou, 0) else
  let d := deliverP S1 C (oldestP S1 f.1.obj 3) S1.cur
  let S3 := settleP d.1 d.2.ent (oldestP S1 f.1.obj 3) d.1.cur
  (S3, d.2, reportP S3 ou, 0)

def replyP (S : KP) (C : CP) (ev : Ev) : KP × Int :=
  let c := S.cur.toNat
  if (S.tcb c).rep = ⟨0, 0⟩ then (S, 12) else
  if (ev.ws.length : Int) > 4 then (S, 8) else
  let t := (S.tcb c).rep.idx
  if typeOfP C.ent (S.tcb c).rep ≠ 3 ∨ (S.tcb t.toNat).st ≠ 6 ∨ (S.tcb t.toNat).wait ≠ refP C.ent S.cur then (S, 13) else
  let S1 := loadP S t ev.ws
  let S2 := S1.setT t.toNat { S1.tcb t.toNat with badge := 0 }
  let S3 := S2.setT t.toNat { S2.tcb t.toNat with got := 0 }
  let S4 := wakeP S3 t
  (S4.setT c { S4.tcb c with rep := ⟨0, 0⟩ }, 0)

def waitP (S : KP) (C : CP) (ev : Ev) (ou : Outp) : KP × Outp × Int :=
  let f := findP S C ev.addr 5 1
  if f.2.2 ≠ 0 then (S, ou, f.2.2) else
  if S.word f.1.obj.idx.toNat = 0 then (blockP S S.cur 5 f.1.obj, ou, 0) else
  let S1 := S.setT S.cur.toNat { S.tcb S.cur.toNat with badge := S.word f.1.obj.idx.toNat }
  let S2 : KP := { S1 with word := upd S1.word f.1.obj.idx.toNat 0 }
  (S2, reportP S2 ou, 0)

def interruptP (S : KP) (C : CP) (l : Int) : KP × Int :=
  if l ≥ 16 then (S, 8) else
  if typeOfP C.ent (S.irq l.toNat).ntfn ≠ 5 then (S, 14) else
  if (S.irq l.toNat).masked = true then (S, 15) else
  let S1 := S.setI l.toNat { S.irq l.toNat with masked := true }
  (signalP S1 (S1.irq l.toNat).ntfn (S1.irq l.toNat).badge, 0)

def lineP (S : KP) (C : CP) (ev : Ev) : KP × Int :=
  if ev.arg ≥ 16 then (S, 8) else
  if ev.kind = 18 then
    let f := findP S C ev.addr 5 2
    if f.2.2 = 0 then (S.setI ev.arg.toNat ⟨f.1.obj, f.1.badge, false⟩, f.2.2) else (S, f.2.2)
  else
  if (S.irq ev.arg.toNat).ntfn = ⟨0, 0⟩ then (S, 14) else
  if (S.irq ev.arg.toNat).masked = false then (S, 11) else
  (S.setI ev.arg.toNat { S.irq ev.arg.toNat with masked := false }, 0)

def controlP (S : KP) (C : CP) (ev : Ev) : KP × Int :=
  let f := findP S C ev.addr 3 2
  if f.2.2 ≠ 0 then (S, f.2.2) else
  let t := f.1.obj.idx
  if ev.kind = 14 then
    let g := findP S C ev.node 2 1
    if g.2.2 ≠ 0 then (S, g.2.2) else
    (S.setT t.toNat { S.tcb t.toNat with cs := g.1.obj }, 0)
  else if ev.kind = 15 then
    if ev.arg ≥ 8 then (S, 8) else
    if (S.tcb t.toNat).st ≠ 1 then (S.setT t.toNat { S.tcb t.toNat with prio := ev.arg }, 0) else
    let S1 := leaveP S t
    let S2 := S1.setT t.toNat { S1.tcb t.toNat with prio := ev.arg }
    (wakeP S2 t, 0)
  else if ev.kind = 16 then
    if (S.tcb t.toNat).st ≠ 0 then (S, 11) else (wakeP S t, 0)
  else if ev.kind = 17 then
    if (S.tcb t.toNat).st = 0 then (S, 11) else (leaveP S t, 0)
  else (S, 0)

def copyCapP (S : KP) (C : CP) (ev : Ev) : CP × Int :=
  let a := lookP C.ent (S.tcb S.cur.toNat).cs ev.addr
  if a.2 ≠ 0 then (C, a.2) else
  let f := findP S C ev.node 2 2
  if f.2.2 ≠ 0 then (C, f.2.2) else
  let b := lookP C.ent f.1.obj ev.dst
  if b.2 ≠ 0 then (C, b.2) else
  let d := deriveP C.cel b.1.toNat a.1.toNat (IntKind.wrap .u8 ev.arg) ev.badge
  ({ C with cel := d.1 }, d.2)

theorem look_fact {C : CP} (hC : CI C) {r : Rf} {a : Int} (hr : 0 ≤ r.idx) (ha : 0 ≤ a) {s k : Int} (e : lookP C.ent r a = (s, k)) (hk : k = 0) :
    ∃ i j : Nat, i < 256 ∧ j < 16 ∧ C.pres i = true ∧ s = ((i * 16 + j : Nat) : Int) := by
  rcases look_cases hC hr ha with h | ⟨i, j, h1, h2, h3, h⟩
  · rw [h] at e; simp at e; omega
  · rw [h] at e; simp only [Prod.mk.injEq] at e; exact ⟨i, j, h1, h2, h3, e.1.symm⟩

theorem ref_idx {E : Nat → Ent} {t : Int} (h : lk t) : 0 ≤ (refP E t).idx ∧ (refP E t).idx < 256 := by
  unfold refP
  split
  · decide
  · have := lk_nat h (by assumption)
    rw [refAt_idx ⟨this.1, by omega⟩]; exact this

theorem wrap32 (x : Int) : 0 ≤ IntKind.wrap .u32 x ∧ IntKind.wrap .u32 x < 4294967296 := by
  simp [IntKind.wrap, IntKind.bits, IntKind.signed]; omega

theorem signal_RI {S : KP} (h : RI S) {o : Rf} (ho : 0 ≤ o.idx ∧ o.idx < 256) (b : Int) : RI (signalP S o b) := by
  unfold signalP
  split
  · rename_i hne
    have ht := lk_nat (oldest_lk h ho 5) hne
    have htn : (oldestP S o 5).toNat < 256 := by omega
    have h1 := h.setT (i := (oldestP S o 5).toNat) (a := { S.tcb (oldestP S o 5).toNat with badge := b }) ⟨(h.t htn).nx, (h.t htn).pv, (h.t htn).pr, (h.t htn).wi, (h.t htn).ci, (h.t htn).ri, (h.t htn).ds⟩
    exact wake_RI h1 ht
  · exact h.setWord _

theorem deliver0_RI {S : KP} (h : RI S) {f t : Int} (ht : 0 ≤ t ∧ t < 256) : RI (deliver0 S f t) := by
  have htn : t.toNat < 256 := by omega
  unfold deliver0
  simp only
  refine RI.setT ?_ ?_
  refine RI.setT ?_ ?_
  refine RI.setT ?_ ?_
  refine h.setT ?_
  all_goals try (refine ⟨?_, ?_, ?_, ?_, ?_, ?_, ?_⟩)
  all_goals (first | exact (h.t htn).nx | exact (h.t htn).pv | exact (h.t htn).pr | exact (h.t htn).wi | exact (h.t htn).ci | exact (h.t htn).ri | exact (h.t htn).ds | (simp only [setT_same]; first | exact (h.t htn).nx | exact (h.t htn).pv | exact (h.t htn).pr | exact (h.t htn).wi | exact (h.t htn).ci | exact (h.t htn).ri | exact (h.t htn).ds))

theorem got_RI {S : KP} (h : RI S) {t : Int} (ht : 0 ≤ t ∧ t < 256) (x : Int) : RI (S.setT t.toNat { S.tcb t.toNat with got := x }) := by
  have htn : t.toNat < 256 := by omega
  exact h.setT ⟨(h.t htn).nx, (h.t htn).pv, (h.t htn).pr, (h.t htn).wi, (h.t htn).ci, (h.t htn).ri, (h.t htn).ds⟩

theorem deliver_RI {S : KP} (h : RI S) (C : CP) {f t : Int} (ht : 0 ≤ t ∧ t < 256) : RI (deliverP S C f t).1 := by
  have h0 := deliver0_RI h (f := f) ht
  unfold deliverP
  simp only
  split
  · exact h0
  · split
    · split
      · exact got_RI h0 ht 1
      · exact h0
    · exact h0

theorem settle_RI {S : KP} (h : RI S) (E : Nat → Ent) {f t : Int} (hf : 0 ≤ f ∧ f < 256) (ht : 0 ≤ t ∧ t < 256) : RI (settleP S E f t) := by
  have htn : t.toNat < 256 := by omega
  unfold settleP
  split
  · have h1 := block_RI h hf (s := 6) (on := refP E t) (ref_idx (.inr ht))
    exact h1.setT ⟨(h1.t htn).nx, (h1.t htn).pv, (h1.t htn).pr, (h1.t htn).wi, (h1.t htn).ci, ref_idx (.inr hf), (h1.t htn).ds⟩
  · split
    · exact wake_RI h hf
    · exact h

end Go.Kn
