/-
  What every system call keeps.
-/
import Derived.Test.Qxb6500918aDoorLb
namespace Go.Kn
open Go.Sx

structure Ok2 (S : KP) : Prop where
  ri : RI S
  li : LI S

/-- All that ranges and queues look at is the same. -/
structure Like (a x : Tcb) : Prop where
  nx : a.next = x.next
  pv : a.prev = x.prev
  pr : a.prio = x.prio
  wt : a.wait = x.wait
  cs : a.cs = x.cs
  rp : a.rep = x.rep
  ds : a.dst = x.dst
  st : a.st = x.st

theorem Like.tok {a x : Tcb} (e : Like a x) (h : TOk x) : TOk a := ⟨by rw [e.nx]; exact h.nx, by rw [e.pv]; exact h.pv, by rw [e.pr]; exact h.pr, by rw [e.wt]; exact h.wi, by rw [e.cs]; exact h.ci, by rw [e.rp]; exact h.ri, by rw [e.ds]; exact h.ds⟩
theorem Like.place {a x : Tcb} (e : Like a x) : place a = place x := by unfold Kn.place; rw [e.st, e.pr, e.wt]

theorem Ok2.setT {S : KP} (h : Ok2 S) {i : Nat} {a : Tcb} (ha : TOk a) (hl : a.next = (S.tcb i).next ∧ a.prev = (S.tcb i).prev) (hs : a.st = (S.tcb i).st) (hp : place a = place (S.tcb i)) : Ok2 (S.setT i a) := by
  obtain ⟨Q, hQ⟩ := h.li
  exact ⟨h.ri.setT ha, Q, hQ.setT hl hs hp⟩

theorem Ok2.like {S : KP} (h : Ok2 S) {i : Nat} (hi : i < 256) {a : Tcb} (e : Like a (S.tcb i)) : Ok2 (S.setT i a) := h.setT (e.tok (h.ri.t hi)) ⟨e.nx, e.pv⟩ e.st e.place

theorem Ok2.leave {S : KP} (h : Ok2 S) {t : Int} (ht : 0 ≤ t ∧ t < 256) : Ok2 (leaveP S t) := by
  obtain ⟨Q, hQ⟩ := h.li
  have := leave_LIQ h.ri hQ (t := t.toNat) (by omega)
  rw [show ((t.toNat : Nat) : Int) = t by omega] at this
  exact ⟨leave_RI h.ri ht, _, this⟩

theorem Ok2.wake {S : KP} (h : Ok2 S) {t : Int} (ht : 0 ≤ t ∧ t < 256) : Ok2 (wakeP S t) := by
  obtain ⟨Q, hQ⟩ := h.li
  have := wake_LIQ h.ri hQ (t := t.toNat) (by omega)
  rw [show ((t.toNat : Nat) : Int) = t by omega] at this
  exact ⟨wake_RI h.ri ht, _, this⟩

theorem Ok2.block {S : KP} (h : Ok2 S) {t : Int} (ht : 0 ≤ t ∧ t < 256) {s : Int} {o : Rf} (ho : 0 ≤ o.idx ∧ o.idx < 256) (hs : s = 3 ∨ s = 4 ∨ s = 5 ∨ s = 6) : Ok2 (blockP S t s o) := by
  obtain ⟨Q, hQ⟩ := h.li
  have ht' : ((t.toNat : Nat) : Int) = t := by omega
  by_cases h6 : s = 6
  · subst h6
    have := blockR_LIQ h.ri hQ (t := t.toNat) (o := o) (by omega)
    rw [ht'] at this
    exact ⟨block_RI h.ri ht ho, _, this⟩
  · have := block_LIQ h.ri hQ (t := t.toNat) (s := s) (o := o) (by omega) ho (by omega)
    rw [ht'] at this
    exact ⟨block_RI h.ri ht ho, _, this⟩

theorem Ok2.same {S S' : KP} (h : Ok2 S) (hr : RI S') (ht : S'.tcb = S.tcb) (hq : ∀ L, S'.q L = S.q L) (hb : S'.busy = S.busy) (hc : S'.cur = S.cur) : Ok2 S' := by
  obtain ⟨Q, hQ⟩ := h.li
  exact ⟨hr, Q, hQ.same ht hq hb hc⟩

theorem putMsg_like (x : Tcb) : ∀ ws, Like (putMsg x ws) x
  | [] => ⟨rfl, rfl, rfl, rfl, rfl, rfl, rfl, rfl⟩
  | [_] => ⟨rfl, rfl, rfl, rfl, rfl, rfl, rfl, rfl⟩
  | [_, _] => ⟨rfl, rfl, rfl, rfl, rfl, rfl, rfl, rfl⟩
  | [_, _, _] => ⟨rfl, rfl, rfl, rfl, rfl, rfl, rfl, rfl⟩
  | _ :: _ :: _ :: _ :: _ => ⟨rfl, rfl, rfl, rfl, rfl, rfl, rfl, rfl⟩

theorem load_ok2 {S : KP} (h : Ok2 S) {t : Int} (ht : 0 ≤ t ∧ t < 256) (ws : List Int) : Ok2 (loadP S t ws) := by
  have hn : t.toNat < 256 := by omega
  have h1 := h.like hn (a := { S.tcb t.toNat with m0 := 0, m1 := 0, m2 := 0, m3 := 0 }) ⟨rfl, rfl, rfl, rfl, rfl, rfl, rfl, rfl⟩
  have h2 := h1.like hn (putMsg_like _ ws)
  exact h2.like hn ⟨rfl, rfl, rfl, rfl, rfl, rfl, rfl, rfl⟩

theorem deliver0_ok2 {S : KP} (h : Ok2 S) {f t : Int} (ht : 0 ≤ t ∧ t < 256) : Ok2 (deliver0 S f t) := by
  have hn : t.toNat < 256 := by omega
  have h1 := h.like hn (a := { S.tcb t.toNat with m0 := (S.tcb f.toNat).m0, m1 := (S.tcb f.toNat).m1, m2 := (S.tcb f.toNat).m2, m3 := (S.tcb f.toNat).m3 }) ⟨rfl, rfl, rfl, rfl, rfl, rfl, rfl, rfl⟩
  unfold deliver0
  dsimp only
  refine Ok2.like (Ok2.like (Ok2.like h1 hn ?_) hn ?_) hn ?_ <;> exact ⟨rfl, rfl, rfl, rfl, rfl, rfl, rfl, rfl⟩

theorem deliver_ok2 {S : KP} (h : Ok2 S) (C : CP) {f t : Int} (ht : 0 ≤ t ∧ t < 256) : Ok2 (deliverP S C f t).1 := by
  have hn : t.toNat < 256 := by omega
  have h0 := deliver0_ok2 h (f := f) ht
  unfold deliverP
  dsimp only
  split
  · exact h0
  · split
    · split
      · exact h0.like hn ⟨rfl, rfl, rfl, rfl, rfl, rfl, rfl, rfl⟩
      · exact h0
    · exact h0

theorem settle_ok2 {S : KP} (h : Ok2 S) (E : Nat → Ent) {f t : Int} (hf : 0 ≤ f ∧ f < 256) (ht : 0 ≤ t ∧ t < 256) : Ok2 (settleP S E f t) := by
  have hn : t.toNat < 256 := by omega
  unfold settleP
  split
  · have h1 := h.block hf (s := 6) (o := refP E t) (ref_idx (.inr ht)) (by omega)
    have hx := h1.ri.t hn
    dsimp only
    exact h1.setT ⟨hx.nx, hx.pv, hx.pr, hx.wi, hx.ci, ref_idx (.inr hf), hx.ds⟩ ⟨rfl, rfl⟩ rfl rfl
  · split
    · exact h.wake hf
    · exact h

theorem signal_ok2 {S : KP} (h : Ok2 S) {o : Rf} (ho : 0 ≤ o.idx ∧ o.idx < 256) (b : Int) : Ok2 (signalP S o b) := by
  unfold signalP
  split
  · rename_i hne
    have ht := lk_nat (oldest_lk h.ri ho 5) hne
    have h1 := h.like (i := (oldestP S o 5).toNat) (by omega) (a := { S.tcb (oldestP S o 5).toNat with badge := b }) ⟨rfl, rfl, rfl, rfl, rfl, rfl, rfl, rfl⟩
    exact h1.wake ht
  · exact h.same (h.ri.setWord _) rfl (fun L => by cases L <;> rfl) rfl rfl

section
variable {S : KP} {C : CP} {ev : Ev}

theorem find_cases (hS : RI S) (hC : CI C) (hcur : 0 ≤ S.cur ∧ S.cur < 256) {ad want need : Int} (ha : 0 ≤ ad) (hw : want ≠ 1) (h0 : ¬ (findP S C ad want need).2.2 ≠ 0) : 0 ≤ (findP S C ad want need).1.obj.idx ∧ (findP S C ad want need).1.obj.idx < 256 := by
  obtain ⟨i, j, _, _, _, _, _, h7, _, h9⟩ := find_fact hS hC hcur ha (c := (findP S C ad want need).1) (s := (findP S C ad want need).2.1) (k := (findP S C ad want need).2.2) rfl (Classical.byContradiction h0)
  exact find_idx h9 (by rw [h7]; exact hw)

theorem send_ok2 (h : Ok2 S) (hC : CI C) (he : EvOk ev) (hcur : 0 ≤ S.cur ∧ S.cur < 256) : Ok2 (sendP S C ev).1 := by
  have hn : S.cur.toNat < 256 := by omega
  have h1 := load_ok2 h hcur ev.ws
  unfold sendP
  extract_lets f t S1 x1 S2 x2 S3 x3 S4 x4 S5 d S7
  have g1 : Ok2 S1 := h1
  have g2 : Ok2 S2 := by refine Ok2.like (S := S1) (i := t.toNat) g1 hn ?_; exact ⟨rfl, rfl, rfl, rfl, rfl, rfl, rfl, rfl⟩
  have g3 : Ok2 S3 := by refine Ok2.like (S := S2) (i := t.toNat) g2 hn ?_; exact ⟨rfl, rfl, rfl, rfl, rfl, rfl, rfl, rfl⟩
  have g4 : Ok2 S4 := by refine Ok2.like (S := S3) (i := t.toNat) g3 hn ?_; exact ⟨rfl, rfl, rfl, rfl, rfl, rfl, rfl, rfl⟩
  have h6 : Ok2 S5 := by refine Ok2.like (S := S4) (i := t.toNat) g4 hn ?_; exact ⟨rfl, rfl, rfl, rfl, rfl, rfl, rfl, rfl⟩
  clear_value S5
  split
  · exact h
  rename_i h0
  have hx : 0 ≤ f.1.obj.idx ∧ f.1.obj.idx < 256 := find_cases h.ri hC hcur he.addr.1 (by decide) h0
  split
  · exact h
  split
  · exact Ok2.block h6 hcur (s := 3) hx (by omega)
  · rename_i hne
    have ht := lk_nat (oldest_lk h6.ri hx 4) hne
    have h7 : Ok2 d.1 := deliver_ok2 h6 C (f := S.cur) ht
    exact settle_ok2 (h7.wake ht) _ hcur ht

theorem recv_ok2 (h : Ok2 S) (hC : CI C) (he : EvOk ev) (hcur : 0 ≤ S.cur ∧ S.cur < 256) (ou : Outp) : Ok2 (recvP S C ev ou).1 := by
  have hn : S.cur.toNat < 256 := by omega
  unfold recvP
  dsimp only
  split
  · exact h
  rename_i h0
  have hx := find_cases h.ri hC hcur he.addr.1 (by decide) h0
  generalize findP S C ev.addr 4 1 = fd at hx ⊢
  have ht0 := h.ri.t hn
  have h1 : Ok2 (S.setT S.cur.toNat { S.tcb S.cur.toNat with dst := ev.dst }) := h.setT ⟨ht0.nx, ht0.pv, ht0.pr, ht0.wi, ht0.ci, ht0.ri, he.dst⟩ ⟨rfl, rfl⟩ rfl rfl
  have hc1 : (S.setT S.cur.toNat { S.tcb S.cur.toNat with dst := ev.dst }).cur = S.cur := rfl
  generalize S.setT S.cur.toNat { S.tcb S.cur.toNat with dst := ev.dst } = S1 at h1 hc1 ⊢
  split
  · exact Ok2.block h1 (t := S1.cur) (s := 4) (by rw [hc1]; exact hcur) hx (by omega)
  · rename_i hne
    have ht := lk_nat (oldest_lk h1.ri hx 3) hne
    have h2 := deliver_ok2 h1 C (f := oldestP S1 fd.1.obj 3) (t := S1.cur) (by rw [hc1]; exact hcur)
    exact settle_ok2 h2 _ ht (by rw [deliver_cur, hc1]; exact hcur)

theorem reply_ok2 (h : Ok2 S) (hcur : 0 ≤ S.cur ∧ S.cur < 256) : Ok2 (replyP S C ev).1 := by
  have hn : S.cur.toNat < 256 := by omega
  have hri := (h.ri.t hn).ri
  unfold replyP
  dsimp only
  split
  · exact h
  split
  · exact h
  split
  · exact h
  have hr : (S.tcb S.cur.toNat).rep.idx.toNat < 256 := by omega
  have h1 := load_ok2 h hri ev.ws
  have h2 : Ok2 (((loadP S (S.tcb S.cur.toNat).rep.idx ev.ws).setT (S.tcb S.cur.toNat).rep.idx.toNat { (loadP S (S.tcb S.cur.toNat).rep.idx ev.ws).tcb (S.tcb S.cur.toNat).rep.idx.toNat with badge := 0 }).setT (S.tcb S.cur.toNat).rep.idx.toNat { ((loadP S (S.tcb S.cur.toNat).rep.idx ev.ws).setT (S.tcb S.cur.toNat).rep.idx.toNat { (loadP S (S.tcb S.cur.toNat).rep.idx ev.ws).tcb (S.tcb S.cur.toNat).rep.idx.toNat with badge := 0 }).tcb (S.tcb S.cur.toNat).rep.idx.toNat with got := 0 }) := by
    refine Ok2.like (Ok2.like h1 hr ?_) hr ?_ <;> exact ⟨rfl, rfl, rfl, rfl, rfl, rfl, rfl, rfl⟩
  have h3 := h2.wake hri
  have hx := h3.ri.t hn
  exact h3.setT ⟨hx.nx, hx.pv, hx.pr, hx.wi, hx.ci, z256, hx.ds⟩ ⟨rfl, rfl⟩ rfl rfl

theorem wait_ok2 (h : Ok2 S) (hC : CI C) (he : EvOk ev) (hcur : 0 ≤ S.cur ∧ S.cur < 256) (ou : Outp) : Ok2 (waitP S C ev ou).1 := by
  have hn : S.cur.toNat < 256 := by omega
  unfold waitP
  dsimp only
  split
  · exact h
  rename_i h0
  have hx := find_cases h.ri hC hcur he.addr.1 (by decide) h0
  generalize findP S C ev.addr 5 1 = fd at hx ⊢
  split
  · exact Ok2.block h hcur (s := 5) hx (by omega)
  · have h1 : Ok2 (S.setT S.cur.toNat { S.tcb S.cur.toNat with badge := S.word fd.1.obj.idx.toNat }) := h.like hn ⟨rfl, rfl, rfl, rfl, rfl, rfl, rfl, rfl⟩
    exact h1.same (h1.ri.setWord _) rfl (fun L => by cases L <;> rfl) rfl rfl

theorem int_ok2 (h : Ok2 S) {l : Int} (hl : 0 ≤ l) : Ok2 (interruptP S C l).1 := by
  unfold interruptP
  dsimp only
  split
  · exact h
  split
  · exact h
  split
  · exact h
  have hi := h.ri.irq (i := l.toNat) (by omega)
  have h1 : Ok2 (S.setI l.toNat { S.irq l.toNat with masked := true }) := h.same (h.ri.setIrq hi) rfl (fun L => by cases L <;> rfl) rfl rfl
  refine signal_ok2 h1 ?_ _
  exact h1.ri.irq (by omega)

theorem line_ok2 (h : Ok2 S) (hC : CI C) (he : EvOk ev) (hcur : 0 ≤ S.cur ∧ S.cur < 256) : Ok2 (lineP S C ev).1 := by
  have ha := he.arg
  unfold lineP
  dsimp only
  split
  · exact h
  split
  · split
    · rename_i h0
      have hx := find_cases h.ri hC hcur he.addr.1 (want := 5) (need := 2) (by decide) (fun hq => hq h0)
      exact h.same (h.ri.setIrq hx) rfl (fun L => by cases L <;> rfl) rfl rfl
    · exact h
  · split
    · exact h
    split
    · exact h
    exact h.same (h.ri.setIrq (h.ri.irq (i := ev.arg.toNat) (by omega))) rfl (fun L => by cases L <;> rfl) rfl rfl

theorem control_ok2 (h : Ok2 S) (hC : CI C) (he : EvOk ev) (hcur : 0 ≤ S.cur ∧ S.cur < 256) : Ok2 (controlP S C ev).1 := by
  have ha := he.arg
  unfold controlP
  dsimp only
  split
  · exact h
  rename_i h0
  have hx := find_cases h.ri hC hcur he.addr.1 (by decide) h0
  generalize findP S C ev.addr 3 2 = fd at hx ⊢
  have hn : fd.1.obj.idx.toNat < 256 := by omega
  have ht := h.ri.t hn
  split
  · split
    · exact h
    · rename_i h1
      have hy := find_cases h.ri hC hcur he.node.1 (by decide) h1
      exact h.setT ⟨ht.nx, ht.pv, ht.pr, ht.wi, hy, ht.ri, ht.ds⟩ ⟨rfl, rfl⟩ rfl rfl
  split
  · split
    · exact h
    rename_i h8
    split
    · rename_i hs
      exact h.setT ⟨ht.nx, ht.pv, ⟨ha.1, by show ev.arg < 8; omega⟩, ht.wi, ht.ci, ht.ri, ht.ds⟩ ⟨rfl, rfl⟩ rfl (by unfold place; rw [if_neg hs, if_neg hs])
    · have h1 := h.leave hx
      have hx1 := h1.ri.t hn
      have hu : ((leaveP S fd.1.obj.idx).tcb fd.1.obj.idx.toNat).st = 0 := by
        have := unl_leave S fd.1.obj.idx fd.1.obj.idx.toNat
        rw [if_pos rfl] at this
        show (unl ((leaveP S fd.1.obj.idx).tcb fd.1.obj.idx.toNat)).st = 0
        rw [this]; rfl
      have h2 : Ok2 ((leaveP S fd.1.obj.idx).setT fd.1.obj.idx.toNat { (leaveP S fd.1.obj.idx).tcb fd.1.obj.idx.toNat with prio := ev.arg }) :=
        h1.setT ⟨hx1.nx, hx1.pv, ⟨ha.1, by show ev.arg < 8; omega⟩, hx1.wi, hx1.ci, hx1.ri, hx1.ds⟩ ⟨rfl, rfl⟩ rfl (by unfold place; rw [hu]; rfl)
      exact h2.wake hx
  split
  · split
    · exact h
    · exact h.wake hx
  split
  · split
    · exact h
    · exact h.leave hx
  · exact h

theorem draw_ok2 (h : Ok2 S) (hcur : 0 ≤ S.cur ∧ S.cur < 256) (d : Int) : Ok2 (drawP S d) := by
  have hn : S.cur.toNat < 256 := by omega
  have h1 := h.like hn (a := { S.tcb S.cur.toNat with m0 := d, m1 := 0, m2 := 0, m3 := 0 }) ⟨rfl, rfl, rfl, rfl, rfl, rfl, rfl, rfl⟩
  exact h1.like hn ⟨rfl, rfl, rfl, rfl, rfl, rfl, rfl, rfl⟩

theorem sig_ok2 (h : Ok2 S) (hC : CI C) (he : EvOk ev) (hcur : 0 ≤ S.cur ∧ S.cur < 256) : Ok2 (sigP S C ev).1 := by
  unfold sigP
  dsimp only
  split
  · rename_i h0
    exact signal_ok2 h (find_cases h.ri hC hcur he.addr.1 (by decide) (fun hq => hq h0)) _
  · exact h

theorem drop_ok2 (h : Ok2 S) (hC : CI C) (he : EvOk ev) (hcur : 0 ≤ S.cur ∧ S.cur < 256) : Ok2 (dropP S C ev).1 ∧ CI (dropP S C ev).2.1 := by
  have hn : S.cur.toNat < 256 := by omega
  have hci := (h.ri.t hn).ci
  unfold dropP
  dsimp only
  split
  · exact ⟨h, hC⟩
  rename_i h0
  split
  · exact ⟨h, hC⟩
  obtain ⟨i, j, h1, h2, h3, h4⟩ := look_fact hC (r := (S.tcb S.cur.toNat).cs) hci.1 he.addr.1 (s := (lookP C.ent (S.tcb S.cur.toNat).cs ev.addr).1) (k := (lookP C.ent (S.tcb S.cur.toNat).cs ev.addr).2) rfl (Classical.byContradiction h0)
  split
  · have r := rev_ok (lookP C.ent (S.tcb S.cur.toNat).cs ev.addr).1 4097 C [] hC (fun _ hq => by cases hq)
    obtain ⟨rr, hrr⟩ : ∃ x, revokeP 4097 C (lookP C.ent (S.tcb S.cur.toNat).cs ev.addr).1 [] = x := ⟨_, rfl⟩
    rw [hrr] at r ⊢
    have b := buryAll_ok rr.2 h.ri h.li r.dead
    exact ⟨⟨b.1, b.2⟩, r.ci⟩
  · have d := del_ok 4097 C (lookP C.ent (S.tcb S.cur.toNat).cs ev.addr).1.toNat hC (by have := cnt_le (C := C); omega) (by rw [h4]; omega) (by rw [h4, Int.toNat_natCast, show (i * 16 + j) / 16 = i by omega]; exact h3)
    obtain ⟨rr, hrr⟩ : ∃ x, deleteP 4097 C (lookP C.ent (S.tcb S.cur.toNat).cs ev.addr).1.toNat = x := ⟨_, rfl⟩
    rw [hrr] at d ⊢
    have b := buryAll_ok rr.2 h.ri h.li d.dead
    exact ⟨⟨b.1, b.2⟩, d.ci⟩
end

end Go.Kn
