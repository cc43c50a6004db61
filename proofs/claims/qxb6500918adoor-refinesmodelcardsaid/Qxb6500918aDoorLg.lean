/-
  The words of the machine stay words.
-/
import Derived.Test.Qxb6500918aDoorLd
namespace Go.Kn
open Go.Sx

def u64r (x : Int) : Prop := 0 ≤ x ∧ x < 18446744073709551616

theorem u64z : u64r 0 := by unfold u64r; decide
theorem u64w (x : Int) : u64r (IntKind.wrap .u64 x) := wrap64 x

structure TU (x : Tcb) : Prop where
  b : u64r x.badge
  m0 : u64r x.m0
  m1 : u64r x.m1
  m2 : u64r x.m2
  m3 : u64r x.m3

structure UR (S : KP) : Prop where
  t : ∀ i, TU (S.tcb i)
  w : ∀ i, u64r (S.word i)
  i : ∀ l, u64r (S.irq l).badge
  n : u64r S.now

structure UC (C : CP) : Prop where
  e : ∀ i, u64r (C.ent i).base ∧ u64r (C.ent i).size
  c : ∀ s, u64r (C.cel s).cap.badge

structure EvU (e : Ev) : Prop where
  draw : u64r e.draw
  badge : u64r e.badge
  ws : ∀ x ∈ e.ws, u64r x

/-- The rest of the machine is the same. -/
structure Rst (S S' : KP) : Prop where
  w : S'.word = S.word
  i : S'.irq = S.irq
  n : S'.now = S.now

theorem Rst.refl (S : KP) : Rst S S := ⟨rfl, rfl, rfl⟩
theorem Rst.trans {S S1 S2 : KP} (h : Rst S S1) (h' : Rst S1 S2) : Rst S S2 := ⟨h'.w.trans h.w, h'.i.trans h.i, h'.n.trans h.n⟩

theorem UR.of {S S' : KP} (h : UR S) (ht : ∀ i, TU (S'.tcb i)) (hr : Rst S S') : UR S' := ⟨ht, by rw [hr.w]; exact h.w, by rw [hr.i]; exact h.i, by rw [hr.n]; exact h.n⟩

theorem TU.unl {x y : Tcb} (h : TU x) (e : unl y = unl x) : TU y := by
  have h1 : TU (Kn.unl y) := by rw [e]; exact ⟨h.b, h.m0, h.m1, h.m2, h.m3⟩
  exact ⟨h1.b, h1.m0, h1.m1, h1.m2, h1.m3⟩

theorem setT_TU {S : KP} (h : ∀ i, TU (S.tcb i)) {j : Nat} {a : Tcb} (ha : TU a) : ∀ i, TU ((S.setT j a).tcb i) := by
  intro i
  by_cases e : i = j
  · subst e; rw [setT_same]; exact ha
  · rw [setT_other _ _ e]; exact h i

theorem UR.setT {S : KP} (h : UR S) {j : Nat} {a : Tcb} (ha : TU a) : UR (S.setT j a) := h.of (setT_TU h.t ha) ⟨rfl, rfl, rfl⟩

theorem setQ_rst (S : KP) (L : QL) (q : Qu) : Rst S (S.setQ L q) := by cases L <;> exact ⟨rfl, rfl, rfl⟩
theorem setT_rst (S : KP) (i : Nat) (a : Tcb) : Rst S (S.setT i a) := ⟨rfl, rfl, rfl⟩

theorem push_rst (S : KP) (L : QL) (t : Int) : Rst S (pushP S L t) := by
  unfold pushP; dsimp only
  split <;> cases L <;> exact ⟨rfl, rfl, rfl⟩

theorem unlink_rst (S : KP) (L : QL) (t : Int) : Rst S (unlinkP S L t) := by
  unfold unlinkP; dsimp only
  split <;> split <;> cases L <;> exact ⟨rfl, rfl, rfl⟩

theorem leave_rst (S : KP) (t : Int) : Rst S (leaveP S t) := by
  have h1 : Rst S (leave1 S t) := by
    unfold leave1
    split
    · exact ⟨rfl, rfl, rfl⟩
    · split
      · dsimp only
        have := unlink_rst S (.r (S.tcb t.toNat).prio.toNat) t
        split
        · exact ⟨this.w, this.i, this.n⟩
        · exact this
      · split
        · exact unlink_rst _ _ _
        · exact Rst.refl _
  exact h1.trans ((setT_rst _ _ _).trans (setT_rst _ _ _))

theorem wake_rst (S : KP) (t : Int) : Rst S (wakeP S t) := by
  unfold wakeP; dsimp only
  have h := ((leave_rst S t).trans (setT_rst _ t.toNat { (leaveP S t).tcb t.toNat with st := 1 })).trans (push_rst _ (.r (((leaveP S t).setT t.toNat { (leaveP S t).tcb t.toNat with st := 1 }).tcb t.toNat).prio.toNat) t)
  exact ⟨h.w, h.i, h.n⟩

theorem block_rst (S : KP) (t s : Int) (o : Rf) : Rst S (blockP S t s o) := by
  unfold blockP; dsimp only
  split
  · exact (leave_rst S t).trans ((setT_rst _ _ _).trans (setT_rst _ _ _))
  · exact ((leave_rst S t).trans ((setT_rst _ _ _).trans (setT_rst _ _ _))).trans (push_rst _ _ _)

theorem UR.leave {S : KP} (h : UR S) (t : Int) : UR (leaveP S t) := h.of (fun i => by
  have hx : TU (if i = t.toNat then { S.tcb i with st := 0, wait := ⟨0, 0⟩ } else S.tcb i) := by
    split
    · exact ⟨(h.t i).b, (h.t i).m0, (h.t i).m1, (h.t i).m2, (h.t i).m3⟩
    · exact h.t i
  exact hx.unl (unl_leave S t i)) (leave_rst S t)

theorem UR.wake {S : KP} (h : UR S) (t : Int) : UR (wakeP S t) := h.of (fun i => by
  have hx : TU (if i = t.toNat then { S.tcb i with st := 1, wait := ⟨0, 0⟩ } else S.tcb i) := by
    split
    · exact ⟨(h.t i).b, (h.t i).m0, (h.t i).m1, (h.t i).m2, (h.t i).m3⟩
    · exact h.t i
  exact hx.unl (unl_wake S t i)) (wake_rst S t)

theorem UR.block {S : KP} (h : UR S) (t s : Int) (o : Rf) : UR (blockP S t s o) := h.of (fun i => by
  have hx : TU (if i = t.toNat then { S.tcb i with st := s, wait := o } else S.tcb i) := by
    split
    · exact ⟨(h.t i).b, (h.t i).m0, (h.t i).m1, (h.t i).m2, (h.t i).m3⟩
    · exact h.t i
  exact hx.unl (unl_block S t s o i)) (block_rst S t s o)

theorem putMsg_TU {x : Tcb} (h : TU x) : ∀ {ws : List Int}, (∀ y ∈ ws, u64r y) → TU (putMsg x ws)
  | [], _ => h
  | [a], hw => ⟨h.b, hw a (by simp), h.m1, h.m2, h.m3⟩
  | [a, b], hw => ⟨h.b, hw a (by simp), hw b (by simp), h.m2, h.m3⟩
  | [a, b, c], hw => ⟨h.b, hw a (by simp), hw b (by simp), hw c (by simp), h.m3⟩
  | a :: b :: c :: d :: _, hw => ⟨h.b, hw a (by simp), hw b (by simp), hw c (by simp), hw d (by simp)⟩

theorem UR.load {S : KP} (h : UR S) (t : Int) {ws : List Int} (hw : ∀ y ∈ ws, u64r y) : UR (loadP S t ws) := by
  have h1 := h.setT (j := t.toNat) (a := { S.tcb t.toNat with m0 := 0, m1 := 0, m2 := 0, m3 := 0 }) ⟨(h.t _).b, u64z, u64z, u64z, u64z⟩
  have h2 := h1.setT (j := t.toNat) (putMsg_TU (h1.t t.toNat) hw)
  exact h2.setT ⟨(h2.t _).b, (h2.t _).m0, (h2.t _).m1, (h2.t _).m2, (h2.t _).m3⟩

theorem UR.deliver0 {S : KP} (h : UR S) (f t : Int) : UR (deliver0 S f t) := by
  unfold Kn.deliver0
  extract_lets x0 S1 x1 S2 x2 S3 x3
  have g1 : UR S1 := h.setT ⟨(h.t _).b, (h.t _).m0, (h.t _).m1, (h.t _).m2, (h.t _).m3⟩
  have g2 : UR S2 := g1.setT ⟨(g1.t _).b, (g1.t _).m0, (g1.t _).m1, (g1.t _).m2, (g1.t _).m3⟩
  have g3 : UR S3 := g2.setT ⟨(h.t _).b, (g2.t _).m0, (g2.t _).m1, (g2.t _).m2, (g2.t _).m3⟩
  exact g3.setT ⟨(g3.t _).b, (g3.t _).m0, (g3.t _).m1, (g3.t _).m2, (g3.t _).m3⟩

theorem UR.got {S : KP} (h : UR S) (j : Nat) (x : Int) : UR (S.setT j { S.tcb j with got := x }) := h.setT ⟨(h.t _).b, (h.t _).m0, (h.t _).m1, (h.t _).m2, (h.t _).m3⟩

theorem derive_UC {C : CP} (h : UC C) (d s : Nat) (m : Int) {b : Int} (hb : u64r b) : UC { C with cel := (deriveP C.cel d s m b).1 } := by
  have key : ∀ c : Cel, u64r c.cap.badge → UC { C with cel := upd C.cel d c } := fun c hc => ⟨h.e, fun x => by
    dsimp only
    by_cases e : x = d
    · subst e; rw [upd_same]; exact hc
    · rw [upd_other _ _ e]; exact h.c x⟩
  unfold deriveP
  split
  · exact h
  split
  · exact h
  split
  · exact h
  split
  · exact key _ hb
  · exact key _ (h.c s)

theorem deliver_U {S : KP} {C : CP} (h : UR S) (hC : UC C) (f t : Int) : UR (deliverP S C f t).1 ∧ UC (deliverP S C f t).2 := by
  have h0 := h.deliver0 f t
  unfold deliverP; dsimp only
  split
  · exact ⟨h0, hC⟩
  split
  · have hd := derive_UC hC (lookP C.ent ((Kn.deliver0 S f t).tcb t.toNat).cs ((Kn.deliver0 S f t).tcb t.toNat).dst).1.toNat (lookP C.ent ((Kn.deliver0 S f t).tcb f.toNat).cs (IntKind.wrap .u32 (((Kn.deliver0 S f t).tcb f.toNat).xfer - 1))).1.toNat 7 u64z
    split
    · exact ⟨h0.got _ _, hd⟩
    · exact ⟨h0, hd⟩
  · exact ⟨h0, hC⟩

theorem settle_U {S : KP} (h : UR S) (E : Nat → Ent) (f t : Int) : UR (settleP S E f t) := by
  unfold settleP
  split
  · have h1 := h.block f 6 (refP E t)
    exact h1.setT ⟨(h1.t _).b, (h1.t _).m0, (h1.t _).m1, (h1.t _).m2, (h1.t _).m3⟩
  · split
    · exact h.wake f
    · exact h

theorem signal_U {S : KP} (h : UR S) (o : Rf) {b : Int} (hb : u64r b) : UR (signalP S o b) := by
  unfold signalP
  split
  · refine UR.wake ?_ _
    exact h.setT ⟨hb, (h.t _).m0, (h.t _).m1, (h.t _).m2, (h.t _).m3⟩
  · refine ⟨h.t, fun i => ?_, h.i, h.n⟩
    dsimp only
    unfold upd; split
    · exact u64w _
    · exact h.w i

theorem find_U {C : CP} (h : UC C) (S : KP) (a w n : Int) : u64r (findP S C a w n).1.badge := by
  unfold findP; dsimp only
  split
  · exact u64z
  · split
    · exact h.c _
    · split
      · exact h.c _
      · split <;> exact h.c _

section
variable {S : KP} {C : CP} {ev : Ev}

theorem send_U (h : UR S) (hC : UC C) (he : EvU ev) : UR (sendP S C ev).1 ∧ UC (sendP S C ev).2.1 := by
  have h1 := h.load S.cur he.ws
  have hb := find_U hC S ev.addr 4 2
  unfold sendP
  extract_lets f t S1 x1 S2 x2 S3 x3 S4 x4 S5 d S7
  have g1 : UR S1 := h1
  have g2 : UR S2 := g1.setT ⟨hb, (g1.t _).m0, (g1.t _).m1, (g1.t _).m2, (g1.t _).m3⟩
  have g3 : UR S3 := g2.setT ⟨(g2.t _).b, (g2.t _).m0, (g2.t _).m1, (g2.t _).m2, (g2.t _).m3⟩
  have g4 : UR S4 := g3.setT ⟨(g3.t _).b, (g3.t _).m0, (g3.t _).m1, (g3.t _).m2, (g3.t _).m3⟩
  have g5 : UR S5 := g4.setT ⟨(g4.t _).b, (g4.t _).m0, (g4.t _).m1, (g4.t _).m2, (g4.t _).m3⟩
  clear_value S5
  split
  · exact ⟨h, hC⟩
  split
  · exact ⟨h, hC⟩
  split
  · exact ⟨g5.block t 3 f.1.obj, hC⟩
  · have hd : UR d.1 ∧ UC d.2 := deliver_U g5 hC _ _
    exact ⟨settle_U (hd.1.wake _) _ _ _, hd.2⟩

theorem recv_U (h : UR S) (hC : UC C) (ou : Outp) : UR (recvP S C ev ou).1 ∧ UC (recvP S C ev ou).2.1 := by
  have g1 : UR (S.setT S.cur.toNat { S.tcb S.cur.toNat with dst := ev.dst }) := h.setT ⟨(h.t _).b, (h.t _).m0, (h.t _).m1, (h.t _).m2, (h.t _).m3⟩
  unfold recvP; dsimp only
  split
  · exact ⟨h, hC⟩
  generalize S.setT S.cur.toNat { S.tcb S.cur.toNat with dst := ev.dst } = S1 at g1 ⊢
  split
  · exact ⟨g1.block S1.cur 4 (findP S C ev.addr 4 1).1.obj, hC⟩
  · have hd := deliver_U g1 hC (oldestP S1 (findP S C ev.addr 4 1).1.obj 3) S1.cur
    exact ⟨settle_U hd.1 _ _ _, hd.2⟩

theorem reply_U (h : UR S) (he : EvU ev) : UR (replyP S C ev).1 := by
  unfold replyP; dsimp only
  split
  · exact h
  split
  · exact h
  split
  · exact h
  have h1 := h.load (S.tcb S.cur.toNat).rep.idx he.ws
  generalize loadP S (S.tcb S.cur.toNat).rep.idx ev.ws = S1 at h1 ⊢
  have h2 : UR (S1.setT (S.tcb S.cur.toNat).rep.idx.toNat { S1.tcb (S.tcb S.cur.toNat).rep.idx.toNat with badge := 0 }) := h1.setT ⟨u64z, (h1.t _).m0, (h1.t _).m1, (h1.t _).m2, (h1.t _).m3⟩
  generalize S1.setT (S.tcb S.cur.toNat).rep.idx.toNat { S1.tcb (S.tcb S.cur.toNat).rep.idx.toNat with badge := 0 } = S2 at h2 ⊢
  have h3 := (h2.got (S.tcb S.cur.toNat).rep.idx.toNat 0).wake (S.tcb S.cur.toNat).rep.idx
  exact h3.setT ⟨(h3.t _).b, (h3.t _).m0, (h3.t _).m1, (h3.t _).m2, (h3.t _).m3⟩

theorem wait_U (h : UR S) (ou : Outp) : UR (waitP S C ev ou).1 := by
  unfold waitP; dsimp only
  split
  · exact h
  split
  · exact h.block S.cur 5 (findP S C ev.addr 5 1).1.obj
  · have h1 : UR (S.setT S.cur.toNat { S.tcb S.cur.toNat with badge := S.word (findP S C ev.addr 5 1).1.obj.idx.toNat }) := h.setT ⟨h.w _, (h.t _).m0, (h.t _).m1, (h.t _).m2, (h.t _).m3⟩
    refine ⟨h1.t, fun i => ?_, h1.i, h1.n⟩
    dsimp only
    unfold upd; split
    · exact u64z
    · exact h1.w i

theorem setI_U (h : UR S) {l : Nat} {q : Irq} (hq : u64r q.badge) : UR (S.setI l q) := ⟨h.t, h.w, fun x => by
  show u64r (upd S.irq l q x).badge
  unfold upd; split
  · exact hq
  · exact h.i x, h.n⟩

theorem int_U (h : UR S) (l : Int) : UR (interruptP S C l).1 := by
  unfold interruptP; dsimp only
  split
  · exact h
  split
  · exact h
  split
  · exact h
  have h1 : UR (S.setI l.toNat { S.irq l.toNat with masked := true }) := setI_U h (h.i _)
  exact signal_U h1 _ (h1.i _)

theorem line_U (h : UR S) (hC : UC C) : UR (lineP S C ev).1 := by
  unfold lineP; dsimp only
  split
  · exact h
  split
  · split
    · exact setI_U h (find_U hC S _ _ _)
    · exact h
  · split
    · exact h
    split
    · exact h
    exact setI_U h (h.i _)

theorem control_U (h : UR S) : UR (controlP S C ev).1 := by
  unfold controlP; dsimp only
  split
  · exact h
  split
  · split
    · exact h
    · exact h.setT ⟨(h.t _).b, (h.t _).m0, (h.t _).m1, (h.t _).m2, (h.t _).m3⟩
  split
  · split
    · exact h
    split
    · exact h.setT ⟨(h.t _).b, (h.t _).m0, (h.t _).m1, (h.t _).m2, (h.t _).m3⟩
    · refine UR.wake ?_ _
      have h1 := h.leave (findP S C ev.addr 3 2).1.obj.idx
      exact h1.setT ⟨(h1.t _).b, (h1.t _).m0, (h1.t _).m1, (h1.t _).m2, (h1.t _).m3⟩
  split
  · split
    · exact h
    · exact h.wake _
  split
  · split
    · exact h
    · exact h.leave _
  · exact h

theorem draw_U (h : UR S) {d : Int} (hd : u64r d) : UR (drawP S d) := by
  have h1 := h.setT (j := S.cur.toNat) (a := { S.tcb S.cur.toNat with m0 := d, m1 := 0, m2 := 0, m3 := 0 }) ⟨(h.t _).b, hd, u64z, u64z, u64z⟩
  exact h1.setT ⟨(h1.t _).b, (h1.t _).m0, (h1.t _).m1, (h1.t _).m2, (h1.t _).m3⟩

theorem sig_U (h : UR S) (hC : UC C) : UR (sigP S C ev).1 := by
  unfold sigP; dsimp only
  split
  · exact signal_U h _ (find_U hC S _ _ _)
  · exact h

theorem wakeRep_U (h : UR S) (o : Rf) : ∀ n, UR (wakeRep S o n)
  | 0 => h
  | n + 1 => by rw [wakeRep]; split; exact (wakeRep_U h o n).wake _; exact wakeRep_U h o n

theorem drain_U : ∀ (f : Nat) {S : KP}, UR S → ∀ i, UR (drainP f S i)
  | 0, _, h, _ => h
  | f + 1, S, h, i => by rw [drainP]; split; exact h; exact drain_U f (h.wake _) i

theorem bury_U (h : UR S) (c : Cp) : UR (buryP S c) := by
  unfold buryP
  split
  · refine wakeRep_U ?_ _ _
    exact (h.leave _).setT ⟨u64z, u64z, u64z, u64z, u64z⟩
  · split
    · have h1 := drain_U 257 h c.obj.idx.toNat
      refine ⟨h1.t, fun i => ?_, h1.i, h1.n⟩
      dsimp only
      unfold upd; split
      · exact u64z
      · exact h1.w i
    · exact h

theorem buryAll_U : ∀ (l : List Cp) {S : KP}, UR S → UR (buryAll S l)
  | [], _, h => h
  | c :: l, _, h => buryAll_U l (bury_U h c)

theorem free_UC (h : UC C) (r : Rf) : UC { C with ent := freeP C.ent r } := ⟨fun i => by
  dsimp only
  unfold freeP; split
  · unfold upd; split
    · exact ⟨u64z, u64z⟩
    · exact h.e i
  · exact h.e i, h.c⟩

theorem cut_UC (h : UC C) (s : Nat) : UC (cutP C s) := ⟨h.e, fun x => by
  by_cases e : x = s
  · subst e; rw [cut_same]; exact u64z
  · rw [cut_cap e]; exact h.c x⟩

theorem del_UC : ∀ (f : Nat) {C : CP}, UC C → ∀ s, UC (deleteP f C s).1
  | 0, _, h, _ => h
  | f + 1, C, h, s => by
    rw [deleteP]
    split
    · exact h
    split
    · exact cut_UC h s
    split
    · have hr : UC ((List.range 16).foldl (fun (acc : CP × List Cp) j => ((deleteP f acc.1 ((C.cel s).cap.obj.idx.toNat * 16 + j)).1, acc.2 ++ (deleteP f acc.1 ((C.cel s).cap.obj.idx.toNat * 16 + j)).2)) (cutP C s, [(C.cel s).cap])).1 :=
        foldl_range (fun (acc : CP × List Cp) j => ((deleteP f acc.1 ((C.cel s).cap.obj.idx.toNat * 16 + j)).1, acc.2 ++ (deleteP f acc.1 ((C.cel s).cap.obj.idx.toNat * 16 + j)).2)) (fun _ r => UC r.1) (cutP C s, [(C.cel s).cap]) 16 (cut_UC h s) (fun j x _ hx => del_UC f hx _)
      have := free_UC hr (C.cel s).cap.obj
      exact ⟨this.e, this.c⟩
    · exact free_UC (cut_UC h s) _

theorem rev_UC (s : Int) : ∀ (f : Nat) {C : CP} (acc : List Cp), UC C → UC (revokeP f C s acc).1
  | 0, _, _, h => h
  | f + 1, C, acc, h => by
    rw [revokeP]; split
    · exact h
    · exact rev_UC s f _ (del_UC 4097 h _)

theorem drop_U (h : UR S) (hC : UC C) : UR (dropP S C ev).1 ∧ UC (dropP S C ev).2.1 := by
  unfold dropP; dsimp only
  split
  · exact ⟨h, hC⟩
  split
  · exact ⟨h, hC⟩
  split
  · have hr := rev_UC (lookP C.ent (S.tcb S.cur.toNat).cs ev.addr).1 4097 [] hC
    obtain ⟨rr, hrr⟩ : ∃ x, revokeP 4097 C (lookP C.ent (S.tcb S.cur.toNat).cs ev.addr).1 [] = x := ⟨_, rfl⟩
    rw [hrr] at hr ⊢
    exact ⟨buryAll_U rr.2 h, hr⟩
  · have hr := del_UC 4097 hC (lookP C.ent (S.tcb S.cur.toNat).cs ev.addr).1.toNat
    obtain ⟨rr, hrr⟩ : ∃ x, deleteP 4097 C (lookP C.ent (S.tcb S.cur.toNat).cs ev.addr).1.toNat = x := ⟨_, rfl⟩
    rw [hrr] at hr ⊢
    exact ⟨buryAll_U rr.2 h, hr⟩

theorem copy_UC (hC : UC C) (he : EvU ev) : UC (copyCapP S C ev).1 := by
  unfold copyCapP; dsimp only
  split
  · exact hC
  split
  · exact hC
  split
  · exact hC
  exact derive_UC hC _ _ _ he.badge

theorem scan_u (hE : ∀ i, u64r (C.ent i).base ∧ u64r (C.ent i).size) : ∀ (n : Nat) (a s : Int), u64r a → u64r (scanP C.ent n a s).1
  | 0, _, _, h => h
  | n + 1, a, s, h => by
    rw [scanP]; split
    · exact scan_u hE n _ _ h
    · split
      · exact scan_u hE n _ _ (u64w _)
      · exact scan_u hE n _ _ h

theorem align_u {a : Int} (h : u64r a) (z : Int) : u64r (alignP a z) := by
  unfold alignP; split
  · exact u64w _
  · exact h

theorem size_u (t : Int) : u64r (sizeP t) := by
  unfold sizeP u64r
  repeat' split
  all_goals decide

theorem retype0_u (hC : UC C) (t : Int) : ∀ i, u64r ((retype0 C.ent t).1 i).base ∧ u64r ((retype0 C.ent t).1 i).size := by
  have hs := scan_u hC.e 256 0 (-1) u64z
  unfold retype0; dsimp only
  split
  · exact hC.e
  · split
    · exact hC.e
    · intro i
      dsimp only
      unfold upd; split
      · exact ⟨align_u hs _, size_u t⟩
      · exact hC.e i

theorem retype_UC (hC : UC C) : UC (retypeP S C ev).1 := by
  have h0 := retype0_u hC ev.ty
  unfold retypeP; dsimp only
  split
  · exact hC
  split
  · exact hC
  split
  · exact hC
  split
  · exact hC
  generalize retype0 C.ent ev.ty = o at h0 ⊢
  split
  · exact ⟨h0, hC.c⟩
  split
  · refine ⟨h0, fun x => ?_⟩
    dsimp only
    unfold upd; split
    · exact u64z
    · show u64r (if x / 16 = o.2.1.idx.toNat then celE else C.cel x).cap.badge
      split
      · exact u64z
      · exact hC.c x
  · refine ⟨h0, fun x => ?_⟩
    dsimp only
    unfold upd; split
    · exact u64z
    · exact hC.c x

theorem sys_U (h : UR S) (hC : UC C) (he : EvU ev) (ou : Outp) : UR (sysP S C ev ou).1 ∧ UC (sysP S C ev ou).2.1 := by
  unfold sysP
  by_cases k0 : ev.kind = 2
  · rw [if_pos k0]; exact ⟨h.wake _, hC⟩
  rw [if_neg k0]
  by_cases k1 : ev.kind = 3
  · rw [if_pos k1]; exact ⟨draw_U h he.draw, hC⟩
  rw [if_neg k1]
  by_cases k2 : ev.kind = 4 ∨ ev.kind = 5
  · rw [if_pos k2]; exact send_U h hC he
  rw [if_neg k2]
  by_cases k3 : ev.kind = 6
  · rw [if_pos k3]; exact recv_U h hC ou
  rw [if_neg k3]
  by_cases k4 : ev.kind = 7
  · rw [if_pos k4]; exact ⟨reply_U h he, hC⟩
  rw [if_neg k4]
  by_cases k5 : ev.kind = 8
  · rw [if_pos k5]; exact ⟨sig_U h hC, hC⟩
  rw [if_neg k5]
  by_cases k6 : ev.kind = 9
  · rw [if_pos k6]; exact ⟨wait_U h ou, hC⟩
  rw [if_neg k6]
  by_cases k7 : ev.kind = 10
  · rw [if_pos k7]; exact ⟨h, retype_UC hC⟩
  rw [if_neg k7]
  by_cases k8 : ev.kind = 11
  · rw [if_pos k8]; exact ⟨h, copy_UC hC he⟩
  rw [if_neg k8]
  by_cases k9 : ev.kind = 12 ∨ ev.kind = 13
  · rw [if_pos k9]; exact drop_U h hC
  rw [if_neg k9]
  by_cases k10 : ev.kind = 18 ∨ ev.kind = 19
  · rw [if_pos k10]; exact ⟨line_U h hC, hC⟩
  rw [if_neg k10]
  exact ⟨control_U h, hC⟩

theorem step0_U (h : UR S) (hC : UC C) (he : EvU ev) : UR (step0 S C ev).1 ∧ UC (step0 S C ev).2.1 := by
  unfold step0
  by_cases k0 : ev.kind = 0
  · rw [if_pos k0]
    dsimp only
    have h1 : UR { S with now := IntKind.wrap .u64 (S.now + 1) } := ⟨h.t, h.w, h.i, u64w _⟩
    by_cases hc : S.cur ≠ -1
    · rw [if_pos hc]; exact ⟨h1.wake _, hC⟩
    · rw [if_neg hc]; exact ⟨h1, hC⟩
  rw [if_neg k0]
  by_cases k1 : ev.kind = 1
  · rw [if_pos k1]; exact ⟨int_U h _, hC⟩
  rw [if_neg k1]
  by_cases k2 : ev.kind ≥ 20
  · rw [if_pos k2]; exact ⟨h, hC⟩
  rw [if_neg k2]
  by_cases k3 : S.cur = -1
  · rw [if_pos k3]; exact ⟨h, hC⟩
  rw [if_neg k3]
  exact sys_U h hC he out0

theorem pick_U (h : UR S) (top pick : Int) : UR (pickP S top pick) := by
  unfold pickP; dsimp only
  generalize walkP S (pick % (S.rdy top.toNat).n).toNat (S.rdy top.toNat).head = t
  have h1 := h.leave t
  have h2 : UR ((leaveP S t).setT t.toNat { (leaveP S t).tcb t.toNat with st := 2 }) := h1.setT ⟨(h1.t _).b, (h1.t _).m0, (h1.t _).m1, (h1.t _).m2, (h1.t _).m3⟩
  exact ⟨h2.t, h2.w, h2.i, h2.n⟩

theorem sched_U (h : UR S) (pick : Int) : UR (schedP S pick) := by
  unfold schedP
  split
  · split
    · exact h
    · split
      · exact h.wake _
      · exact pick_U (h.wake _) _ _
  · split
    · exact h
    · exact pick_U h _ _

theorem step_U (h : UR S) (hC : UC C) (he : EvU ev) : UR (stepP S C ev).1 ∧ UC (stepP S C ev).2.1 := by
  have h0 := step0_U h hC he
  unfold stepP
  extract_lets r
  have h1 : UR r.1 ∧ UC r.2.1 := h0
  clear_value r
  split
  · exact ⟨sched_U h1.1 _, h1.2⟩
  · exact h1
end

end Go.Kn
