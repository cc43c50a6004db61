/-
  The rest of what holds between steps; two machines with the same bytes answer alike.
-/
import Derived.Test.Qxb6500918aDoorQd
import Derived.Test.Qxb6500918aDoorPF
namespace Go.Kn
open Go.Sx Go.Proofs.Qxb6500918aDoor

structure TI (n : Int) (x : Tcb) : Prop where
  cs : 0 ≤ x.cs.gen ∧ x.cs.gen ≤ n
  rp : 0 ≤ x.rep.gen ∧ x.rep.gen ≤ n
  ln : 0 ≤ x.len ∧ x.len < 256
  gt : 0 ≤ x.got ∧ x.got < 256
  xf : 0 ≤ x.xfer ∧ x.xfer < 4294967296

structure AT (a : AK) (n : Int) : Prop where
  t : ∀ i, i < 256 → TI n (a.th i)
  i : ∀ l, l < 16 → 0 ≤ (a.irq l).ntfn.gen ∧ (a.irq l).ntfn.gen ≤ n

def AZ (a : AK) (E : Nat → Ent) : Prop := ∀ i, i < 256 → (E i).ty ≠ 3 → a.th i = unl noT

structure AI (a : AK) (E : Nat → Ent) (n : Int) : Prop where
  at_ : AT a n
  az : AZ a E

section
variable {S : KP} {a a' : AK} {C : CP} {ev : Ev} {E : Nat → Ent} {n : Int}

theorem TI.sw {x : Tcb} (h : TI n x) (s : Int) (w : Rf) : TI n { x with st := s, wait := w } := ⟨h.cs, h.rp, h.ln, h.gt, h.xf⟩
theorem TI.mono {x : Tcb} {m : Int} (h : TI n x) (hm : n ≤ m) : TI m x := ⟨⟨h.cs.1, by have := h.cs.2; omega⟩, ⟨h.rp.1, by have := h.rp.2; omega⟩, h.ln, h.gt, h.xf⟩
theorem TI.noT (hn : 0 ≤ n) : TI n (unl Kn.noT) := ⟨⟨Int.le_refl _, hn⟩, ⟨Int.le_refl _, hn⟩, by decide, by decide, by decide⟩

theorem AT.up (h : AT a n) {t : Nat} {x : Tcb} (e : a'.th = upd a.th t x) (hi : a'.irq = a.irq) (hx : t < 256 → TI n x) : AT a' n where
  t i hi' := by
    rw [e]
    by_cases ei : i = t
    · subst ei; rw [upd_same]; exact hx hi'
    · rw [upd_other _ _ ei]; exact h.t i hi'
  i l hl := by rw [hi]; exact h.i l hl

theorem AZ.up (h : AZ a E) {t : Nat} {x : Tcb} (e : a'.th = upd a.th t x) (hl : t < 256 → (E t).ty = 3) : AZ a' E := fun i hi hz => by
  rw [e]
  by_cases ei : i = t
  · subst ei; exact absurd (hl hi) hz
  · rw [upd_other _ _ ei]; exact h i hi hz

theorem AI.up (h : AI a E n) {t : Nat} {x : Tcb} (e : a'.th = upd a.th t x) (hi : a'.irq = a.irq) (hx : t < 256 → TI n x) (hl : (E t).ty = 3) : AI a' E n := ⟨h.at_.up e hi hx, h.az.up e (fun _ => hl)⟩

theorem AI.setT (h : AI a E n) {t : Nat} {x : Tcb} (hx : t < 256 → TI n x) (hl : (E t).ty = 3) : AI (a.setT t x) E n := h.up rfl rfl hx hl
theorem AI.leave (h : AI a E n) {t : Nat} (hl : (E t).ty = 3) : AI (leaveA a t) E n := h.up rfl rfl (fun ht => (h.at_.t t ht).sw _ _) hl
theorem AI.wake (h : AI a E n) {t : Nat} (hl : (E t).ty = 3) : AI (wakeA a t) E n := h.up rfl rfl (fun ht => (h.at_.t t ht).sw _ _) hl
theorem AI.block (h : AI a E n) {t : Nat} {s : Int} {o : Rf} (hl : (E t).ty = 3) : AI (blockA a t s o) E n := h.up rfl rfl (fun ht => (h.at_.t t ht).sw _ _) hl
theorem AI.setW (h : AI a E n) (i : Nat) (v : Int) : AI (a.setW i v) E n := ⟨⟨h.at_.t, h.at_.i⟩, h.az⟩
theorem AI.setI (h : AI a E n) {l : Nat} {q : Irq} (hq : 0 ≤ q.ntfn.gen ∧ q.ntfn.gen ≤ n) : AI (a.setI l q) E n := ⟨⟨h.at_.t, fun j hj => by
  show 0 ≤ (upd a.irq l q j).ntfn.gen ∧ (upd a.irq l q j).ntfn.gen ≤ n
  by_cases e : j = l
  · subst e; rw [upd_same]; exact hq
  · rw [upd_other _ _ e]; exact h.at_.i j hj⟩, h.az⟩
theorem AI.mono (h : AI a E n) {m : Int} (hm : n ≤ m) : AI a E m := ⟨⟨fun i hi => (h.at_.t i hi).mono hm, fun l hl => ⟨(h.at_.i l hl).1, by have := (h.at_.i l hl).2; omega⟩⟩, h.az⟩

/-- Who is in a queue lives. -/
theorem mem_live (h : Abs S a) (hX : XI S E) {L : QL} (hL : L.ok) {x : Nat} (hx : x ∈ a.q L) : x < 256 ∧ (E x).ty = 3 ∧ (a.th x).st ≠ 0 := by
  have hlt := (h.li.lx.ch hL).lt x hx
  have hp := (h.li.lx.mem hL x hlt).1 hx
  have hs : (S.tcb x).st ≠ 0 := by
    intro h0
    unfold place at hp
    rw [h0] at hp
    simp at hp
  refine ⟨hlt, hX.lv hlt hs, ?_⟩
  rw [h.th x hlt]; exact hs

theorem oldest_mem {a : AK} {o : Rf} {s : Int} (h : oldestA a o s ≠ -1) : ∃ x : Nat, oldestA a o s = (x : Int) ∧ x ∈ a.q (.w o.idx.toNat) := by
  unfold oldestA at h ⊢
  split
  · cases hq : a.q (.w o.idx.toNat) with
    | nil => rename_i hh; rw [hq] at hh; exact absurd rfl hh.1
    | cons x r => exact ⟨x, rfl, by simp⟩
  · rename_i hh; rw [if_neg hh] at h; exact absurd rfl h

theorem oldest_live {a5 : AK} (h : Abs S a) (hX : XI S E) (hq : a5.q = a.q) {o : Rf} (ho : 0 ≤ o.idx ∧ o.idx < 256) {s : Int} (hn : oldestA a5 o s ≠ -1) : (E (oldestA a5 o s).toNat).ty = 3 := by
  obtain ⟨x, h1, h2⟩ := oldest_mem hn
  rw [h1, Int.toNat_natCast]
  rw [hq] at h2
  exact (mem_live h hX (L := .w o.idx.toNat) (show _ < 256 by omega) h2).2.1

theorem AI.signal (hA : Abs S a) (hX : XI S E) {o : Rf} (ho : 0 ≤ o.idx ∧ o.idx < 256) (b : Int) {a1 : AK} (h1 : AI a1 E n) (hq : a1.q = a.q) : AI (signalA a1 o b) E n := by
  unfold signalA
  split
  · rename_i hne
    have hl := oldest_live hA hX hq ho hne
    refine (h1.setT (fun ht => ?_) hl).wake hl
    have := h1.at_.t _ ht
    exact ⟨this.cs, this.rp, this.ln, this.gt, this.xf⟩
  · exact h1.setW _ _

theorem TI.msg {x : Tcb} (h : TI n x) (ws : List Int) : TI n (msgA x ws) := by
  unfold msgA
  rcases ws with _ | ⟨b, _ | ⟨c, _ | ⟨d, _ | ⟨e, r⟩⟩⟩⟩ <;> exact ⟨h.cs, h.rp, wrap8 _, h.gt, h.xf⟩

theorem AI.deliver (h : AI a E n) {f t : Nat} (hf : f < 256) (ht : t < 256) (hl : (E t).ty = 3) : AI (deliverA a C f t).1 E n := by
  have h0 : AI (del0A a f t) E n := by
    refine h.setT (fun _ => ?_) hl
    have g := h.at_.t f hf
    have g' := h.at_.t t ht
    exact ⟨g'.cs, g'.rp, g.ln, ⟨show (0 : Int) ≤ 0 by decide, show (0 : Int) < 256 by decide⟩, g'.xf⟩
  unfold deliverA
  split
  · exact h0
  split
  · split
    · refine h0.setT (fun _ => ?_) hl
      have g' := h0.at_.t t ht
      exact ⟨g'.cs, g'.rp, g'.ln, ⟨show (0 : Int) ≤ 1 by decide, show (1 : Int) < 256 by decide⟩, g'.xf⟩
    · exact h0
  · exact h0

theorem ref_gen (hG : GI E n) {t : Int} (hn : 0 ≤ n) : 0 ≤ (refP E t).gen ∧ (refP E t).gen ≤ n := by
  unfold refP
  split
  · exact ⟨Int.le_refl _, hn⟩
  · have := hG t.toNat
    show 0 ≤ (E t.toNat).gen ∧ (E t.toNat).gen ≤ n
    omega

theorem AI.settle (h : AI a E n) (hG : GI E n) (hn : 0 ≤ n) {f t : Nat} (hf : (E f).ty = 3) (ht : (E t).ty = 3) : AI (settleA a E f t) E n := by
  unfold settleA
  split
  · have h1 := h.block (s := 6) (o := refP E (t : Int)) hf
    refine h1.setT (fun h2 => ?_) ht
    have g := h1.at_.t t h2
    exact ⟨g.cs, ref_gen hG hn, g.ln, g.gt, g.xf⟩
  · split
    · exact h.wake hf
    · exact h

theorem deliverA_ent (a : AK) (C : CP) (f t : Nat) : (deliverA a C f t).2.ent = C.ent := by
  unfold deliverA
  split
  · rfl
  split
  · split <;> rfl
  · rfl

/-- What holds between steps. -/
structure Iv (S : KP) (a : AK) (C : CP) (n : Int) : Prop where
  ab : Abs S a
  ci : CI C
  xi : XI S C.ent
  xc : XC C
  ur : UR S
  uc : UC C
  wi : WI S C.ent
  gi : GI C.ent n
  ei : EI C
  ai : AI a C.ent n

theorem Iv.ok2 (h : Iv S a C n) : Ok2 S := ⟨h.ab.ri, _, h.ab.li⟩
theorem Iv.n0 (h : Iv S a C n) : 0 ≤ n := by have := h.gi 0; omega
theorem Iv.curL (h : Iv S a C n) (hcur : 0 ≤ S.cur ∧ S.cur < 256) : (C.ent a.cur.toNat).ty = 3 := by
  rw [h.ab.cu]; exact (h.xi.curLive h.ok2 hcur).2

theorem Iv.find (h : Iv S a C n) (hcur : 0 ≤ S.cur ∧ S.cur < 256) {ad want need : Int} (ha : 0 ≤ ad) (hw : want ≠ 1) (h0 : ¬ (findA a C ad want need).2.2 ≠ 0) :
    (0 ≤ (findA a C ad want need).1.obj.idx ∧ (findA a C ad want need).1.obj.idx < 256) ∧ typeOfP C.ent (findA a C ad want need).1.obj = want ∧ (0 ≤ (findA a C ad want need).1.obj.gen ∧ (findA a C ad want need).1.obj.gen ≤ n) := by
  rw [← h.ab.find hcur] at h0 ⊢
  have h1 := find_obj h.ab.ri h.ci hcur ha hw h0
  refine ⟨h1.1, h1.2, ?_⟩
  obtain ⟨i, j, q1, q2, q3, q4, q5, q6, q7, q8⟩ := find_fact h.ab.ri h.ci hcur ha (c := (findP S C ad want need).1) (s := (findP S C ad want need).2.1) (k := (findP S C ad want need).2.2) rfl (Classical.byContradiction h0)
  generalize (findP S C ad want need).1 = c at q6 q7 q8 ⊢
  rcases q8 with b | b
  · exact absurd (q6.symm.trans b.1) hw
  · have := h.gi c.obj.idx.toNat
    rw [b.2.2.2.2.1] at this
    omega

theorem Iv.send (h : Iv S a C n) (he : EvOk ev) (hx : 0 ≤ ev.xfer ∧ ev.xfer < 4294967296) (hcur : 0 ≤ S.cur ∧ S.cur < 256) : AI (sendA a C ev).1 C.ent n := by
  have hcl := h.curL hcur
  have hc' : a.cur.toNat < 256 := by rw [h.ab.cu]; omega
  unfold sendA
  split
  · exact h.ai
  rename_i h0
  have ho := (h.find hcur he.addr.1 (by decide) h0).1
  split
  · exact h.ai
  dsimp only
  have h5 : AI (a.setT a.cur.toNat { msgA (a.th a.cur.toNat) ev.ws with badge := (findA a C ev.addr 4 2).1.badge, grant := (bitI .and .u8 (findA a C ev.addr 4 2).1.rights 4 != 0), call := (ev.kind == 5), xfer := ev.xfer }) C.ent n := by
    refine h.ai.setT (fun ht => ?_) hcl
    have g := (h.ai.at_.t _ ht).msg ev.ws
    exact ⟨g.cs, g.rp, g.ln, g.gt, hx⟩
  have hq5 : (a.setT a.cur.toNat { msgA (a.th a.cur.toNat) ev.ws with badge := (findA a C ev.addr 4 2).1.badge, grant := (bitI .and .u8 (findA a C ev.addr 4 2).1.rights 4 != 0), call := (ev.kind == 5), xfer := ev.xfer }).q = a.q := rfl
  generalize a.setT a.cur.toNat { msgA (a.th a.cur.toNat) ev.ws with badge := (findA a C ev.addr 4 2).1.badge, grant := (bitI .and .u8 (findA a C ev.addr 4 2).1.rights 4 != 0), call := (ev.kind == 5), xfer := ev.xfer } = a5 at h5 hq5 ⊢
  split
  · exact h5.block hcl
  rename_i hne
  have hl := oldest_live h.ab h.xi hq5 ho hne
  obtain ⟨x, e1, e2⟩ := oldest_mem hne
  rw [hq5] at e2
  have hx2 := (mem_live h.ab h.xi (L := .w (findA a C ev.addr 4 2).1.obj.idx.toNat) (show _ < 256 by omega) e2).1
  have hd := h5.deliver (C := C) (f := a.cur.toNat) (t := (oldestA a5 (findA a C ev.addr 4 2).1.obj 4).toNat) hc' (by rw [e1]; omega) hl
  rw [deliverA_ent]
  exact (hd.wake hl).settle h.gi h.n0 hcl hl

theorem Iv.recv (h : Iv S a C n) (he : EvOk ev) (hcur : 0 ≤ S.cur ∧ S.cur < 256) (ou : Outp) : AI (recvA a C ev ou).1 C.ent n := by
  have hcl := h.curL hcur
  have hc' : a.cur.toNat < 256 := by rw [h.ab.cu]; omega
  unfold recvA
  split
  · exact h.ai
  rename_i h0
  have ho := (h.find hcur he.addr.1 (by decide) h0).1
  dsimp only
  have h5 : AI (a.setT a.cur.toNat { a.th a.cur.toNat with dst := ev.dst }) C.ent n := by
    refine h.ai.setT (fun ht => ?_) hcl
    have g := h.ai.at_.t _ ht
    exact ⟨g.cs, g.rp, g.ln, g.gt, g.xf⟩
  have hq5 : (a.setT a.cur.toNat { a.th a.cur.toNat with dst := ev.dst }).q = a.q := rfl
  generalize a.setT a.cur.toNat { a.th a.cur.toNat with dst := ev.dst } = a5 at h5 hq5 ⊢
  split
  · exact h5.block hcl
  rename_i hne
  have hl := oldest_live h.ab h.xi hq5 ho hne
  obtain ⟨x, e1, e2⟩ := oldest_mem hne
  rw [hq5] at e2
  have hx2 := (mem_live h.ab h.xi (L := .w (findA a C ev.addr 4 1).1.obj.idx.toNat) (show _ < 256 by omega) e2).1
  have hd := h5.deliver (C := C) (f := (oldestA a5 (findA a C ev.addr 4 1).1.obj 3).toNat) (t := a.cur.toNat) (by rw [e1]; omega) hc' hcl
  rw [deliverA_ent]
  exact hd.settle h.gi h.n0 hl hcl

theorem Iv.reply (h : Iv S a C n) (hcur : 0 ≤ S.cur ∧ S.cur < 256) : AI (replyA a C ev).1 C.ent n := by
  have hcl := h.curL hcur
  unfold replyA
  dsimp only
  split
  · exact h.ai
  split
  · exact h.ai
  split
  · exact h.ai
  rename_i h3
  have hl : (C.ent (a.th a.cur.toNat).rep.idx.toNat).ty = 3 := typeOf_ty (by decide) (Classical.byContradiction fun hq => h3 (.inl hq))
  have h1 : AI (a.setT (a.th a.cur.toNat).rep.idx.toNat { msgA (a.th (a.th a.cur.toNat).rep.idx.toNat) ev.ws with badge := 0, got := 0 }) C.ent n := by
    refine h.ai.setT (fun ht => ?_) hl
    have g := (h.ai.at_.t _ ht).msg ev.ws
    exact ⟨g.cs, g.rp, g.ln, ⟨show (0 : Int) ≤ 0 by decide, show (0 : Int) < 256 by decide⟩, g.xf⟩
  have h2 := h1.wake hl
  refine h2.setT (fun ht => ?_) hcl
  have g := h2.at_.t _ ht
  exact ⟨g.cs, ⟨show (0 : Int) ≤ 0 by decide, h.n0⟩, g.ln, g.gt, g.xf⟩

theorem Iv.wait (h : Iv S a C n) (hcur : 0 ≤ S.cur ∧ S.cur < 256) (ou : Outp) : AI (waitA a C ev ou).1 C.ent n := by
  have hcl := h.curL hcur
  unfold waitA
  split
  · exact h.ai
  dsimp only
  split
  · exact h.ai.block hcl
  · refine (h.ai.setT (fun ht => ?_) hcl).setW _ _
    have g := h.ai.at_.t _ ht
    exact ⟨g.cs, g.rp, g.ln, g.gt, g.xf⟩

theorem Iv.interrupt (h : Iv S a C n) {l : Int} (hl : 0 ≤ l) : AI (interruptA a C l).1 C.ent n := by
  unfold interruptA
  split
  · exact h.ai
  split
  · exact h.ai
  split
  · exact h.ai
  · have hq := h.ab.ri.irq (i := l.toNat) (by omega)
    have hir := h.ab.ir l.toNat (by omega)
    refine AI.signal h.ab h.xi (by rw [hir]; exact hq) _ (h.ai.setI (h.ai.at_.i l.toNat (by omega))) rfl

theorem Iv.line (h : Iv S a C n) (he : EvOk ev) (hcur : 0 ≤ S.cur ∧ S.cur < 256) : AI (lineA a C ev).1 C.ent n := by
  have ha := he.arg
  unfold lineA
  split
  · exact h.ai
  split
  · split
    · rename_i h0
      exact h.ai.setI (h.find hcur he.addr.1 (by decide) (by rw [h0]; simp)).2.2
    · exact h.ai
  split
  · exact h.ai
  split
  · exact h.ai
  · exact h.ai.setI (h.ai.at_.i ev.arg.toNat (by omega))

theorem Iv.control (h : Iv S a C n) (he : EvOk ev) (hcur : 0 ≤ S.cur ∧ S.cur < 256) : AI (controlA a C ev).1 C.ent n := by
  unfold controlA
  split
  · exact h.ai
  rename_i h0
  have hf := h.find hcur he.addr.1 (by decide) h0
  have hl := typeOf_ty (by decide) hf.2.1
  dsimp only
  split
  · split
    · exact h.ai
    rename_i h1
    have hg := h.find hcur he.node.1 (by decide) h1
    refine h.ai.setT (fun ht => ?_) hl
    have g := h.ai.at_.t _ ht
    exact ⟨hg.2.2, g.rp, g.ln, g.gt, g.xf⟩
  split
  · split
    · exact h.ai
    split
    · refine h.ai.setT (fun ht => ?_) hl
      have g := h.ai.at_.t _ ht
      exact ⟨g.cs, g.rp, g.ln, g.gt, g.xf⟩
    · have h1 := h.ai.leave hl
      refine (h1.setT (fun ht => ?_) hl).wake hl
      have g := h1.at_.t _ ht
      exact ⟨g.cs, g.rp, g.ln, g.gt, g.xf⟩
  split
  · split
    · exact h.ai
    · exact h.ai.wake hl
  split
  · split
    · exact h.ai
    · exact h.ai.leave hl
  · exact h.ai

theorem Iv.draw (h : Iv S a C n) (hcur : 0 ≤ S.cur ∧ S.cur < 256) (d : Int) : AI (drawA a d) C.ent n := by
  refine h.ai.setT (fun ht => ?_) (h.curL hcur)
  have g := h.ai.at_.t _ ht
  exact ⟨g.cs, g.rp, ⟨show (0 : Int) ≤ 1 by decide, show (1 : Int) < 256 by decide⟩, g.gt, g.xf⟩

theorem Iv.sig (h : Iv S a C n) (he : EvOk ev) (hcur : 0 ≤ S.cur ∧ S.cur < 256) : AI (sigA a C ev).1 C.ent n := by
  unfold sigA
  split
  · rename_i h0
    exact AI.signal h.ab h.xi (h.find hcur he.addr.1 (by decide) (by rw [h0]; simp)).1 _ h.ai rfl
  · exact h.ai

theorem AZ.retype0 (h : AZ a E) (t : Int) : AZ a (retype0 E t).1 := by
  have hsc := scan_slot (E := E) 256 0 (-1) (by decide) (by decide) (by decide) (by decide)
  unfold Kn.retype0
  dsimp only
  generalize scanP E 256 0 (-1) = sc at hsc ⊢
  split
  · exact h
  split
  · exact h
  · rename_i h1 h2
    dsimp only
    intro i hi hz
    by_cases e : i = sc.2.toNat
    · refine h i hi ?_
      rcases hsc.2.2.2 with e' | e'
      · omega
      · rw [e, e'.2]; decide
    · rw [upd_other _ _ e] at hz; exact h i hi hz

/-! Burying -/

theorem AT.wakeRep (h : AT a n) (o : Rf) : ∀ m, AT (wakeRepA a o m) n
  | 0 => h
  | m + 1 => by
    have ih := AT.wakeRep h o m
    rw [wakeRepA]
    split
    · exact ih.up (t := m) rfl rfl (fun ht => (ih.t m ht).sw _ _)
    · exact ih

theorem AT.wakes : ∀ (xs : List Nat) {a : AK}, AT a n → AT (xs.foldl wakeA a) n
  | [], _, h => h
  | x :: xs, a, h => AT.wakes xs (a := wakeA a x) (h.up (t := x) rfl rfl (fun ht => (h.t x ht).sw _ _))

theorem AT.bury (h : AT a n) (hn : 0 ≤ n) (c : Cp) : AT (buryA a c) n := by
  unfold buryA
  split
  · refine AT.wakeRep ?_ _ _
    have h1 : AT (leaveA a c.obj.idx.toNat) n := h.up (t := c.obj.idx.toNat) rfl rfl (fun ht => (h.t _ ht).sw _ _)
    exact h1.up (t := c.obj.idx.toNat) rfl rfl (fun _ => TI.noT hn)
  split
  · have := AT.wakes (a.q (.w c.obj.idx.toNat)) h
    exact ⟨this.t, this.i⟩
  · exact h

theorem AT.buryAll (hn : 0 ≤ n) : ∀ (l : List Cp) {a : AK}, AT a n → AT (buryAllA a l) n
  | [], _, h => h
  | c :: l, _, h => AT.buryAll hn l (h.bury hn c)

theorem wakeRep_keep {i : Nat} (o : Rf) : ∀ m, a.th i = unl noT → (wakeRepA a o m).th i = unl noT
  | 0, h => h
  | m + 1, h => by
    have ih := wakeRep_keep o m h
    rw [wakeRepA]
    split
    · rename_i h6
      show upd (wakeRepA a o m).th m _ i = _
      by_cases e : i = m
      · subst e; rw [ih] at h6; exact absurd h6.1 (by decide)
      · rw [upd_other _ _ e]; exact ih
    · exact ih

theorem wakes_keep {i : Nat} : ∀ (xs : List Nat) {a : AK}, i ∉ xs → a.th i = unl noT → (xs.foldl wakeA a).th i = unl noT
  | [], _, _, h => h
  | x :: xs, a, hn, h => by
    refine wakes_keep xs (a := wakeA a x) (fun hq => hn (List.mem_cons_of_mem _ hq)) ?_
    show upd a.th x _ i = _
    rw [upd_other _ _ (fun e => hn (by simp [e]))]; exact h

theorem bury_keep (hA : Abs S a) {c : Cp} (hc : 0 ≤ c.obj.idx ∧ c.obj.idx < 256) {i : Nat} (hi : i < 256) (h : a.th i = unl noT) : (buryA a c).th i = unl noT := by
  unfold buryA
  split
  · refine wakeRep_keep _ _ ?_
    show upd (leaveA a c.obj.idx.toNat).th c.obj.idx.toNat (unl noT) i = _
    by_cases e : i = c.obj.idx.toNat
    · subst e; rw [upd_same]
    · rw [upd_other _ _ e]
      show upd a.th c.obj.idx.toNat _ i = _
      rw [upd_other _ _ e]; exact h
  split
  · refine wakes_keep (a.q (.w c.obj.idx.toNat)) (a := a) (fun hq => ?_) h
    have hp := (hA.li.lx.mem (L := .w c.obj.idx.toNat) (show _ < 256 by omega) i hi).1 hq
    have : place (S.tcb i) = place (a.th i) := by rw [hA.th i hi]; rfl
    rw [this, h] at hp
    cases hp
  · exact h

theorem bury_none {c : Cp} (h3 : c.ty = 3) : (buryA a c).th c.obj.idx.toNat = unl noT := by
  unfold buryA
  rw [if_pos h3]
  refine wakeRep_keep _ _ ?_
  show upd (leaveA a c.obj.idx.toNat).th c.obj.idx.toNat (unl noT) c.obj.idx.toNat = _
  rw [upd_same]

theorem buryAll_keep : ∀ (l : List Cp) {S : KP} {a : AK}, Abs S a → (∀ c ∈ l, 2 ≤ c.ty ∧ c.ty < 6 ∧ 0 ≤ c.obj.idx ∧ c.obj.idx < 256) → ∀ {i : Nat}, i < 256 → a.th i = unl noT → (buryAllA a l).th i = unl noT
  | [], _, _, _, _, _, _, h => h
  | c :: l, _, _, hA, hc, _, hi, h => buryAll_keep l (hA.bury (hc c (by simp)).2.2) (fun x hx => hc x (List.mem_cons_of_mem _ hx)) hi (bury_keep hA (hc c (by simp)).2.2 hi h)

theorem buryAll_none : ∀ (l : List Cp) {S : KP} {a : AK}, Abs S a → (∀ c ∈ l, 2 ≤ c.ty ∧ c.ty < 6 ∧ 0 ≤ c.obj.idx ∧ c.obj.idx < 256) → ∀ c ∈ l, c.ty = 3 → (buryAllA a l).th c.obj.idx.toNat = unl noT
  | [], _, _, _, _, c, hc, _ => by cases hc
  | d :: l, S, a, hA, hc, c, hm, h3 => by
    have hA' := hA.bury (hc d (by simp)).2.2
    have hc' : ∀ c ∈ l, 2 ≤ c.ty ∧ c.ty < 6 ∧ 0 ≤ c.obj.idx ∧ c.obj.idx < 256 := fun x hx => hc x (List.mem_cons_of_mem _ hx)
    rcases List.mem_cons.1 hm with e | e
    · subst e
      have h1 := (hc c (by simp)).2.2
      exact buryAll_keep l hA' hc' (by omega) (bury_none h3)
    · exact buryAll_none l hA' hc' c e h3

theorem AZ.bury {E' : Nat → Ent} {l : List Cp} (h : AZ a E) (hA : Abs S a) (hd : ∀ c ∈ l, 2 ≤ c.ty ∧ c.ty < 6 ∧ 0 ≤ c.obj.idx ∧ c.obj.idx < 256) (hf : Fre E E' l) : AZ (buryAllA a l) E' := fun i hi hz => by
  rcases hf i with e | ⟨c, hcl, e⟩
  · rw [e] at hz
    exact buryAll_keep l hA hd hi (h i hi hz)
  · by_cases h3 : c.ty = 3
    · have := buryAll_none l hA hd c hcl h3
      rw [e.2.2.2.2.1] at this; exact this
    · exact buryAll_keep l hA hd hi (h i hi (by rw [e.2.2.2.2.2.1]; exact h3))

theorem Iv.drop (h : Iv S a C n) (he : EvOk ev) (hcur : 0 ≤ S.cur ∧ S.cur < 256) : AI (dropA a C ev).1 (dropA a C ev).2.1.ent n := by
  have hn : S.cur.toNat < 256 := by omega
  have hci := (h.ab.ri.t hn).ci
  unfold dropA
  dsimp only
  rw [h.ab.cs hcur]
  split
  · exact h.ai
  rename_i e0
  split
  · exact h.ai
  have hs := look_slot h.ci hci.1 he.addr.1 (Classical.byContradiction e0)
  split
  · have r := rev_ok (lookP C.ent (S.tcb S.cur.toNat).cs ev.addr).1 4097 C [] h.ci (fun _ hq => by cases hq)
    have r2 := (rev_fre (lookP C.ent (S.tcb S.cur.toNat).cs ev.addr).1 4097 C [] h.ci).2
    obtain ⟨x, hx⟩ : ∃ x, revokeP 4097 C (lookP C.ent (S.tcb S.cur.toNat).cs ev.addr).1 [] = x := ⟨_, rfl⟩
    rw [hx] at r r2 ⊢
    exact ⟨AT.buryAll h.n0 _ h.ai.at_, h.ai.az.bury h.ab r.dead r2⟩
  · have hlt : cnt C < 4097 := by have := cnt_le (C := C); omega
    have d := del_ok 4097 C (lookP C.ent (S.tcb S.cur.toNat).cs ev.addr).1.toNat h.ci hlt hs.1 hs.2
    have d2 := del_fre 4097 C (lookP C.ent (S.tcb S.cur.toNat).cs ev.addr).1.toNat h.ci hlt hs.1 hs.2
    obtain ⟨x, hx⟩ : ∃ x, deleteP 4097 C (lookP C.ent (S.tcb S.cur.toNat).cs ev.addr).1.toNat = x := ⟨_, rfl⟩
    rw [hx] at d d2 ⊢
    exact ⟨AT.buryAll h.n0 _ h.ai.at_, h.ai.az.bury h.ab d.dead d2⟩

theorem sendA_ent (h : Abs S a) (hC : CI C) (he : EvOk ev) (hcur : 0 ≤ S.cur ∧ S.cur < 256) : (sendA a C ev).2.1.ent = C.ent := by
  rw [← (h.send hC he hcur).2]; exact send_ent S C ev
theorem recvA_ent (h : Abs S a) (hC : CI C) (he : EvOk ev) (hcur : 0 ≤ S.cur ∧ S.cur < 256) (ou : Outp) : (recvA a C ev ou).2.1.ent = C.ent := by
  rw [← (h.recv hC he hcur ou).2]; exact recv_ent S C ev ou

theorem Iv.sys (h : Iv S a C n) (he : EvOk ev) (hx : 0 ≤ ev.xfer ∧ ev.xfer < 4294967296) (hcur : 0 ≤ S.cur ∧ S.cur < 256) (ou : Outp) : AI (sysA a C ev ou).1 (sysA a C ev ou).2.1.ent n := by
  unfold sysA
  by_cases k0 : ev.kind = 2
  · rw [if_pos k0]; exact h.ai.wake (h.curL hcur)
  rw [if_neg k0]
  by_cases k1 : ev.kind = 3
  · rw [if_pos k1]; exact h.draw hcur _
  rw [if_neg k1]
  by_cases k2 : ev.kind = 4 ∨ ev.kind = 5
  · rw [if_pos k2]; dsimp only; rw [sendA_ent h.ab h.ci he hcur]; exact h.send he hx hcur
  rw [if_neg k2]
  by_cases k3 : ev.kind = 6
  · rw [if_pos k3, recvA_ent h.ab h.ci he hcur]; exact h.recv he hcur ou
  rw [if_neg k3]
  by_cases k4 : ev.kind = 7
  · rw [if_pos k4]; exact h.reply hcur
  rw [if_neg k4]
  by_cases k5 : ev.kind = 8
  · rw [if_pos k5]; exact h.sig he hcur
  rw [if_neg k5]
  by_cases k6 : ev.kind = 9
  · rw [if_pos k6]; exact h.wait hcur ou
  rw [if_neg k6]
  by_cases k7 : ev.kind = 10
  · rw [if_pos k7]
    dsimp only
    rcases retype_ent (ofA a) C ev with e | e
    · rw [e]; exact h.ai
    · rw [e]; exact ⟨h.ai.at_, h.ai.az.retype0 _⟩
  rw [if_neg k7]
  by_cases k8 : ev.kind = 11
  · rw [if_pos k8]; dsimp only; rw [copy_ent]; exact h.ai
  rw [if_neg k8]
  by_cases k9 : ev.kind = 12 ∨ ev.kind = 13
  · rw [if_pos k9]; exact h.drop he hcur
  rw [if_neg k9]
  by_cases k10 : ev.kind = 18 ∨ ev.kind = 19
  · rw [if_pos k10]; exact h.line he hcur
  rw [if_neg k10]
  exact h.control he hcur

theorem Iv.step0 (h : Iv S a C n) (he : EvOk ev) (hx : 0 ≤ ev.xfer ∧ ev.xfer < 4294967296) : AI (step0A a C ev).1 (step0A a C ev).2.1.ent n := by
  have hcu := h.ab.cu
  unfold step0A
  by_cases k0 : ev.kind = 0
  · rw [if_pos k0]
    dsimp only
    have h1 : AI { a with now := IntKind.wrap .u64 (a.now + 1) } C.ent n := ⟨⟨h.ai.at_.t, h.ai.at_.i⟩, h.ai.az⟩
    by_cases hc : a.cur ≠ -1
    · rw [if_pos hc]
      exact h1.wake (h.curL (lk_nat h.ab.ri.cur (by rw [← hcu]; exact hc)))
    · rw [if_neg hc]; exact h1
  rw [if_neg k0]
  by_cases k1 : ev.kind = 1
  · rw [if_pos k1]; exact h.interrupt he.arg.1
  rw [if_neg k1]
  by_cases k2 : ev.kind ≥ 20
  · rw [if_pos k2]; exact h.ai
  rw [if_neg k2]
  by_cases k3 : a.cur = -1
  · rw [if_pos k3]; exact h.ai
  rw [if_neg k3]
  exact h.sys he hx (lk_nat h.ab.ri.cur (by rw [← hcu]; exact k3)) out0

theorem AI.pick (h : AI a E n) {top pick : Int} (hl : (E (pickNo a top pick)).ty = 3) : AI (pickA a top pick) E n := by
  have h1 := h.leave hl
  have h2 : AI ((leaveA a (pickNo a top pick)).setT (pickNo a top pick) { (leaveA a (pickNo a top pick)).th (pickNo a top pick) with st := 2 }) E n := by
    refine h1.setT (fun ht => ?_) hl
    have g := h1.at_.t _ ht
    exact ⟨g.cs, g.rp, g.ln, g.gt, g.xf⟩
  exact ⟨⟨h2.at_.t, h2.at_.i⟩, h2.az⟩

theorem pickNo_mem {a : AK} {top pick : Int} (hne : a.q (.r top.toNat) ≠ []) : pickNo a top pick ∈ a.q (.r top.toNat) := by
  have h2 := List.length_pos_iff.2 hne
  have h1 : 0 ≤ pick % ((a.q (.r top.toNat)).length : Int) := Int.emod_nonneg _ (by omega)
  have h3 : pick % ((a.q (.r top.toNat)).length : Int) < ((a.q (.r top.toNat)).length : Int) := Int.emod_lt_of_pos _ (by omega)
  have hlt : (pick % ((a.q (.r top.toNat)).length : Int)).toNat < (a.q (.r top.toNat)).length := by omega
  unfold pickNo
  rw [List.getElem?_eq_getElem hlt]
  exact List.getElem_mem hlt

theorem AI.sched (h : AI a E n) (hA : Abs S a) (hX : XI S E) {pick : Int} (_hp : 0 ≤ pick) : AI (schedA a pick) E n := by
  have htop := topUp_cases a 8
  unfold schedA
  split
  · rename_i hc
    have hcur := lk_nat hA.ri.cur (show S.cur ≠ -1 by rw [← hA.cu]; exact hc)
    have hst : (S.tcb S.cur.toNat).st = 2 := (hA.li.cu S.cur.toNat (by omega)).2 (by omega)
    have hcl : (E a.cur.toNat).ty = 3 := by rw [hA.cu]; exact hX.lv (by omega) (by omega)
    split
    · exact h
    rename_i hlt
    have hw := h.wake hcl
    split
    · exact hw
    rename_i h0
    rcases htop with ⟨h1, _⟩ | ⟨p, h1, h2, h3, h4⟩
    · omega
    have hwA := hA.wake hcur
    rw [← hA.cu] at hwA
    have hwX : XI (wakeP S a.cur) E := hX.wake hcl
    have hne : (wakeA a a.cur.toNat).q (.r (topUp a 8).toNat) ≠ [] := by
      have hpl : place (a.th a.cur.toNat) = none := by
        rw [hA.cu]
        rw [show place (a.th S.cur.toNat) = place (S.tcb S.cur.toNat) by rw [hA.th _ (by omega)]; rfl]
        unfold place; rw [hst]; rfl
      show qPush (qCut a.q (place (a.th a.cur.toNat)) a.cur.toNat) (.r (a.th a.cur.toNat).prio.toNat) a.cur.toNat (.r (topUp a 8).toNat) ≠ []
      rw [hpl, h2, Int.toNat_natCast]
      unfold qPush qCut
      split
      · simp
      · rw [if_neg (by intro hq; cases hq)]; exact h3
    exact hw.pick (mem_live hwA hwX (L := .r (topUp a 8).toNat) (show _ < 8 by omega) (pickNo_mem hne)).2.1
  · split
    · exact h
    rename_i h0
    rcases htop with ⟨h1, _⟩ | ⟨p, h1, h2, h3, h4⟩
    · omega
    have hne : a.q (.r (topUp a 8).toNat) ≠ [] := by rw [h2, Int.toNat_natCast]; exact h3
    exact h.pick (mem_live hA hX (L := .r (topUp a 8).toNat) (show _ < 8 by omega) (pickNo_mem hne)).2.1

theorem Iv.stepAI (h : Iv S a C n) (he : EvOk ev) (hx : 0 ≤ ev.xfer ∧ ev.xfer < 4294967296) : AI (stepA a C ev).1 (stepA a C ev).2.1.ent n := by
  have h0 := h.step0 he hx
  have hA0 := h.ab.step0 h.ci he
  have hX0 := h.xi.step0 h.ok2 h.ci he
  rw [hA0.2] at hX0
  unfold stepA
  split
  · exact h0.sched hA0.1 hX0 he.pick.1
  · exact h0

theorem Iv.step (h : Iv S a C n) (he : EvOk ev) (hu : EvU ev) (hx : 0 ≤ ev.xfer ∧ ev.xfer < 4294967296) (hn : n < 4294967295) : Iv (stepP S C ev).1 (stepA a C ev).1 (stepP S C ev).2.1 (n + 1) := by
  have hA := h.ab.step h.ci he
  have h2 := step_inv h.ok2 h.ci he
  have hU := step_U h.ur h.uc hu
  have hai := (h.stepAI he hx).mono (m := n + 1) (by omega)
  rw [← hA.2] at hai
  exact ⟨hA.1, h2.2, h.xi.step h.ok2 h.ci he, step_XC h.xc, hU.1, hU.2, h.wi.step h.ok2 h.ci he, h.gi.of hn step_gen, EI.step h.ok2 h.ci h.ei he, hai⟩

/-! The bytes tell all -/

theorem Iv.br (h : Iv S a C n) (hn : n < 4294967296) : BR a C where
  e i hi := by
    have h1 := h.ei.ty i
    have h2 := h.gi i
    exact ⟨⟨h1.1, by omega⟩, ⟨by omega, by omega⟩⟩
  c s hs := by
    have hr := h.xc s
    have hp := h.ci.par hs.1 hs.2.1
    have hpar : -1 ≤ (C.cel s).parent ∧ (C.cel s).parent < 4096 := by
      rcases hp with hp | ⟨p, h1, h2, _⟩
      · omega
      · have := h2.1; omega
    rcases h.ci.cap hs with hc | hc
    · refine ⟨⟨by omega, by omega⟩, ⟨hr.1, ?_⟩, ⟨hr.2.1, by have := hr.2.2; omega⟩, hpar⟩
      rw [hc.2]; decide
    · have h2 := h.gi (C.cel s).cap.obj.idx.toNat
      rw [hc.2.2.2.2.1] at h2
      exact ⟨⟨by omega, by omega⟩, ⟨hr.1, by omega, by omega⟩, ⟨hr.2.1, by have := hr.2.2; omega⟩, hpar⟩
  t i hi := by
    have hT := h.ab.ri.t hi
    have hX := h.xi i hi
    have hI := h.ai.at_.t i hi
    have hth := h.ab.th i hi
    have e1 : (a.th i).st = (S.tcb i).st := by rw [hth]; rfl
    have e2 : (a.th i).prio = (S.tcb i).prio := by rw [hth]; rfl
    have e3 : (a.th i).wait = (S.tcb i).wait := by rw [hth]; rfl
    have e4 : (a.th i).cs.idx = (S.tcb i).cs.idx := by rw [hth]; rfl
    have e5 : (a.th i).rep.idx = (S.tcb i).rep.idx := by rw [hth]; rfl
    have e6 : (a.th i).dst = (S.tcb i).dst := by rw [hth]; rfl
    have hpr := hT.pr
    have hwi := hT.wi
    have hci := hT.ci
    have hri := hT.ri
    have hds := hT.ds
    have hrng : 0 ≤ (S.tcb i).st ∧ (S.tcb i).st ≤ 6 := hX.rng
    have hcs := hI.cs
    have hrp := hI.rp
    have hln := hI.ln
    have hgt := hI.gt
    have hxf := hI.xf
    have key : ∀ k, k ≠ 0 → typeOfP C.ent (S.tcb i).wait = k → 0 ≤ (S.tcb i).wait.gen ∧ (S.tcb i).wait.gen < 4294967296 := by
      intro k hk ht
      unfold typeOfP at ht
      rw [if_neg (by omega)] at ht
      have hg := h.gi (S.tcb i).wait.idx.toNat
      split at ht
      · exact absurd ht.symm hk
      · rename_i he
        have he' : (C.ent (S.tcb i).wait.idx.toNat).gen = (S.tcb i).wait.gen := Classical.byContradiction he
        omega
    have hw : 0 ≤ (S.tcb i).wait.gen ∧ (S.tcb i).wait.gen < 4294967296 := by
      by_cases hs2 : (S.tcb i).st ≤ 2
      · have : (S.tcb i).wait = ⟨0, 0⟩ := hX.idle hs2
        rw [this]; decide
      · by_cases hs4 : (S.tcb i).st = 3 ∨ (S.tcb i).st = 4
        · exact key 4 (by decide) (hX.w4 hs4)
        · by_cases hs5 : (S.tcb i).st = 5
          · exact key 5 (by decide) (hX.w5 hs5).1
          · exact key 3 (by decide) (hX.w6 (show (S.tcb i).st = 6 by omega))
    refine ⟨⟨⟨by omega, by omega⟩, ⟨by omega, by omega⟩, ⟨⟨by rw [e3]; omega, by rw [e3]; omega⟩, by rw [e3]; exact hw⟩, ⟨⟨by omega, by omega⟩, by omega, by omega⟩, ⟨⟨by omega, by omega⟩, by omega, by omega⟩, ⟨by omega, by omega⟩, ⟨by omega, by omega⟩, ⟨by omega, by omega⟩, ⟨by omega, by omega⟩⟩, by rw [hth]; rfl⟩
  i l hl := by
    have h1 := h.ab.ri.irq hl
    have h2 := h.ai.at_.i l hl
    have h3 : (a.irq l).ntfn.idx = (S.irq l).ntfn.idx := by rw [h.ab.ir l hl]
    exact ⟨⟨by omega, by omega⟩, by omega, by omega⟩
  cu := by rw [h.ab.cu]; exact h.ab.ri.cur
  q L hL := by
    have hc := h.ab.li.lx.ch hL
    exact ⟨hc.lt, nodup_len hc.nd hc.lt⟩
  nd i hi := h.ci.node hi
  z := h.ai.az
  wz i hi hz := by rw [h.ab.wd i hi]; exact h.wi i hi hz
  qz i hi h4 h5 := by
    cases hq : a.q (.w i) with
    | nil => rfl
    | cons x r =>
      have := h.xi.waits h.ab.li h.ab.ri hi (x := x) (by rw [hq]; simp)
      rcases this.2.2 with g | g
      · exact absurd g.2 h4
      · exact absurd g.2.1 h5

theorem LIQ.qcong {S : KP} {Q Q' : QL → List Nat} (h : LIQ S Q) (hq : ∀ L, L.ok → Q' L = Q L) : LIQ S Q' where
  lx := ⟨fun {L} hL => by rw [hq L hL]; exact h.lx.ch hL, fun {L} hL t ht => by rw [hq L hL]; exact h.lx.mem hL t ht⟩
  by_ := h.by_
  bz p hp := by rw [hq (.r p) hp]; exact h.bz p hp
  cu := h.cu

theorem Abs.aeq {S : KP} {a a' : AK} (h : Abs S a) (e : AEq a' a) : Abs S a' where
  ri := h.ri
  li := h.li.qcong e.q
  th i hi := by rw [e.th i hi]; exact h.th i hi
  wd i hi := by rw [e.wd i hi]; exact h.wd i hi
  cu := by rw [e.cu]; exact h.cu
  ir l hl := by rw [e.ir l hl]; exact h.ir l hl
  nw := by rw [e.nw]; exact h.nw

/-- All numbers of the bytes fit. -/
theorem Iv.nums (h : Iv S a C n) : ∀ v ∈ bytesN S a.q C, u64r v := by
  intro v hv
  have e0 : ∀ m, ∀ v ∈ entsN C.ent m, u64r v := by
    intro m
    induction m with
    | zero => intro v hv; cases hv
    | succ m ih =>
      intro v hv
      rw [entsN] at hv
      rcases List.mem_append.1 hv with hq | hq
      · exact ih v hq
      · unfold entN at hq
        split at hq
        · cases hq
        · have := h.uc.e m
          simp only [List.mem_cons, List.not_mem_nil, or_false] at hq
          rcases hq with hq | hq | hq | hq | hq
          · rw [hq]; exact u64w _
          · rw [hq]; exact u64w _
          · rw [hq]; exact u64w _
          · rw [hq]; exact this.1
          · rw [hq]; exact this.2
  have e1 : ∀ m, ∀ v ∈ celsN C m, u64r v := by
    intro m
    induction m with
    | zero => intro v hv; cases hv
    | succ m ih =>
      intro v hv
      rw [celsN] at hv
      rcases List.mem_append.1 hv with hq | hq
      · exact ih v hq
      · split at hq
        · unfold celN at hq
          split at hq
          · cases hq
          · have := h.uc.c m
            simp only [List.mem_cons, List.not_mem_nil, or_false] at hq
            rcases hq with hq | hq | hq | hq | hq | hq
            · rw [hq]; exact u64w _
            · rw [hq]; exact u64w _
            · rw [hq]; exact pack_u _
            · rw [hq]; exact u64w _
            · rw [hq]; exact this
            · rw [hq]; exact u64w _
        · cases hq
  have em : ∀ (k : Int) (xs : List Nat), ∀ v ∈ memN k xs, u64r v := by
    intro k xs v hv
    unfold memN at hv
    rcases List.mem_cons.1 hv with hq | hq
    · rw [hq]; exact u64w _
    · obtain ⟨x, _, rfl⟩ := List.mem_map.1 hq; exact u64w _
  have e2 : ∀ m, ∀ v ∈ slotsN S a.q C.ent m, u64r v := by
    intro m
    induction m with
    | zero => intro v hv; cases hv
    | succ m ih =>
      intro v hv
      rw [slotsN] at hv
      rcases List.mem_append.1 hv with hq | hq
      · exact ih v hq
      · unfold slotN at hq
        have ht := h.ur.t m
        split at hq
        · unfold thrA thrB at hq
          simp only [List.cons_append, List.nil_append, List.mem_cons, List.not_mem_nil, or_false] at hq
          rcases hq with hq | hq | hq | hq | hq | hq | hq | hq | hq | hq | hq | hq | hq | hq | hq | hq
          all_goals first | (rw [hq]; exact u64w _) | (rw [hq]; exact pack_u _) | (rw [hq]; exact flag_u _) | (rw [hq]; exact ht.b) | (rw [hq]; exact ht.m0) | (rw [hq]; exact ht.m1) | (rw [hq]; exact ht.m2) | (rw [hq]; exact ht.m3)
        · split at hq
          · rcases List.mem_append.1 hq with hq | hq
            · simp only [List.mem_cons, List.not_mem_nil, or_false] at hq
              rw [hq]; exact h.ur.w m
            · exact em _ _ v hq
          · cases hq
  have e3 : ∀ m, ∀ v ∈ rdysN S a.q m, u64r v := by
    intro m
    induction m with
    | zero => intro v hv; cases hv
    | succ m ih =>
      intro v hv
      rw [rdysN] at hv
      rcases List.mem_append.1 hv with hq | hq
      · exact ih v hq
      · exact em _ _ v hq
  have e4 : ∀ m, ∀ v ∈ irqsN S m, u64r v := by
    intro m
    induction m with
    | zero => intro v hv; cases hv
    | succ m ih =>
      intro v hv
      rw [irqsN] at hv
      rcases List.mem_append.1 hv with hq | hq
      · exact ih v hq
      · unfold irqN at hq
        simp only [List.mem_cons, List.not_mem_nil, or_false] at hq
        rcases hq with hq | hq | hq
        · rw [hq]; exact pack_u _
        · rw [hq]; exact h.ur.i m
        · rw [hq]; exact flag_u _
  unfold bytesN storeN spaceN headN at hv
  simp only [List.mem_append, List.mem_cons, List.not_mem_nil, or_false] at hv
  rcases hv with (hq | hq) | (hq | hq) | (hq | hq) | hq | hq | hq
  · exact e0 _ v hq
  · rw [hq]; unfold u64r; decide
  · exact e1 _ v hq
  · rw [hq]; unfold u64r; decide
  · rw [hq]; exact u64w _
  · rw [hq]; exact h.ur.n
  · exact e2 _ v hq
  · exact e3 _ v hq
  · exact e4 _ v hq

/-- Two machines with the same bytes: the same plain state. -/
theorem same_of_bytes {S S' : KP} {a a' : AK} {C C' : CP} {n n' : Int} (h : Iv S a C n) (h' : Iv S' a' C' n') (hn : n < 4294967296) (hn' : n' < 4294967296) (he : uvs (bytesN S a.q C) = uvs (bytesN S' a'.q C')) : C = C' ∧ Abs S' a := by
  have e1 := uvs_inj h.nums h'.nums he
  rw [h.ab.bytes, h'.ab.bytes] at e1
  obtain ⟨g1, g2, g3, g4, g5⟩ := bytesB_inj (h.br hn) (h'.br hn') e1
  exact ⟨h.ei.same h'.ei g2 g3 g4 g5, h'.ab.aeq g1⟩

/-- The step: the same answer, and the same bytes again. -/
theorem step_same {S S' : KP} {a a' : AK} {C C' : CP} {n n' : Int} (h : Iv S a C n) (h' : Iv S' a' C' n') (hn : n < 4294967296) (hn' : n' < 4294967296) (he : uvs (bytesN S a.q C) = uvs (bytesN S' a'.q C')) (hev : EvOk ev) :
    C' = C ∧ (stepP S' C ev).2 = (stepP S C ev).2 ∧ Abs (stepP S' C ev).1 (stepA a C ev).1 ∧ bytesN (stepP S' C ev).1 (stepA a C ev).1.q (stepP S C ev).2.1 = bytesN (stepP S C ev).1 (stepA a C ev).1.q (stepP S C ev).2.1 := by
  obtain ⟨rfl, hab⟩ := same_of_bytes h h' hn hn' he
  have s1 := h.ab.step h.ci hev
  have s2 := hab.step h.ci hev
  exact ⟨rfl, by rw [s1.2, s2.2], s2.1, by rw [s2.1.bytes, s1.1.bytes]⟩

/-! The machine after boot -/

def bootA (Q : QL → List Nat) : AK := ⟨fun i => unl (bootS.tcb i), Q, bootS.word, bootS.cur, bootS.irq, bootS.now⟩

theorem bootX_UC : UC bootX where
  e := boot_UC.e
  c s := by
    by_cases e : s / 16 = 0
    · rw [bootX_cel e]; exact boot_UC.c s
    · rw [show bootX.cel s = celE from if_neg e]; exact u64z

theorem bootX_XC : XC bootX := fun s => by
  by_cases e : s / 16 = 0
  · rw [bootX_cel e]; exact boot_XC s
  · rw [show bootX.cel s = celE from if_neg e]; exact celE_R

theorem boot_Iv {Q : QL → List Nat} (hQ : LIQ bootS Q) : Iv bootS (bootA Q) bootX 1 where
  ab := ⟨boot_RI, hQ, fun _ _ => rfl, fun _ _ => rfl, rfl, fun _ _ => rfl, rfl⟩
  ci := bootX_CI
  xi := boot_XI
  xc := bootX_XC
  ur := boot_UR
  uc := bootX_UC
  wi := boot_WI
  gi := boot_GI
  ei := bootX_EI
  ai := by
    have ht : ∀ i, i < 256 → (bootA Q).th i = unl (if i = 1 then ⟨2, 4, ⟨0, 0⟩, ⟨0, 1⟩, ⟨0, 0⟩, 0, 0, 0, 0, 0, 0, 0, 0, 0, false, false, -1, -1⟩ else noT) := fun i hi => by
      show unl (bootS.tcb i) = _
      rw [boot_tcb i hi]
    refine ⟨⟨fun i hi => ?_, fun l _ => ?_⟩, fun i hi hz => ?_⟩
    · rw [ht i hi]
      split
      · exact ⟨by decide, by decide, by decide, by decide, by decide⟩
      · exact TI.noT (by decide)
    · show (0 : Int) ≤ 0 ∧ (0 : Int) ≤ 1; decide
    · rw [ht i hi, if_neg]
      intro e
      have hz' : (bootC.ent i).ty ≠ 3 := hz
      rw [boot_ent, if_pos e] at hz'
      exact hz' rfl

end
end Go.Kn
