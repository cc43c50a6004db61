/-
  Calls and replies, one step, plainly.
-/
import Derived.Test.Qxb6500918aDoorOh
import Derived.Test.Qxb6500918aDoorLj
import Derived.Test.Qxb6500918aDoorLk
namespace Go.Kn
open Go.Sx Go.Proofs.Qxb6500918aDoor

/-! Fields that no queue looks at -/

structure Fld {α : Type} (f : Tcb → α) : Prop where
  u : ∀ x s w, f (unl { x with st := s, wait := w }) = f x

theorem Fld.un {α : Type} {f : Tcb → α} (h : Fld f) (x : Tcb) : f (unl x) = f x := h.u x x.st x.wait

theorem fld_wake {α : Type} {f : Tcb → α} (hf : Fld f) (S : KP) (t : Int) (i : Nat) : f ((wakeP S t).tcb i) = f (S.tcb i) := by
  have h := congrArg f (unl_wake S t i)
  rw [hf.un] at h
  refine Eq.trans h ?_
  split
  · exact hf.u _ _ _
  · exact hf.un _
theorem fld_block {α : Type} {f : Tcb → α} (hf : Fld f) (S : KP) (t s : Int) (o : Rf) (i : Nat) : f ((blockP S t s o).tcb i) = f (S.tcb i) := by
  have h := congrArg f (unl_block S t s o i)
  rw [hf.un] at h
  refine Eq.trans h ?_
  split
  · exact hf.u _ _ _
  · exact hf.un _

theorem fld_rep : Fld (fun x : Tcb => x.rep) := ⟨fun _ _ _ => rfl⟩
theorem fld_pj : Fld pj := ⟨fun _ _ _ => rfl⟩

theorem rep_setT {S : KP} {j : Nat} {a : Tcb} (h : a.rep = (S.tcb j).rep) (i : Nat) : ((S.setT j a).tcb i).rep = (S.tcb i).rep := by
  by_cases e : i = j
  · subst e; rw [setT_same, h]
  · rw [setT_other _ _ e]

theorem deliver_rep (S : KP) (C : CP) (f t : Int) (i : Nat) : ((deliverP S C f t).1.tcb i).rep = (S.tcb i).rep := by
  have h0 : ((deliver0 S f t).tcb i).rep = (S.tcb i).rep := by
    unfold deliver0; dsimp only
    rw [rep_setT, rep_setT, rep_setT, rep_setT] <;> rfl
  unfold deliverP; dsimp only
  split
  · exact h0
  split
  · split
    · rw [rep_setT (a := { (deliver0 S f t).tcb t.toNat with got := 1 }) rfl]; exact h0
    · exact h0
  · exact h0

/-! Nobody begins to wait for a reply -/

def N6 (S S' : KP) : Prop := ∀ i, (S'.tcb i).st = 6 → (S.tcb i).st = 6

theorem N6.refl (S : KP) : N6 S S := fun _ h => h
theorem N6.trans {S S1 S2 : KP} (h : N6 S S1) (h' : N6 S1 S2) : N6 S S2 := fun i hi => h i (h' i hi)
theorem N6.tame {S S' : KP} (h : Tame S S') : N6 S S' := fun i hi => by
  rcases h.t i with a | a
  · exact (congrArg Prod.fst a).symm.trans hi
  · have := a.1; omega
theorem N6.wake (S : KP) (t : Int) : N6 S (wakeP S t) := fun i hi => by
  have h := sw_wake S t i
  split at h
  · have h1 : ((wakeP S t).tcb i).st = 1 := congrArg Prod.fst h
    omega
  · exact (congrArg Prod.fst h).symm.trans hi
theorem N6.block (S : KP) (t s : Int) (o : Rf) (hs : s ≠ 6) : N6 S (blockP S t s o) := fun i hi => by
  have h := sw_block S t s o i
  split at h
  · have h1 : ((blockP S t s o).tcb i).st = s := congrArg Prod.fst h
    exact absurd (h1.symm.trans hi) hs
  · exact (congrArg Prod.fst h).symm.trans hi

/-- A call is taken: who waits, on whom. -/
structure CallF (S : KP) (E : Nat → Ent) (S' : KP) (f t : Nat) : Prop where
  f2 : f < 256
  t2 : t < 256
  lf : (E f).ty = 3
  lt : (E t).ty = 3
  n6 : ∀ i, i ≠ f → (S'.tcb i).st = 6 → (S.tcb i).st = 6
  sw : sw (S'.tcb f) = (6, refP E (t : Int))
  rp : (S'.tcb t).rep = refP E (f : Int)
  oth : ∀ i, i ≠ t → (S'.tcb i).rep = (S.tcb i).rep

def CallOr (S : KP) (E : Nat → Ent) (S' : KP) : Prop := N6 S S' ∨ ∃ f t, CallF S E S' f t

theorem CallOr.sched {S S1 : KP} {E : Nat → Ent} (h : CallOr S E S1) {Q : QL → List Nat} {S' : KP} (hs : Sch S1 S' Q) : CallOr S E S' := by
  rcases h with h | ⟨f, t, h⟩
  · exact .inl (h.trans (N6.tame hs.tm))
  · refine .inr ⟨f, t, h.f2, h.t2, h.lf, h.lt, fun i hi h6 => h.n6 i hi (N6.tame hs.tm i h6), ?_, ?_, fun i hi => ?_⟩
    · rcases hs.tm.t f with a | a
      · rw [a]; exact h.sw
      · exfalso
        have h1 : (S1.tcb f).st = 6 := congrArg Prod.fst h.sw
        rcases hs.st f h.f2 with b | b
        · rw [h1] at b; have := a.1; omega
        · omega
    · rw [hs.field (fun x => x.rep) (fun _ _ _ => rfl)]; exact h.rp
    · rw [hs.field (fun x => x.rep) (fun _ _ _ => rfl)]; exact h.oth i hi

/-- The settling of two that meet. -/
theorem settle_call {S S7 : KP} {E : Nat → Ent} (hn : N6 S S7) (hrep : ∀ i, (S7.tcb i).rep = (S.tcb i).rep) {f t : Nat} (hf : f < 256) (ht : t < 256) (_ : f ≠ t) (lf : (E f).ty = 3) (lt : (E t).ty = 3) : CallOr S E (settleP S7 E (f : Int) (t : Int)) := by
  unfold settleP
  split
  · right
    dsimp only
    have hb := sw_block S7 (f : Int) 6 (refP E (t : Int))
    have hr := fld_block fld_rep S7 (f : Int) 6 (refP E (t : Int))
    generalize blockP S7 (f : Int) 6 (refP E (t : Int)) = S8 at hb hr ⊢
    rw [Int.toNat_natCast] at hb ⊢
    have hsw : ∀ i, sw ((S8.setT t { S8.tcb t with rep := refP E (f : Int) }).tcb i) = sw (S8.tcb i) := fun i => sw_setT (by rfl) i
    refine ⟨f, t, hf, ht, lf, lt, fun i hi h6 => ?_, ?_, ?_, fun i hi => ?_⟩
    · have h1 : (S8.tcb i).st = 6 := (congrArg Prod.fst (hsw i)).symm.trans h6
      have h2 := hb i
      rw [if_neg hi] at h2
      exact hn i ((congrArg Prod.fst h2).symm.trans h1)
    · rw [hsw f, hb f, if_pos rfl]
    · rw [setT_same]
    · rw [setT_other _ _ hi]
      exact (hr i).trans (hrep i)
  · split
    · exact .inl (hn.trans (N6.wake _ _))
    · exact .inl hn

section
variable {S : KP} {C : CP} {ev : Ev}

theorem send5_rep (c : Cp) (i : Nat) : ((send5 S ev c).tcb i).rep = (S.tcb i).rep := by
  by_cases e : i = S.cur.toNat
  · subst e
    rw [send5_t]
    exact (putMsg_like { S.tcb S.cur.toNat with m0 := 0, m1 := 0, m2 := 0, m3 := 0 } ev.ws).rp
  · rw [send5_o e]

theorem send_call (hX : XI S C.ent) (h2 : Ok2 S) (hC : CI C) (he : EvOk ev) (hcur : 0 ≤ S.cur ∧ S.cur < 256) : CallOr S C.ent (sendP S C ev).1 := by
  have hcl := hX.curLive h2 hcur
  obtain ⟨Q, hQ⟩ := h2.li
  rw [send_eq]
  by_cases k0 : (findP S C ev.addr 4 2).2.2 ≠ 0
  · rw [if_pos k0]; exact .inl (N6.refl S)
  rw [if_neg k0]
  by_cases k1 : (ev.ws.length : Int) > 4
  · rw [if_pos k1]; exact .inl (N6.refl S)
  rw [if_neg k1]
  have hf := find_obj h2.ri hC hcur he.addr.1 (want := 4) (need := 2) (by decide) k0
  generalize (findP S C ev.addr 4 2).1 = c at hf ⊢
  have hQ5 : LIQ (send5 S ev c) Q := send5_LIQ hQ
  have hn5 : N6 S (send5 S ev c) := fun i hi => (congrArg Prod.fst (send5_sw (S := S) (ev := ev) (c := c) i)).symm.trans hi
  have hst5 : ∀ i, ((send5 S ev c).tcb i).st = (S.tcb i).st := fun i => congrArg Prod.fst (send5_sw (S := S) (ev := ev) (c := c) i)
  have hr5 := send5_rep (S := S) (ev := ev) c
  generalize send5 S ev c = S5 at hQ5 hn5 hst5 hr5 ⊢
  rcases oldest_cases hQ5 hf.1 4 with ⟨e, hb⟩ | ⟨x, r, hq, hx, hs, e⟩
  · rw [if_pos e]; exact .inl (hn5.trans (N6.block S5 S.cur 3 c.obj (by decide)))
  · rw [e, if_neg (by omega)]
    dsimp only
    have hxs : (S.tcb x).st = 4 := by rw [← hst5]; exact hs
    have hxc : S.cur.toNat ≠ x := fun h => by rw [← h, hcl.1] at hxs; exact absurd hxs (by decide)
    have hl3 : (C.ent x).ty = 3 := hX.lv hx (by omega)
    have hnd : N6 S (wakeP (deliverP S5 C S.cur (x : Int)).1 (x : Int)) := (hn5.trans (N6.tame (tame_deliver _ _ _ _))).trans (N6.wake _ _)
    have hrd : ∀ i, ((wakeP (deliverP S5 C S.cur (x : Int)).1 (x : Int)).tcb i).rep = (S.tcb i).rep := fun i => (fld_wake fld_rep _ _ i).trans ((deliver_rep _ _ _ _ i).trans (hr5 i))
    have := settle_call hnd hrd (E := C.ent) (f := S.cur.toNat) (t := x) (by omega) hx hxc hcl.2 hl3
    rw [show ((S.cur.toNat : Nat) : Int) = S.cur by omega] at this
    rw [deliver_ent]; exact this

theorem recv_call (hX : XI S C.ent) (h2 : Ok2 S) (hC : CI C) (he : EvOk ev) (hcur : 0 ≤ S.cur ∧ S.cur < 256) (ou : Outp) : CallOr S C.ent (recvP S C ev ou).1 := by
  have hcl := hX.curLive h2 hcur
  obtain ⟨Q, hQ⟩ := h2.li
  unfold recvP
  dsimp only
  by_cases k0 : (findP S C ev.addr 4 1).2.2 ≠ 0
  · rw [if_pos k0]; exact .inl (N6.refl S)
  rw [if_neg k0]
  have hf := find_obj h2.ri hC hcur he.addr.1 (want := 4) (need := 1) (by decide) k0
  generalize (findP S C ev.addr 4 1).1 = c at hf ⊢
  have hQ5 : LIQ (S.setT S.cur.toNat { S.tcb S.cur.toNat with dst := ev.dst }) Q := hQ.setT ⟨rfl, rfl⟩ rfl rfl
  have hsw5 : ∀ i, sw ((S.setT S.cur.toNat { S.tcb S.cur.toNat with dst := ev.dst }).tcb i) = sw (S.tcb i) := fun i => sw_setT (by rfl) i
  have hr5 : ∀ i, ((S.setT S.cur.toNat { S.tcb S.cur.toNat with dst := ev.dst }).tcb i).rep = (S.tcb i).rep := fun i => rep_setT (by rfl) i
  have hc5 : (S.setT S.cur.toNat { S.tcb S.cur.toNat with dst := ev.dst }).cur = S.cur := rfl
  generalize S.setT S.cur.toNat { S.tcb S.cur.toNat with dst := ev.dst } = S5 at hQ5 hsw5 hr5 hc5 ⊢
  have hn5 : N6 S S5 := fun i hi => (congrArg Prod.fst (hsw5 i)).symm.trans hi
  have hst5 : ∀ i, (S5.tcb i).st = (S.tcb i).st := fun i => congrArg Prod.fst (hsw5 i)
  rw [hc5]
  rcases oldest_cases hQ5 hf.1 3 with ⟨e, hb⟩ | ⟨x, r, hq, hx, hs, e⟩
  · rw [if_pos e]; exact .inl (hn5.trans (N6.block S5 S.cur 4 c.obj (by decide)))
  · rw [e, if_neg (by omega)]
    dsimp only
    have hxs : (S.tcb x).st = 3 := by rw [← hst5]; exact hs
    have hxc : x ≠ S.cur.toNat := fun h => by rw [h, hcl.1] at hxs; exact absurd hxs (by decide)
    have hl3 : (C.ent x).ty = 3 := hX.lv hx (by omega)
    have hnd : N6 S (deliverP S5 C (x : Int) S.cur).1 := hn5.trans (N6.tame (tame_deliver _ _ _ _))
    have hrd : ∀ i, ((deliverP S5 C (x : Int) S.cur).1.tcb i).rep = (S.tcb i).rep := fun i => (deliver_rep _ _ _ _ i).trans (hr5 i)
    have := settle_call hnd hrd (E := C.ent) (f := x) (t := S.cur.toNat) hx (by omega) hxc hl3 hcl.2
    rw [show ((S.cur.toNat : Nat) : Int) = S.cur by omega] at this
    rw [deliver_ent, deliver_cur, hc5]; exact this

theorem reply_N6 : N6 S (replyP S C ev).1 := by
  unfold replyP; dsimp only
  split
  · exact N6.refl S
  split
  · exact N6.refl S
  split
  · exact N6.refl S
  have h1 := N6.tame (tame_load S (S.tcb S.cur.toNat).rep.idx ev.ws)
  generalize loadP S (S.tcb S.cur.toNat).rep.idx ev.ws = S1 at h1 ⊢
  have g2 : N6 S (S1.setT (S.tcb S.cur.toNat).rep.idx.toNat { S1.tcb (S.tcb S.cur.toNat).rep.idx.toNat with badge := 0 }) := h1.trans (N6.tame (tame_setT rfl))
  generalize S1.setT (S.tcb S.cur.toNat).rep.idx.toNat { S1.tcb (S.tcb S.cur.toNat).rep.idx.toNat with badge := 0 } = S2 at g2 ⊢
  have g3 : N6 S (S2.setT (S.tcb S.cur.toNat).rep.idx.toNat { S2.tcb (S.tcb S.cur.toNat).rep.idx.toNat with got := 0 }) := g2.trans (N6.tame (tame_setT rfl))
  generalize S2.setT (S.tcb S.cur.toNat).rep.idx.toNat { S2.tcb (S.tcb S.cur.toNat).rep.idx.toNat with got := 0 } = S3 at g3 ⊢
  have g4 := g3.trans (N6.wake S3 (S.tcb S.cur.toNat).rep.idx)
  exact g4.trans (N6.tame (tame_setT rfl))

theorem signal_N6 (S : KP) (o : Rf) (b : Int) : N6 S (signalP S o b) := by
  unfold signalP
  split
  · have h1 : N6 S (S.setT (oldestP S o 5).toNat { S.tcb (oldestP S o 5).toNat with badge := b }) := N6.tame (tame_setT rfl)
    exact h1.trans (N6.wake _ _)
  · exact fun _ h => h

theorem wait_N6 (ou : Outp) : N6 S (waitP S C ev ou).1 := by
  unfold waitP; dsimp only
  split
  · exact N6.refl S
  split
  · exact N6.block S S.cur 5 (findP S C ev.addr 5 1).1.obj (by decide)
  · have h1 : N6 S (S.setT S.cur.toNat { S.tcb S.cur.toNat with badge := S.word (findP S C ev.addr 5 1).1.obj.idx.toNat }) := N6.tame (tame_setT rfl)
    exact h1

theorem control_N6 : N6 S (controlP S C ev).1 := by
  unfold controlP; dsimp only
  split
  · exact N6.refl S
  split
  · split
    · exact N6.refl S
    · exact N6.tame (tame_setT rfl)
  split
  · split
    · exact N6.refl S
    split
    · exact N6.tame (tame_setT rfl)
    · have h1 := N6.tame (tame_leave S (findP S C ev.addr 3 2).1.obj.idx)
      generalize leaveP S (findP S C ev.addr 3 2).1.obj.idx = S1 at h1 ⊢
      have g2 : N6 S (S1.setT (findP S C ev.addr 3 2).1.obj.idx.toNat { S1.tcb (findP S C ev.addr 3 2).1.obj.idx.toNat with prio := ev.arg }) := h1.trans (N6.tame (tame_setT rfl))
      exact g2.trans (N6.wake _ _)
  split
  · split
    · exact N6.refl S
    · exact N6.wake _ _
  split
  · split
    · exact N6.refl S
    · exact N6.tame (tame_leave _ _)
  · exact N6.refl S

theorem drop_N6 (h2 : Ok2 S) (hC : CI C) (he : EvOk ev) (hcur : 0 ≤ S.cur ∧ S.cur < 256) : N6 S (dropP S C ev).1 := by
  have hn : S.cur.toNat < 256 := by omega
  have hci := (h2.ri.t hn).ci
  unfold dropP
  dsimp only
  split
  · exact N6.refl S
  rename_i h0
  split
  · exact N6.refl S
  obtain ⟨i, j, h1, h2', h3, h4⟩ := look_fact hC (r := (S.tcb S.cur.toNat).cs) hci.1 he.addr.1 (s := (lookP C.ent (S.tcb S.cur.toNat).cs ev.addr).1) (k := (lookP C.ent (S.tcb S.cur.toNat).cs ev.addr).2) rfl (Classical.byContradiction h0)
  split
  · have r := rev_ok (lookP C.ent (S.tcb S.cur.toNat).cs ev.addr).1 4097 C [] hC (fun _ hq => by cases hq)
    obtain ⟨rr, hrr⟩ : ∃ x, revokeP 4097 C (lookP C.ent (S.tcb S.cur.toNat).cs ev.addr).1 [] = x := ⟨_, rfl⟩
    rw [hrr] at r ⊢
    exact N6.tame (tame_buryAll rr.2 h2.ri h2.li r.dead).1
  · have hlt : cnt C < 4097 := by have := cnt_le (C := C); omega
    have d := del_ok 4097 C (lookP C.ent (S.tcb S.cur.toNat).cs ev.addr).1.toNat hC hlt (by rw [h4]; omega) (by rw [h4, Int.toNat_natCast, show (i * 16 + j) / 16 = i by omega]; exact h3)
    obtain ⟨rr, hrr⟩ : ∃ x, deleteP 4097 C (lookP C.ent (S.tcb S.cur.toNat).cs ev.addr).1.toNat = x := ⟨_, rfl⟩
    rw [hrr] at d ⊢
    exact N6.tame (tame_buryAll rr.2 h2.ri h2.li d.dead).1

/-- A step begins no wait for a reply, or takes one call. -/
theorem step0_call (hX : XI S C.ent) (h2 : Ok2 S) (hC : CI C) (he : EvOk ev) : N6 S (step0 S C ev).1 ∨ ((step0 S C ev).2.1.ent = C.ent ∧ CallOr S C.ent (step0 S C ev).1) := by
  unfold step0
  by_cases k0 : ev.kind = 0
  · rw [if_pos k0]; dsimp only
    left
    split
    · have h1 : N6 S { S with now := IntKind.wrap .u64 (S.now + 1) } := fun _ h => h
      exact h1.trans (N6.wake _ _)
    · exact fun _ h => h
  rw [if_neg k0]
  by_cases k1 : ev.kind = 1
  · rw [if_pos k1]; left
    show N6 S (interruptP S C ev.arg).1
    unfold interruptP; dsimp only
    split
    · exact N6.refl S
    split
    · exact N6.refl S
    split
    · exact N6.refl S
    · have h1 : N6 S (S.setI ev.arg.toNat { S.irq ev.arg.toNat with masked := true }) := fun _ h => h
      exact h1.trans (signal_N6 _ _ _)
  rw [if_neg k1]
  by_cases k2 : ev.kind ≥ 20
  · rw [if_pos k2]; exact .inl (N6.refl S)
  rw [if_neg k2]
  by_cases k3 : S.cur = -1
  · rw [if_pos k3]; exact .inl (N6.refl S)
  rw [if_neg k3]
  have hcur := lk_nat h2.ri.cur k3
  dsimp only
  by_cases k4 : ev.kind = 4 ∨ ev.kind = 5
  · rw [sys_send k4]; exact .inr ⟨send_ent _ _ _, send_call hX h2 hC he hcur⟩
  by_cases k6 : ev.kind = 6
  · rw [sys_recv k6]; exact .inr ⟨recv_ent _ _ _ _, recv_call hX h2 hC he hcur out0⟩
  left
  unfold sysP
  by_cases j0 : ev.kind = 2
  · rw [if_pos j0]; exact N6.wake _ _
  rw [if_neg j0]
  by_cases j1 : ev.kind = 3
  · rw [if_pos j1]; exact N6.tame (tame_draw _ _)
  rw [if_neg j1, if_neg k4, if_neg k6]
  by_cases j4 : ev.kind = 7
  · rw [if_pos j4]; exact reply_N6
  rw [if_neg j4]
  by_cases j5 : ev.kind = 8
  · rw [if_pos j5]
    show N6 S (sigP S C ev).1
    unfold sigP; dsimp only
    split
    · exact signal_N6 _ _ _
    · exact N6.refl S
  rw [if_neg j5]
  by_cases j6 : ev.kind = 9
  · rw [if_pos j6]; exact wait_N6 out0
  rw [if_neg j6]
  by_cases j7 : ev.kind = 10
  · rw [if_pos j7]; exact N6.refl S
  rw [if_neg j7]
  by_cases j8 : ev.kind = 11
  · rw [if_pos j8]; exact N6.refl S
  rw [if_neg j8]
  by_cases j9 : ev.kind = 12 ∨ ev.kind = 13
  · rw [if_pos j9]; exact drop_N6 h2 hC he hcur
  rw [if_neg j9]
  by_cases j10 : ev.kind = 18 ∨ ev.kind = 19
  · rw [if_pos j10]; exact N6.tame (by
      show Tame S (lineP S C ev).1
      unfold lineP; dsimp only
      split
      · exact Tame.refl S
      split
      · split
        · exact tame_setI _ _ _
        · exact Tame.refl S
      · split
        · exact Tame.refl S
        split
        · exact Tame.refl S
        · exact tame_setI _ _ _)
  rw [if_neg j10]
  exact control_N6

/-- What the law asks of a reply that is accepted. -/
structure RepF (S : KP) (C : CP) (ev : Ev) (Sz : KP) : Prop where
  ws : ev.ws.length ≤ 4
  al : typeOfP C.ent (S.tcb S.cur.toNat).rep = 3
  caller : ∃ g, threadP Sz C.ent (S.tcb S.cur.toNat).rep = (g, true) ∧ (g.m0 = (putMsg noT ev.ws).m0 ∧ g.m1 = (putMsg noT ev.ws).m1 ∧ g.m2 = (putMsg noT ev.ws).m2 ∧ g.m3 = (putMsg noT ev.ws).m3) ∧ g.len = (ev.ws.length : Int) ∧ (g.st = 1 ∨ g.st = 2)
  now : ∃ g, threadP Sz C.ent (refP C.ent S.cur) = (g, true) ∧ g.rep = ⟨0, 0⟩

theorem load_t (S : KP) (t : Int) (ws : List Int) : (loadP S t ws).tcb t.toNat = { putMsg { S.tcb t.toNat with m0 := 0, m1 := 0, m2 := 0, m3 := 0 } ws with len := IntKind.wrap .u8 (ws.length : Int) } := by
  unfold loadP; dsimp only
  simp only [setT_same]

theorem reply_fact (hX : XI S C.ent) (h2 : Ok2 S) (he : EvOk ev) (hcur : 0 ≤ S.cur ∧ S.cur < 256) (hc : (replyP S C ev).2 = 0) : RepF S C ev (schedP (replyP S C ev).1 ev.pick) := by
  have hcl := hX.curLive h2 hcur
  have hri := (h2.ri.t (i := S.cur.toNat) (by omega)).ri
  have hok := reply_ok2 (C := C) (ev := ev) h2 hcur
  unfold replyP at hc hok ⊢
  dsimp only at hc hok ⊢
  by_cases k0 : (S.tcb S.cur.toNat).rep = ⟨0, 0⟩
  · rw [if_pos k0] at hc; cases hc
  rw [if_neg k0] at hc hok ⊢
  by_cases k1 : (ev.ws.length : Int) > 4
  · rw [if_pos k1] at hc; cases hc
  rw [if_neg k1] at hc hok ⊢
  by_cases k2 : typeOfP C.ent (S.tcb S.cur.toNat).rep ≠ 3 ∨ (S.tcb (S.tcb S.cur.toNat).rep.idx.toNat).st ≠ 6 ∨ (S.tcb (S.tcb S.cur.toNat).rep.idx.toNat).wait ≠ refP C.ent S.cur
  · rw [if_pos k2] at hc; cases hc
  rw [if_neg k2] at hok ⊢
  have hal : typeOfP C.ent (S.tcb S.cur.toNat).rep = 3 := Classical.byContradiction fun hq => k2 (.inl hq)
  have hst6 : (S.tcb (S.tcb S.cur.toNat).rep.idx.toNat).st = 6 := Classical.byContradiction fun hq => k2 (.inr (.inl hq))
  have hne : (S.tcb S.cur.toNat).rep.idx.toNat ≠ S.cur.toNat := fun h => by rw [h, hcl.1] at hst6; exact absurd hst6 (by decide)
  obtain ⟨rp, hrp⟩ : ∃ r, (S.tcb S.cur.toNat).rep = r := ⟨_, rfl⟩
  rw [hrp] at hri hal hst6 hne hok ⊢
  have hlt := load_t S rp.idx ev.ws
  have hlsw := (tame_load S rp.idx ev.ws)
  generalize loadP S rp.idx ev.ws = S1 at hlt hok ⊢
  have e2 : (S1.setT rp.idx.toNat { S1.tcb rp.idx.toNat with badge := 0 }).tcb rp.idx.toNat = { S1.tcb rp.idx.toNat with badge := 0 } := setT_same _ _ _
  generalize S1.setT rp.idx.toNat { S1.tcb rp.idx.toNat with badge := 0 } = S2 at e2 hok ⊢
  have e3 : (S2.setT rp.idx.toNat { S2.tcb rp.idx.toNat with got := 0 }).tcb rp.idx.toNat = { S2.tcb rp.idx.toNat with got := 0 } := setT_same _ _ _
  generalize S2.setT rp.idx.toNat { S2.tcb rp.idx.toNat with got := 0 } = S3 at e3 hok ⊢
  have e4 := fld_wake fld_pj S3 rp.idx rp.idx.toNat
  have e5 := sw_wake S3 rp.idx rp.idx.toNat
  rw [if_pos rfl] at e5
  generalize wakeP S3 rp.idx = S4 at e4 e5 hok ⊢
  have e6 : (S4.setT S.cur.toNat { S4.tcb S.cur.toNat with rep := ⟨0, 0⟩ }).tcb rp.idx.toNat = S4.tcb rp.idx.toNat := setT_other _ _ hne
  have e7 : (S4.setT S.cur.toNat { S4.tcb S.cur.toNat with rep := ⟨0, 0⟩ }).tcb S.cur.toNat = { S4.tcb S.cur.toNat with rep := ⟨0, 0⟩ } := setT_same _ _ _
  generalize S4.setT S.cur.toNat { S4.tcb S.cur.toNat with rep := ⟨0, 0⟩ } = S5 at e6 e7 hok ⊢
  obtain ⟨Q5, hQ5⟩ := hok.li
  have hsc := sched_sch hok.ri hQ5 he.pick.1
  have hpm := putMsg_m { S.tcb rp.idx.toNat with m0 := 0, m1 := 0, m2 := 0, m3 := 0 } ⟨rfl, rfl, rfl, rfl⟩ ev.ws
  have hpj : pj ((schedP S5 ev.pick).tcb rp.idx.toNat) = pj (S3.tcb rp.idx.toNat) := by
    rw [hsc.field pj (fun _ _ _ => rfl), e6, e4]
  rw [e3, e2, hlt] at hpj
  have hst4 : (S4.tcb rp.idx.toNat).st = 1 := congrArg Prod.fst e5
  refine ⟨by omega, by rw [hrp]; exact hal, ?_, ?_⟩
  · rw [hrp]
    refine ⟨(schedP S5 ev.pick).tcb rp.idx.toNat, ?_, ⟨?_, ?_, ?_, ?_⟩, ?_, ?_⟩
    · unfold threadP; rw [if_pos hal]
    · exact (congrArg Pj.m0 hpj).trans hpm.1.symm
    · exact (congrArg Pj.m1 hpj).trans hpm.2.1.symm
    · exact (congrArg Pj.m2 hpj).trans hpm.2.2.1.symm
    · exact (congrArg Pj.m3 hpj).trans hpm.2.2.2.symm
    · have h1 : ((schedP S5 ev.pick).tcb rp.idx.toNat).len = IntKind.wrap .u8 (ev.ws.length : Int) := congrArg Pj.len hpj
      rw [h1]
      simp [IntKind.wrap, IntKind.bits, IntKind.signed]; omega
    · rcases hsc.st rp.idx.toNat (by omega) with a | a
      · left; rw [a, e6]; exact hst4
      · exact a.2
  · refine ⟨(schedP S5 ev.pick).tcb S.cur.toNat, thread_live hcur hcl.2, ?_⟩
    rw [hsc.field (fun x => x.rep) (fun _ _ _ => rfl), e7]

/-- The law's demands on one step. -/
structure RFact (S : KP) (C : CP) (Q : QL → List Nat) (ev : Ev) (Sz : KP) (Cz : CP) (oz : Outp) (Qz : QL → List Nat) : Prop where
  liq : LIQ Sz Qz
  byt : oz.code ≠ 0 → uvs (bytesN Sz Qz Cz) = uvs (bytesN S Q C)
  call : N6 S Sz ∨ (Cz.ent = C.ent ∧ ∃ f t, CallF S C.ent Sz f t)
  cod : ev.kind = 7 → S.cur ≠ -1 → ((S.tcb S.cur.toNat).rep = ⟨0, 0⟩ → oz.code = 12) ∧ ((S.tcb S.cur.toNat).rep ≠ ⟨0, 0⟩ → typeOfP C.ent (S.tcb S.cur.toNat).rep ≠ 3 → ev.ws.length ≤ 4 → oz.code = 13)
  rep : ev.kind = 7 → oz.code = 0 → Cz = C ∧ RepF S C ev Sz

theorem sys_reply {ou : Outp} (k : ev.kind = 7) : sysP S C ev ou = ((replyP S C ev).1, C, ou, (replyP S C ev).2) := by
  unfold sysP
  rw [if_neg (by omega), if_neg (by omega), if_neg (by omega), if_neg (by omega), if_pos k]

theorem step_code7 (k : ev.kind = 7) (hc : S.cur ≠ -1) : (stepP S C ev).2.2.code = (replyP S C ev).2 := by
  have hs : (step0 S C ev).2.2.code = (replyP S C ev).2 := by
    unfold step0
    rw [if_neg (by omega), if_neg (by omega), if_neg (by omega), if_neg hc, sys_reply k]
  unfold stepP
  dsimp only
  generalize step0 S C ev = r at hs ⊢
  split
  · exact hs
  · exact hs

theorem step_R (hX : XI S C.ent) (h2 : Ok2 S) (hC : CI C) (he : EvOk ev) {Q : QL → List Nat} (hQ : LIQ S Q) {Sz : KP} {Cz : CP} {oz : Outp} (ez : stepP S C ev = (Sz, Cz, oz)) : ∃ Qz, RFact S C Q ev Sz Cz oz Qz := by
  have hcod : ev.kind = 7 → S.cur ≠ -1 → ((S.tcb S.cur.toNat).rep = ⟨0, 0⟩ → oz.code = 12) ∧ ((S.tcb S.cur.toNat).rep ≠ ⟨0, 0⟩ → typeOfP C.ent (S.tcb S.cur.toNat).rep ≠ 3 → ev.ws.length ≤ 4 → oz.code = 13) := by
    intro k hc
    have h1 := step_code7 (S := S) (C := C) k hc
    rw [ez] at h1
    dsimp only at h1
    rw [h1]
    unfold replyP
    dsimp only
    refine ⟨fun hr => by rw [if_pos hr], fun hr ht hl => ?_⟩
    rw [if_neg hr, if_neg (by omega), if_pos (.inl ht)]
  by_cases hc : oz.code = 0
  · obtain ⟨h0, e1, e2, e3⟩ := step_ok0 ez hc
    have h00 := step0_inv h2 hC he
    obtain ⟨Qs, hQs⟩ := h00.1.li
    have hsc := sched_sch h00.1.ri hQs he.pick.1
    rw [← e1] at hsc
    have hcall := step0_call hX h2 hC he
    have hiv := step_inv h2 hC he
    rw [ez] at hiv
    obtain ⟨Qz, hz⟩ := hiv.1.li
    refine ⟨Qz, hz, fun h => absurd hc h, ?_, hcod, fun k _ => ?_⟩
    · rcases hcall with a | ⟨a, b⟩
      · exact .inl (a.trans (N6.tame hsc.tm))
      · rcases b.sched hsc with d | d
        · exact .inl d
        · exact .inr ⟨by rw [e2]; exact a, d⟩
    · obtain ⟨hcr, hsc0, es⟩ := step0_sys (by omega) (by omega) h0
      have hcur := lk_nat h2.ri.cur hcr
      rw [es, sys_reply k] at h0 e1 e2
      dsimp only at h0 e1 e2
      refine ⟨e2, ?_⟩
      rw [e1]; exact reply_fact hX h2 he hcur h0
  · have hrf := step_ref (S := S) (C := C) (ev := ev) (by rw [ez]; exact hc)
    rw [ez] at hrf; dsimp only at hrf
    refine ⟨Q, by rw [hrf.1]; exact hQ, fun _ => by rw [hrf.1, hrf.2], .inl (by rw [hrf.1]; exact N6.refl S), hcod, fun _ h => absurd h hc⟩

end
end Go.Kn
