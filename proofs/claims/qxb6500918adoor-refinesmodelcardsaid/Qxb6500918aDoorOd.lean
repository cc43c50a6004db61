/-
  Signals, waits and interrupt lines, one step, plainly.
-/
import Derived.Test.Qxb6500918aDoorOc
import Derived.Test.Qxb6500918aDoorP3
import Derived.Test.Qxb6500918aDoorP2
import Derived.Test.Qxb6500918aDoorLk
namespace Go.Kn
open Go.Sx Go.Proofs.Qxb6500918aDoor

/-! The interrupt lines stay -/

theorem load_irq (S : KP) (t : Int) (ws : List Int) : (loadP S t ws).irq = S.irq := rfl
theorem deliver_irq (S : KP) (C : CP) (f t : Int) : (deliverP S C f t).1.irq = S.irq := by
  unfold deliverP; dsimp only
  split
  · rfl
  split
  · split <;> rfl
  · rfl
theorem settle_irq (S : KP) (E : Nat → Ent) (f t : Int) : (settleP S E f t).irq = S.irq := by
  unfold settleP; dsimp only
  split
  · exact (block_rst S f 6 (refP E t)).i
  · split
    · exact (wake_rst S f).i
    · rfl
theorem signal_irq (S : KP) (o : Rf) (b : Int) : (signalP S o b).irq = S.irq := by
  unfold signalP
  split
  · exact (wake_rst _ _).i
  · rfl

section
variable {S : KP} {C : CP} {ev : Ev}

theorem send_irq : (sendP S C ev).1.irq = S.irq := by
  unfold sendP
  extract_lets f t S1 x1 S2 x2 S3 x3 S4 x4 S5 d S7
  have g5 : S5.irq = S.irq := rfl
  clear_value S5
  split
  · rfl
  split
  · rfl
  split
  · exact ((block_rst S5 t 3 f.1.obj).i).trans g5
  · dsimp only
    rw [settle_irq]
    exact ((wake_rst d.1 _).i).trans ((deliver_irq S5 C _ _).trans g5)

theorem recv_irq (ou : Outp) : (recvP S C ev ou).1.irq = S.irq := by
  unfold recvP; dsimp only
  split
  · rfl
  split
  · exact (block_rst _ _ _ _).i
  · rw [settle_irq, deliver_irq]; rfl

theorem reply_irq : (replyP S C ev).1.irq = S.irq := by
  unfold replyP; dsimp only
  split
  · rfl
  split
  · rfl
  split
  · rfl
  · exact (wake_rst _ _).i

theorem wait_irq (ou : Outp) : (waitP S C ev ou).1.irq = S.irq := by
  unfold waitP; dsimp only
  split
  · rfl
  split
  · exact (block_rst _ _ _ _).i
  · rfl

theorem control_irq : (controlP S C ev).1.irq = S.irq := by
  unfold controlP; dsimp only
  split
  · rfl
  split
  · split <;> rfl
  split
  · split
    · rfl
    split
    · rfl
    · exact ((wake_rst _ _).i).trans (leave_rst S _).i
  split
  · split
    · rfl
    · exact (wake_rst _ _).i
  split
  · split
    · rfl
    · exact (leave_rst _ _).i
  · rfl

theorem sig_irq : (sigP S C ev).1.irq = S.irq := by
  unfold sigP; dsimp only
  split
  · exact signal_irq _ _ _
  · rfl

theorem wakeRep_irq (S : KP) (o : Rf) : ∀ n, (wakeRep S o n).irq = S.irq
  | 0 => rfl
  | n + 1 => by rw [wakeRep]; split; exact ((wake_rst _ _).i).trans (wakeRep_irq S o n); exact wakeRep_irq S o n

theorem drain_irq : ∀ (f : Nat) (S : KP) (i : Nat), (drainP f S i).irq = S.irq
  | 0, _, _ => rfl
  | f + 1, S, i => by rw [drainP]; split; rfl; exact (drain_irq f _ i).trans (wake_rst _ _).i

theorem bury_irq (S : KP) (c : Cp) : (buryP S c).irq = S.irq := by
  unfold buryP
  split
  · exact (wakeRep_irq _ _ _).trans (leave_rst S _).i
  · split
    · exact drain_irq 257 S _
    · rfl

theorem buryAll_irq : ∀ (l : List Cp) (S : KP), (buryAll S l).irq = S.irq
  | [], _ => rfl
  | c :: l, S => (buryAll_irq l (buryP S c)).trans (bury_irq S c)

theorem drop_irq : (dropP S C ev).1.irq = S.irq := by
  unfold dropP; dsimp only
  split
  · rfl
  split
  · rfl
  split
  · exact buryAll_irq _ S
  · exact buryAll_irq _ S

theorem sys_irq (ou : Outp) (h : ¬ (ev.kind = 18 ∨ ev.kind = 19)) : (sysP S C ev ou).1.irq = S.irq := by
  unfold sysP
  by_cases k0 : ev.kind = 2
  · rw [if_pos k0]; exact (wake_rst _ _).i
  rw [if_neg k0]
  by_cases k1 : ev.kind = 3
  · rw [if_pos k1]; rfl
  rw [if_neg k1]
  by_cases k2 : ev.kind = 4 ∨ ev.kind = 5
  · rw [if_pos k2]; exact send_irq
  rw [if_neg k2]
  by_cases k3 : ev.kind = 6
  · rw [if_pos k3]; exact recv_irq ou
  rw [if_neg k3]
  by_cases k4 : ev.kind = 7
  · rw [if_pos k4]; exact reply_irq
  rw [if_neg k4]
  by_cases k5 : ev.kind = 8
  · rw [if_pos k5]; exact sig_irq
  rw [if_neg k5]
  by_cases k6 : ev.kind = 9
  · rw [if_pos k6]; exact wait_irq ou
  rw [if_neg k6]
  by_cases k7 : ev.kind = 10
  · rw [if_pos k7]
  rw [if_neg k7]
  by_cases k8 : ev.kind = 11
  · rw [if_pos k8]
  rw [if_neg k8]
  by_cases k9 : ev.kind = 12 ∨ ev.kind = 13
  · rw [if_pos k9]; exact drop_irq
  rw [if_neg k9, if_neg h]
  exact control_irq

theorem step0_irq (h : ¬ (ev.kind = 18 ∨ ev.kind = 19)) (h1 : ev.kind ≠ 1) : (step0 S C ev).1.irq = S.irq := by
  unfold step0
  by_cases k0 : ev.kind = 0
  · rw [if_pos k0]; dsimp only
    split
    · exact (wake_rst _ _).i
    · rfl
  rw [if_neg k0, if_neg h1]
  by_cases k2 : ev.kind ≥ 20
  · rw [if_pos k2]
  rw [if_neg k2]
  by_cases k3 : S.cur = -1
  · rw [if_pos k3]
  rw [if_neg k3]
  exact sys_irq out0 h

end

/-! One step -/

/-- What the law asks of one badge that has arrived. -/
def SigFact (S : KP) (Q : QL → List Nat) (E : Nat → Ent) (S2 : KP) (Q2 : QL → List Nat) (E2 : Nat → Ent) (r : Rf) (badge : Int) : Prop :=
  (∃ wd, waitersP S Q E r = ([], wd) ∧ waitersP S2 Q2 E2 r = ([], bitI .or .u64 wd badge)) ∨
  (∃ x rs wd tt ok, (0 ≤ x.idx ∧ x.idx ≤ 65535) ∧ rs.length ≤ 1000 ∧ waitersP S Q E r = (x :: rs, wd) ∧ waitersP S2 Q2 E2 r = (rs, 0) ∧ threadP S2 E2 x = (tt, ok) ∧ tt.badge = badge ∧ (tt.st = 1 ∨ tt.st = 2))

theorem waiters_at {S : KP} {Q : QL → List Nat} {E : Nat → Ent} {r : Rf} (h : typeOfP E r = 4 ∨ typeOfP E r = 5) : waitersP S Q E r = (refsP E (Q (.w r.idx.toNat)), S.word r.idx.toNat) := by
  unfold waitersP; rw [if_pos h]

theorem Sch.field {S S' : KP} {Q : QL → List Nat} (h : Sch S S' Q) {α : Type} (f : Tcb → α) (hf : ∀ x s w, f (unl { x with st := s, wait := w }) = f x) (i : Nat) : f (S'.tcb i) = f (S.tcb i) := by
  have h1 := congrArg f (h.un i)
  rw [hf (S.tcb i)] at h1
  have h2 := hf (S'.tcb i) (S'.tcb i).st (S'.tcb i).wait
  rw [← h2]
  exact h1

theorem signal_fact {S S0 : KP} {E : Nat → Ent} {Q : QL → List Nat} (hX : XI S0 E) (h2 : Ok2 S0) (hQ : LIQ S0 Q) (e1 : S.word = S0.word) {o : Rf} (ho : 0 ≤ o.idx ∧ o.idx < 256) (ht : typeOfP E o = 5) (b : Int) {pick : Int} (hp : 0 ≤ pick) :
    ∃ Qz, LIQ (schedP (signalP S0 o b) pick) Qz ∧ SigFact S Q E (schedP (signalP S0 o b) pick) Qz E o b := by
  have hok := signal_ok2 h2 ho b
  rcases signal_cases hX hQ h2.ri ho ht with ⟨hq, e⟩ | ⟨x, r, hq, hx, e, hs, hw⟩
  · have es : signalP S0 o b = { S0 with word := upd S0.word o.idx.toNat (bitI .or .u64 (S0.word o.idx.toNat) b) } := by
      unfold signalP; rw [e, if_neg (by decide)]
    have hl : LIQ (signalP S0 o b) Q := by rw [es]; exact hQ.same rfl (fun L => by cases L <;> rfl) rfl rfl
    have hwd : (signalP S0 o b).word o.idx.toNat = bitI .or .u64 (S0.word o.idx.toNat) b := by rw [es]; exact upd_same _ _ _
    generalize signalP S0 o b = S1 at hok hl hwd ⊢
    have hs := sched_sch hok.ri hl hp
    obtain ⟨Qz, hz, hqz⟩ := hs.qs
    refine ⟨Qz, hz, .inl ⟨S0.word o.idx.toNat, ?_, ?_⟩⟩
    · rw [waiters_at (.inr ht), hq, e1]; rfl
    · rw [waiters_at (.inr ht), hqz _ (by omega), hq, hs.rs.w, hwd]; rfl
  · have es : signalP S0 o b = wakeP (S0.setT x { S0.tcb x with badge := b }) (x : Int) := by
      unfold signalP; rw [e, if_pos (by omega), Int.toNat_natCast]
    have ht0 := h2.ri.t hx
    have hl1 : LIQ (S0.setT x { S0.tcb x with badge := b }) Q := hQ.setT ⟨rfl, rfl⟩ rfl rfl
    have hr1 : RI (S0.setT x { S0.tcb x with badge := b }) := h2.ri.setT ⟨ht0.nx, ht0.pv, ht0.pr, ht0.wi, ht0.ci, ht0.ri, ht0.ds⟩
    obtain ⟨_, Q1, hQ1, hq1⟩ := wake_head hr1 hl1 (i := o.idx.toNat) (by omega) hq
    have hu := unl_wake (S0.setT x { S0.tcb x with badge := b }) (x : Int) x
    rw [if_pos (by omega), setT_same] at hu
    have hsw := sw_wake (S0.setT x { S0.tcb x with badge := b }) (x : Int) x
    rw [if_pos (by omega)] at hsw
    have hwr := (wake_rst (S0.setT x { S0.tcb x with badge := b }) (x : Int)).w
    rw [← es] at hQ1 hu hsw hwr
    have hlive := hX.lv hx (by omega)
    generalize signalP S0 o b = S1 at hok hQ1 hu hsw hwr ⊢
    have hb1 : (S1.tcb x).badge = b := show (unl (S1.tcb x)).badge = b by rw [hu]; rfl
    have hst1 : (S1.tcb x).st = 1 := congrArg Prod.fst hsw
    have hsc := sched_sch hok.ri hQ1 hp
    obtain ⟨Qz, hz, hqz⟩ := hsc.qs
    have hlen := nodup_len (hQ.lx.ch (L := .w o.idx.toNat) (show _ < 256 by omega)).nd (hQ.lx.ch (L := .w o.idx.toNat) (show _ < 256 by omega)).lt
    rw [hq] at hlen
    have hri : (refP E (x : Int)).idx = (x : Int) := by
      unfold refP; rw [if_neg (by omega)]; exact refAt_idx ⟨by omega, by omega⟩
    refine ⟨Qz, hz, .inr ⟨refP E (x : Int), refsP E r, S0.word o.idx.toNat, (schedP S1 pick).tcb x, true, ⟨by omega, by omega⟩, ?_, ?_, ?_, ?_, ?_, ?_⟩⟩
    · unfold refsP; rw [List.length_map]; simp at hlen; omega
    · rw [waiters_at (.inr ht), hq, e1]; rfl
    · rw [waiters_at (.inr ht), hqz _ (by omega), hq1, hsc.rs.w, hwr]
      show (refsP E r, S0.word o.idx.toNat) = _
      rw [hw]
    · unfold threadP
      rw [typeOf_ref ⟨by omega, by omega⟩, Int.toNat_natCast, hlive, if_pos rfl, hri, Int.toNat_natCast]
    · rw [hsc.field (fun t => t.badge) (fun _ _ _ => rfl)]; exact hb1
    · rcases hsc.st x hx with a | a
      · left; rw [a]; exact hst1
      · exact a.2

section
variable {S : KP} {C : CP} {ev : Ev}

theorem capAt_find (hX : XI S C.ent) (h2 : Ok2 S) (hcur : 0 ≤ S.cur ∧ S.cur < 256) {ad want need : Int} (h0 : (findP S C ad want need).2.2 = 0) : capAtP S C (refP C.ent S.cur) ad = (findP S C ad want need).1 := by
  have hl := hX.curLive h2 hcur
  have hri : (refP C.ent S.cur).idx = S.cur := by unfold refP; rw [if_neg (by omega)]; exact refAt_idx ⟨by omega, by omega⟩
  unfold capAtP
  rw [typeOf_ref hcur, hl.2, if_pos rfl, hri]
  unfold findP at h0 ⊢
  dsimp only at h0 ⊢
  split at h0
  · rename_i hq; exact absurd h0 hq
  · rename_i hq
    have hq' : (lookP C.ent (S.tcb S.cur.toNat).cs ad).2 = 0 := Classical.byContradiction hq
    rw [if_pos hq', if_neg hq]
    split
    · rfl
    · split
      · rfl
      · split <;> rfl

/-- What the law asks of a wait. -/
def WaitFact (S : KP) (Q : QL → List Nat) (E : Nat → Ent) (S2 : KP) (Q2 : QL → List Nat) (E2 : Nat → Ent) (r me : Rf) (bad : Int) : Prop :=
  ∃ bs wd us wd', waitersP S Q E r = (bs, wd) ∧ waitersP S2 Q2 E2 r = (us, wd') ∧ bs.length ≤ 256 ∧ ((wd ≠ 0 ∧ bad = wd ∧ wd' = 0 ∧ us = [] ∧ (threadP S2 E2 me).1.st ≠ 5) ∨ (wd = 0 ∧ us = bs ++ [me]))

theorem wait_fact (hX : XI S C.ent) (h2 : Ok2 S) (hC : CI C) (he : EvOk ev) (hcur : 0 ≤ S.cur ∧ S.cur < 256) {Q : QL → List Nat} (hQ : LIQ S Q) (ou : Outp) (hc : (waitP S C ev ou).2.2 = 0) :
    (0 ≤ (capAtP S C (refP C.ent S.cur) ev.addr).obj.idx ∧ (capAtP S C (refP C.ent S.cur) ev.addr).obj.idx < 256) ∧ ∃ Qz, LIQ (schedP (waitP S C ev ou).1 ev.pick) Qz ∧ WaitFact S Q C.ent (schedP (waitP S C ev ou).1 ev.pick) Qz C.ent (capAtP S C (refP C.ent S.cur) ev.addr).obj (refP C.ent S.cur) (waitP S C ev ou).2.1.badge := by
  have hok := wait_ok2 h2 hC he hcur ou
  have hcl := hX.curLive h2 hcur
  have h0 : (findP S C ev.addr 5 1).2.2 = 0 := by
    unfold waitP at hc; dsimp only at hc
    split at hc
    · exact hc
    · rename_i hq; exact Classical.byContradiction hq
  have hf := find_obj h2.ri hC hcur he.addr.1 (want := 5) (need := 1) (by decide) (by rw [h0]; decide)
  rw [capAt_find hX h2 hcur h0]
  refine ⟨hf.1, ?_⟩
  have hlen := nodup_len (hQ.lx.ch (L := .w (findP S C ev.addr 5 1).1.obj.idx.toNat) (show _ < 256 by omega)).nd (hQ.lx.ch (L := .w (findP S C ev.addr 5 1).1.obj.idx.toNat) (show _ < 256 by omega)).lt
  have hlen2 : (refsP C.ent (Q (.w (findP S C ev.addr 5 1).1.obj.idx.toNat))).length ≤ 256 := by unfold refsP; rw [List.length_map]; exact hlen
  have hri : (refP C.ent S.cur).idx = S.cur := by unfold refP; rw [if_neg (by omega)]; exact refAt_idx ⟨by omega, by omega⟩
  have hpl : place (S.tcb S.cur.toNat) = none := by unfold place; rw [hcl.1]; rfl
  generalize hfd : (findP S C ev.addr 5 1).1 = fd at hf hlen hlen2 ⊢
  by_cases hw : S.word fd.obj.idx.toNat = 0
  · have es : (waitP S C ev ou).1 = blockP S S.cur 5 fd.obj := by
      unfold waitP; dsimp only; rw [hfd, if_neg (by rw [h0]; decide), if_pos hw]
    rw [es] at hok ⊢
    have hl := block_LIQ h2.ri hQ (t := S.cur.toNat) (by omega) (s := 5) (o := fd.obj) hf.1 (by omega)
    rw [show ((S.cur.toNat : Nat) : Int) = S.cur by omega, hpl] at hl
    have hwr := (block_rst S S.cur 5 fd.obj).w
    generalize blockP S S.cur 5 fd.obj = S1 at hok hl hwr ⊢
    have hsc := sched_sch hok.ri hl he.pick.1
    obtain ⟨Qz, hz, hqz⟩ := hsc.qs
    refine ⟨Qz, hz, _, _, _, _, waiters_at (.inr hf.2), waiters_at (.inr hf.2), hlen2, .inr ⟨hw, ?_⟩⟩
    rw [hqz _ (by omega)]
    have : qPush (qCut Q none S.cur.toNat) (.w fd.obj.idx.toNat) S.cur.toNat (.w fd.obj.idx.toNat) = Q (.w fd.obj.idx.toNat) ++ [S.cur.toNat] := by
      unfold qPush qCut; rw [if_pos rfl, if_neg (by intro hz; cases hz)]
    rw [this]
    unfold refsP
    rw [List.map_append, List.map_cons, List.map_nil, show ((S.cur.toNat : Nat) : Int) = S.cur by omega]
  · have es : (waitP S C ev ou).1 = { S.setT S.cur.toNat { S.tcb S.cur.toNat with badge := S.word fd.obj.idx.toNat } with word := upd S.word fd.obj.idx.toNat 0 } := by
      unfold waitP; dsimp only; rw [hfd, if_neg (by rw [h0]; decide), if_neg hw]; rfl
    have eb : (waitP S C ev ou).2.1.badge = S.word fd.obj.idx.toNat := by
      unfold waitP; dsimp only; rw [hfd, if_neg (by rw [h0]; decide), if_neg hw]
      show (upd S.tcb S.cur.toNat _ S.cur.toNat).badge = _
      rw [upd_same]
    have hl : LIQ (waitP S C ev ou).1 Q := by
      rw [es]
      exact (hQ.setT (i := S.cur.toNat) (a := { S.tcb S.cur.toNat with badge := S.word fd.obj.idx.toNat }) ⟨rfl, rfl⟩ rfl rfl).same rfl (fun L => by cases L <;> rfl) rfl rfl
    have hwz : (waitP S C ev ou).1.word fd.obj.idx.toNat = 0 := by rw [es]; exact upd_same _ _ _
    have hst : ((waitP S C ev ou).1.tcb S.cur.toNat).st = 2 := by
      rw [es]
      show (upd S.tcb S.cur.toNat _ S.cur.toNat).st = _
      rw [upd_same]; exact hcl.1
    rw [eb]
    have hnil : Q (.w fd.obj.idx.toNat) = [] := by
      cases hq : Q (.w fd.obj.idx.toNat) with
      | nil => rfl
      | cons x r =>
        have := hX.waits hQ h2.ri (i := fd.obj.idx.toNat) (x := x) (by omega) (by rw [hq]; simp)
        have hty := typeOf_ty (by decide) hf.2
        rcases this.2.2 with a | a
        · rw [hty] at a; exact absurd a.2 (by decide)
        · exact absurd a.2.2 hw
    generalize (waitP S C ev ou).1 = S1 at hok hl hwz hst ⊢
    have hsc := sched_sch hok.ri hl he.pick.1
    obtain ⟨Qz, hz, hqz⟩ := hsc.qs
    refine ⟨Qz, hz, _, _, _, _, waiters_at (.inr hf.2), waiters_at (.inr hf.2), hlen2, .inl ⟨hw, rfl, ?_, ?_, ?_⟩⟩
    · rw [hsc.rs.w]; exact hwz
    · rw [hqz _ (by omega), hnil]; rfl
    · unfold threadP
      rw [typeOf_ref hcur, hcl.2, if_pos rfl, hri]
      rcases hsc.st S.cur.toNat (by omega) with a | a
      · show ((schedP S1 ev.pick).tcb S.cur.toNat).st ≠ 5
        rw [a, hst]; decide
      · intro hq
        have hq' : ((schedP S1 ev.pick).tcb S.cur.toNat).st = 5 := hq
        omega

/-- What a step does to the lines' masks. -/
def maskP (M : Nat → Bool) (ev : Ev) (code : Int) : Nat → Bool :=
  if code ≠ 0 then M else if ev.kind = 1 then upd M ev.arg.toNat true else if ev.kind = 18 ∨ ev.kind = 19 then upd M ev.arg.toNat false else M

/-- The law's demands on one step. -/
structure NFact (S : KP) (C : CP) (Q : QL → List Nat) (ev : Ev) (Sz : KP) (Cz : CP) (oz : Outp) (Qz : QL → List Nat) : Prop where
  liq : LIQ Sz Qz
  sig : oz.code = 0 → ev.kind = 8 → (0 ≤ (capAtP S C (refP C.ent S.cur) ev.addr).obj.idx ∧ (capAtP S C (refP C.ent S.cur) ev.addr).obj.idx < 256) ∧ SigFact S Q C.ent Sz Qz Cz.ent (capAtP S C (refP C.ent S.cur) ev.addr).obj (capAtP S C (refP C.ent S.cur) ev.addr).badge
  int : oz.code = 0 → ev.kind = 1 → ev.arg < 16 ∧ (S.irq ev.arg.toNat).masked = false ∧ SigFact S Q C.ent Sz Qz Cz.ent (S.irq ev.arg.toNat).ntfn (S.irq ev.arg.toNat).badge
  lin : oz.code = 0 → ev.kind = 18 ∨ ev.kind = 19 → ev.arg < 16
  wai : oz.code = 0 → ev.kind = 9 → (0 ≤ (capAtP S C (refP C.ent S.cur) ev.addr).obj.idx ∧ (capAtP S C (refP C.ent S.cur) ev.addr).obj.idx < 256) ∧ (0 ≤ S.cur ∧ S.cur < 256) ∧ WaitFact S Q C.ent Sz Qz Cz.ent (capAtP S C (refP C.ent S.cur) ev.addr).obj (refP C.ent S.cur) oz.badge
  msk : ∀ l, (Sz.irq l).masked = maskP (fun l => (S.irq l).masked) ev oz.code l

theorem sys_sig {ou : Outp} (k : ev.kind = 8) : sysP S C ev ou = ((sigP S C ev).1, C, ou, (sigP S C ev).2) := by
  unfold sysP
  rw [if_neg (by omega), if_neg (by omega), if_neg (by omega), if_neg (by omega), if_neg (by omega), if_pos k]
theorem sys_wait {ou : Outp} (k : ev.kind = 9) : sysP S C ev ou = ((waitP S C ev ou).1, C, (waitP S C ev ou).2.1, (waitP S C ev ou).2.2) := by
  unfold sysP
  rw [if_neg (by omega), if_neg (by omega), if_neg (by omega), if_neg (by omega), if_neg (by omega), if_neg (by omega), if_pos k]
theorem sys_line {ou : Outp} (k : ev.kind = 18 ∨ ev.kind = 19) : sysP S C ev ou = ((lineP S C ev).1, C, ou, (lineP S C ev).2) := by
  unfold sysP
  rw [if_neg (by omega), if_neg (by omega), if_neg (by omega), if_neg (by omega), if_neg (by omega), if_neg (by omega), if_neg (by omega), if_neg (by omega), if_neg (by omega), if_neg (by omega), if_pos k]

theorem step_ok0 {Sz : KP} {Cz : CP} {oz : Outp} (ez : stepP S C ev = (Sz, Cz, oz)) (h : oz.code = 0) : (step0 S C ev).2.2.code = 0 ∧ Sz = schedP (step0 S C ev).1 ev.pick ∧ Cz = (step0 S C ev).2.1 ∧ oz.badge = (step0 S C ev).2.2.badge := by
  unfold stepP at ez
  dsimp only at ez
  generalize step0 S C ev = r at ez ⊢
  split at ez
  · rename_i hq
    simp only [Prod.mk.injEq] at ez
    obtain ⟨rfl, rfl, rfl⟩ := ez
    exact ⟨hq, rfl, rfl, rfl⟩
  · rename_i hq
    simp only [Prod.mk.injEq] at ez
    obtain ⟨rfl, rfl, rfl⟩ := ez
    exact absurd h hq

theorem step0_sys (k0 : ev.kind ≠ 0) (k1 : ev.kind ≠ 1) (h : (step0 S C ev).2.2.code = 0) : S.cur ≠ -1 ∧ (sysP S C ev out0).2.2.2 = 0 ∧ (step0 S C ev) = ((sysP S C ev out0).1, (sysP S C ev out0).2.1, { (sysP S C ev out0).2.2.1 with code := (sysP S C ev out0).2.2.2 }) := by
  unfold step0 at h ⊢
  rw [if_neg k0, if_neg k1] at h ⊢
  by_cases k2 : ev.kind ≥ 20
  · rw [if_pos k2] at h; cases h
  rw [if_neg k2] at h ⊢
  by_cases k3 : S.cur = -1
  · rw [if_pos k3] at h; cases h
  rw [if_neg k3] at h ⊢
  exact ⟨k3, h, rfl⟩

theorem int_parts {l : Int} (h : (interruptP S C l).2 = 0) : l < 16 ∧ typeOfP C.ent (S.irq l.toNat).ntfn = 5 ∧ (S.irq l.toNat).masked = false ∧ (interruptP S C l).1 = signalP (S.setI l.toNat { S.irq l.toNat with masked := true }) (S.irq l.toNat).ntfn (S.irq l.toNat).badge := by
  unfold interruptP at h ⊢
  dsimp only at h ⊢
  by_cases k1 : l ≥ 16
  · rw [if_pos k1] at h; cases h
  rw [if_neg k1] at h ⊢
  by_cases k2 : typeOfP C.ent (S.irq l.toNat).ntfn ≠ 5
  · rw [if_pos k2] at h; cases h
  rw [if_neg k2] at h ⊢
  by_cases k3 : (S.irq l.toNat).masked = true
  · rw [if_pos k3] at h; cases h
  rw [if_neg k3]
  refine ⟨by omega, Classical.byContradiction k2, by simpa using k3, ?_⟩
  have e1 : ((S.setI l.toNat { S.irq l.toNat with masked := true }).irq l.toNat) = { S.irq l.toNat with masked := true } := upd_same _ _ _
  rw [e1]

theorem line_parts (h : (lineP S C ev).2 = 0) : ev.arg < 16 ∧ ∃ q : Irq, q.masked = false ∧ (lineP S C ev).1 = S.setI ev.arg.toNat q := by
  unfold lineP at h ⊢
  dsimp only at h ⊢
  by_cases k1 : ev.arg ≥ 16
  · rw [if_pos k1] at h; cases h
  rw [if_neg k1] at h ⊢
  refine ⟨by omega, ?_⟩
  by_cases k2 : ev.kind = 18
  · rw [if_pos k2] at h ⊢
    by_cases k3 : (findP S C ev.addr 5 2).2.2 = 0
    · rw [if_pos k3]; exact ⟨_, rfl, rfl⟩
    · rw [if_neg k3] at h; exact absurd h k3
  · rw [if_neg k2] at h ⊢
    by_cases k3 : (S.irq ev.arg.toNat).ntfn = ⟨0, 0⟩
    · rw [if_pos k3] at h; cases h
    rw [if_neg k3] at h ⊢
    by_cases k4 : (S.irq ev.arg.toNat).masked = false
    · rw [if_pos k4] at h; cases h
    rw [if_neg k4]
    exact ⟨_, rfl, rfl⟩

theorem mask_upd {q : Irq} {S : KP} (a l : Nat) {b : Bool} (hq : q.masked = b) : (upd S.irq a q l).masked = upd (fun l => (S.irq l).masked) a b l := by
  unfold upd; split
  · exact hq
  · rfl

theorem step_N (hX : XI S C.ent) (h2 : Ok2 S) (hC : CI C) (he : EvOk ev) {Q : QL → List Nat} (hQ : LIQ S Q) {Sz : KP} {Cz : CP} {oz : Outp} (ez : stepP S C ev = (Sz, Cz, oz)) : ∃ Qz, NFact S C Q ev Sz Cz oz Qz := by
  by_cases hc : oz.code = 0
  · obtain ⟨h0, e1, e2, e3⟩ := step_ok0 ez hc
    have hm0 : ∀ M, maskP M ev oz.code = if ev.kind = 1 then upd M ev.arg.toNat true else if ev.kind = 18 ∨ ev.kind = 19 then upd M ev.arg.toNat false else M := fun M => by unfold maskP; rw [if_neg (fun h => h hc)]
    by_cases k1 : ev.kind = 1
    · have es : step0 S C ev = ((interruptP S C ev.arg).1, C, { out0 with code := (interruptP S C ev.arg).2 }) := by
        unfold step0; rw [if_neg (by omega), if_pos k1]
      rw [es] at h0 e1 e2
      dsimp only at h0 e1 e2
      obtain ⟨i1, i2, i3, i4⟩ := int_parts h0
      have harg := he.arg.1
      have hi := h2.ri.irq (i := ev.arg.toNat) (by omega)
      have x1 : XI (S.setI ev.arg.toNat { S.irq ev.arg.toNat with masked := true }) C.ent := hX.tame (tame_setI _ _ _)
      have o1 : Ok2 (S.setI ev.arg.toNat { S.irq ev.arg.toNat with masked := true }) := setI_ok2 h2 hi
      have l1 : LIQ (S.setI ev.arg.toNat { S.irq ev.arg.toNat with masked := true }) Q := hQ.same rfl (fun L => by cases L <;> rfl) rfl rfl
      have hirq : (S.setI ev.arg.toNat { S.irq ev.arg.toNat with masked := true }).irq = upd S.irq ev.arg.toNat { S.irq ev.arg.toNat with masked := true } := rfl
      have hwd : S.word = (S.setI ev.arg.toNat { S.irq ev.arg.toNat with masked := true }).word := rfl
      rw [i4] at e1
      generalize S.setI ev.arg.toNat { S.irq ev.arg.toNat with masked := true } = S1 at x1 o1 l1 hirq hwd e1
      obtain ⟨Qz, hz, hsf⟩ := signal_fact (S := S) x1 o1 l1 hwd hi i2 (S.irq ev.arg.toNat).badge he.pick.1
      have hok := signal_ok2 o1 hi (S.irq ev.arg.toNat).badge
      obtain ⟨Qs, hQs⟩ := hok.li
      have hsc := sched_sch hok.ri hQs he.pick.1
      rw [← e1] at hz hsf hsc
      refine ⟨Qz, ⟨hz, fun _ k => by omega, fun _ _ => ⟨i1, i3, by rw [e2]; exact hsf⟩, fun _ k => by omega, fun _ k => by omega, fun l => ?_⟩⟩
      rw [hm0, if_pos k1, hsc.rs.i, signal_irq, hirq]
      exact mask_upd _ _ rfl
    by_cases k0 : ev.kind = 0
    · have hiv := step_inv h2 hC he
      rw [ez] at hiv
      obtain ⟨Qz, hz⟩ := hiv.1.li
      have h00 := step0_inv h2 hC he
      obtain ⟨Qs, hQs⟩ := h00.1.li
      have hsc := sched_sch h00.1.ri hQs he.pick.1
      rw [← e1] at hsc
      refine ⟨Qz, ⟨hz, fun _ k => by omega, fun _ k => by omega, fun _ k => by omega, fun _ k => by omega, fun l => ?_⟩⟩
      rw [hm0, if_neg k1, if_neg (by omega), hsc.rs.i, step0_irq (by omega) k1]
    obtain ⟨hcr, hsc0, es⟩ := step0_sys k0 k1 h0
    have hcur := lk_nat h2.ri.cur hcr
    by_cases k8 : ev.kind = 8
    · rw [es, sys_sig k8] at h0 e1 e2
      dsimp only at h0 e1 e2
      rw [sys_sig k8] at hsc0
      have hf0 : (findP S C ev.addr 5 2).2.2 = 0 := by
        unfold sigP at hsc0; dsimp only at hsc0
        split at hsc0
        · assumption
        · exact hsc0
      have hf := find_obj h2.ri hC hcur he.addr.1 (want := 5) (need := 2) (by decide) (by rw [hf0]; decide)
      have e4 : (sigP S C ev).1 = signalP S (findP S C ev.addr 5 2).1.obj (findP S C ev.addr 5 2).1.badge := by
        unfold sigP; dsimp only; rw [if_pos hf0]
      rw [e4] at e1
      obtain ⟨Qz, hz, hsf⟩ := signal_fact (S := S) hX h2 hQ rfl hf.1 hf.2 (findP S C ev.addr 5 2).1.badge he.pick.1
      have hok := signal_ok2 h2 hf.1 (findP S C ev.addr 5 2).1.badge
      obtain ⟨Qs, hQs⟩ := hok.li
      have hsc := sched_sch hok.ri hQs he.pick.1
      rw [← e1] at hz hsf hsc
      refine ⟨Qz, ⟨hz, fun _ _ => ?_, fun _ k => by omega, fun _ k => by omega, fun _ k => by omega, fun l => ?_⟩⟩
      · rw [capAt_find hX h2 hcur hf0, e2]; exact ⟨hf.1, hsf⟩
      · rw [hm0, if_neg k1, if_neg (by omega), hsc.rs.i, signal_irq]
    by_cases k9 : ev.kind = 9
    · rw [es, sys_wait k9] at h0 e1 e2 e3
      dsimp only at h0 e1 e2 e3
      obtain ⟨hr, Qz, hz, hwf⟩ := wait_fact hX h2 hC he hcur hQ out0 h0
      have hok := wait_ok2 h2 hC he hcur out0
      obtain ⟨Qs, hQs⟩ := hok.li
      have hsc := sched_sch hok.ri hQs he.pick.1
      rw [← e1] at hz hwf hsc
      refine ⟨Qz, ⟨hz, fun _ k => by omega, fun _ k => by omega, fun _ k => by omega, fun _ _ => ⟨hr, hcur, by rw [e2, e3]; exact hwf⟩, fun l => ?_⟩⟩
      rw [hm0, if_neg k1, if_neg (by omega), hsc.rs.i, wait_irq]
    have hiv := step_inv h2 hC he
    rw [ez] at hiv
    obtain ⟨Qz, hz⟩ := hiv.1.li
    have h00 := step0_inv h2 hC he
    obtain ⟨Qs, hQs⟩ := h00.1.li
    have hsc := sched_sch h00.1.ri hQs he.pick.1
    rw [← e1] at hsc
    by_cases kl : ev.kind = 18 ∨ ev.kind = 19
    · rw [es, sys_line kl] at h0 hsc
      dsimp only at h0 hsc
      obtain ⟨l1, q, hq, e5⟩ := line_parts h0
      refine ⟨Qz, ⟨hz, fun _ k => by omega, fun _ k => by omega, fun _ _ => l1, fun _ k => by omega, fun l => ?_⟩⟩
      rw [hm0, if_neg k1, if_pos kl, hsc.rs.i, e5]
      exact mask_upd _ _ hq
    · refine ⟨Qz, ⟨hz, fun _ k => by omega, fun _ k => by omega, fun _ k => absurd k kl, fun _ k => by omega, fun l => ?_⟩⟩
      rw [hm0, if_neg k1, if_neg kl, hsc.rs.i, step0_irq kl k1]
  · have hrf := step_ref (S := S) (C := C) (ev := ev) (by rw [ez]; exact hc)
    rw [ez] at hrf; dsimp only at hrf
    refine ⟨Q, ⟨by rw [hrf.1]; exact hQ, fun h => absurd h hc, fun h => absurd h hc, fun h => absurd h hc, fun h => absurd h hc, fun l => ?_⟩⟩
    unfold maskP
    rw [if_pos hc, hrf.1]

end
end Go.Kn
