/-
  The choice of the scheduler: what lineUp shows behind it.
-/
import Derived.Test.Qxb6500918aDoorPK
namespace Go.Kn
open Go.Sx Go.Proofs.Qxb6500918aDoor

/-! Who runs before the scheduler: the same or nobody -/

def Nc (S S' : KP) : Prop := S'.cur = S.cur ∨ S'.cur = -1
theorem Nc.refl (S : KP) : Nc S S := .inl rfl
theorem Nc.trans {S S1 S2 : KP} (h : Nc S S1) (h' : Nc S1 S2) : Nc S S2 := by
  unfold Nc at *; omega
theorem Nc.of {S S' : KP} (h : S'.cur = S.cur) : Nc S S' := .inl h

theorem leave_Nc (S : KP) (t : Int) : Nc S (leaveP S t) := by
  unfold Nc; rw [leave_curE]; split
  · exact .inr rfl
  · exact .inl rfl
theorem wake_Nc (S : KP) (t : Int) : Nc S (wakeP S t) := by
  have h := leave_Nc S t
  unfold Nc at *
  unfold wakeP; dsimp only; rw [push_cur, setT_cur]; exact h
theorem wake_Nc' {S S1 : KP} (h : S1.cur = S.cur) (t : Int) : Nc S (wakeP S1 t) := Nc.trans (S1 := S1) (Nc.of h) (wake_Nc S1 t)
theorem block_Nc (S : KP) (t s : Int) (o : Rf) : Nc S (blockP S t s o) := by
  have h := leave_Nc S t
  unfold Nc at *
  unfold blockP; dsimp only
  split
  · exact h
  · rw [push_cur]; exact h
theorem block_Nc' {S S1 : KP} (h : S1.cur = S.cur) (t s : Int) (o : Rf) : Nc S (blockP S1 t s o) := Nc.trans (S1 := S1) (Nc.of h) (block_Nc S1 t s o)
theorem settle_Nc (S : KP) (E : Nat → Ent) (f t : Int) : Nc S (settleP S E f t) := by
  unfold settleP; dsimp only
  split
  · exact block_Nc S f 6 (refP E t)
  · split
    · exact wake_Nc S f
    · exact Nc.refl S
theorem signal_Nc (S : KP) (o : Rf) (b : Int) : Nc S (signalP S o b) := by
  unfold signalP
  split
  · refine wake_Nc' ?_ _
    rfl
  · exact Nc.of rfl
theorem wakeRep_Nc (S : KP) (o : Rf) : ∀ n, Nc S (wakeRep S o n)
  | 0 => Nc.refl S
  | n + 1 => by
    rw [wakeRep]; split
    · exact (wakeRep_Nc S o n).trans (wake_Nc _ _)
    · exact wakeRep_Nc S o n
theorem drain_Nc : ∀ (f : Nat) (S : KP) (i : Nat), Nc S (drainP f S i)
  | 0, S, _ => Nc.refl S
  | f + 1, S, i => by
    rw [drainP]; split
    · exact Nc.refl S
    · exact (wake_Nc _ _).trans (drain_Nc f _ i)
theorem bury_Nc (S : KP) (c : Cp) : Nc S (buryP S c) := by
  unfold buryP
  split
  · exact Nc.trans (S1 := (leaveP S c.obj.idx).setT c.obj.idx.toNat noT) (leave_Nc S c.obj.idx) (wakeRep_Nc _ _ _)
  · split
    · exact drain_Nc 257 S c.obj.idx.toNat
    · exact Nc.refl S
theorem buryAll_Nc : ∀ (l : List Cp) (S : KP), Nc S (buryAll S l)
  | [], S => Nc.refl S
  | c :: l, S => (bury_Nc S c).trans (buryAll_Nc l (buryP S c))

section
variable {S : KP} {C : CP} {ev : Ev}

theorem send_Nc : Nc S (sendP S C ev).1 := by
  unfold sendP
  extract_lets f t S1 x1 S2 x2 S3 x3 S4 x4 S5 d S7
  have g5 : S5.cur = S.cur := rfl
  clear_value S5
  split
  · exact Nc.refl S
  split
  · exact Nc.refl S
  split
  · exact (Nc.of g5).trans (block_Nc _ _ _ _)
  · refine Nc.trans (S1 := S7) ?_ (settle_Nc _ _ _ _)
    refine Nc.trans (S1 := d.1) ?_ (wake_Nc _ _)
    exact Nc.of (deliver_cur.trans g5)

theorem recv_Nc (ou : Outp) : Nc S (recvP S C ev ou).1 := by
  unfold recvP; dsimp only
  split
  · exact Nc.refl S
  split
  · exact block_Nc' rfl _ _ _
  · refine Nc.trans (S1 := (deliverP (S.setT S.cur.toNat { S.tcb S.cur.toNat with dst := ev.dst }) C (oldestP (S.setT S.cur.toNat { S.tcb S.cur.toNat with dst := ev.dst }) (findP S C ev.addr 4 1).1.obj 3) S.cur).1) (Nc.of ?_) (settle_Nc _ _ _ _)
    rw [deliver_cur]; rfl

theorem reply_Nc : Nc S (replyP S C ev).1 := by
  unfold replyP; dsimp only
  split
  · exact Nc.refl S
  split
  · exact Nc.refl S
  split
  · exact Nc.refl S
  · have h : ∀ (S3 : KP) (t : Int) (c : Nat) (a : Tcb), S3.cur = S.cur → Nc S ((wakeP S3 t).setT c a) := fun S3 t c a h => wake_Nc' h t
    exact h _ _ _ _ rfl

theorem wait_Nc (ou : Outp) : Nc S (waitP S C ev ou).1 := by
  unfold waitP; dsimp only
  split
  · exact Nc.refl S
  split
  · exact block_Nc _ _ _ _
  · exact Nc.of rfl

theorem control_Nc : Nc S (controlP S C ev).1 := by
  unfold controlP; dsimp only
  split
  · exact Nc.refl S
  split
  · split
    · exact Nc.refl S
    · exact Nc.of rfl
  split
  · split
    · exact Nc.refl S
    split
    · exact Nc.of rfl
    · refine Nc.trans (leave_Nc S _) (Nc.trans (S1 := (leaveP S _).setT _ _) (Nc.of rfl) (wake_Nc _ _))
  split
  · split
    · exact Nc.refl S
    · exact wake_Nc _ _
  split
  · split
    · exact Nc.refl S
    · exact leave_Nc _ _
  · exact Nc.refl S

theorem drop_Nc : Nc S (dropP S C ev).1 := by
  unfold dropP; dsimp only
  split
  · exact Nc.refl S
  split
  · exact Nc.refl S
  split
  · generalize revokeP 4097 C (lookP C.ent (S.tcb S.cur.toNat).cs ev.addr).1 [] = rr
    exact buryAll_Nc rr.2 S
  · generalize deleteP 4097 C (lookP C.ent (S.tcb S.cur.toNat).cs ev.addr).1.toNat = rr
    exact buryAll_Nc rr.2 S

theorem line_Nc : Nc S (lineP S C ev).1 := by
  unfold lineP; dsimp only
  split
  · exact Nc.refl S
  split
  · split
    · exact Nc.of rfl
    · exact Nc.refl S
  · split
    · exact Nc.refl S
    split
    · exact Nc.refl S
    · exact Nc.of rfl

theorem sig_Nc : Nc S (sigP S C ev).1 := by
  unfold sigP; dsimp only
  split
  · exact signal_Nc _ _ _
  · exact Nc.refl S

theorem sys_Nc (ou : Outp) : Nc S (sysP S C ev ou).1 := by
  unfold sysP
  by_cases k0 : ev.kind = 2
  · rw [if_pos k0]; exact wake_Nc _ _
  rw [if_neg k0]
  by_cases k1 : ev.kind = 3
  · rw [if_pos k1]; exact Nc.of rfl
  rw [if_neg k1]
  by_cases k2 : ev.kind = 4 ∨ ev.kind = 5
  · rw [if_pos k2]; exact send_Nc
  rw [if_neg k2]
  by_cases k3 : ev.kind = 6
  · rw [if_pos k3]; exact recv_Nc ou
  rw [if_neg k3]
  by_cases k4 : ev.kind = 7
  · rw [if_pos k4]; exact reply_Nc
  rw [if_neg k4]
  by_cases k5 : ev.kind = 8
  · rw [if_pos k5]; exact sig_Nc
  rw [if_neg k5]
  by_cases k6 : ev.kind = 9
  · rw [if_pos k6]; exact wait_Nc ou
  rw [if_neg k6]
  by_cases k7 : ev.kind = 10
  · rw [if_pos k7]; exact Nc.refl S
  rw [if_neg k7]
  by_cases k8 : ev.kind = 11
  · rw [if_pos k8]; exact Nc.refl S
  rw [if_neg k8]
  by_cases k9 : ev.kind = 12 ∨ ev.kind = 13
  · rw [if_pos k9]; exact drop_Nc
  rw [if_neg k9]
  by_cases k10 : ev.kind = 18 ∨ ev.kind = 19
  · rw [if_pos k10]; exact line_Nc
  rw [if_neg k10]
  exact control_Nc

theorem step0_Nc : Nc S (step0 S C ev).1 := by
  unfold step0
  split
  · dsimp only
    split
    · exact Nc.trans (S1 := { S with now := IntKind.wrap .u64 (S.now + 1) }) (Nc.of rfl) (wake_Nc _ _)
    · exact Nc.of rfl
  split
  · show Nc S (interruptP S C ev.arg).1
    unfold interruptP; dsimp only
    split
    · exact Nc.refl S
    split
    · exact Nc.refl S
    split
    · exact Nc.refl S
    · exact Nc.trans (S1 := S.setI ev.arg.toNat { S.irq ev.arg.toNat with masked := true }) (Nc.of rfl) (signal_Nc _ _ _)
  split
  · exact Nc.refl S
  split
  · exact Nc.refl S
  · exact sys_Nc out0

theorem wake_self {t : Int} (h : (S.tcb t.toNat).st = 2) : (wakeP S t).cur = -1 := by
  unfold wakeP; dsimp only; rw [push_cur, setT_cur, leave_curE, if_pos h]

/-- A tick and a yield free the processor. -/
theorem step0_free (h2 : Ok2 S) (hk : ev.kind = 0 ∨ ev.kind = 2) (hc : (step0 S C ev).2.2.code = 0) : (step0 S C ev).1.cur = -1 := by
  obtain ⟨Q, hQ⟩ := h2.li
  have hst : S.cur ≠ -1 → (S.tcb S.cur.toNat).st = 2 := fun hne => by
    have := lk_nat h2.ri.cur hne
    exact (hQ.cu S.cur.toNat (by omega)).2 (by omega)
  unfold step0 at hc ⊢
  by_cases k0 : ev.kind = 0
  · rw [if_pos k0]; dsimp only
    split
    · rename_i hne
      exact wake_self (S := { S with now := IntKind.wrap .u64 (S.now + 1) }) (hst hne)
    · rename_i hne
      exact Classical.byContradiction hne
  · have k2 : ev.kind = 2 := by omega
    rw [if_neg k0, if_neg (by omega), if_neg (by omega)] at hc ⊢
    split at hc
    · simp at hc
    · rename_i hne
      rw [if_neg hne]
      show (sysP S C ev out0).1.cur = -1
      unfold sysP
      rw [if_pos k2]
      exact wake_self (hst hne)

theorem step0_pick (p : Int) : step0 S C { ev with pick := p } = step0 S C ev := rfl

end

/-! The choice -/

/-- No ready thread stands above the running one. -/
def TopI (S : KP) (Q : QL → List Nat) : Prop := ∀ p, p < 8 → Q (.r p) ≠ [] → S.cur ≠ -1 ∧ (p : Int) ≤ (S.tcb S.cur.toNat).prio

theorem erase_at {xs : List Nat} (hn : xs.Nodup) : ∀ {i y : Nat}, xs[i]? = some y → xs.erase y = xs.take i ++ xs.drop (i + 1) := by
  induction xs with
  | nil => intro i y h; simp at h
  | cons a l ih =>
    intro i y h
    rw [List.nodup_cons] at hn
    cases i with
    | zero => simp at h; subst h; simp
    | succ i =>
      have h1 : l[i]? = some y := by simpa using h
      have hne : a ≠ y := fun e => hn.1 (by rw [e]; exact List.mem_of_getElem? h1)
      rw [List.erase_cons_tail (by simpa using hne), ih hn.2 h1]; rfl

theorem ins_back {E : Nat → Ent} {xs : List Nat} {i y : Nat} (h : xs[i]? = some y) : insP (refsP E (xs.take i ++ xs.drop (i + 1))) i (refP E (y : Int)) = refsP E xs := by
  have hi : i < xs.length := (List.getElem?_eq_some_iff.1 h).1
  have hy : xs[i] = y := (List.getElem?_eq_some_iff.1 h).2
  unfold insP refsP
  rw [← List.map_take, ← List.map_drop]
  have e1 : (xs.take i ++ xs.drop (i + 1)).take i = xs.take i := by
    rw [List.take_append_of_le_length (by rw [List.length_take]; omega), List.take_take, Nat.min_self]
  have e2 : (xs.take i ++ xs.drop (i + 1)).drop i = xs.drop (i + 1) := by
    rw [List.drop_append_of_le_length (by rw [List.length_take]; omega), List.drop_eq_nil_of_le (by rw [List.length_take]; omega), List.nil_append]
  rw [e1, e2]
  have e3 : xs = xs.take i ++ y :: xs.drop (i + 1) := by
    conv => lhs; rw [← List.take_append_drop i xs, List.drop_eq_getElem_cons hi, hy]
  conv => rhs; rw [e3]
  rw [List.map_append, List.map_cons]

theorem line_pick {S : KP} {Q : QL → List Nat} {top pick : Int} (hR : RI S) (hQ : LIQ S Q) (ht : 0 ≤ top ∧ top < 8) (hne : Q (.r top.toNat) ≠ []) (hmax : ∀ p, p < 8 → Q (.r p) ≠ [] → (p : Int) ≤ top) (hp : 0 ≤ pick) (hc : S.cur = -1) (E : Nat → Ent) :
    ∃ Qz, LIQ (pickP S top pick) Qz ∧ TopI (pickP S top pick) Qz ∧ (0 ≤ (pickP S top pick).cur ∧ (pickP S top pick).cur < 256) ∧ lineUpP (pickP S top pick) Qz E pick = refsP E (Q (.r top.toNat)) := by
  have hav : Avail S top (Q (.r top.toNat)) := ⟨hQ.lx.ch (show _ < 8 by omega), hne⟩
  obtain ⟨y, h1, hy, e⟩ := pick_at hav hp
  obtain ⟨y', h1', hy', hl⟩ := pick_LIQ hR hQ ht hne hp hc
  rw [h1] at h1'
  have hyy : y = y' := by simpa using h1'
  subst hyy
  have hcur : (pickP S top pick).cur = (y : Int) := by unfold pickP; dsimp only; rw [e]
  have hpl : place (S.tcb y) = some (.r top.toNat) := (hQ.lx.mem (show _ < 8 by omega) y hy).1 (List.mem_of_getElem? h1)
  have hpr0 : (S.tcb y).prio.toNat = top.toNat := by
    unfold place at hpl
    split at hpl
    · simpa using hpl
    · split at hpl <;> cases hpl
  have hprr := (hR.t hy).pr
  have hun := (sch_pick hR hQ ht hne hp hc).un y
  have hpr : ((pickP S top pick).tcb y).prio = (S.tcb y).prio := by
    have h9 := congrArg Tcb.prio hun
    exact h9
  have hpt : ((pickP S top pick).tcb (pickP S top pick).cur.toNat).prio = top := by rw [hcur, Int.toNat_natCast, hpr]; omega
  have hcut : qCut Q (some (.r top.toNat)) y (.r top.toNat) = (Q (.r top.toNat)).erase y := by unfold qCut; rw [if_pos rfl]
  have hnn := hav.n.2
  have hnd := (hQ.lx.ch (L := .r top.toNat) (show _ < 8 by omega)).nd
  have hlen := List.length_erase_of_mem (List.mem_of_getElem? h1)
  have hpos := List.length_pos_iff.2 hne
  refine ⟨_, hl, fun p hp8 hpn => ⟨by rw [hcur]; omega, ?_⟩, by rw [hcur]; omega, ?_⟩
  · rw [hpt]
    refine hmax p hp8 (fun h0 => hpn ?_)
    unfold qCut; split
    · rw [h0]; rfl
    · exact h0
  · unfold lineUpP
    rw [hpt, hcut, refs_len, hlen, hcur]
    have hidx : ((((Q (.r top.toNat)).length - 1 : Nat) : Int) + 1) = (S.rdy top.toNat).n := by omega
    rw [hidx, erase_at hnd h1]
    exact ins_back h1

/-- The three ways of the scheduler. -/
theorem sched_ways {S : KP} {Q : QL → List Nat} (hR : RI S) (hQ : LIQ S Q) :
    (S.cur ≠ -1 ∧ TopI S Q ∧ ∀ pick, schedP S pick = S) ∨ (S.cur = -1 ∧ TopI S Q ∧ ∀ pick, schedP S pick = S) ∨
    ∃ S' Q' top, RI S' ∧ LIQ S' Q' ∧ (0 ≤ top ∧ top < 8) ∧ Q' (.r top.toNat) ≠ [] ∧ (∀ p, p < 8 → Q' (.r p) ≠ [] → (p : Int) ≤ top) ∧ S'.cur = -1 ∧ ∀ pick, schedP S pick = pickP S' top pick := by
  have ht := top_all hQ.by_
  have hall : ∀ p, p < 8 → Q (.r p) ≠ [] → (p : Int) ≤ topP S.busy := fun p hp h => ht.2.2.2 p hp ((hQ.bz p hp).2 h)
  by_cases hc : S.cur = -1
  · by_cases h0 : topP S.busy < 0
    · refine .inr (.inl ⟨hc, fun p hp h => ?_, fun pick => ?_⟩)
      · have := hall p hp h; omega
      · unfold schedP; rw [if_neg (by omega), if_pos h0]
    · refine .inr (.inr ⟨S, Q, topP S.busy, hR, hQ, ⟨by omega, ht.2.1⟩, (hQ.bz _ (by omega)).1 (ht.2.2.1 (by omega)), hall, hc, fun pick => ?_⟩)
      unfold schedP; rw [if_neg (by omega), if_neg h0]
  · have hcur := lk_nat hR.cur hc
    by_cases h0 : topP S.busy ≤ (S.tcb S.cur.toNat).prio
    · refine .inl ⟨hc, fun p hp h => ⟨hc, ?_⟩, fun pick => ?_⟩
      · have := hall p hp h; omega
      · unfold schedP; rw [if_pos hc, if_pos h0]
    · have hst : (S.tcb S.cur.toNat).st = 2 := (hQ.cu S.cur.toNat (by omega)).2 (by omega)
      have hpl : place (S.tcb S.cur.toNat) = none := by unfold place; rw [hst]; rfl
      have hw := wake_LIQ hR hQ (t := S.cur.toNat) (by omega)
      have hwR := wake_RI hR hcur
      rw [show ((S.cur.toNat : Nat) : Int) = S.cur by omega, hpl] at hw
      have hpr := (hR.t (i := S.cur.toNat) (by omega)).pr
      refine .inr (.inr ⟨_, _, topP S.busy, hwR, hw, ⟨by omega, ht.2.1⟩, ?_, fun p hp h => ?_, wake_self hst, fun pick => ?_⟩)
      · unfold qPush qCut
        rw [if_neg (by intro hq; simp at hq; omega), if_neg (by intro hq; cases hq)]
        exact (hQ.bz _ (by omega)).1 (ht.2.2.1 (by omega))
      · unfold qPush qCut at h
        by_cases e : (QL.r p) = .r (S.tcb S.cur.toNat).prio.toNat
        · simp at e; omega
        · rw [if_neg e, if_neg (by intro hq; cases hq)] at h
          exact hall p hp h
      · unfold schedP; rw [if_pos hc, if_neg h0, if_neg (by omega)]

section
variable {S : KP} {C : CP} {ev : Ev}

/-- The plain law of the scheduler. -/
structure SFact (S : KP) (C : CP) (ev : Ev) (Sz : KP) (Cz : CP) (oz : Outp) (Qz : QL → List Nat) : Prop where
  liq : LIQ Sz Qz
  top : TopI Sz Qz
  line : oz.code = 0 → (refP Cz.ent Sz.cur ≠ refP C.ent S.cur ∨ ev.kind = 0 ∨ ev.kind = 2) → Sz.cur ≠ -1 → ∀ p, 0 ≤ p → ∃ Sy oy Qy, stepP S C { ev with pick := p } = (Sy, Cz, oy) ∧ LIQ Sy Qy ∧ (0 ≤ Sy.cur ∧ Sy.cur < 256) ∧ lineUpP Sy Qy Cz.ent p = lineUpP Sz Qz Cz.ent ev.pick

theorem step_S {Q : QL → List Nat} (hX : XI S C.ent) (h2 : Ok2 S) (hC : CI C) (he : EvOk ev) (hQ : LIQ S Q) (hT : TopI S Q) {Sz : KP} {Cz : CP} {oz : Outp} (ez : stepP S C ev = (Sz, Cz, oz)) : ∃ Qz, SFact S C ev Sz Cz oz Qz := by
  by_cases hc : oz.code = 0
  · obtain ⟨c0, eS, eC, _⟩ := step_ok0 ez hc
    have h1 := step0_inv h2 hC he
    have hXz := hX.step0 h2 hC he
    have hg := step_gen (S := S) (C := C) (ev := ev)
    rw [ez] at hg
    have hxz2 := hX.step h2 hC he
    have hivz := step_inv h2 hC he
    rw [ez] at hxz2 hivz
    dsimp only at hg hxz2 hivz
    have hstep : ∀ p, ∃ oy, stepP S C { ev with pick := p } = (schedP (step0 S C ev).1 p, (step0 S C ev).2.1, oy) := fun p => by
      refine ⟨{ (step0 S C ev).2.2 with run := refP (step0 S C ev).2.1.ent (schedP (step0 S C ev).1 p).cur }, ?_⟩
      unfold stepP
      dsimp only
      rw [step0_pick, if_pos c0]
    have hnc := step0_Nc (S := S) (C := C) (ev := ev)
    have hfree := step0_free (S := S) (C := C) (ev := ev) h2
    obtain ⟨Q0, hQ0⟩ := h1.1.li
    rcases sched_ways h1.1.ri hQ0 with ⟨w1, w2, w3⟩ | ⟨w1, w2, w3⟩ | ⟨S', Q', top, a1, a2, a3, a4, a5, a6, a7⟩
    · rw [w3] at eS
      refine ⟨Q0, ⟨by rw [eS]; exact hQ0, by rw [eS]; exact w2, fun _ hn hcu => ?_⟩⟩
      exfalso
      have hk : ¬ (ev.kind = 0 ∨ ev.kind = 2) := fun hk => w1 (hfree hk c0)
      rcases hn with hn | hn
      · refine hn ?_
        have hcs : Sz.cur = S.cur := by
          rw [eS]; exact hnc.resolve_right w1
        have hcz := lk_nat hivz.1.ri.cur hcu
        have hlz := (hxz2.curLive hivz.1 hcz).2
        rw [← hcs]
        unfold refP
        rw [if_neg hcu, if_neg hcu]
        unfold refAtP
        have hgg : (Cz.ent Sz.cur.toNat).gen = (C.ent Sz.cur.toNat).gen := by
          rcases hg Sz.cur.toNat with a | ⟨_, a, _⟩
          · exact a
          · rw [hlz] at a; exact absurd a (by decide)
        rw [hgg]
      · exact hk hn
    · rw [w3] at eS
      exact ⟨Q0, ⟨by rw [eS]; exact hQ0, by rw [eS]; exact w2, fun _ _ hcu => absurd (by rw [eS]; exact w1) hcu⟩⟩
    · rw [a7] at eS
      obtain ⟨Qz, b1, b2, b3, b4⟩ := line_pick a1 a2 a3 a4 a5 he.pick.1 a6 Cz.ent
      rw [← eS] at b1 b2 b3 b4
      refine ⟨Qz, ⟨b1, b2, fun _ _ _ p hp => ?_⟩⟩
      obtain ⟨Qy, c1, c2, c3, c4⟩ := line_pick a1 a2 a3 a4 a5 hp a6 Cz.ent
      obtain ⟨oy, ey⟩ := hstep p
      rw [a7, ← eC] at ey
      exact ⟨_, oy, Qy, ey, c1, c3, by rw [c4, b4]⟩
  · have hr := step_ref (S := S) (C := C) (ev := ev) (by rw [ez]; exact hc)
    rw [ez] at hr
    dsimp only at hr
    rw [hr.1]
    exact ⟨Q, ⟨hQ, hT, fun h => absurd h hc⟩⟩

end
end Go.Kn
