/-
  The words of what is no notification; the generations.
-/
import Derived.Test.Qxb6500918aDoorOi
namespace Go.Kn
open Go.Sx Go.Proofs.Qxb6500918aDoor

/-! Words -/

def Wz (S S' : KP) : Prop := ∀ i, S'.word i = S.word i ∨ S'.word i = 0
theorem Wz.refl (S : KP) : Wz S S := fun _ => .inl rfl
theorem Wz.trans {S S1 S2 : KP} (h : Wz S S1) (h' : Wz S1 S2) : Wz S S2 := fun i => by
  rcases h' i with a | a
  · rw [a]; exact h i
  · exact .inr a
theorem Wz.of {S S' : KP} (h : S'.word = S.word) : Wz S S' := fun i => .inl (by rw [h])

theorem deliver_word (S : KP) (C : CP) (f t : Int) : (deliverP S C f t).1.word = S.word := by
  unfold deliverP; dsimp only
  split
  · rfl
  split
  · split <;> rfl
  · rfl
theorem settle_word (S : KP) (E : Nat → Ent) (f t : Int) : (settleP S E f t).word = S.word := by
  unfold settleP; dsimp only
  split
  · exact (block_rst S f 6 (refP E t)).w
  · split
    · exact (wake_rst S f).w
    · rfl

section
variable {S : KP} {C : CP} {ev : Ev}

theorem send_word : (sendP S C ev).1.word = S.word := by
  unfold sendP
  extract_lets f t S1 x1 S2 x2 S3 x3 S4 x4 S5 d S7
  have g5 : S5.word = S.word := rfl
  clear_value S5
  split
  · rfl
  split
  · rfl
  split
  · exact ((block_rst S5 t 3 f.1.obj).w).trans g5
  · dsimp only
    rw [settle_word]
    exact ((wake_rst d.1 _).w).trans ((deliver_word S5 C _ _).trans g5)

theorem recv_word (ou : Outp) : (recvP S C ev ou).1.word = S.word := by
  unfold recvP; dsimp only
  split
  · rfl
  split
  · exact (block_rst _ _ _ _).w
  · rw [settle_word, deliver_word]; rfl

theorem reply_word : (replyP S C ev).1.word = S.word := by
  unfold replyP; dsimp only
  split
  · rfl
  split
  · rfl
  split
  · rfl
  · exact (wake_rst _ _).w

theorem wait_Wz (ou : Outp) : Wz S (waitP S C ev ou).1 := by
  unfold waitP; dsimp only
  split
  · exact Wz.refl S
  split
  · exact Wz.of (block_rst _ _ _ _).w
  · intro i
    dsimp only
    show upd S.word _ 0 i = _ ∨ upd S.word _ 0 i = 0
    unfold upd; split
    · exact .inr rfl
    · exact .inl rfl

theorem control_word : (controlP S C ev).1.word = S.word := by
  unfold controlP; dsimp only
  split
  · rfl
  split
  · split <;> rfl
  split
  · split
    · rfl
    split
    · rfl
    · exact ((wake_rst _ _).w).trans (leave_rst S _).w
  split
  · split
    · rfl
    · exact (wake_rst _ _).w
  split
  · split
    · rfl
    · exact (leave_rst _ _).w
  · rfl

end

/-- What is no notification has an empty word. -/
def WI (S : KP) (E : Nat → Ent) : Prop := ∀ i, i < 256 → (E i).ty ≠ 5 → S.word i = 0

theorem WI.wz {S S' : KP} {E : Nat → Ent} (h : WI S E) (hw : Wz S S') : WI S' E := fun i hi ht => by
  rcases hw i with a | a
  · rw [a]; exact h i hi ht
  · exact a

theorem WI.signal {S : KP} {E : Nat → Ent} (h : WI S E) {o : Rf} (ht : typeOfP E o = 5) (b : Int) : WI (signalP S o b) E := by
  unfold signalP
  split
  · exact h.wz (Wz.of (wake_rst _ _).w)
  · intro i hi h5
    dsimp only
    rw [upd_other _ _ (fun e => h5 (by rw [e]; exact typeOf_ty (by decide) ht))]
    exact h i hi h5

theorem buryAll_word : ∀ (l : List Cp) {S : KP}, RI S → LI S → (∀ c ∈ l, 2 ≤ c.ty ∧ c.ty < 6 ∧ 0 ≤ c.obj.idx ∧ c.obj.idx < 256) → ∀ c ∈ l, c.ty = 5 → (buryAll S l).word c.obj.idx.toNat = 0
  | [], _, _, _, _, _, h, _ => by cases h
  | x :: l, S, hR, h, hc, c, hm, h5 => by
    have h1 := bury_ok hR h (c := x) (hc x (by simp)).2.2
    have t2 := tame_buryAll l h1.1 h1.2 (fun y hy => hc y (List.mem_cons_of_mem _ hy))
    rcases List.mem_cons.1 hm with e | e
    · subst e
      have h0 : (buryP S c).word c.obj.idx.toNat = 0 := by
        unfold buryP
        rw [if_neg (by omega), if_pos (by omega)]
        exact upd_same _ _ _
      rcases t2.1.w c.obj.idx.toNat with a | a
      · exact a.trans h0
      · exact a
    · exact buryAll_word l h1.1 h1.2 (fun y hy => hc y (List.mem_cons_of_mem _ hy)) c e h5

section
variable {S : KP} {C : CP} {ev : Ev}

theorem WI.bury (h : WI S C.ent) (h2 : Ok2 S) {r : CP × List Cp} (hf : Fre C.ent r.1.ent r.2) (hd : ∀ c ∈ r.2, 2 ≤ c.ty ∧ c.ty < 6 ∧ 0 ≤ c.obj.idx ∧ c.obj.idx < 256) : WI (buryAll S r.2) r.1.ent := by
  have t := tame_buryAll r.2 h2.ri h2.li hd
  have hw : Wz S (buryAll S r.2) := t.1.w
  intro i hi ht
  rcases hf i with a | ⟨c, hc, a⟩
  · rw [a] at ht; exact h.wz hw i hi ht
  · by_cases h5 : c.ty = 5
    · have := buryAll_word r.2 h2.ri h2.li hd c hc h5
      rw [a.2.2.2.2.1] at this; exact this
    · exact h.wz hw i hi (by rw [a.2.2.2.2.2.1]; exact h5)

theorem WI.drop (h : WI S C.ent) (h2 : Ok2 S) (hC : CI C) (he : EvOk ev) (hcur : 0 ≤ S.cur ∧ S.cur < 256) : WI (dropP S C ev).1 (dropP S C ev).2.1.ent := by
  have hn : S.cur.toNat < 256 := by omega
  have hci := (h2.ri.t hn).ci
  unfold dropP
  dsimp only
  split
  · exact h
  rename_i h0
  split
  · exact h
  obtain ⟨i, j, h1, h2', h3, h4⟩ := look_fact hC (r := (S.tcb S.cur.toNat).cs) hci.1 he.addr.1 (s := (lookP C.ent (S.tcb S.cur.toNat).cs ev.addr).1) (k := (lookP C.ent (S.tcb S.cur.toNat).cs ev.addr).2) rfl (Classical.byContradiction h0)
  split
  · have r := rev_ok (lookP C.ent (S.tcb S.cur.toNat).cs ev.addr).1 4097 C [] hC (fun _ hq => by cases hq)
    have r2 := (rev_fre (lookP C.ent (S.tcb S.cur.toNat).cs ev.addr).1 4097 C [] hC).2
    obtain ⟨rr, hrr⟩ : ∃ x, revokeP 4097 C (lookP C.ent (S.tcb S.cur.toNat).cs ev.addr).1 [] = x := ⟨_, rfl⟩
    rw [hrr] at r r2 ⊢
    exact h.bury h2 r2 r.dead
  · have hlt : cnt C < 4097 := by have := cnt_le (C := C); omega
    have d := del_ok 4097 C (lookP C.ent (S.tcb S.cur.toNat).cs ev.addr).1.toNat hC hlt (by rw [h4]; omega) (by rw [h4, Int.toNat_natCast, show (i * 16 + j) / 16 = i by omega]; exact h3)
    have d2 := del_fre 4097 C (lookP C.ent (S.tcb S.cur.toNat).cs ev.addr).1.toNat hC hlt (by rw [h4]; omega) (by rw [h4, Int.toNat_natCast, show (i * 16 + j) / 16 = i by omega]; exact h3)
    obtain ⟨rr, hrr⟩ : ∃ x, deleteP 4097 C (lookP C.ent (S.tcb S.cur.toNat).cs ev.addr).1.toNat = x := ⟨_, rfl⟩
    rw [hrr] at d d2 ⊢
    exact h.bury h2 d2 d.dead

theorem WI.retype (h : WI S C.ent) : WI S (retypeP S C ev).1.ent := by
  rcases retype_ent S C ev with e | e
  · rw [e]; exact h
  · rw [e]
    have hsc := scan_slot (E := C.ent) 256 0 (-1) (by decide) (by decide) (by decide) (by decide)
    unfold retype0
    dsimp only
    generalize scanP C.ent 256 0 (-1) = sc at hsc ⊢
    split
    · exact h
    split
    · exact h
    · rename_i h1 h2
      dsimp only
      intro i hi ht
      by_cases ei : i = sc.2.toNat
      · refine h i hi ?_
        rw [ei]
        rcases hsc.2.2.2 with e | e
        · omega
        · rw [e.2]; decide
      · rw [upd_other _ _ ei] at ht; exact h i hi ht

theorem WI.sys (h : WI S C.ent) (h2 : Ok2 S) (hC : CI C) (he : EvOk ev) (hcur : 0 ≤ S.cur ∧ S.cur < 256) (ou : Outp) : WI (sysP S C ev ou).1 (sysP S C ev ou).2.1.ent := by
  unfold sysP
  by_cases k0 : ev.kind = 2
  · rw [if_pos k0]; exact h.wz (Wz.of (wake_rst _ _).w)
  rw [if_neg k0]
  by_cases k1 : ev.kind = 3
  · rw [if_pos k1]; exact h
  rw [if_neg k1]
  by_cases k2 : ev.kind = 4 ∨ ev.kind = 5
  · rw [if_pos k2]; dsimp only; rw [send_ent]; exact h.wz (Wz.of send_word)
  rw [if_neg k2]
  by_cases k3 : ev.kind = 6
  · rw [if_pos k3]; rw [recv_ent]; exact h.wz (Wz.of (recv_word ou))
  rw [if_neg k3]
  by_cases k4 : ev.kind = 7
  · rw [if_pos k4]; exact h.wz (Wz.of reply_word)
  rw [if_neg k4]
  by_cases k5 : ev.kind = 8
  · rw [if_pos k5]
    show WI (sigP S C ev).1 C.ent
    unfold sigP; dsimp only
    split
    · rename_i h0
      have hx := find_obj h2.ri hC hcur he.addr.1 (want := 5) (need := 2) (by decide) (by rw [h0]; decide)
      exact h.signal hx.2 _
    · exact h
  rw [if_neg k5]
  by_cases k6 : ev.kind = 9
  · rw [if_pos k6]; exact h.wz (wait_Wz ou)
  rw [if_neg k6]
  by_cases k7 : ev.kind = 10
  · rw [if_pos k7]; exact h.retype
  rw [if_neg k7]
  by_cases k8 : ev.kind = 11
  · rw [if_pos k8]; dsimp only; rw [copy_ent]; exact h
  rw [if_neg k8]
  by_cases k9 : ev.kind = 12 ∨ ev.kind = 13
  · rw [if_pos k9]; exact h.drop h2 hC he hcur
  rw [if_neg k9]
  by_cases k10 : ev.kind = 18 ∨ ev.kind = 19
  · rw [if_pos k10]
    show WI (lineP S C ev).1 C.ent
    have hl : (lineP S C ev).1.word = S.word := by
      unfold lineP; dsimp only
      split
      · rfl
      split
      · split <;> rfl
      · split
        · rfl
        split <;> rfl
    exact h.wz (Wz.of hl)
  rw [if_neg k10]
  exact h.wz (Wz.of control_word)

theorem WI.step (h : WI S C.ent) (h2 : Ok2 S) (hC : CI C) (he : EvOk ev) : WI (stepP S C ev).1 (stepP S C ev).2.1.ent := by
  have h0 : WI (step0 S C ev).1 (step0 S C ev).2.1.ent := by
    unfold step0
    by_cases k0 : ev.kind = 0
    · rw [if_pos k0]; dsimp only
      split
      · exact WI.wz (S := S) h (Wz.of (wake_rst _ _).w)
      · exact h
    rw [if_neg k0]
    by_cases k1 : ev.kind = 1
    · rw [if_pos k1]
      show WI (interruptP S C ev.arg).1 C.ent
      unfold interruptP; dsimp only
      split
      · exact h
      split
      · exact h
      rename_i k2
      split
      · exact h
      · have e1 : ((S.setI ev.arg.toNat { S.irq ev.arg.toNat with masked := true }).irq ev.arg.toNat) = { S.irq ev.arg.toNat with masked := true } := upd_same _ _ _
        rw [e1]
        exact WI.signal (S := S.setI ev.arg.toNat { S.irq ev.arg.toNat with masked := true }) h (Classical.byContradiction k2) _
    rw [if_neg k1]
    by_cases k2 : ev.kind ≥ 20
    · rw [if_pos k2]; exact h
    rw [if_neg k2]
    by_cases k3 : S.cur = -1
    · rw [if_pos k3]; exact h
    rw [if_neg k3]
    exact h.sys h2 hC he (lk_nat h2.ri.cur k3) out0
  have h1 := step0_inv h2 hC he
  unfold stepP
  extract_lets r
  have g0 : WI r.1 r.2.1.ent := h0
  have g1 : Ok2 r.1 := h1.1
  clear_value r
  split
  · obtain ⟨Q, hQ⟩ := g1.li
    exact g0.wz (sched_sch g1.ri hQ he.pick.1).tm.w
  · exact g0

end

/-! Generations -/

/-- An entry is as before, or freed: one generation on. -/
def GenS (E E' : Nat → Ent) : Prop := ∀ i, (E' i).gen = (E i).gen ∨ ((E i).ty ≠ 0 ∧ (E' i).ty = 0 ∧ (E' i).gen = IntKind.wrap .u32 ((E i).gen + 1))
def TyS (E E' : Nat → Ent) : Prop := ∀ i, (E' i).ty = (E i).ty ∨ (E' i).ty = 0

structure GT (E E' : Nat → Ent) : Prop where
  g : GenS E E'
  t : TyS E E'

theorem GT.refl (E : Nat → Ent) : GT E E := ⟨fun _ => .inl rfl, fun _ => .inl rfl⟩
theorem GT.trans {E E1 E2 : Nat → Ent} (h : GT E E1) (h' : GT E1 E2) : GT E E2 where
  g i := by
    rcases h.g i with a | a <;> rcases h'.g i with b | b
    · exact .inl (b.trans a)
    · rw [a] at b
      rcases h.t i with t | t
      · rw [t] at b; exact .inr b
      · exact absurd t b.1
    · refine .inr ⟨a.1, ?_, b.trans a.2.2⟩
      rcases h'.t i with t | t
      · exact t.trans a.2.1
      · exact t
    · exact absurd a.2.1 b.1
  t i := by
    rcases h'.t i with b | b
    · rw [b]; exact h.t i
    · exact .inr b

theorem free_GT (E : Nat → Ent) (r : Rf) : GT E (freeP E r) := by
  unfold freeP
  split
  · rename_i h
    have hh : (E r.idx.toNat).ty ≠ 0 ∧ (E r.idx.toNat).gen = r.gen := by
      unfold typeOfP at h
      split at h
      · exact absurd rfl h
      · split at h
        · exact absurd rfl h
        · rename_i _ hg; exact ⟨h, Classical.byContradiction hg⟩
    refine ⟨fun i => ?_, fun i => ?_⟩
    · by_cases e : i = r.idx.toNat
      · rw [e, upd_same]; exact .inr ⟨hh.1, rfl, by rw [hh.2]⟩
      · rw [upd_other _ _ e]; exact .inl rfl
    · by_cases e : i = r.idx.toNat
      · rw [e, upd_same]; exact .inr rfl
      · rw [upd_other _ _ e]; exact .inl rfl
  · exact GT.refl E

theorem del_GT : ∀ (f : Nat) (C : CP) (s : Nat), GT C.ent (deleteP f C s).1.ent
  | 0, C, _ => GT.refl _
  | f + 1, C, s => by
    rw [deleteP]
    split
    · exact GT.refl _
    split
    · exact GT.refl _
    split
    · have hr : GT C.ent ((List.range 16).foldl (fun (acc : CP × List Cp) j => ((deleteP f acc.1 ((C.cel s).cap.obj.idx.toNat * 16 + j)).1, acc.2 ++ (deleteP f acc.1 ((C.cel s).cap.obj.idx.toNat * 16 + j)).2)) (cutP C s, [(C.cel s).cap])).1.ent :=
        foldl_range (fun (acc : CP × List Cp) j => ((deleteP f acc.1 ((C.cel s).cap.obj.idx.toNat * 16 + j)).1, acc.2 ++ (deleteP f acc.1 ((C.cel s).cap.obj.idx.toNat * 16 + j)).2)) (fun _ r => GT C.ent r.1.ent) (cutP C s, [(C.cel s).cap]) 16 (GT.refl _) (fun j x _ hx => hx.trans (del_GT f x.1 _))
      exact hr.trans (free_GT _ _)
    · exact free_GT _ _

theorem rev_GT (s : Int) : ∀ (f : Nat) (C : CP) (acc : List Cp), GT C.ent (revokeP f C s acc).1.ent
  | 0, C, _ => GT.refl _
  | f + 1, C, acc => by
    rw [revokeP]; split
    · exact GT.refl _
    · exact (del_GT 4097 C _).trans (rev_GT s f _ _)

/-- Generations from 1 to n. -/
def GI (E : Nat → Ent) (n : Int) : Prop := ∀ i, 1 ≤ (E i).gen ∧ (E i).gen ≤ n

theorem GI.of {E E' : Nat → Ent} {n : Int} (h : GI E n) (hn : n < 4294967295) (hg : GenS E E') : GI E' (n + 1) := fun i => by
  have := h i
  rcases hg i with a | a
  · rw [a]; omega
  · rw [a.2.2, wrapn (by omega) (by omega)]; omega

section
variable {S : KP} {C : CP} {ev : Ev}

theorem retype0_gen (E : Nat → Ent) (t : Int) (i : Nat) : ((retype0 E t).1 i).gen = (E i).gen := by
  unfold retype0
  dsimp only
  split
  · rfl
  split
  · rfl
  · dsimp only
    by_cases e : i = (scanP E 256 0 (-1)).2.toNat
    · rw [e, upd_same]
    · rw [upd_other _ _ e]

theorem drop_gen : GenS C.ent (dropP S C ev).2.1.ent := by
  unfold dropP
  dsimp only
  split
  · exact fun _ => .inl rfl
  split
  · exact fun _ => .inl rfl
  split
  · have r := rev_GT (lookP C.ent (S.tcb S.cur.toNat).cs ev.addr).1 4097 C []
    obtain ⟨rr, hrr⟩ : ∃ x, revokeP 4097 C (lookP C.ent (S.tcb S.cur.toNat).cs ev.addr).1 [] = x := ⟨_, rfl⟩
    rw [hrr] at r ⊢
    exact r.g
  · have d := del_GT 4097 C (lookP C.ent (S.tcb S.cur.toNat).cs ev.addr).1.toNat
    obtain ⟨rr, hrr⟩ : ∃ x, deleteP 4097 C (lookP C.ent (S.tcb S.cur.toNat).cs ev.addr).1.toNat = x := ⟨_, rfl⟩
    rw [hrr] at d ⊢
    exact d.g

theorem step_gen : GenS C.ent (stepP S C ev).2.1.ent := by
  have h0 : GenS C.ent (step0 S C ev).2.1.ent := by
    have rf : GenS C.ent C.ent := fun _ => .inl rfl
    unfold step0
    by_cases k0 : ev.kind = 0
    · rw [if_pos k0]; exact rf
    rw [if_neg k0]
    by_cases k1 : ev.kind = 1
    · rw [if_pos k1]; exact rf
    rw [if_neg k1]
    by_cases k2 : ev.kind ≥ 20
    · rw [if_pos k2]; exact rf
    rw [if_neg k2]
    by_cases k3 : S.cur = -1
    · rw [if_pos k3]; exact rf
    rw [if_neg k3]
    dsimp only
    unfold sysP
    by_cases j0 : ev.kind = 2
    · rw [if_pos j0]; exact rf
    rw [if_neg j0]
    by_cases j1 : ev.kind = 3
    · rw [if_pos j1]; exact rf
    rw [if_neg j1]
    by_cases j2 : ev.kind = 4 ∨ ev.kind = 5
    · rw [if_pos j2]; dsimp only; rw [send_ent]; exact rf
    rw [if_neg j2]
    by_cases j3 : ev.kind = 6
    · rw [if_pos j3]; rw [recv_ent]; exact rf
    rw [if_neg j3]
    by_cases j4 : ev.kind = 7
    · rw [if_pos j4]; exact rf
    rw [if_neg j4]
    by_cases j5 : ev.kind = 8
    · rw [if_pos j5]; exact rf
    rw [if_neg j5]
    by_cases j6 : ev.kind = 9
    · rw [if_pos j6]; exact rf
    rw [if_neg j6]
    by_cases j7 : ev.kind = 10
    · rw [if_pos j7]
      dsimp only
      rcases retype_ent S C ev with e | e
      · rw [e]; exact rf
      · rw [e]; exact fun i => .inl (retype0_gen _ _ i)
    rw [if_neg j7]
    by_cases j8 : ev.kind = 11
    · rw [if_pos j8]; dsimp only; rw [copy_ent]; exact rf
    rw [if_neg j8]
    by_cases j9 : ev.kind = 12 ∨ ev.kind = 13
    · rw [if_pos j9]; exact drop_gen
    rw [if_neg j9]
    by_cases j10 : ev.kind = 18 ∨ ev.kind = 19
    · rw [if_pos j10]; exact rf
    rw [if_neg j10]; exact rf
  unfold stepP
  extract_lets r
  have g0 : GenS C.ent r.2.1.ent := h0
  clear_value r
  split <;> exact g0

end
end Go.Kn

namespace Go.Proofs.Qxb6500918aDoor
open Go.Sx Go.Kn

theorem boot_WI : WI bootS bootC.ent := fun _ _ _ => rfl
theorem boot_GI : GI bootC.ent 1 := fun i => by
  rw [boot_ent]
  split
  · exact ⟨Int.le_refl _, Int.le_refl _⟩
  · split
    · exact ⟨Int.le_refl _, Int.le_refl _⟩
    · split
      · exact ⟨Int.le_refl _, Int.le_refl _⟩
      · exact ⟨Int.le_refl _, Int.le_refl _⟩

end Go.Proofs.Qxb6500918aDoor
