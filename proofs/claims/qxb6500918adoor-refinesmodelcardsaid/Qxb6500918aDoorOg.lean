/-
  Sends and receives, one step, plainly.
-/
import Derived.Test.Qxb6500918aDoorOd
import Derived.Test.Qxb6500918aDoorOf
namespace Go.Kn
open Go.Sx Go.Proofs.Qxb6500918aDoor

/-- What a message leaves in a thread, and where its capabilities lie. -/
structure Pj where
  m0 : Int
  m1 : Int
  m2 : Int
  m3 : Int
  len : Int
  badge : Int
  got : Int
  cs : Rf
  dst : Int

def pj (x : Tcb) : Pj := ⟨x.m0, x.m1, x.m2, x.m3, x.len, x.badge, x.got, x.cs, x.dst⟩

theorem pj_wake (S : KP) (t : Int) (i : Nat) : pj ((wakeP S t).tcb i) = pj (S.tcb i) := by
  have h : pj (unl ((wakeP S t).tcb i)) = _ := congrArg pj (unl_wake S t i)
  refine Eq.trans h ?_
  split <;> rfl
theorem pj_block (S : KP) (t s : Int) (o : Rf) (i : Nat) : pj ((blockP S t s o).tcb i) = pj (S.tcb i) := by
  have h : pj (unl ((blockP S t s o).tcb i)) = _ := congrArg pj (unl_block S t s o i)
  refine Eq.trans h ?_
  split <;> rfl
theorem pj_setT {S : KP} {j : Nat} {a : Tcb} (h : pj a = pj (S.tcb j)) (i : Nat) : pj ((S.setT j a).tcb i) = pj (S.tcb i) := by
  by_cases e : i = j
  · subst e; rw [setT_same, h]
  · rw [setT_other _ _ e]
theorem pj_settle (S : KP) (E : Nat → Ent) (f t : Int) (i : Nat) : pj ((settleP S E f t).tcb i) = pj (S.tcb i) := by
  unfold settleP
  split
  · refine Eq.trans (pj_setT ?_ i) (pj_block S f 6 (refP E t) i)
    rfl
  · split
    · exact pj_wake _ _ _
    · rfl

theorem deliver0_t (S : KP) (f t : Int) : (deliver0 S f t).tcb t.toNat = { S.tcb t.toNat with m0 := (S.tcb f.toNat).m0, m1 := (S.tcb f.toNat).m1, m2 := (S.tcb f.toNat).m2, m3 := (S.tcb f.toNat).m3, len := (S.tcb f.toNat).len, badge := (S.tcb f.toNat).badge, got := 0 } := by
  unfold deliver0; dsimp only
  rw [setT_same, setT_same, setT_same, setT_same]
theorem deliver0_o (S : KP) (f t : Int) {i : Nat} (h : i ≠ t.toNat) : (deliver0 S f t).tcb i = S.tcb i := by
  unfold deliver0; dsimp only
  rw [setT_other _ _ h, setT_other _ _ h, setT_other _ _ h, setT_other _ _ h]

theorem deliver_LIQ {S : KP} {Q : QL → List Nat} (h : LIQ S Q) (C : CP) (f t : Int) : LIQ (deliverP S C f t).1 Q := by
  have h0 : LIQ (deliver0 S f t) Q := by
    unfold deliver0; dsimp only
    refine LIQ.setT (LIQ.setT (LIQ.setT (LIQ.setT h ?_ ?_ ?_) ?_ ?_ ?_) ?_ ?_ ?_) ?_ ?_ ?_
    all_goals first | exact ⟨rfl, rfl⟩ | rfl
  unfold deliverP; dsimp only
  split
  · exact h0
  split
  · split
    · exact h0.setT ⟨rfl, rfl⟩ rfl rfl
    · exact h0
  · exact h0

theorem deliver_oth (S : KP) (C : CP) (f t : Int) {i : Nat} (h : i ≠ t.toNat) : (deliverP S C f t).1.tcb i = S.tcb i := by
  unfold deliverP; dsimp only
  split
  · exact deliver0_o S f t h
  split
  · split
    · rw [setT_other _ _ h]; exact deliver0_o S f t h
    · exact deliver0_o S f t h
  · exact deliver0_o S f t h

/-- What a delivery does. -/
structure DelF (S : KP) (C : CP) (f t : Int) (g : Tcb) (C2 : CP) : Prop where
  msg : g.m0 = (S.tcb f.toNat).m0 ∧ g.m1 = (S.tcb f.toNat).m1 ∧ g.m2 = (S.tcb f.toNat).m2 ∧ g.m3 = (S.tcb f.toNat).m3 ∧ g.len = (S.tcb f.toNat).len ∧ g.badge = (S.tcb f.toNat).badge
  own : g.cs = (S.tcb t.toNat).cs ∧ g.dst = (S.tcb t.toNat).dst
  cap : (g.got = 0 ∧ C2 = C) ∨ (g.got = 1 ∧ (S.tcb f.toNat).grant = true ∧ (S.tcb f.toNat).xfer ≠ 0 ∧ (lookP C.ent (S.tcb f.toNat).cs (IntKind.wrap .u32 ((S.tcb f.toNat).xfer - 1))).2 = 0 ∧ (lookP C.ent (S.tcb t.toNat).cs (S.tcb t.toNat).dst).2 = 0 ∧
    (C.cel (lookP C.ent (S.tcb t.toNat).cs (S.tcb t.toNat).dst).1.toNat).cap.ty = 0 ∧ (C.cel (lookP C.ent (S.tcb f.toNat).cs (IntKind.wrap .u32 ((S.tcb f.toNat).xfer - 1))).1.toNat).cap.ty ≠ 0 ∧
    (C2.cel (lookP C.ent (S.tcb t.toNat).cs (S.tcb t.toNat).dst).1.toNat).cap = (C.cel (lookP C.ent (S.tcb f.toNat).cs (IntKind.wrap .u32 ((S.tcb f.toNat).xfer - 1))).1.toNat).cap)

theorem deliver_F {S : KP} {C : CP} (hx : XC C) {f t : Int} (hft : f.toNat ≠ t.toNat) : DelF S C f t ((deliverP S C f t).1.tcb t.toNat) (deliverP S C f t).2 := by
  have ht := deliver0_t S f t
  have hf := deliver0_o S f t hft
  have base : ∀ {g : Tcb} {n : Int}, g = { (deliver0 S f t).tcb t.toNat with got := n } → (g.m0 = (S.tcb f.toNat).m0 ∧ g.m1 = (S.tcb f.toNat).m1 ∧ g.m2 = (S.tcb f.toNat).m2 ∧ g.m3 = (S.tcb f.toNat).m3 ∧ g.len = (S.tcb f.toNat).len ∧ g.badge = (S.tcb f.toNat).badge) ∧ (g.cs = (S.tcb t.toNat).cs ∧ g.dst = (S.tcb t.toNat).dst) ∧ g.got = n := by
    intro g n e; rw [e, ht]; exact ⟨⟨rfl, rfl, rfl, rfl, rfl, rfl⟩, ⟨rfl, rfl⟩, rfl⟩
  have e0 : (deliver0 S f t).tcb t.toNat = { (deliver0 S f t).tcb t.toNat with got := 0 } := by rw [ht]
  have ecs : ((deliver0 S f t).tcb t.toNat).cs = (S.tcb t.toNat).cs := by rw [ht]
  have eds : ((deliver0 S f t).tcb t.toNat).dst = (S.tcb t.toNat).dst := by rw [ht]
  unfold deliverP
  dsimp only
  have el : lookP C.ent ((deliver0 S f t).tcb t.toNat).cs ((deliver0 S f t).tcb t.toNat).dst = lookP C.ent (S.tcb t.toNat).cs (S.tcb t.toNat).dst := by rw [ecs, eds]
  rw [hf, el]
  split
  · have b := base e0
    exact ⟨b.1, b.2.1, .inl ⟨b.2.2, rfl⟩⟩
  rename_i h1
  split
  · rename_i h2
    split
    · rename_i h3
      have b := base (g := ((deliver0 S f t).setT t.toNat { (deliver0 S f t).tcb t.toNat with got := 1 }).tcb t.toNat) (n := 1) (setT_same _ _ _)
      refine ⟨b.1, b.2.1, .inr ⟨b.2.2, ?_, ?_, h2.1, h2.2, ?_⟩⟩
      · cases hg : (S.tcb f.toNat).grant with
        | true => rfl
        | false => exact absurd (.inl hg) h1
      · exact fun hq => h1 (.inr hq)
      · dsimp only
        generalize (lookP C.ent (S.tcb t.toNat).cs (S.tcb t.toNat).dst).1.toNat = d at h3 ⊢
        generalize (lookP C.ent (S.tcb f.toNat).cs (IntKind.wrap .u32 ((S.tcb f.toNat).xfer - 1))).1.toNat = s at h3 ⊢
        unfold deriveP at h3 ⊢
        by_cases k1 : (C.cel s).cap.ty = 0
        · rw [if_pos k1] at h3; exact absurd h3 (by show (3 : Int) ≠ 0; decide)
        rw [if_neg k1] at h3 ⊢
        by_cases k2 : (C.cel d).cap.ty ≠ 0
        · rw [if_pos k2] at h3; exact absurd h3 (by show (6 : Int) ≠ 0; decide)
        rw [if_neg k2, if_neg (by simp), if_neg (by simp)]
        refine ⟨Classical.byContradiction k2, k1, ?_⟩
        dsimp only
        rw [upd_same, and7 (hx s).2]
    · rename_i h3
      have hd := derive_ref (cel := C.cel) (d := (lookP C.ent (S.tcb t.toNat).cs (S.tcb t.toNat).dst).1.toNat) (s := (lookP C.ent (S.tcb f.toNat).cs (IntKind.wrap .u32 ((S.tcb f.toNat).xfer - 1))).1.toNat) (m := 7) (b := 0) h3
      rw [hd]
      have b := base e0
      exact ⟨b.1, b.2.1, .inl ⟨b.2.2, rfl⟩⟩
  · have b := base e0
    exact ⟨b.1, b.2.1, .inl ⟨b.2.2, rfl⟩⟩

/-- What the law asks where two meet. -/
def MeetFact (S : KP) (C : CP) (Sz : KP) (Cz : CP) (fr to : Rf) (dst : Int) (snd : Tcb) : Prop :=
  ∃ g, threadP Sz Cz.ent to = (g, true) ∧ (g.m0 = snd.m0 ∧ g.m1 = snd.m1 ∧ g.m2 = snd.m2 ∧ g.m3 = snd.m3) ∧ g.len = snd.len ∧ g.badge = snd.badge ∧
    ((g.got = 0 ∧ capAtP Sz Cz to dst = capAtP S C to dst) ∨ (g.got ≠ 0 ∧ snd.grant = true ∧ snd.xfer ≠ 0 ∧ (capAtP S C to dst).ty = 0 ∧ capAtP Sz Cz to dst = capAtP S C fr (IntKind.wrap .u32 (snd.xfer - 1)) ∧ (capAtP Sz Cz to dst).ty ≠ 0))

theorem capAt_live {S : KP} {C : CP} {t : Int} (ht : 0 ≤ t ∧ t < 256) (hl : (C.ent t.toNat).ty = 3) (ad : Int) : capAtP S C (refP C.ent t) ad = if (lookP C.ent (S.tcb t.toNat).cs ad).2 = 0 then (C.cel (lookP C.ent (S.tcb t.toNat).cs ad).1.toNat).cap else cp0 := by
  have hri : (refP C.ent t).idx = t := by unfold refP; rw [if_neg (by omega)]; exact refAt_idx ⟨by omega, by omega⟩
  unfold capAtP
  rw [typeOf_ref ht, hl, if_pos rfl, hri]
theorem thread_live {S : KP} {E : Nat → Ent} {t : Int} (ht : 0 ≤ t ∧ t < 256) (hl : (E t.toNat).ty = 3) : threadP S E (refP E t) = (S.tcb t.toNat, true) := by
  have hri : (refP E t).idx = t := by unfold refP; rw [if_neg (by omega)]; exact refAt_idx ⟨by omega, by omega⟩
  unfold threadP
  rw [typeOf_ref ht, hl, if_pos rfl, hri]

theorem meet_of {S S5 Sz : KP} {C Cz : CP} (hx : XC C) {f t : Int} (hf : 0 ≤ f ∧ f < 256) (ht : 0 ≤ t ∧ t < 256) (hft : f.toNat ≠ t.toNat) (lf : (C.ent f.toNat).ty = 3) (lt : (C.ent t.toNat).ty = 3)
    (c1 : (S5.tcb f.toNat).cs = (S.tcb f.toNat).cs) (c2 : (S5.tcb t.toNat).cs = (S.tcb t.toNat).cs) {dst : Int} (hd : (S5.tcb t.toNat).dst = dst) (hz : pj (Sz.tcb t.toNat) = pj ((deliverP S5 C f t).1.tcb t.toNat)) (hcz : Cz = (deliverP S5 C f t).2) {snd : Tcb}
    (hs : snd.m0 = (S5.tcb f.toNat).m0 ∧ snd.m1 = (S5.tcb f.toNat).m1 ∧ snd.m2 = (S5.tcb f.toNat).m2 ∧ snd.m3 = (S5.tcb f.toNat).m3 ∧ snd.len = (S5.tcb f.toNat).len ∧ snd.badge = (S5.tcb f.toNat).badge ∧ snd.grant = (S5.tcb f.toNat).grant ∧ snd.xfer = (S5.tcb f.toNat).xfer) :
    MeetFact S C Sz Cz (refP C.ent f) (refP C.ent t) dst snd := by
  have hF := deliver_F (S := S5) hx hft
  have hE : Cz.ent = C.ent := by rw [hcz]; exact deliver_ent _ _ _ _
  rw [← hcz] at hF
  obtain ⟨s0, s1, s2, s3, s4, s5, s6, s7⟩ := hs
  generalize (deliverP S5 C f t).1.tcb t.toNat = g0 at hF hz
  have z0 : (Sz.tcb t.toNat).m0 = g0.m0 := congrArg Pj.m0 hz
  have z1 : (Sz.tcb t.toNat).m1 = g0.m1 := congrArg Pj.m1 hz
  have z2 : (Sz.tcb t.toNat).m2 = g0.m2 := congrArg Pj.m2 hz
  have z3 : (Sz.tcb t.toNat).m3 = g0.m3 := congrArg Pj.m3 hz
  have z4 : (Sz.tcb t.toNat).len = g0.len := congrArg Pj.len hz
  have z5 : (Sz.tcb t.toNat).badge = g0.badge := congrArg Pj.badge hz
  have z6 : (Sz.tcb t.toNat).got = g0.got := congrArg Pj.got hz
  have z7 : (Sz.tcb t.toNat).cs = g0.cs := congrArg Pj.cs hz
  have hcs : (Sz.tcb t.toNat).cs = (S.tcb t.toNat).cs := by rw [z7, hF.own.1, c2]
  have htl : (Cz.ent t.toNat).ty = 3 := by rw [hE]; exact lt
  have r2 : capAtP Sz Cz (refP C.ent t) dst = if (lookP C.ent (S.tcb t.toNat).cs dst).2 = 0 then (Cz.cel (lookP C.ent (S.tcb t.toNat).cs dst).1.toNat).cap else cp0 := by
    have := capAt_live (S := Sz) (C := Cz) ht htl dst
    rw [hE, hcs] at this; exact this
  refine ⟨Sz.tcb t.toNat, ?_, ⟨?_, ?_, ?_, ?_⟩, ?_, ?_, ?_⟩
  · rw [hE]; exact thread_live ht lt
  · rw [z0, hF.msg.1, s0]
  · rw [z1, hF.msg.2.1, s1]
  · rw [z2, hF.msg.2.2.1, s2]
  · rw [z3, hF.msg.2.2.2.1, s3]
  · rw [z4, hF.msg.2.2.2.2.1, s4]
  · rw [z5, hF.msg.2.2.2.2.2, s5]
  · rw [z6, r2, capAt_live ht lt, capAt_live hf lf, s6, s7]
    have hcap := hF.cap
    rw [hd, c1, c2] at hcap
    rcases hcap with ⟨g1, g2⟩ | ⟨g1, g2, g3, g4, g5, g6, g7, g8⟩
    · exact .inl ⟨g1, by rw [g2]⟩
    · right
      rw [if_pos g5, if_pos g4, g8, if_pos g5]
      exact ⟨by rw [g1]; decide, g2, g3, g6, rfl, g7⟩

end Go.Kn
