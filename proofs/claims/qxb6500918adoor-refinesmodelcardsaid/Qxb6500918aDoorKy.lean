/-
  Leaving, waking and blocking keep every thread in its place.
-/
import Derived.Test.Qxb6500918aDoorKx
namespace Go.Kn
open Go.Sx

theorem setT_links {S : KP} {i : Nat} {a : Tcb} (h : a.next = (S.tcb i).next ∧ a.prev = (S.tcb i).prev) (x : Nat) : ((S.setT i a).tcb x).next = (S.tcb x).next ∧ ((S.setT i a).tcb x).prev = (S.tcb x).prev := by
  by_cases e : x = i
  · subst e; rw [setT_same]; exact h
  · rw [setT_other _ _ e]; exact ⟨rfl, rfl⟩

/-- A thread's block turned in what no queue looks at. -/
theorem LIQ.setT {S : KP} {Q : QL → List Nat} (h : LIQ S Q) {i : Nat} {a : Tcb} (hl : a.next = (S.tcb i).next ∧ a.prev = (S.tcb i).prev) (hs : a.st = (S.tcb i).st) (hp : place a = place (S.tcb i)) : LIQ (S.setT i a) Q where
  lx := h.lx.congr (fun L => setT_q _ _ _ L) (fun x => setT_links hl x) (fun t _ => by
    by_cases e : t = i
    · subst e; rw [setT_same]; exact hp
    · rw [setT_other _ _ e])
  by_ := h.by_
  bz := h.bz
  cu t ht := by
    rw [show (S.setT i a).cur = S.cur from rfl]
    by_cases e : t = i
    · subst e; rw [setT_same, hs]; exact h.cu t ht
    · rw [setT_other _ _ e]; exact h.cu t ht

theorem LIQ.same {S S' : KP} {Q : QL → List Nat} (h : LIQ S Q) (ht : S'.tcb = S.tcb) (hq : ∀ L, S'.q L = S.q L) (hb : S'.busy = S.busy) (hc : S'.cur = S.cur) : LIQ S' Q where
  lx := h.lx.congr hq (fun x => by rw [ht]; exact ⟨rfl, rfl⟩) (fun t _ => by rw [ht])
  by_ := by rw [hb]; exact h.by_
  bz p hp := by rw [hb]; exact h.bz p hp
  cu t h1 := by rw [ht, hc]; exact h.cu t h1

theorem push_busy (S : KP) (L : QL) (t : Int) : (pushP S L t).busy = S.busy := by
  unfold pushP; dsimp only; split <;> cases L <;> rfl
theorem unlink_busy (S : KP) (L : QL) (t : Int) : (unlinkP S L t).busy = S.busy := by
  unfold unlinkP; dsimp only; split <;> split <;> cases L <;> rfl

/-- Between leaving and entering: thread t is nowhere. -/
structure LIN (S : KP) (Q : QL → List Nat) (t : Nat) : Prop where
  lx : LX S Q (upd (fun x => place (S.tcb x)) t none)
  by_ : 0 ≤ S.busy ∧ S.busy < 256
  bz : ∀ p, p < 8 → (S.busy.toNat.testBit p = true ↔ Q (.r p) ≠ [])
  cu : ∀ x : Nat, x < 256 → x ≠ t → ((S.tcb x).st = 2 ↔ S.cur = (x : Int))
  ct : S.cur ≠ (t : Int)

theorem leave1_LIN {S : KP} {Q : QL → List Nat} (hS : RI S) (h : LIQ S Q) {t : Nat} (ht : t < 256) : LIN (leave1 S (t : Int)) (qCut Q (place (S.tcb t)) t) t := by
  have hpr := (hS.t ht).pr
  have hwi := (hS.t ht).wi
  have hcu := h.cu t ht
  have hQn : place (S.tcb t) = none → qCut Q (place (S.tcb t)) t = Q := by
    intro hq; rw [hq]; funext L; unfold qCut; rw [if_neg (by intro h; cases h)]
  unfold leave1
  rw [Int.toNat_natCast]
  by_cases h2 : (S.tcb t).st = 2
  · rw [if_pos h2]
    have hpl : place (S.tcb t) = none := by unfold place; rw [h2]; rfl
    rw [hQn hpl]
    refine ⟨h.lx.congr (fun L => by cases L <;> rfl) (fun x => ⟨rfl, rfl⟩) (fun x _ => ?_), h.by_, h.bz, fun x hx hne => ?_, ?_⟩
    · unfold upd; split
      · rename_i e; subst e; exact hpl.symm
      · rfl
    · have := hcu.1 h2
      have h3 := h.cu x hx
      dsimp only
      constructor
      · intro hq; have := h3.1 hq; omega
      · intro hq; omega
    · dsimp only; omega
  · rw [if_neg h2]
    have hct : S.cur ≠ (t : Int) := fun hq => h2 (hcu.2 hq)
    by_cases h1 : (S.tcb t).st = 1
    · rw [if_pos h1]
      dsimp only
      have hpl : place (S.tcb t) = some (.r (S.tcb t).prio.toNat) := by unfold place; rw [if_pos h1]
      have hL : (QL.r (S.tcb t).prio.toNat).ok := by show _ < 8; omega
      have hx := h.lx.cut hL ht hpl
      have hpu : ∀ x, place ((unlinkP S (.r (S.tcb t).prio.toNat) (t : Int)).tcb x) = place (S.tcb x) := fun x => place_unl (unl_unlink _ _ _ _)
      have hst : ∀ x, ((unlinkP S (.r (S.tcb t).prio.toNat) (t : Int)).tcb x).st = (S.tcb x).st := fun x => by rw [unlink_tcb]
      have hpri : ((unlinkP S (.r (S.tcb t).prio.toNat) (t : Int)).tcb t).prio = (S.tcb t).prio := by rw [unlink_tcb]
      have hch := hx.ch hL
      have hn : ((unlinkP S (.r (S.tcb t).prio.toNat) (t : Int)).rdy (S.tcb t).prio.toNat).n = ((qCut Q (some (.r (S.tcb t).prio.toNat)) t (.r (S.tcb t).prio.toNat)).length : Int) := hch.n
      have hT : ∀ x, x < 256 → upd (fun x => place ((unlinkP S (.r (S.tcb t).prio.toNat) (t : Int)).tcb x)) t none x = upd (fun x => place (S.tcb x)) t none x := by
        intro x _; unfold upd; split
        · rfl
        · exact hpu x
      rw [hpl, hpri, hn]
      have hbz : ∀ p, p < 8 → p ≠ (S.tcb t).prio.toNat → (S.busy.toNat.testBit p = true ↔ qCut Q (some (.r (S.tcb t).prio.toNat)) t (.r p) ≠ []) := by
        intro p hp hne
        rw [h.bz p hp]; unfold qCut
        rw [if_neg (by intro hq; simp at hq; exact hne hq.symm)]
      have hself : S.busy.toNat.testBit (S.tcb t).prio.toNat = true := (h.bz _ (by omega)).2 (fun hq => by have := (h.lx.mem hL t ht).2 hpl; rw [hq] at this; cases this)
      split
      · rename_i hz
        have hb := bits_all (b := S.busy) (p := (S.tcb t).prio) h.by_ hpr
        refine ⟨hx.congr (fun L => by cases L <;> rfl) (fun x => ⟨rfl, rfl⟩) (fun x hx => hT x hx), ?_, fun p hp => ?_, fun x hx2 hne => ?_, ?_⟩
        · dsimp only; rw [unlink_busy]; exact hb.2.1
        · dsimp only; rw [unlink_busy, (hb.2.2 p hp).2]
          by_cases e : p = (S.tcb t).prio.toNat
          · subst e
            have h0 : qCut Q (some (.r (S.tcb t).prio.toNat)) t (.r (S.tcb t).prio.toNat) = [] := List.length_eq_zero_iff.1 (by omega)
            simp [h0]
          · simp only [ne_eq, e, not_false_eq_true, decide_true, Bool.true_and]; exact hbz p hp e
        · dsimp only; rw [hst, unlink_cur]; exact h.cu x hx2
        · dsimp only; rw [unlink_cur]; exact hct
      · rename_i hz
        refine ⟨hx.congr (fun L => rfl) (fun x => ⟨rfl, rfl⟩) (fun x hx => hT x hx), ?_, fun p hp => ?_, fun x hx2 hne => ?_, ?_⟩
        · rw [unlink_busy]; exact h.by_
        · rw [unlink_busy]
          by_cases e : p = (S.tcb t).prio.toNat
          · subst e
            rw [hself]
            simp only [true_iff]
            intro hq; rw [hq] at hz; exact hz rfl
          · exact hbz p hp e
        · rw [hst, unlink_cur]; exact h.cu x hx2
        · rw [unlink_cur]; exact hct
    · rw [if_neg h1]
      by_cases h3 : (S.tcb t).st = 3 ∨ (S.tcb t).st = 4 ∨ (S.tcb t).st = 5
      · rw [if_pos h3]
        have hpl : place (S.tcb t) = some (.w (S.tcb t).wait.idx.toNat) := by unfold place; rw [if_neg h1, if_pos h3]
        have hL : (QL.w (S.tcb t).wait.idx.toNat).ok := by show _ < 256; omega
        have hx := h.lx.cut hL ht hpl
        have hpu : ∀ x, place ((unlinkP S (.w (S.tcb t).wait.idx.toNat) (t : Int)).tcb x) = place (S.tcb x) := fun x => place_unl (unl_unlink _ _ _ _)
        have hst : ∀ x, ((unlinkP S (.w (S.tcb t).wait.idx.toNat) (t : Int)).tcb x).st = (S.tcb x).st := fun x => by rw [unlink_tcb]
        rw [hpl]
        refine ⟨hx.congr (fun L => rfl) (fun x => ⟨rfl, rfl⟩) (fun x _ => ?_), ?_, fun p hp => ?_, fun x hx2 hne => ?_, ?_⟩
        · unfold upd; split
          · rfl
          · exact hpu x
        · rw [unlink_busy]; exact h.by_
        · rw [unlink_busy, h.bz p hp]; unfold qCut; rw [if_neg (by intro hq; simp at hq)]
        · rw [hst, unlink_cur]; exact h.cu x hx2
        · rw [unlink_cur]; exact hct
      · rw [if_neg h3]
        have hpl : place (S.tcb t) = none := by unfold place; rw [if_neg h1, if_neg h3]
        rw [hQn hpl]
        refine ⟨h.lx.congr (fun L => rfl) (fun x => ⟨rfl, rfl⟩) (fun x _ => ?_), h.by_, h.bz, fun x hx2 _ => h.cu x hx2, hct⟩
        unfold upd; split
        · rename_i e; subst e; exact hpl.symm
        · rfl

/-- The block of the thread that is nowhere may turn. -/
theorem LIN.setT {S : KP} {Q : QL → List Nat} {t : Nat} (h : LIN S Q t) {a : Tcb} (hl : a.next = (S.tcb t).next ∧ a.prev = (S.tcb t).prev) : LIN (S.setT t a) Q t where
  lx := h.lx.congr (fun L => setT_q _ _ _ L) (fun x => setT_links hl x) (fun x _ => by
    unfold upd; split
    · rfl
    · rename_i e; dsimp only; rw [setT_other _ _ e])
  by_ := h.by_
  bz := h.bz
  cu x hx hne := by rw [setT_other _ _ hne]; exact h.cu x hx hne
  ct := h.ct

theorem LIN.rest {S : KP} {Q : QL → List Nat} {t : Nat} (h : LIN S Q t) (hp : place (S.tcb t) = none) (hs : (S.tcb t).st ≠ 2) : LIQ S Q where
  lx := h.lx.congr (fun L => rfl) (fun x => ⟨rfl, rfl⟩) (fun x _ => by
    unfold upd; split
    · rename_i e; subst e; exact hp
    · rfl)
  by_ := h.by_
  bz := h.bz
  cu x hx := by
    by_cases e : x = t
    · subst e; exact ⟨fun hq => absurd hq hs, fun hq => absurd hq h.ct⟩
    · exact h.cu x hx e

theorem leave_LIN {S : KP} {Q : QL → List Nat} (hS : RI S) (h : LIQ S Q) {t : Nat} (ht : t < 256) : LIN (leaveP S (t : Int)) (qCut Q (place (S.tcb t)) t) t := by
  have h1 := leave1_LIN hS h ht
  unfold leaveP
  rw [Int.toNat_natCast]
  dsimp only
  have h2 := h1.setT (a := { (leave1 S (t : Int)).tcb t with st := 0 }) ⟨rfl, rfl⟩
  exact h2.setT (a := { ((leave1 S (t : Int)).setT t { (leave1 S (t : Int)).tcb t with st := 0 }).tcb t with wait := ⟨0, 0⟩ }) ⟨rfl, rfl⟩

theorem leave_tcb (S : KP) (t : Nat) : unl ((leaveP S (t : Int)).tcb t) = unl { S.tcb t with st := 0, wait := ⟨0, 0⟩ } := by
  rw [unl_leave, if_pos (by omega)]

theorem leave_LIQ {S : KP} {Q : QL → List Nat} (hS : RI S) (h : LIQ S Q) {t : Nat} (ht : t < 256) : LIQ (leaveP S (t : Int)) (qCut Q (place (S.tcb t)) t) := by
  have hu := leave_tcb S t
  refine (leave_LIN hS h ht).rest ?_ ?_
  · rw [place_unl hu]; rfl
  · have : ((leaveP S (t : Int)).tcb t).st = 0 := show (unl ((leaveP S (t : Int)).tcb t)).st = 0 by rw [hu]; rfl
    omega

/-- A thread that is nowhere enters a queue. -/
theorem LIN.enter {S : KP} {Q : QL → List Nat} {t : Nat} (h : LIN S Q t) (ht : t < 256) {L : QL} (hL : L.ok) (hp : place (S.tcb t) = some L) (hs : (S.tcb t).st ≠ 2) {S' : KP} (he : S'.tcb = (pushP S L (t : Int)).tcb) (hq : ∀ L', S'.q L' = (pushP S L (t : Int)).q L') (hc : S'.cur = S.cur)
    (hb : 0 ≤ S'.busy ∧ S'.busy < 256) (hz : ∀ p, p < 8 → (S'.busy.toNat.testBit p = true ↔ qPush Q L t (.r p) ≠ [])) : LIQ S' (qPush Q L t) where
  lx := by
    have h1 := h.lx.push hL ht (upd_same _ _ _)
    refine h1.congr hq (fun x => by rw [he]; exact ⟨rfl, rfl⟩) (fun x _ => ?_)
    rw [he, place_unl (unl_push _ _ _ _)]
    unfold upd
    by_cases e : x = t
    · subst e; rw [if_pos rfl]; exact hp
    · rw [if_neg e, if_neg e]
  by_ := hb
  bz := hz
  cu x hx := by
    have hst : (S'.tcb x).st = (S.tcb x).st := by rw [he, push_tcb]
    rw [hst, hc]
    by_cases e : x = t
    · subst e; exact ⟨fun hq => absurd hq hs, fun hq => absurd hq h.ct⟩
    · exact h.cu x hx e

theorem wake_LIQ {S : KP} {Q : QL → List Nat} (hS : RI S) (h : LIQ S Q) {t : Nat} (ht : t < 256) : LIQ (wakeP S (t : Int)) (qPush (qCut Q (place (S.tcb t)) t) (.r (S.tcb t).prio.toNat) t) := by
  have h1 := leave_LIN hS h ht
  have hu := leave_tcb S t
  have hpr := (hS.t ht).pr
  have hprio : ((leaveP S (t : Int)).tcb t).prio = (S.tcb t).prio := show (unl ((leaveP S (t : Int)).tcb t)).prio = _ by rw [hu]; rfl
  unfold wakeP
  rw [Int.toNat_natCast]
  dsimp only
  have h2 := h1.setT (a := { (leaveP S (t : Int)).tcb t with st := 1 }) ⟨rfl, rfl⟩
  have hsp : (((leaveP S (t : Int)).setT t { (leaveP S (t : Int)).tcb t with st := 1 }).tcb t).prio = (S.tcb t).prio := by rw [setT_same]; exact hprio
  rw [hsp]
  have hb := bits_all (b := (leaveP S (t : Int)).busy) (p := (S.tcb t).prio) h1.by_ hpr
  have hbp : ((pushP ((leaveP S (t : Int)).setT t { (leaveP S (t : Int)).tcb t with st := 1 }) (.r (S.tcb t).prio.toNat) (t : Int)).tcb t).prio = (S.tcb t).prio := by rw [push_tcb]; exact hsp
  refine h2.enter ht (show _ < 8 by omega) ?_ ?_ rfl (fun L' => by cases L' <;> rfl) ?_ ?_ ?_
  · rw [setT_same]; unfold place; rw [if_pos rfl]; dsimp only; rw [hprio]
  · rw [setT_same]; show (1 : Int) ≠ 2; decide
  · exact push_cur _ _ _
  · dsimp only; rw [push_busy, hbp]; exact hb.1
  · intro p hp
    dsimp only
    rw [push_busy, hbp]
    show (bitI .or .u8 (leaveP S (t : Int)).busy (shlI .u8 1 (S.tcb t).prio)).toNat.testBit p = true ↔ _
    rw [(hb.2.2 p hp).1]
    unfold qPush
    by_cases e : p = (S.tcb t).prio.toNat
    · subst e; simp
    · rw [if_neg (by intro hq; simp at hq; exact e hq)]
      simp only [e, decide_false, Bool.false_or]
      exact h1.bz p hp

theorem block_LIQ {S : KP} {Q : QL → List Nat} (hS : RI S) (h : LIQ S Q) {t : Nat} (ht : t < 256) {s : Int} {o : Rf} (ho : 0 ≤ o.idx ∧ o.idx < 256) (hs : s = 3 ∨ s = 4 ∨ s = 5) : LIQ (blockP S (t : Int) s o) (qPush (qCut Q (place (S.tcb t)) t) (.w o.idx.toNat) t) := by
  have h1 := leave_LIN hS h ht
  unfold blockP
  rw [Int.toNat_natCast]
  dsimp only
  rw [if_neg (by omega)]
  have h2 := h1.setT (a := { (leaveP S (t : Int)).tcb t with st := s }) ⟨rfl, rfl⟩
  have h3 := h2.setT (a := { ((leaveP S (t : Int)).setT t { (leaveP S (t : Int)).tcb t with st := s }).tcb t with wait := o }) ⟨rfl, rfl⟩
  refine h3.enter ht (show _ < 256 by omega) ?_ ?_ rfl (fun L' => rfl) ?_ ?_ ?_
  · rw [setT_same]; unfold place; dsimp only; rw [setT_same]; dsimp only; rw [if_neg (by omega), if_pos hs]
  · rw [setT_same]; dsimp only; rw [setT_same]; dsimp only; omega
  · exact push_cur _ _ _
  · rw [push_busy]; exact h3.by_
  · intro p hp
    rw [push_busy, h3.bz p hp]
    unfold qPush
    rw [if_neg (by intro hq; cases hq)]

theorem blockR_LIQ {S : KP} {Q : QL → List Nat} (hS : RI S) (h : LIQ S Q) {t : Nat} (ht : t < 256) {o : Rf} : LIQ (blockP S (t : Int) 6 o) (qCut Q (place (S.tcb t)) t) := by
  have h1 := leave_LIN hS h ht
  unfold blockP
  rw [Int.toNat_natCast]
  dsimp only
  rw [if_pos rfl]
  have h2 := h1.setT (a := { (leaveP S (t : Int)).tcb t with st := 6 }) ⟨rfl, rfl⟩
  have h3 := h2.setT (a := { ((leaveP S (t : Int)).setT t { (leaveP S (t : Int)).tcb t with st := 6 }).tcb t with wait := o }) ⟨rfl, rfl⟩
  refine h3.rest ?_ ?_
  · rw [setT_same]; unfold place; dsimp only; rw [setT_same]; dsimp only; rfl
  · rw [setT_same]; dsimp only; rw [setT_same]; show (6 : Int) ≠ 2; decide

end Go.Kn
