/-
  Every thread in the place that its state names.
-/
import Derived.Test.Qxb6500918aDoorKw
import Derived.KernelRfl
namespace Go.Kn
open Go.Sx

deriving instance DecidableEq for QL

/-! Bits of a byte -/

def chkBits : Bool := (List.range 256).all fun b => (List.range 8).all fun p =>
  let o := bitI .or .u8 (b : Int) (shlI .u8 1 (p : Int))
  let a := bitI .andNot .u8 (b : Int) (shlI .u8 1 (p : Int))
  decide (0 ≤ o) && (decide (o < 256) && (decide (0 ≤ a) && (decide (a < 256) && (List.range 8).all fun q => (o.toNat.testBit q == (decide (q = p) || b.testBit q)) && (a.toNat.testBit q == (decide (q ≠ p) && b.testBit q)))))

theorem chkBits_ok : chkBits = true := by kernel_rfl

theorem bits_all {b p : Int} (hb : 0 ≤ b ∧ b < 256) (hp : 0 ≤ p ∧ p < 8) :
    (0 ≤ bitI .or .u8 b (shlI .u8 1 p) ∧ bitI .or .u8 b (shlI .u8 1 p) < 256) ∧ (0 ≤ bitI .andNot .u8 b (shlI .u8 1 p) ∧ bitI .andNot .u8 b (shlI .u8 1 p) < 256) ∧
    ∀ q, q < 8 → (bitI .or .u8 b (shlI .u8 1 p)).toNat.testBit q = (decide (q = p.toNat) || b.toNat.testBit q) ∧ (bitI .andNot .u8 b (shlI .u8 1 p)).toNat.testBit q = (decide (q ≠ p.toNat) && b.toNat.testBit q) := by
  have h := chkBits_ok
  unfold chkBits at h
  rw [List.all_eq_true] at h
  have h1 := h b.toNat (List.mem_range.2 (by omega))
  rw [List.all_eq_true] at h1
  have h2 := h1 p.toNat (List.mem_range.2 (by omega))
  rw [show ((b.toNat : Nat) : Int) = b by omega, show ((p.toNat : Nat) : Int) = p by omega] at h2
  simp only [Bool.and_eq_true, decide_eq_true_eq, List.all_eq_true] at h2
  obtain ⟨a1, a2, a3, a4, a5⟩ := h2
  refine ⟨⟨a1, a2⟩, ⟨a3, a4⟩, fun q hq => ?_⟩
  have := a5 q (List.mem_range.2 hq)
  simp only [beq_iff_eq] at this
  exact this

/-! All but the links -/

def unl (x : Tcb) : Tcb := { x with next := 0, prev := 0 }
def place (x : Tcb) : Option QL := if x.st = 1 then some (.r x.prio.toNat) else if x.st = 3 ∨ x.st = 4 ∨ x.st = 5 then some (.w x.wait.idx.toNat) else none

theorem place_unl {x y : Tcb} (h : unl x = unl y) : place x = place y := by
  have h1 : x.st = y.st := show (unl x).st = (unl y).st by rw [h]
  have h2 : x.prio = y.prio := show (unl x).prio = (unl y).prio by rw [h]
  have h3 : x.wait = y.wait := show (unl x).wait = (unl y).wait by rw [h]
  unfold place; rw [h1, h2, h3]

theorem unl_push (S : KP) (L : QL) (t : Int) (x : Nat) : unl ((pushP S L t).tcb x) = unl (S.tcb x) := by rw [push_tcb]; rfl
theorem unl_unlink (S : KP) (L : QL) (t : Int) (x : Nat) : unl ((unlinkP S L t).tcb x) = unl (S.tcb x) := by rw [unlink_tcb]; rfl

theorem unl_leave1 (S : KP) (t : Int) (x : Nat) : unl ((leave1 S t).tcb x) = unl (S.tcb x) := by
  unfold leave1
  split
  · rfl
  · split
    · dsimp only
      split
      · exact unl_unlink S (.r (S.tcb t.toNat).prio.toNat) t x
      · exact unl_unlink S (.r (S.tcb t.toNat).prio.toNat) t x
    · split
      · exact unl_unlink _ _ _ _
      · rfl

theorem unl_leave (S : KP) (t : Int) (x : Nat) : unl ((leaveP S t).tcb x) = unl (if x = t.toNat then { S.tcb x with st := 0, wait := ⟨0, 0⟩ } else S.tcb x) := by
  unfold leaveP
  dsimp only
  have h := unl_leave1 S t x
  by_cases e : x = t.toNat
  · subst e
    rw [setT_same, setT_same, if_pos rfl]
    unfold unl at h ⊢
    simp only [Tcb.mk.injEq] at h ⊢
    simp [h]
  · rw [setT_other _ _ e, setT_other _ _ e, if_neg e]; exact h

theorem unl_wake (S : KP) (t : Int) (x : Nat) : unl ((wakeP S t).tcb x) = unl (if x = t.toNat then { S.tcb x with st := 1, wait := ⟨0, 0⟩ } else S.tcb x) := by
  unfold wakeP
  dsimp only
  rw [unl_push]
  have h := unl_leave S t x
  by_cases e : x = t.toNat
  · subst e
    rw [setT_same, if_pos rfl]
    rw [if_pos rfl] at h
    unfold unl at h ⊢
    simp only [Tcb.mk.injEq] at h ⊢
    simp [h]
  · rw [setT_other _ _ e, if_neg e]; rw [if_neg e] at h; exact h

theorem unl_block (S : KP) (t s : Int) (o : Rf) (x : Nat) : unl ((blockP S t s o).tcb x) = unl (if x = t.toNat then { S.tcb x with st := s, wait := o } else S.tcb x) := by
  have h := unl_leave S t x
  have key : unl ((((leaveP S t).setT t.toNat { (leaveP S t).tcb t.toNat with st := s }).setT t.toNat { ((leaveP S t).setT t.toNat { (leaveP S t).tcb t.toNat with st := s }).tcb t.toNat with wait := o }).tcb x) = unl (if x = t.toNat then { S.tcb x with st := s, wait := o } else S.tcb x) := by
    by_cases e : x = t.toNat
    · subst e
      rw [setT_same, setT_same, if_pos rfl]
      rw [if_pos rfl] at h
      unfold unl at h ⊢
      simp only [Tcb.mk.injEq] at h ⊢
      simp [h]
    · rw [setT_other _ _ e, setT_other _ _ e, if_neg e]; rw [if_neg e] at h; exact h
  unfold blockP
  dsimp only
  split
  · exact key
  · rw [unl_push]; exact key

/-! The places -/

structure LX (S : KP) (Q : QL → List Nat) (T : Nat → Option QL) : Prop where
  ch : ∀ {L : QL}, L.ok → Chain S L (Q L)
  mem : ∀ {L : QL}, L.ok → ∀ t, t < 256 → (t ∈ Q L ↔ T t = some L)

def qPush (Q : QL → List Nat) (L : QL) (t : Nat) : QL → List Nat := fun L' => if L' = L then Q L' ++ [t] else Q L'
def qCut (Q : QL → List Nat) (o : Option QL) (t : Nat) : QL → List Nat := fun L => if o = some L then (Q L).erase t else Q L

theorem LX.congr {S S' : KP} {Q : QL → List Nat} {T T' : Nat → Option QL} (h : LX S Q T) (hq : ∀ L, S'.q L = S.q L) (hl : ∀ x, (S'.tcb x).next = (S.tcb x).next ∧ (S'.tcb x).prev = (S.tcb x).prev) (hT : ∀ t, t < 256 → T' t = T t) : LX S' Q T' where
  ch hL := by
    have c := h.ch hL
    exact ⟨by rw [hq]; exact c.hd, by rw [hq]; exact c.tl, by rw [hq]; exact c.n, c.lt, c.nd, dll_congr (fun x _ => hl x) c.dl⟩
  mem hL t ht := by rw [hT t ht]; exact h.mem hL t ht

theorem LX.push {S : KP} {Q : QL → List Nat} {T : Nat → Option QL} (h : LX S Q T) {L : QL} (hL : L.ok) {t : Nat} (ht : t < 256) (hT : T t = none) : LX (pushP S L (t : Int)) (qPush Q L t) (upd T t (some L)) where
  ch {L'} hL' := by
    have hnm : ∀ {L2 : QL}, L2.ok → t ∉ Q L2 := fun h2 hq => by have := (h.mem h2 t ht).1 hq; rw [hT] at this; cases this
    unfold qPush
    by_cases e : L' = L
    · subst e; rw [if_pos rfl]; exact chain_push (h.ch hL') ht (hnm hL')
    · rw [if_neg e]
      have c := h.ch hL'
      have cL := h.ch hL
      refine ⟨by rw [push_qo _ _ e]; exact c.hd, by rw [push_qo _ _ e]; exact c.tl, by rw [push_qo _ _ e]; exact c.n, c.lt, c.nd, dll_congr (fun x hx => ?_) c.dl⟩
      have hxt : x ≠ (t : Int).toNat := fun he => hnm hL' (by rw [show t = x by omega]; exact hx)
      rw [push_tcb]; dsimp only
      rw [if_neg hxt, if_neg hxt, if_neg]
      · exact ⟨rfl, rfl⟩
      · rintro ⟨h1, h2⟩
        rw [cL.tl] at h1 h2
        obtain ⟨z, hz, ez⟩ := lstI_mem (p := -1) (xs := Q L) (fun hq => by rw [hq] at h1; exact h1 rfl)
        have : x = z := by rw [ez] at h2; omega
        subst this
        have a1 := (h.mem hL' x (c.lt x hx)).1 hx
        have a2 := (h.mem hL x (c.lt x hx)).1 hz
        rw [a1] at a2; simp at a2; exact e a2
  mem {L'} hL' x hx := by
    unfold qPush upd
    by_cases e : x = t
    · subst e
      rw [if_pos rfl]
      by_cases e2 : L' = L
      · subst e2; simp
      · rw [if_neg e2]
        constructor
        · intro hq; have := (h.mem hL' x hx).1 hq; rw [hT] at this; cases this
        · intro hq; simp at hq; exact absurd hq.symm e2
    · rw [if_neg e]
      by_cases e2 : L' = L
      · subst e2; rw [if_pos rfl, ← h.mem hL' x hx]; simp [e]
      · rw [if_neg e2]; exact h.mem hL' x hx

theorem LX.cut {S : KP} {Q : QL → List Nat} {T : Nat → Option QL} (h : LX S Q T) {L : QL} (hL : L.ok) {t : Nat} (ht : t < 256) (hT : T t = some L) : LX (unlinkP S L (t : Int)) (qCut Q (some L) t) (upd T t none) where
  ch {L'} hL' := by
    have htm := (h.mem hL t ht).2 hT
    obtain ⟨as, bs, hsp⟩ := List.append_of_mem htm
    have cL := h.ch hL
    rw [hsp] at cL
    have nta : t ∉ as := by
      have := cL.nd; rw [List.nodup_append] at this
      exact fun hq => this.2.2 t hq t (by simp) rfl
    have her : (as ++ t :: bs).erase t = as ++ bs := by rw [List.erase_append_right _ nta]; simp
    unfold qCut
    by_cases e : L' = L
    · subst e; rw [if_pos rfl, hsp, her]; exact chain_unlink cL
    · rw [if_neg (fun hq => e (by simpa using hq.symm))]
      have c := h.ch hL'
      refine ⟨by rw [unlink_qo _ _ e]; exact c.hd, by rw [unlink_qo _ _ e]; exact c.tl, by rw [unlink_qo _ _ e]; exact c.n, c.lt, c.nd, dll_congr (fun x hx => ?_) c.dl⟩
      have hno : ∀ y ∈ as ++ t :: bs, x ≠ y := by
        intro y hy he; subst he
        have a1 := (h.mem hL' x (c.lt x hx)).1 hx
        have a2 := (h.mem hL x (c.lt x hx)).1 (by rw [hsp]; exact hy)
        rw [a1] at a2; simp at a2; exact e a2
      have hd := cL.dl
      rw [dll_app] at hd
      obtain ⟨_, hpt, hnt, _⟩ := hd
      rw [unlink_tcb, Int.toNat_natCast, hpt, hnt]; dsimp only
      rw [if_neg, if_neg]
      · exact ⟨rfl, rfl⟩
      · rintro ⟨h1, h2⟩
        cases bs with
        | nil => exact h1 rfl
        | cons y r => exact hno y (by simp) (by rw [h2]; rfl)
      · rintro ⟨h1, h2⟩
        obtain ⟨z, hz, ez⟩ := lstI_mem (p := -1) (xs := as) (fun hq => by rw [hq] at h1; exact h1 rfl)
        exact hno z (List.mem_append_left _ hz) (by rw [h2, ez]; rfl)
  mem {L'} hL' x hx := by
    have c := h.ch hL'
    unfold qCut upd
    by_cases e2 : L' = L
    · subst e2
      rw [if_pos rfl, c.nd.mem_erase_iff]
      by_cases e : x = t
      · subst e; simp
      · rw [if_neg e, ← h.mem hL' x hx]; simp [e]
    · rw [if_neg (fun hq => e2 (by simpa using hq.symm))]
      by_cases e : x = t
      · subst e
        rw [if_pos rfl, h.mem hL' x hx, hT]
        simp; exact fun hq => e2 hq.symm
      · rw [if_neg e]; exact h.mem hL' x hx

structure LIQ (S : KP) (Q : QL → List Nat) : Prop where
  lx : LX S Q (fun t => place (S.tcb t))
  by_ : 0 ≤ S.busy ∧ S.busy < 256
  bz : ∀ p, p < 8 → (S.busy.toNat.testBit p = true ↔ Q (.r p) ≠ [])
  cu : ∀ t : Nat, t < 256 → ((S.tcb t).st = 2 ↔ S.cur = (t : Int))

theorem place_ok {S : KP} (h : RI S) {t : Nat} (ht : t < 256) {L : QL} (hp : place (S.tcb t) = some L) : L.ok := by
  unfold place at hp
  split at hp
  · simp at hp; subst hp; have := (h.t ht).pr; show _ < 8; omega
  · split at hp
    · simp at hp; subst hp; have := (h.t ht).wi; show _ < 256; omega
    · cases hp

end Go.Kn
