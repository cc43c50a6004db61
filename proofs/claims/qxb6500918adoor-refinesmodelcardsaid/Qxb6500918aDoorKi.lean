/-
  What holds of the store and the space between steps; where an address leads.
-/
import Derived.Test.Qxb6500918aDoorKc
namespace Go.Kn
open Go.Sx

/-- A capability in a full cell names a live object of its type, or the region. -/
def CapOk (E : Nat → Ent) (c : Cp) : Prop :=
  (c.ty = 1 ∧ c.obj = ⟨256, 1⟩) ∨ (2 ≤ c.ty ∧ c.ty < 6 ∧ 0 ≤ c.obj.idx ∧ c.obj.idx < 256 ∧ (E c.obj.idx.toNat).gen = c.obj.gen ∧ (E c.obj.idx.toNat).ty = c.ty)

/-- A full cell of a live node. -/
def Full (C : CP) (s : Nat) : Prop := s < 4096 ∧ C.pres (s / 16) = true ∧ (C.cel s).cap.ty ≠ 0

structure CI (C : CP) : Prop where
  reg : (C.ent 256).ty = 1 ∧ (C.ent 256).gen = 1
  node : ∀ {i : Nat}, i < 256 → ((C.ent i).ty = 2 ↔ C.pres i = true)
  cap : ∀ {s : Nat}, Full C s → CapOk C.ent (C.cel s).cap
  par : ∀ {s : Nat}, s < 4096 → C.pres (s / 16) = true → (C.cel s).parent = -1 ∨ ∃ p : Nat, (C.cel s).parent = (p : Int) ∧ Full C p ∧ Full C s
  acyc : ∃ rk : Nat → Nat, ∀ {s p : Nat}, s < 4096 → C.pres (s / 16) = true → (C.cel s).parent = (p : Int) → rk p < rk s

theorem look_cases {C : CP} (hC : CI C) {r : Rf} {a : Int} (hr : 0 ≤ r.idx) (ha : 0 ≤ a) :
    lookP C.ent r a = (-1, 2) ∨ ∃ i j : Nat, i < 256 ∧ j < 16 ∧ C.pres i = true ∧ lookP C.ent r a = (((i * 16 + j : Nat) : Int), 0) := by
  unfold lookP
  split
  · exact .inl rfl
  · rename_i h
    have h1 : typeOfP C.ent r = 2 := Classical.byContradiction fun hq => h (.inl hq)
    have h2 : ¬ a ≥ 16 := fun hq => h (.inr hq)
    have h3 : ¬ r.idx ≥ 257 := by
      intro hq; rw [typeOfP, if_pos hq] at h1; exact absurd h1 (by decide)
    have h4 : (C.ent r.idx.toNat).ty = 2 := by
      rw [typeOfP, if_neg h3] at h1
      split at h1
      · exact absurd h1 (by decide)
      · exact h1
    have h5 : r.idx.toNat < 256 := by
      have : r.idx.toNat ≠ 256 := by
        intro hq; rw [hq, hC.reg.1] at h4; exact absurd h4 (by decide)
      omega
    exact .inr ⟨r.idx.toNat, a.toNat, h5, by omega, (hC.node h5).1 h4, by congr 1; omega⟩

def cp0 : Cp := ⟨0, ⟨0, 0⟩, 0, 0⟩

def findP (S : KP) (C : CP) (ad want need : Int) : Cp × Int × Int :=
  let l := lookP C.ent (S.tcb S.cur.toNat).cs ad
  if l.2 ≠ 0 then (cp0, -1, l.2) else
  let c := (C.cel l.1.toNat).cap
  if c.ty = 0 then (c, l.1, 3) else
  if c.ty ≠ want then (c, l.1, 4) else
  if bitI .and .u8 c.rights need ≠ need then (c, l.1, 5) else (c, l.1, 0)

theorem find_fact {S : KP} {C : CP} (hS : RI S) (hC : CI C) (hc : 0 ≤ S.cur ∧ S.cur < 256) {ad want need : Int} (ha : 0 ≤ ad) {c : Cp} {s k : Int} (h : findP S C ad want need = (c, s, k)) (hk : k = 0) :
    ∃ i j : Nat, i < 256 ∧ j < 16 ∧ C.pres i = true ∧ s = ((i * 16 + j : Nat) : Int) ∧ c = (C.cel (i * 16 + j)).cap ∧ c.ty = want ∧ c.ty ≠ 0 ∧ CapOk C.ent c := by
  have hi := (hS.t (i := S.cur.toNat) (by omega)).ci
  unfold findP at h
  rcases look_cases hC (r := (S.tcb S.cur.toNat).cs) hi.1 ha with e | ⟨i, j, h1, h2, h3, e⟩
  · rw [e] at h; simp at h; omega
  · rw [e] at h
    simp only [ne_eq, not_true_eq_false, if_false, Int.toNat_natCast] at h
    have hcp : (C.cel (i * 16 + j)).cap.ty ≠ 0 → CapOk C.ent (C.cel (i * 16 + j)).cap := fun hq => hC.cap ⟨by omega, by rw [show (i * 16 + j) / 16 = i by omega]; exact h3, hq⟩
    split at h
    · simp at h; omega
    · rename_i hz
      split at h
      · simp at h; omega
      · rename_i hw
        split at h
        · simp at h; omega
        · simp only [Prod.mk.injEq] at h
          obtain ⟨rfl, rfl, rfl⟩ := h
          exact ⟨i, j, h1, h2, h3, rfl, rfl, Classical.byContradiction fun hq => hw hq, hz, hcp hz⟩

theorem find_idx {E : Nat → Ent} {c : Cp} (h : CapOk E c) (h1 : c.ty ≠ 1) : 0 ≤ c.obj.idx ∧ c.obj.idx < 256 := by
  rcases h with h | h
  · exact absurd h.1 h1
  · exact ⟨h.2.2.1, h.2.2.2.1⟩

end Go.Kn
