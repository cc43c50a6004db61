/-
  For lastBefore and FirstDivergence: what holds half way.
-/
import Derived.Test.Qxb6500919aL7
namespace Go.Rp
open Go.Sx Go.Proofs.Qxb6500919a

structure LastP (C : Int → Prop) (st at_ r : Int) : Prop where
  hit : r = st ∨ (C r ∧ OkC st at_ r)
  ge : st ≤ r
  max : ∀ i, C i → OkC st at_ i → i ≤ r

theorem LastP.start {C : Int → Prop} (st at_ : Int) (h : ∀ i, ¬ C i) : LastP C st at_ st := ⟨.inl rfl, Int.le_refl _, fun i hi => absurd hi (h i)⟩

theorem LastP.add {C C' : Int → Prop} {st at_ r i : Int} (h : LastP C st at_ r) (hi : OkC st at_ i) (hC : ∀ j, C' j ↔ C j ∨ j = i) : LastP C' st at_ (if i > r then i else r) := by
  refine ⟨?_, ?_, ?_⟩
  · split
    · exact .inr ⟨(hC i).2 (.inr rfl), hi⟩
    · rcases h.hit with h1 | ⟨h1, h2⟩
      · exact .inl h1
      · exact .inr ⟨(hC r).2 (.inl h1), h2⟩
  · have := h.ge
    split <;> omega
  · intro j hj ho
    rcases (hC j).1 hj with h1 | h1
    · have := h.max j h1 ho
      split <;> omega
    · subst h1
      split <;> omega

theorem LastP.skip {C C' : Int → Prop} {st at_ r i : Int} (h : LastP C st at_ r) (hi : ¬ OkC st at_ i) (hC : ∀ j, C' j ↔ C j ∨ j = i) : LastP C' st at_ r := by
  refine ⟨?_, h.ge, ?_⟩
  · rcases h.hit with h1 | ⟨h1, h2⟩
    · exact .inl h1
    · exact .inr ⟨(hC r).2 (.inl h1), h2⟩
  · intro j hj ho
    rcases (hC j).1 hj with h1 | h1
    · exact h.max j h1 ho
    · subst h1; exact absurd ho hi

theorem LastP.congr {C C' : Int → Prop} {st at_ r : Int} (h : LastP C st at_ r) (hC : ∀ j, C' j ↔ C j) : LastP C' st at_ r :=
  ⟨by rcases h.hit with h1 | ⟨h1, h2⟩; exact .inl h1; exact .inr ⟨(hC r).2 h1, h2⟩, h.ge, fun i hi => h.max i ((hC i).1 hi)⟩

def CM (l : List Mk) (j : Int) : Prop := ∃ q ∈ l, q.idx = j
def CS (lg : Lg) (l : List Pt) (j : Int) : Prop := (∃ q ∈ lg.mks, q.idx = j) ∨ ∃ q ∈ l, q.idx = j

theorem CM_snoc (l : List Mk) (x : Mk) (j : Int) : CM (l ++ [x]) j ↔ CM l j ∨ j = x.idx := by
  unfold CM
  constructor
  · rintro ⟨q, h1, h2⟩
    rcases List.mem_append.1 h1 with h | h
    · exact .inl ⟨q, h, h2⟩
    · simp at h; subst h; exact .inr h2.symm
  · rintro (⟨q, h1, h2⟩ | h)
    · exact ⟨q, by simp [h1], h2⟩
    · exact ⟨x, by simp, h.symm⟩

theorem CS_snoc (lg : Lg) (l : List Pt) (x : Pt) (j : Int) : CS lg (l ++ [x]) j ↔ CS lg l j ∨ j = x.idx := by
  unfold CS
  constructor
  · rintro (h | ⟨q, h1, h2⟩)
    · exact .inl (.inl h)
    · rcases List.mem_append.1 h1 with h | h
      · exact .inl (.inr ⟨q, h, h2⟩)
      · simp at h; subst h; exact .inr h2.symm
  · rintro ((h | ⟨q, h1, h2⟩) | h)
    · exact .inl h
    · exact .inr ⟨q, by simp [h1], h2⟩
    · exact .inr ⟨x, by simp, h.symm⟩

theorem CS_nil (lg : Lg) (j : Int) : CS lg [] j ↔ CM lg.mks j := by
  unfold CS CM
  constructor
  · rintro (h | ⟨q, h, _⟩)
    · exact h
    · cases h
  · exact .inl

theorem isLast_of {lg : Lg} {st at_ r : Int} (h : LastP (CS lg lg.sns) st at_ r) : IsLast lg st at_ r := ⟨h.hit, h.ge, h.max⟩

theorem notBad {lg : Lg} {p : Pt} {i : Int} {m : Mach} {o : Ot} (hs : sAt lg p i = (m, o)) (h1 : ∀ z ∈ lg.mks, z.idx = i → z.sum = dig m) (h2 : ∀ z ∈ lg.sns, z.idx = i → z.st = m ∧ z.out = o) : ¬ Bad lg p i := by
  intro hb
  unfold Bad BadS at hb
  rw [hs] at hb
  rcases hb with ⟨k, k1, k2, k3⟩ | ⟨k, k1, k2, k3⟩
  · exact k3 (h1 k k1 k2)
  · have := h2 k k1 k2; exact k3 (by rw [this.1, this.2])

theorem badM {lg : Lg} {p : Pt} {i : Int} {m : Mach} {o : Ot} (hs : sAt lg p i = (m, o)) {z : Mk} (hz : z ∈ lg.mks) (h1 : z.idx = i) (h2 : z.sum ≠ dig m) : Bad lg p i := by
  unfold Bad BadS; rw [hs]; exact .inl ⟨z, hz, h1, h2⟩

theorem badP {lg : Lg} {p : Pt} {i : Int} {m : Mach} {o : Ot} (hs : sAt lg p i = (m, o)) {z : Pt} (hz : z ∈ lg.sns) (h1 : z.idx = i) (h2 : z.st ≠ m ∨ z.out ≠ o) : Bad lg p i := by
  unfold Bad BadS; rw [hs]
  refine .inr ⟨z, hz, h1, fun hq => ?_⟩
  injection hq with e1 e2
  rcases h2 with h2 | h2
  · exact h2 e1
  · exact h2 e2

theorem fd_here {lg : Lg} {p : Pt} {i : Int} (h1 : p.idx ≤ i) (h2 : i ≤ lg.fin) (hb : Bad lg p i) (hn : ∀ j, p.idx ≤ j → j < i → ¬ Bad lg p j) : IsFD lg p i := .inr ⟨h1, h2, hb, hn⟩

theorem fd_none {lg : Lg} {p : Pt} {i : Int} (h1 : i = lg.fin) (hb : ¬ Bad lg p i) (hn : ∀ j, p.idx ≤ j → j < i → ¬ Bad lg p j) : IsFD lg p (-1) := by
  refine .inl ⟨rfl, fun j k1 k2 k3 => ?_⟩
  by_cases hj : j = i
  · subst hj; exact hb k3
  · exact hn j k1 (by omega) k3

end Go.Rp
