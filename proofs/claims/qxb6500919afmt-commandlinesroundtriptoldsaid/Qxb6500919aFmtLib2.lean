/-
  Searching the snapshots.
-/
import Derived.Test.Qxb6500919aFmtLib
namespace Go.Rp
open Go.Sx

def gtAt (l : List Pt) (n : Int) (i : Nat) : Bool := match l[i]? with
  | some p => decide (p.idx > n)
  | none => true

def geAt (l : List Pt) (n : Int) (i : Nat) : Bool := match l[i]? with
  | some p => decide (p.idx ≥ n)
  | none => true

theorem sorted_lt {l : List Pt} (h : l.Pairwise (fun a b => a.idx < b.idx)) {i j : Nat} {x y : Pt} (hi : l[i]? = some x) (hj : l[j]? = some y) (hij : i < j) : x.idx < y.idx := by
  obtain ⟨h1, rfl⟩ := List.getElem?_eq_some_iff.1 hi
  obtain ⟨h2, rfl⟩ := List.getElem?_eq_some_iff.1 hj
  exact List.pairwise_iff_getElem.1 h i j h1 h2 hij

theorem gtAt_mono {l : List Pt} {n : Int} (h : l.Pairwise (fun a b => a.idx < b.idx)) : ∀ i j, i ≤ j → j < l.length → gtAt l n i = true → gtAt l n j = true := by
  intro i j hij hj h1
  obtain ⟨y, hy⟩ := get_some hj
  obtain ⟨x, hx⟩ := get_some (xs := l) (i := i) (by omega)
  simp only [gtAt, hx, hy, decide_eq_true_eq] at h1 ⊢
  rcases Nat.eq_or_lt_of_le hij with rfl | h2
  · rw [hx] at hy; cases hy; exact h1
  · have := sorted_lt h hx hy h2; omega

theorem geAt_mono {l : List Pt} {n : Int} (h : l.Pairwise (fun a b => a.idx < b.idx)) : ∀ i j, i ≤ j → j < l.length → geAt l n i = true → geAt l n j = true := by
  intro i j hij hj h1
  obtain ⟨y, hy⟩ := get_some hj
  obtain ⟨x, hx⟩ := get_some (xs := l) (i := i) (by omega)
  simp only [geAt, hx, hy, decide_eq_true_eq] at h1 ⊢
  rcases Nat.eq_or_lt_of_le hij with rfl | h2
  · rw [hx] at hy; cases hy; exact h1
  · have := sorted_lt h hx hy h2; omega

theorem filter_take {l : List Pt} {n : Int} {k : Nat} (h1 : ∀ i, i < k → gtAt l n i = false) (h2 : ∀ i, k ≤ i → i < l.length → gtAt l n i = true) (hk : k ≤ l.length) : l.filter (fun p => decide (p.idx ≤ n)) = l.take k := by
  conv => lhs; rw [← List.take_append_drop k l]
  rw [List.filter_append]
  have e1 : (l.take k).filter (fun p => decide (p.idx ≤ n)) = l.take k := by
    rw [List.filter_eq_self]
    intro p hp
    obtain ⟨i, hi⟩ := List.getElem?_of_mem hp
    have hik : i < k := by have := (List.getElem?_eq_some_iff.1 hi).1; rw [List.length_take] at this; omega
    rw [List.getElem?_take_of_lt hik] at hi
    have := h1 i hik
    simp only [gtAt, hi, decide_eq_false_iff_not] at this
    simp; omega
  have e2 : (l.drop k).filter (fun p => decide (p.idx ≤ n)) = [] := by
    rw [List.filter_eq_nil_iff]
    intro p hp
    obtain ⟨i, hi⟩ := List.getElem?_of_mem hp
    rw [List.getElem?_drop] at hi
    have hil := (List.getElem?_eq_some_iff.1 hi).1
    have := h2 (k + i) (by omega) hil
    simp only [gtAt, hi, decide_eq_true_eq] at this
    simp; omega
  rw [e1, e2, List.append_nil]

theorem near_zero {lg : Lg} {n : Int} (h2 : ∀ i, 0 ≤ i → i < lg.sns.length → gtAt lg.sns n i = true) : lg.near n = lg.base := by
  unfold Lg.near
  rw [filter_take (k := 0) (fun i h => by omega) h2 (Nat.zero_le _)]
  simp

theorem near_succ {lg : Lg} {n : Int} {k : Nat} {x : Pt} (h1 : ∀ i, i < k + 1 → gtAt lg.sns n i = false) (h2 : ∀ i, k + 1 ≤ i → i < lg.sns.length → gtAt lg.sns n i = true) (hx : lg.sns[k]? = some x) : lg.near n = x := by
  unfold Lg.near
  rw [filter_take h1 h2 (by have := (List.getElem?_eq_some_iff.1 hx).1; omega), Sx.take_snoc hx]
  simp

theorem snap_none {lg : Lg} {n : Int} {k : Nat} (hs : lg.sns.Pairwise (fun a b => a.idx < b.idx)) (h1 : ∀ i, i < k → geAt lg.sns n i = false) (h2 : ∀ i, k ≤ i → i < lg.sns.length → geAt lg.sns n i = true) (hx : ∀ x, lg.sns[k]? = some x → x.idx ≠ n) : lg.snap n = none := by
  unfold Lg.snap
  rw [List.find?_eq_none]
  intro q hq
  obtain ⟨i, hi⟩ := List.getElem?_of_mem hq
  simp only [beq_iff_eq]
  intro he
  rcases Nat.lt_trichotomy i k with h | h | h
  · have := h1 i h
    simp only [geAt, hi, decide_eq_false_iff_not] at this
    omega
  · subst h; exact hx q hi he
  · have hil := (List.getElem?_eq_some_iff.1 hi).1
    obtain ⟨y, hy⟩ := get_some (xs := lg.sns) (i := k) (by omega)
    have := h2 k (Nat.le_refl _) (by omega)
    simp only [geAt, hy, decide_eq_true_eq] at this
    have := sorted_lt hs hy hi h
    omega

theorem snap_some {lg : Lg} {n : Int} {k : Nat} {x : Pt} (h1 : ∀ i, i < k → geAt lg.sns n i = false) (hx : lg.sns[k]? = some x) (he : x.idx = n) : lg.snap n = some x := by
  unfold Lg.snap
  refine find_at hx (by simpa using he) (fun q hq => ?_)
  obtain ⟨i, hi⟩ := List.getElem?_of_mem hq
  have hik : i < k := by have := (List.getElem?_eq_some_iff.1 hi).1; rw [List.length_take] at this; omega
  rw [List.getElem?_take_of_lt hik] at hi
  have := h1 i hik
  simp only [geAt, hi, decide_eq_false_iff_not] at this
  simp; omega

theorem logB_base (d : Hd) (lg : Lg) : cellsAre (logB d lg) 0 (ptC lg.base) := by
  unfold logB logC ptC
  repeat (first | exact trivial | refine ⟨rfl, ?_⟩)

theorem shr1 (x : Int) : shrI .u64 x 1 = x / 2 := by
  unfold shrI
  rw [Int.fdiv_eq_ediv_of_nonneg _ (by decide)]
  rfl

end Go.Rp
