/-
  A write into an element of a row.
-/
import Derived.Test.Qxb6500919aLib
namespace Go.Sx

theorem splice_app {l1 l2 vs : List Value} {k : Nat} (h : k + vs.length ≤ l1.length) : splice (l1 ++ l2) k vs = splice l1 k vs ++ l2 := by
  rw [splice_eq vs (l1 ++ l2) k (by rw [List.length_append]; omega), splice_eq vs l1 k h, List.take_append_of_le_length (by omega), List.drop_append_of_le_length h]
  simp [List.append_assoc]

theorem splice_app2 {l1 l2 vs : List Value} {k : Nat} (h : k + vs.length ≤ l2.length) : splice (l1 ++ l2) (l1.length + k) vs = l1 ++ splice l2 k vs := by
  rw [splice_eq vs (l1 ++ l2) (l1.length + k) (by rw [List.length_append]; omega), splice_eq vs l2 k h]
  have h1 : (l1 ++ l2).take (l1.length + k) = l1 ++ l2.take k := by
    rw [List.take_append, List.take_of_length_le (by omega), Nat.add_sub_cancel_left]
  have h2 : (l1 ++ l2).drop (l1.length + k + vs.length) = l2.drop (k + vs.length) := by
    rw [List.drop_append, List.drop_eq_nil_of_le (by omega), List.nil_append]
    congr 1
    omega
  rw [h1, h2]
  simp [List.append_assoc]

section
variable {α : Type} {enc : α → List Value} {sz : Nat}

theorem flat_set (hsz : ∀ x, (enc x).length = sz) {y : α} {vs : List Value} {off : Nat} (hof : off + vs.length ≤ sz) :
    ∀ {xs : List α} {i : Nat} {x : α}, xs[i]? = some x → enc y = splice (enc x) off vs → splice (xs.flatMap enc) (i * sz + off) vs = (xs.set i y).flatMap enc
  | [], _, _, h, _ => by simp at h
  | x0 :: xs, 0, x, h, hy => by
    simp only [List.getElem?_cons_zero, Option.some.injEq] at h
    subst h
    rw [List.flatMap_cons, Nat.zero_mul, Nat.zero_add, splice_app (by rw [hsz]; exact hof), List.set_cons_zero, List.flatMap_cons, hy]
  | x0 :: xs, i + 1, x, h, hy => by
    rw [List.getElem?_cons_succ] at h
    have hlt := (List.getElem?_eq_some_iff.1 h).1
    have hm : (i + 1) * sz ≤ xs.length * sz := Nat.mul_le_mul_right sz hlt
    rw [Nat.succ_mul] at hm
    rw [List.flatMap_cons, List.set_cons_succ, List.flatMap_cons, ← flat_set hsz hof h hy, ← splice_app2 (by rw [flat_length enc sz hsz]; omega), hsz]
    congr 1
    rw [Nat.succ_mul]
    omega

/-- The row behind a write into element i. -/
theorem row_set {w : World} {b c : Nat} {e : TypeId} {xs : List α} {i : Nat} {x y : α} {cs vs : List Value} {off : Nat} (hsz : ∀ x, (enc x).length = sz) (hof : off + vs.length ≤ sz) (hx : xs[i]? = some x) (hy : enc y = splice (enc x) off vs)
    (hl : cs.length = c * sz) (hc : xs.length ≤ c) (ht : cs.take (xs.length * sz) = xs.flatMap enc) (hb : w.heap[b]? = some (Blk.obj ⟨splice cs (i * sz + off) vs, e, true⟩)) :
    (rl enc e sz (xs.set i y) (some ⟨b, 0, none⟩) c [b]).at w := by
  have hlt := (List.getElem?_eq_some_iff.1 hx).1
  have hm : (i + 1) * sz ≤ xs.length * sz := Nat.mul_le_mul_right sz hlt
  rw [Nat.succ_mul] at hm
  have hN : xs.length * sz ≤ cs.length := by rw [hl]; exact Nat.mul_le_mul_right sz hc
  refine ⟨by simp only [flat_length enc sz hsz], .inr ⟨b, _, rfl, hb, by rw [splice_length]; exact hl, by simpa using hc, ?_, rfl⟩⟩
  have h1 : cs = cs.take (xs.length * sz) ++ cs.drop (xs.length * sz) := (List.take_append_drop _ _).symm
  have hlen : (cs.take (xs.length * sz)).length = xs.length * sz := by rw [List.length_take]; omega
  show (splice cs (i * sz + off) vs).take ((xs.set i y).length * sz) = _
  rw [List.length_set, h1, splice_app (by rw [hlen]; omega), ht, flat_set hsz hof hx hy]
  rw [List.take_left']
  rw [flat_length enc sz hsz, List.length_set]

end

section
variable {nn : Nat} {K : List Nat} {w0 w : World} {R R' : List RS} {r : RS} {T : Slots} {L : Mem} {a : Act}

/-- A row taken as a known block that may be turned. -/
theorem St.rowTake {b : Nat} {cs : List Value} {e : TypeId} (hst : St ⟨nn, K, w0, Rws R, Ff R⟩ T L a w) (hp : List.Perm R (R' ++ [r])) (hF : r.F = [b]) (hb : w.heap[b]? = some (Blk.obj ⟨cs, e, true⟩)) (hK : b ∈ K ∨ w0.heap.size ≤ b)
    (hL : ∀ kb ∈ L, kb.2.ro = true → kb.1 ≠ b) : St ⟨nn, K, w0, Rws R', Ff R'⟩ T (L ++ [(b, ⟨cs, e, false⟩)]) a w := by
  have h0 := Go.Rp.Rws.perm hst.inv hp
  have hff : Ff (R' ++ [r]) = Ff R' ++ [b] := by simp [Ff, hF]
  have hmem : ∀ x, x ∈ Ff R ↔ x ∈ Ff R' ++ [b] := fun x => by rw [← hff]; exact (hp.flatMap_right _).mem_iff
  have hnd := h0.1
  rw [hff, List.nodup_append] at hnd
  have h1 : Rws R' w := h0.sub (List.sublist_append_left R' [r])
  refine ⟨hst.size, hst.defs, hst.slots, ?_, ?_, ?_, hst.frame, h1, Rws.stable, h1.low, ?_⟩
  · intro kb h
    rcases List.mem_append.1 h with h | h
    · exact hst.known kb h
    · simp at h; subst h; exact hb
  · rw [List.map_append, List.nodup_append]
    refine ⟨hst.nodup, by simp, fun x hx y hy => ?_⟩
    simp at hy
    subst hy
    intro he
    subst he
    obtain ⟨kb, h3, h4⟩ := List.mem_map.1 hx
    subst h4
    cases hro : kb.2.ro with
    | true => exact hL kb h3 hro rfl
    | false => exact hst.disj kb h3 hro ((hmem _).2 (by simp))
  · intro kb h hr
    rcases List.mem_append.1 h with h | h
    · exact hst.keys kb h hr
    · simp at h; subst h; exact hK
  · intro kb h hr hq
    rcases List.mem_append.1 h with h | h
    · exact hst.disj kb h hr ((hmem _).2 (List.mem_append.2 (.inl hq)))
    · simp at h; subst h; exact hnd.2.2 _ hq _ (List.mem_singleton.2 rfl) rfl

end
end Go.Sx
