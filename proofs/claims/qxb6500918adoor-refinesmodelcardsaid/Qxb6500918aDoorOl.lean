/-
  Every thread in one place: what the two maps gather.
-/
import Derived.Test.Qxb6500918aDoorOj
import Derived.Test.Qxb6500918aDoorPE
import Derived.Test.Qxb6500918aDoorMr
namespace Go.Kn
open Go.Sx Go.Proofs.Qxb6500918aDoor

def zRf : Rf := ⟨0, 0⟩

/-- The ready ones below priority p, then the first j of priority p. -/
def absR {α : Type} (Q : QL → List Nat) (g : Nat → α) (p j : Nat) : List (Nat × α) := ((List.range p).flatMap (fun q => (Q (.r q)).map (fun x => (x, g q)))) ++ ((Q (.r p)).take j).map (fun x => (x, g p))

theorem absR_zero {α : Type} (Q : QL → List Nat) (g : Nat → α) : absR Q g 0 0 = [] := by simp [absR]
theorem absR_next {α : Type} (Q : QL → List Nat) (g : Nat → α) (p j : Nat) (h : (Q (.r p)).length ≤ j) : absR Q g p j = absR Q g (p + 1) 0 := by
  unfold absR
  rw [List.take_of_length_le h, List.range_succ, List.flatMap_append]
  simp
theorem absR_one {α : Type} (Q : QL → List Nat) (g : Nat → α) {p j x : Nat} (h : (Q (.r p))[j]? = some x) : absR Q g p (j + 1) = absR Q g p j ++ [(x, g p)] := by
  unfold absR
  rw [List.take_add_one, h, Option.toList, List.map_append, List.append_assoc]; rfl

def idsP (E : Nat → Ent) : List Nat := (List.range 256).filter (fun i => decide ((E i).ty = 4)) ++ (List.range 256).filter (fun i => decide ((E i).ty = 5))

theorem ids_objs (E : Nat → Ent) : liveP E 4 256 ++ liveP E 5 256 = (idsP E).map (fun (i : Nat) => refAtP E (i : Int)) := by
  unfold liveP idsP; rw [List.map_append]
theorem ids_mem {E : Nat → Ent} {i : Nat} : i ∈ idsP E ↔ i < 256 ∧ ((E i).ty = 4 ∨ (E i).ty = 5) := by
  unfold idsP
  rw [List.mem_append, List.mem_filter, List.mem_filter, List.mem_range]
  simp only [decide_eq_true_eq]
  constructor
  · rintro (h | h)
    · exact ⟨h.1, .inl h.2⟩
    · exact ⟨h.1, .inr h.2⟩
  · rintro ⟨h, a | a⟩
    · exact .inl ⟨h, a⟩
    · exact .inr ⟨h, a⟩
theorem ids_nodup (E : Nat → Ent) : (idsP E).Nodup := by
  unfold idsP
  rw [List.nodup_append]
  refine ⟨List.nodup_range.filter _, List.nodup_range.filter _, fun a ha b hb e => ?_⟩
  subst e
  have h1 := (List.mem_filter.1 ha).2
  have h2 := (List.mem_filter.1 hb).2
  simp only [decide_eq_true_eq] at h1 h2
  omega
theorem ids_len (E : Nat → Ent) : (idsP E).length ≤ 512 := by
  unfold idsP
  rw [List.length_append]
  have h1 := List.length_filter_le (fun i => decide ((E i).ty = 4)) (List.range 256)
  have h2 := List.length_filter_le (fun i => decide ((E i).ty = 5)) (List.range 256)
  rw [List.length_range] at h1 h2
  omega

/-- The ready ones, the waiters of the first m objects, the first j waiters of the next. -/
def absW (Q : QL → List Nat) (E : Nat → Ent) (m j : Nat) : List (Nat × Rf) :=
  absR Q (fun _ => zRf) 8 0 ++ (((idsP E).take m).flatMap (fun (i : Nat) => (Q (.w i)).map (fun x => (x, refAtP E (i : Int)))) ++ (match (idsP E)[m]? with | some i => ((Q (.w i)).take j).map (fun x => (x, refAtP E (i : Int))) | none => []))

theorem absW_zero (Q : QL → List Nat) (E : Nat → Ent) : absW Q E 0 0 = absR Q (fun _ => zRf) 8 0 := by
  unfold absW
  rw [List.take_zero]
  cases (idsP E)[0]? with
  | none => simp
  | some i => simp
theorem absW_next (Q : QL → List Nat) (E : Nat → Ent) {m j i : Nat} (hi : (idsP E)[m]? = some i) (h : (Q (.w i)).length ≤ j) : absW Q E m j = absW Q E (m + 1) 0 := by
  unfold absW
  rw [hi, List.take_add_one, hi, Option.toList, List.flatMap_append]
  simp only [List.take_of_length_le h, List.take_zero, List.map_nil]
  cases (idsP E)[m + 1]? with
  | none => simp
  | some i => simp
theorem absW_one (Q : QL → List Nat) (E : Nat → Ent) {m j i x : Nat} (hi : (idsP E)[m]? = some i) (h : (Q (.w i))[j]? = some x) : absW Q E m (j + 1) = absW Q E m j ++ [(x, refAtP E (i : Int))] := by
  unfold absW
  rw [hi]
  simp only [List.take_add_one, h, Option.toList, List.map_append, List.append_assoc]; rfl

def absAll (Q : QL → List Nat) (E : Nat → Ent) : List (Nat × Rf) := absR Q (fun _ => zRf) 8 0 ++ (idsP E).flatMap (fun (i : Nat) => (Q (.w i)).map (fun x => (x, refAtP E (i : Int))))

theorem absW_all (Q : QL → List Nat) (E : Nat → Ent) {m : Nat} (h : (idsP E).length ≤ m) : absW Q E m 0 = absAll Q E := by
  unfold absW absAll
  rw [List.take_of_length_le h, List.getElem?_eq_none h]
  simp

section
variable {S : KP} {Q : QL → List Nat} {E : Nat → Ent}

theorem absR_mem {α : Type} {g : Nat → α} {p j : Nat} {q : Nat × α} (h : q ∈ absR Q g p j) : (∃ p', p' < p ∧ q.1 ∈ Q (.r p') ∧ q.2 = g p') ∨ ∃ k, k < j ∧ (Q (.r p))[k]? = some q.1 ∧ q.2 = g p := by
  unfold absR at h
  rcases List.mem_append.1 h with h | h
  · obtain ⟨p', hp, hq⟩ := List.mem_flatMap.1 h
    obtain ⟨x, hx, rfl⟩ := List.mem_map.1 hq
    exact .inl ⟨p', List.mem_range.1 hp, hx, rfl⟩
  · obtain ⟨x, hx, rfl⟩ := List.mem_map.1 h
    obtain ⟨k, hk⟩ := List.getElem?_of_mem hx
    rw [List.getElem?_take] at hk
    split at hk
    · exact .inr ⟨k, by assumption, hk, rfl⟩
    · cases hk

theorem one_queue (hQ : LIQ S Q) {L L' : QL} (hL : L.ok) (hL' : L'.ok) {x : Nat} (h : x ∈ Q L) (h' : x ∈ Q L') : L = L' := by
  have hx := (hQ.lx.ch hL).lt x h
  have a := (hQ.lx.mem hL x hx).1 h
  have b := (hQ.lx.mem hL' x hx).1 h'
  rw [a] at b
  simpa using b

theorem nodup_ne {xs : List Nat} (hn : xs.Nodup) {j k x y : Nat} (hx : xs[j]? = some x) (hy : xs[k]? = some y) (h : k < j) : y ≠ x := by
  intro e
  subst e
  have h1 := (List.getElem?_eq_some_iff.1 hx)
  have h2 := (List.getElem?_eq_some_iff.1 hy)
  obtain ⟨a1, a2⟩ := h1
  obtain ⟨b1, b2⟩ := h2
  have := (List.pairwise_iff_getElem.1 hn) k j b1 a1 h
  rw [a2, b2] at this
  exact this rfl

theorem fresh_r {α : Type} {g : Nat → α} (hQ : LIQ S Q) {p j x : Nat} (hp : p < 8) (hx : (Q (.r p))[j]? = some x) : x < 256 ∧ ∀ q ∈ absR Q g p j, q.1 < 256 ∧ q.1 ≠ x := by
  have hm := List.mem_of_getElem? hx
  have hc := hQ.lx.ch (L := .r p) hp
  refine ⟨hc.lt x hm, fun q hq => ?_⟩
  rcases absR_mem hq with ⟨p', h1, h2, _⟩ | ⟨k, h1, h2, _⟩
  · refine ⟨(hQ.lx.ch (L := .r p') (show p' < 8 by omega)).lt _ h2, fun e => ?_⟩
    rw [e] at h2
    have := one_queue hQ (L := .r p') (L' := .r p) (show p' < 8 by omega) hp h2 hm
    simp at this; omega
  · exact ⟨hc.lt _ (List.mem_of_getElem? h2), nodup_ne hc.nd hx h2 h1⟩

theorem fresh_w (hQ : LIQ S Q) {m j i x : Nat} (hi : (idsP E)[m]? = some i) (hx : (Q (.w i))[j]? = some x) : x < 256 ∧ ∀ q ∈ absW Q E m j, q.1 < 256 ∧ q.1 ≠ x := by
  have hm := List.mem_of_getElem? hx
  have hi2 := ids_mem.1 (List.mem_of_getElem? hi)
  have hc := hQ.lx.ch (L := .w i) hi2.1
  refine ⟨hc.lt x hm, fun q hq => ?_⟩
  unfold absW at hq
  rw [hi] at hq
  rcases List.mem_append.1 hq with hq | hq
  · rcases absR_mem hq with ⟨p', h1, h2, _⟩ | ⟨k, h1, _⟩
    · refine ⟨(hQ.lx.ch (L := .r p') h1).lt _ h2, fun e => ?_⟩
      rw [e] at h2
      have := one_queue hQ (L := .r p') (L' := .w i) h1 hi2.1 h2 hm
      cases this
    · omega
  rcases List.mem_append.1 hq with hq | hq
  · obtain ⟨i', hi', hq⟩ := List.mem_flatMap.1 hq
    obtain ⟨y, hy, rfl⟩ := List.mem_map.1 hq
    obtain ⟨k, hk⟩ := List.getElem?_of_mem hi'
    rw [List.getElem?_take] at hk
    split at hk
    · rename_i hkm
      have hi3 := ids_mem.1 (List.mem_of_getElem? hk)
      refine ⟨(hQ.lx.ch (L := .w i') hi3.1).lt _ hy, fun e => ?_⟩
      have e' : y = x := e
      rw [e'] at hy
      have := one_queue hQ (L := .w i') (L' := .w i) hi3.1 hi2.1 hy hm
      simp at this
      exact nodup_ne (ids_nodup E) hi hk hkm this
    · cases hk
  · obtain ⟨y, hy, rfl⟩ := List.mem_map.1 hq
    obtain ⟨k, hk⟩ := List.getElem?_of_mem hy
    rw [List.getElem?_take] at hk
    split at hk
    · rename_i hkm
      exact ⟨hc.lt _ (List.mem_of_getElem? hk), nodup_ne hc.nd hx hk hkm⟩
    · cases hk

theorem all_mem (hQ : LIQ S Q) {x : Nat} {r : Rf} (h : (x, r) ∈ absAll Q E) : x < 256 ∧ ((∃ p, p < 8 ∧ place (S.tcb x) = some (.r p) ∧ r = zRf) ∨ ∃ i, i < 256 ∧ ((E i).ty = 4 ∨ (E i).ty = 5) ∧ place (S.tcb x) = some (.w i) ∧ r = refAtP E (i : Int)) := by
  unfold absAll at h
  rcases List.mem_append.1 h with h | h
  · rcases absR_mem h with ⟨p', h1, h2, h3⟩ | ⟨k, h1, _⟩
    · have hx := (hQ.lx.ch (L := .r p') h1).lt _ h2
      exact ⟨hx, .inl ⟨p', h1, (hQ.lx.mem (L := .r p') h1 _ hx).1 h2, h3⟩⟩
    · omega
  · obtain ⟨i, hi, hq⟩ := List.mem_flatMap.1 h
    obtain ⟨y, hy, e⟩ := List.mem_map.1 hq
    simp only [Prod.mk.injEq] at e
    obtain ⟨rfl, rfl⟩ := e
    have hi2 := ids_mem.1 hi
    have hx := (hQ.lx.ch (L := .w i) hi2.1).lt _ hy
    exact ⟨hx, .inr ⟨i, hi2.1, hi2.2, (hQ.lx.mem (L := .w i) hi2.1 _ hx).1 hy, rfl⟩⟩

theorem mem_all_r (hQ : LIQ S Q) {x p : Nat} (hx : x < 256) (hp : p < 8) (h : place (S.tcb x) = some (.r p)) : (x, zRf) ∈ absAll Q E := by
  unfold absAll absR
  refine List.mem_append_left _ (List.mem_append_left _ (List.mem_flatMap.2 ⟨p, List.mem_range.2 hp, ?_⟩))
  exact List.mem_map.2 ⟨x, (hQ.lx.mem (L := .r p) hp x hx).2 h, rfl⟩
theorem mem_all_w (hQ : LIQ S Q) {x i : Nat} (hx : x < 256) (hi : i < 256) (ht : (E i).ty = 4 ∨ (E i).ty = 5) (h : place (S.tcb x) = some (.w i)) : (x, refAtP E (i : Int)) ∈ absAll Q E := by
  unfold absAll
  refine List.mem_append_right _ (List.mem_flatMap.2 ⟨i, ids_mem.2 ⟨hi, ht⟩, ?_⟩)
  exact List.mem_map.2 ⟨x, (hQ.lx.mem (L := .w i) hi x hx).2 h, rfl⟩

end
end Go.Kn
