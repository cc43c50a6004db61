/-
  The machine and two rows of bytes beside it.
-/
import Derived.Test.Qxb6500918aDoorLk
import Derived.Test.Qxb6500918aDoorLl
import Derived.Test.Qxb6500918aDoorM1
namespace Go.Kn
open Go.Sx Go.Proofs.Qxb6500918aDoor

structure KB (n0 kb bo bc : Nat) (nd : Nat → Nat) (S : KP) (C : CP) (xs : List Int) (o1 : Option Addr) (c1 : Nat) (F1 : List Nat) (ys : List Int) (o2 : Option Addr) (c2 : Nat) (F2 : List Nat) (w : World) : Prop where
  ker : w.heap[kb]? = some (Blk.obj ⟨kC bo bc S, 90, false⟩)
  cap : CapAt w bo bc nd C
  nk : kb ∉ capF bo bc nd C
  r1 : (rl u8C 5 1 xs o1 c1 F1).at w
  r2 : (rl u8C 5 1 ys o2 c2 F2).at w
  d1 : ∀ b ∈ F1, b ∉ kb :: capF bo bc nd C
  d2 : ∀ b ∈ F2, b ∉ kb :: capF bo bc nd C
  nw : ∀ b ∈ kb :: (capF bo bc nd C ++ (F1 ++ F2)), n0 ≤ b

section
variable {n0 kb bo bc : Nat} {nd : Nat → Nat} {S : KP} {C : CP} {xs : List Int} {o1 : Option Addr} {c1 : Nat} {F1 : List Nat} {ys : List Int} {o2 : Option Addr} {c2 : Nat} {F2 : List Nat} {w w' : World}

theorem KB.stable : Stable (KB n0 kb bo bc nd S C xs o1 c1 F1 ys o2 c2 F2) (kb :: (capF bo bc nd C ++ (F1 ++ F2))) := by
  intro w w' hs h
  refine ⟨?_, CapAt.stable w w' (fun b hb => hs b (List.mem_cons_of_mem _ (List.mem_append_left _ hb))) h.cap, h.nk, Row.stable w w' (fun b hb => hs b (List.mem_cons_of_mem _ (List.mem_append_right _ (List.mem_append_left _ hb)))) h.r1, Row.stable w w' (fun b hb => hs b (List.mem_cons_of_mem _ (List.mem_append_right _ (List.mem_append_right _ hb)))) h.r2, h.d1, h.d2, h.nw⟩
  rw [hs kb (List.mem_cons_self ..)]; exact h.ker

theorem KB.low (h : KB n0 kb bo bc nd S C xs o1 c1 F1 ys o2 c2 F2 w) : ∀ b ∈ kb :: (capF bo bc nd C ++ (F1 ++ F2)), b < w.heap.size := by
  intro b hb
  rcases List.mem_cons.1 hb with rfl | hb
  · exact lt_of_heap h.ker
  rcases List.mem_append.1 hb with hb | hb
  · exact h.cap.low b hb
  rcases List.mem_append.1 hb with hb | hb
  · exact Row.low h.r1 b hb
  · exact Row.low h.r2 b hb

/-- Behind a step. -/
theorem KB.step {nd' : Nat → Nat} {S' : KP} {C' : CP} (h : KB n0 kb bo bc nd S C xs o1 c1 F1 ys o2 c2 F2 w) (h0 : n0 ≤ w.heap.size) (hk : w'.heap[kb]? = some (Blk.obj ⟨kC bo bc S', 90, false⟩)) (hc : CapAt w' bo bc nd' C') (hs : ∀ x ∈ capF bo bc nd' C', x ∈ capF bo bc nd C ∨ w.heap.size ≤ x) (hf : Fr (kb :: capF bo bc nd C) w w') :
    KB n0 kb bo bc nd' S' C' xs o1 c1 F1 ys o2 c2 F2 w' := by
  have dj : ∀ b, b ∉ kb :: capF bo bc nd C → b < w.heap.size → b ∉ kb :: capF bo bc nd' C' := fun b h1 h2 hq => by
    rcases List.mem_cons.1 hq with e | e
    · exact h1 (by rw [e]; exact List.mem_cons_self ..)
    · rcases hs b e with e2 | e2
      · exact h1 (List.mem_cons_of_mem _ e2)
      · omega
  refine ⟨hk, hc, fun hq => ?_, Row.fr h.r1 hf h.d1, Row.fr h.r2 hf h.d2, fun b hb => dj b (h.d1 b hb) (Row.low h.r1 b hb), fun b hb => dj b (h.d2 b hb) (Row.low h.r2 b hb), fun b hb => ?_⟩
  · rcases hs kb hq with e | e
    · exact h.nk e
    · have := lt_of_heap h.ker; omega
  · rcases List.mem_cons.1 hb with e | hb
    · exact h.nw b (by rw [e]; exact List.mem_cons_self ..)
    rcases List.mem_append.1 hb with hb | hb
    · rcases hs b hb with e | e
      · exact h.nw b (List.mem_cons_of_mem _ (List.mem_append_left _ e))
      · omega
    · exact h.nw b (List.mem_cons_of_mem _ (List.mem_append_right _ hb))

/-- Another second row, laid anew. -/
theorem KB.row2 {zs : List Int} {o3 : Option Addr} {c3 : Nat} {F3 : List Nat} (h : KB n0 kb bo bc nd S C xs o1 c1 F1 ys o2 c2 F2 w) (h0 : n0 ≤ w.heap.size) (hf : Fr [] w w') (hr : (rl u8C 5 1 zs o3 c3 F3).at w') (hn : ∀ b ∈ F3, w.heap.size ≤ b) : KB n0 kb bo bc nd S C xs o1 c1 F1 zs o3 c3 F3 w' := by
  have hk : ∀ b ∈ kb :: capF bo bc nd C, b < w.heap.size := fun b hb => h.low b (by
    rcases List.mem_cons.1 hb with e | e
    · rw [e]; exact List.mem_cons_self ..
    · exact List.mem_cons_of_mem _ (List.mem_append_left _ e))
  refine ⟨by rw [hf.block kb (lt_of_heap h.ker) (by simp)]; exact h.ker, h.cap.fr hf (fun _ _ hq => by cases hq), h.nk, Row.fr h.r1 hf (fun _ _ hq => by cases hq), hr, h.d1, fun b hb hq => by have := hk b hq; have := hn b hb; omega, fun b hb => ?_⟩
  rcases List.mem_cons.1 hb with e | hb
  · exact h.nw b (by rw [e]; exact List.mem_cons_self ..)
  rcases List.mem_append.1 hb with hb | hb
  · exact h.nw b (List.mem_cons_of_mem _ (List.mem_append_left _ hb))
  rcases List.mem_append.1 hb with hb | hb
  · exact h.nw b (List.mem_cons_of_mem _ (List.mem_append_right _ (List.mem_append_left _ hb)))
  · have := hn b hb; omega

/-- The second row takes the first one's place. -/
theorem KB.shift (h : KB n0 kb bo bc nd S C xs o1 c1 F1 ys o2 c2 F2 w) : KB n0 kb bo bc nd S C ys o2 c2 F2 [] none 0 [] w :=
  ⟨h.ker, h.cap, h.nk, h.r2, rl_nil u8C w 5 1, h.d2, fun _ hq => (by cases hq), fun b hb => by
    refine h.nw b ?_
    rcases List.mem_cons.1 hb with e | hb
    · rw [e]; exact List.mem_cons_self ..
    rcases List.mem_append.1 hb with hb | hb
    · exact List.mem_cons_of_mem _ (List.mem_append_left _ hb)
    · rw [List.append_nil] at hb; exact List.mem_cons_of_mem _ (List.mem_append_right _ (List.mem_append_right _ hb))⟩
end

theorem words_at {w w' : World} {o : Option Addr} {ws : List Int} {K : List Nat} (h : WordsAt [] w o ws) (hf : Fr [] w w') (hK : ∀ b ∈ K, w.heap.size ≤ b) : WordsAt K w' o ws := by
  rcases h with h | ⟨b, k, h1, h2, h3, _⟩
  · exact .inl h
  · refine .inr ⟨b, k, h1, Nat.lt_of_lt_of_le h2 hf.size, cellsAt_fr h3 hf h2 (by simp), fun hq => ?_⟩
    have := hK b hq
    omega

end Go.Kn
