/-
  Pieces over blocks that are known to the caller or new.
-/
import Derived.Test.Qxb6500919aSxK
namespace Go.Sx

/-- All pieces hold, over blocks that are apart and lie in K or at n0 or above. -/
structure Pq (K : List Nat) (n0 : Nat) (ps : List Pc) (w : World) : Prop where
  nd : (Pf ps).Nodup
  new : ∀ b ∈ Pf ps, b ∈ K ∨ n0 ≤ b
  ok : ∀ p ∈ ps, PcOk p w

section
variable {P : Program} {tab : Tab} {C : Ctx} {T T' : Slots} {L L' : Mem} {w w' : World} {a : Act} {ops : List Oper} {Q : Exit → Act → World → Prop}
  {ps ps' : List Pc} {p p' : Pc} {nn n0 : Nat} {w0 : World} {K : List Nat}

theorem Pq.low (h : Pq K n0 ps w) : ∀ b ∈ Pf ps, b < w.heap.size := by
  intro b hb
  obtain ⟨r, hm, hb⟩ := List.mem_flatMap.1 hb
  exact (h.ok r hm).low b hb

theorem Pq.stable : Stable (Pq K n0 ps) (Pf ps) := by
  intro w w' h hr
  refine ⟨hr.nd, hr.new, fun r hm => ?_⟩
  have h1 : ∀ b ∈ r.F, w'.heap[b]? = w.heap[b]? := fun b hb => h b (List.mem_flatMap.2 ⟨r, hm, hb⟩)
  have h2 := hr.ok r hm
  exact ⟨h2.st w w' h1 h2.A, h2.st, fun b hb => lt_of_same (h1 b hb) (h2.low b hb), h2.nd⟩

theorem Pq.nil : Pq K n0 [] w := ⟨List.nodup_nil, fun _ h => (by cases h), fun _ h => (by cases h)⟩

theorem Pq.get (h : Pq K n0 ps w) {j : Nat} (hj : nth ps j = some p) : p.A w := (h.ok p (nthP_mem hj)).A

theorem Pq.newOf (h : Pq K n0 ps w) {j : Nat} (hj : nth ps j = some p) : ∀ b ∈ p.F, b ∈ K ∨ n0 ≤ b := fun b hb => h.new b (List.mem_flatMap.2 ⟨p, nthP_mem hj, hb⟩)

theorem Pq.set (h : Pq K n0 ps w) (hn : n0 ≤ w.heap.size) {j : Nat} (hj : nth ps j = some p) (hp : PcOk p' w') {M : List Nat} (hfr : Fr M w w') (hM : ∀ b ∈ M, b ∈ p.F) (hF : ∀ b ∈ p'.F, b ∈ p.F ∨ w.heap.size ≤ b) : Pq K n0 (setP ps j p') w' := by
  refine ⟨Pf_set_nodup h.nd hj hp.nd (fun b hb => orMap (hF b hb) id (fun h1 hc => ?_)), fun b hb => ?_, fun x hx => ?_⟩
  · have := h.low b hc; omega
  · rcases Pf_set_sub hj hF b hb with h1 | h1
    · exact h.new b h1
    · right; omega
  · rcases setP_mem ps j p' x hx with h0 | ⟨i, hi, hx'⟩
    · subst h0; exact hp
    · exact (h.ok x (nthP_mem hx')).fr hfr (fun b hb hm => Pf_nodup h.nd hx' hj hi b hb (hM b hm))

/-- Behind a call, or an append, that turns piece j alone. -/
theorem St.qSet (hst : St ⟨nn, K, w0, Pq K w0.heap.size ps, Pf ps⟩ T L a w) {j : Nat} (hj : nth ps j = some p) (hp : PcOk p' w') {M : List Nat} (hfr : Fr M w w') (hM : ∀ b ∈ M, b ∈ p.F) (hF : ∀ b ∈ p'.F, b ∈ p.F ∨ w.heap.size ≤ b)
    (hL : ∀ kb ∈ L, kb.2.ro = true → kb.1 ∉ p.F) (hR : setP ps j p' = ps') : St ⟨nn, K, w0, Pq K w0.heap.size ps', Pf ps'⟩ T L a w' := by
  subst hR
  have hn := hst.inv.set hst.frame.size hj hp hfr hM hF
  exact hst.callF hfr (fun b hb => List.mem_flatMap.2 ⟨p, nthP_mem hj, hM b hb⟩) (fun b hb => hst.inv.newOf hj b (hM b hb)) (fun kb h1 h2 h3 => hL kb h1 h2 (hM _ h3)) hn Pq.stable hn.low (Pf_set_sub hj hF)

/-- One piece more, over new blocks. -/
theorem St.qAdd (hst : St ⟨nn, K, w0, Pq K w0.heap.size ps, Pf ps⟩ T L a w) (hp : PcOk p' w') (hfr : Fr [] w w') (hF : ∀ b ∈ p'.F, w.heap.size ≤ b) (hR : ps ++ [p'] = ps') : St ⟨nn, K, w0, Pq K w0.heap.size ps', Pf ps'⟩ T L a w' := by
  subst hR
  have hff : Pf (ps ++ [p']) = Pf ps ++ p'.F := by simp [Pf]
  have hn : Pq K w0.heap.size (ps ++ [p']) w' := by
    refine ⟨?_, ?_, ?_⟩
    · rw [hff, List.nodup_append]
      refine ⟨hst.inv.nd, hp.nd, fun x hx y hy he => ?_⟩
      subst he
      have h1 := hst.low x hx
      have h2 := hF x hy
      omega
    · intro b hb
      rw [hff] at hb
      rcases List.mem_append.1 hb with h | h
      · exact hst.inv.new b h
      · have h1 := hst.frame.size
        have h2 := hF b h
        simp only at h1
        right; omega
    · intro q hq
      rcases List.mem_append.1 hq with h | h
      · exact (hst.inv.ok q h).fr hfr (fun _ _ h => by cases h)
      · simp at h; subst h; exact hp
  refine hst.callF hfr (fun b hb => by cases hb) (fun b hb => by cases hb) (fun _ _ _ h => by cases h) hn Pq.stable hn.low (fun b hb => ?_)
  rw [hff] at hb
  rcases List.mem_append.1 hb with h | h
  · exact .inl h
  · exact .inr (hF b h)

/-- A known new block becomes a piece. -/
theorem St.qOf {b : Nat} {cs : List Value} {e : TypeId} (hst : St ⟨nn, K, w0, Pq K w0.heap.size ps, Pf ps⟩ T (L ++ [(b, ⟨cs, e, false⟩)]) a w) (hF : p'.F = [b]) (hp : PcOk p' w) (hR : ps ++ [p'] = ps') : St ⟨nn, K, w0, Pq K w0.heap.size ps', Pf ps'⟩ T L a w := by
  subst hR
  have hff : Pf (ps ++ [p']) = Pf ps ++ [b] := by simp [Pf, hF]
  have hb : b ∉ Pf ps := hst.disj (b, ⟨cs, e, false⟩) (by simp) rfl
  have hk : b ∈ K ∨ w0.heap.size ≤ b := hst.keys (b, ⟨cs, e, false⟩) (by simp) rfl
  have h2 := hst.drop1
  refine h2.say ⟨?_, fun x hx => ?_, fun q hq => ?_⟩ Pq.stable ?_ ?_
  · rw [hff, List.nodup_append]
    exact ⟨hst.inv.nd, by simp, fun x hx y hy => by simp at hy; subst hy; intro h; subst h; exact hb hx⟩
  · rw [hff] at hx
    rcases List.mem_append.1 hx with h | h
    · exact hst.inv.new x h
    · simp at h; subst h; exact hk
  · rcases List.mem_append.1 hq with h | h
    · exact hst.inv.ok q h
    · simp at h; subst h; exact hp
  · intro x hx
    rw [hff] at hx
    rcases List.mem_append.1 hx with h | h
    · exact hst.low x h
    · simp at h; subst h; exact lt_of_heap (hst.known (x, ⟨cs, e, false⟩) (by simp))
  · intro kb hk hro hx
    rw [hff] at hx
    rcases List.mem_append.1 hx with h | h
    · exact h2.disj kb hk hro h
    · simp at h
      have := hst.nodup
      rw [List.map_append, List.nodup_append] at this
      exact this.2.2 kb.1 (List.mem_map.2 ⟨kb, hk, rfl⟩) b (by simp) h

/-- Pieces given up. -/
theorem St.qSub (hst : St ⟨nn, K, w0, Pq K w0.heap.size ps, Pf ps⟩ T L a w) (hs : List.Sublist ps' ps) : St ⟨nn, K, w0, Pq K w0.heap.size ps', Pf ps'⟩ T L a w :=
  hst.say ⟨hst.inv.nd.sublist (Pf_sub hs), fun b hb => hst.inv.new b ((Pf_sub hs).mem hb), fun q hq => hst.inv.ok q (hs.mem hq)⟩ Pq.stable (fun b hb => hst.low b ((Pf_sub hs).mem hb)) (fun kb h1 h2 h3 => hst.disj kb h1 h2 ((Pf_sub hs).mem h3))

/-- A piece said otherwise, nothing done. -/
theorem St.qAs (hst : St ⟨nn, K, w0, Pq K w0.heap.size ps, Pf ps⟩ T L a w) {j : Nat} (hj : nth ps j = some p) (hp : PcOk p' w) (hF : p'.F = p.F) (hR : setP ps j p' = ps') : St ⟨nn, K, w0, Pq K w0.heap.size ps', Pf ps'⟩ T L a w := by
  subst hR
  have hsub : ∀ b ∈ Pf (setP ps j p'), b ∈ Pf ps := by
    intro b hb
    obtain ⟨q, hq, hbq⟩ := List.mem_flatMap.1 hb
    rcases setP_mem ps j p' q hq with h0 | ⟨i, hi, hx'⟩
    · subst h0
      exact List.mem_flatMap.2 ⟨p, nthP_mem hj, by rw [← hF]; exact hbq⟩
    · exact List.mem_flatMap.2 ⟨q, nthP_mem hx', hbq⟩
  exact hst.say (hst.inv.set hst.frame.size hj hp (Fr.refl [] _) (fun b hb => by cases hb) (fun b hb => .inl (by rw [← hF]; exact hb))) Pq.stable (fun b hb => hst.low b (hsub b hb)) (fun kb h1 h2 h3 => hst.disj kb h1 h2 (hsub _ h3))

/-- A row that is a piece, taken as a known block that may be turned. -/
theorem St.qTake {b : Nat} {cs : List Value} {e : TypeId} (hst : St ⟨nn, K, w0, Pq K w0.heap.size (ps ++ [p]), Pf (ps ++ [p])⟩ T L a w) (hF : p.F = [b]) (hb : w.heap[b]? = some (Blk.obj ⟨cs, e, true⟩)) (hL : ∀ kb ∈ L, kb.2.ro = true → kb.1 ∉ p.F) :
    St ⟨nn, K, w0, Pq K w0.heap.size ps, Pf ps⟩ T (L ++ [(b, ⟨cs, e, false⟩)]) a w := by
  have hff : Pf (ps ++ [p]) = Pf ps ++ [b] := by simp [Pf, hF]
  have hbm : b ∈ Pf (ps ++ [p]) := by rw [hff]; simp
  have h2 := hst.qSub (List.sublist_append_left ps [p])
  have hnd := hst.inv.nd
  rw [hff, List.nodup_append] at hnd
  refine ⟨h2.size, h2.defs, h2.slots, ?_, ?_, ?_, h2.frame, h2.inv, h2.stab, h2.low, ?_⟩
  · intro kb h
    rcases List.mem_append.1 h with h | h
    · exact h2.known kb h
    · simp at h; subst h; exact hb
  · rw [List.map_append, List.nodup_append]
    refine ⟨h2.nodup, by simp, fun x hx y hy => ?_⟩
    simp at hy
    subst hy
    intro he
    subst he
    obtain ⟨kb, h3, h4⟩ := List.mem_map.1 hx
    subst h4
    cases hro : kb.2.ro with
    | true => exact hL kb h3 hro (by rw [hF]; simp)
    | false => exact hst.disj kb h3 hro hbm
  · intro kb h hr
    rcases List.mem_append.1 h with h | h
    · exact h2.keys kb h hr
    · simp at h; subst h; exact hst.inv.new _ hbm
  · intro kb h hr hq
    rcases List.mem_append.1 h with h | h
    · exact h2.disj kb h hr hq
    · simp at h; subst h; exact hnd.2.2 _ hq _ (List.mem_singleton.2 rfl) rfl


end
end Go.Sx
