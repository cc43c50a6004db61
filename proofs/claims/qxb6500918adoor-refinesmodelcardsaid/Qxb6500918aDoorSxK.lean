/-
  Pieces: several facts about the world carried at once, each over blocks of its own, all of them new.
-/
import Derived.Test.Qxb6500918aDoorSxJ
namespace Go.Sx

/-- A fact about the world that hangs on the blocks F alone. -/
structure Pc where
  A : World → Prop
  F : List Nat

def Pf (ps : List Pc) : List Nat := ps.flatMap (·.F)

structure PcOk (p : Pc) (w : World) : Prop where
  A : p.A w
  st : Stable p.A p.F
  low : ∀ b ∈ p.F, b < w.heap.size
  nd : p.F.Nodup

/-- All pieces hold, over blocks that are apart and lie at n0 or above. -/
structure Pk (n0 : Nat) (ps : List Pc) (w : World) : Prop where
  nd : (Pf ps).Nodup
  new : ∀ b ∈ Pf ps, n0 ≤ b
  ok : ∀ p ∈ ps, PcOk p w

section
variable {P : Program} {tab : Tab} {C : Ctx} {T T' : Slots} {L L' : Mem} {w w' : World} {a : Act} {ops : List Oper} {Q : Exit → Act → World → Prop}
  {ps ps' : List Pc} {p p' : Pc} {nn n0 : Nat} {w0 : World}

theorem PcOk.fr (h : PcOk p w) {M : List Nat} (hfr : Fr M w w') (hM : ∀ b ∈ p.F, b ∉ M) : PcOk p w' :=
  ⟨h.st w w' (fun b hb => hfr.block b (h.low b hb) (hM b hb)) h.A, h.st, fun b hb => Nat.lt_of_lt_of_le (h.low b hb) hfr.size, h.nd⟩

theorem Pk.low (h : Pk n0 ps w) : ∀ b ∈ Pf ps, b < w.heap.size := by
  intro b hb
  obtain ⟨r, hm, hb⟩ := List.mem_flatMap.1 hb
  exact (h.ok r hm).low b hb

theorem lt_of_same {b : Nat} (h : w'.heap[b]? = w.heap[b]?) (hb : b < w.heap.size) : b < w'.heap.size := by
  rcases Nat.lt_or_ge b w'.heap.size with h' | h'
  · exact h'
  · rw [Array.getElem?_eq_none h'] at h
    simp [hb] at h

theorem Pk.stable : Stable (Pk n0 ps) (Pf ps) := by
  intro w w' h hr
  refine ⟨hr.nd, hr.new, fun r hm => ?_⟩
  have h1 : ∀ b ∈ r.F, w'.heap[b]? = w.heap[b]? := fun b hb => h b (List.mem_flatMap.2 ⟨r, hm, hb⟩)
  have h2 := hr.ok r hm
  exact ⟨h2.st w w' h1 h2.A, h2.st, fun b hb => lt_of_same (h1 b hb) (h2.low b hb), h2.nd⟩

theorem Pk.nil : Pk n0 [] w := ⟨List.nodup_nil, fun _ h => (by cases h), fun _ h => (by cases h)⟩

theorem nthP_mem {j : Nat} (hj : nth ps j = some p) : p ∈ ps := by rw [nth_eq] at hj; exact List.mem_of_getElem? hj

theorem Pk.get (h : Pk n0 ps w) {j : Nat} (hj : nth ps j = some p) : p.A w := (h.ok p (nthP_mem hj)).A

theorem Pk.newOf (h : Pk n0 ps w) {j : Nat} (hj : nth ps j = some p) : ∀ b ∈ p.F, n0 ≤ b := fun b hb => h.new b (List.mem_flatMap.2 ⟨p, nthP_mem hj, hb⟩)

def setP (R : List Pc) : Nat → Pc → List Pc :=
  match R with
  | [] => fun _ _ => []
  | x :: l => fun k r => match k with
    | 0 => r :: l
    | m + 1 => x :: setP l m r

theorem setP_mem : ∀ (R : List Pc) (j : Nat) (r' x : Pc), x ∈ setP R j r' → x = r' ∨ ∃ i, i ≠ j ∧ nth R i = some x
  | [], _, _, _, h => by cases h
  | y :: l, 0, r', x, h => by
    rcases List.mem_cons.1 h with rfl | h
    · exact .inl rfl
    · obtain ⟨i, hi⟩ := List.getElem?_of_mem h
      exact .inr ⟨i + 1, by omega, by simp [nth, nth_eq, hi]⟩
  | y :: l, j + 1, r', x, h => by
    rcases List.mem_cons.1 h with rfl | h
    · exact .inr ⟨0, by omega, rfl⟩
    · rcases setP_mem l j r' x h with rfl | ⟨i, hi, hx⟩
      · exact .inl rfl
      · exact .inr ⟨i + 1, by omega, hx⟩

theorem Pf_nodup : ∀ {R : List Pc} {i j : Nat} {x y : Pc}, (Pf R).Nodup → nth R i = some x → nth R j = some y → i ≠ j → ∀ b ∈ x.F, b ∉ y.F
  | [], _, _, _, _, _, h, _, _ => by cases h
  | z :: l, 0, 0, x, y, _, _, _, hne => absurd rfl hne
  | z :: l, 0, j + 1, x, y, hn, hi, hj, _ => by
    intro b hb hc
    simp only [nth, Option.some.injEq] at hi
    subst hi
    rw [Pf, List.flatMap_cons, List.nodup_append] at hn
    simp only [nth] at hj
    rw [nth_eq] at hj
    exact hn.2.2 b hb b (List.mem_flatMap.2 ⟨y, List.mem_of_getElem? hj, hc⟩) rfl
  | z :: l, i + 1, 0, x, y, hn, hi, hj, _ => by
    intro b hb hc
    simp only [nth, Option.some.injEq] at hj
    subst hj
    rw [Pf, List.flatMap_cons, List.nodup_append] at hn
    simp only [nth] at hi
    rw [nth_eq] at hi
    exact hn.2.2 b hc b (List.mem_flatMap.2 ⟨x, List.mem_of_getElem? hi, hb⟩) rfl
  | z :: l, i + 1, j + 1, x, y, hn, hi, hj, hne => by
    rw [Pf, List.flatMap_cons, List.nodup_append] at hn
    exact Pf_nodup (R := l) (i := i) (j := j) hn.2.1 hi hj (by omega)

theorem Pf_set_nodup : ∀ {R : List Pc} {j : Nat} {r r' : Pc}, (Pf R).Nodup → nth R j = some r → r'.F.Nodup → (∀ b ∈ r'.F, b ∈ r.F ∨ b ∉ Pf R) → (Pf (setP R j r')).Nodup
  | [], _, _, _, _, h, _, _ => by cases h
  | z :: l, 0, r, r', hn, hj, hd, hs => by
    simp only [nth, Option.some.injEq] at hj
    subst hj
    rw [Pf, List.flatMap_cons, List.nodup_append] at hn
    show (Pf (r' :: l)).Nodup
    rw [Pf, List.flatMap_cons, List.nodup_append]
    refine ⟨hd, hn.2.1, fun x hx y hy he => ?_⟩
    subst he
    rcases hs x hx with h | h
    · exact hn.2.2 x h x hy rfl
    · exact h (by rw [Pf, List.flatMap_cons]; exact List.mem_append.2 (.inr hy))
  | z :: l, j + 1, r, r', hn, hj, hd, hs => by
    rw [Pf, List.flatMap_cons, List.nodup_append] at hn
    show (Pf (z :: setP l j r')).Nodup
    rw [Pf, List.flatMap_cons, List.nodup_append]
    refine ⟨hn.1, Pf_set_nodup (R := l) hn.2.1 hj hd (fun b hb => orMap (hs b hb) id (fun h hc => h (by rw [Pf, List.flatMap_cons]; exact List.mem_append.2 (.inr hc)))), fun x hx y hy he => ?_⟩
    subst he
    obtain ⟨q, hq, hb⟩ := List.mem_flatMap.1 hy
    rcases setP_mem l j r' q hq with rfl | ⟨i, hi, hx'⟩
    · rcases hs x hb with h | h
      · have hr : nth l j = some r := hj
        rw [nth_eq] at hr
        exact hn.2.2 x hx x (List.mem_flatMap.2 ⟨r, List.mem_of_getElem? hr, h⟩) rfl
      · exact h (by rw [Pf, List.flatMap_cons]; exact List.mem_append.2 (.inl hx))
    · rw [nth_eq] at hx'
      exact hn.2.2 x hx x (List.mem_flatMap.2 ⟨q, List.mem_of_getElem? hx', hb⟩) rfl

theorem Pf_set_sub {j n : Nat} (hj : nth ps j = some p) (hF : ∀ b ∈ p'.F, b ∈ p.F ∨ n ≤ b) : ∀ b ∈ Pf (setP ps j p'), b ∈ Pf ps ∨ n ≤ b := by
  intro b hb
  obtain ⟨q, hq, hbq⟩ := List.mem_flatMap.1 hb
  rcases setP_mem ps j p' q hq with h0 | ⟨i, hi, hx'⟩
  · subst h0
    exact orMap (hF b hbq) (fun h => List.mem_flatMap.2 ⟨p, nthP_mem hj, h⟩) id
  · exact .inl (List.mem_flatMap.2 ⟨q, nthP_mem hx', hbq⟩)

theorem Pk.set (h : Pk n0 ps w) (hn : n0 ≤ w.heap.size) {j : Nat} (hj : nth ps j = some p) (hp : PcOk p' w') {M : List Nat} (hfr : Fr M w w') (hM : ∀ b ∈ M, b ∈ p.F) (hF : ∀ b ∈ p'.F, b ∈ p.F ∨ w.heap.size ≤ b) : Pk n0 (setP ps j p') w' := by
  refine ⟨Pf_set_nodup h.nd hj hp.nd (fun b hb => orMap (hF b hb) id (fun h1 hc => ?_)), fun b hb => ?_, fun x hx => ?_⟩
  · have := h.low b hc; omega
  · rcases Pf_set_sub hj hF b hb with h1 | h1
    · exact h.new b h1
    · omega
  · rcases setP_mem ps j p' x hx with h0 | ⟨i, hi, hx'⟩
    · subst h0; exact hp
    · exact (h.ok x (nthP_mem hx')).fr hfr (fun b hb hm => Pf_nodup h.nd hx' hj hi b hb (hM b hm))

/-- Behind a call, or an append, that turns piece j alone. -/
theorem St.pcSet (hst : St ⟨nn, [], w0, Pk w0.heap.size ps, Pf ps⟩ T L a w) {j : Nat} (hj : nth ps j = some p) (hp : PcOk p' w') {M : List Nat} (hfr : Fr M w w') (hM : ∀ b ∈ M, b ∈ p.F) (hF : ∀ b ∈ p'.F, b ∈ p.F ∨ w.heap.size ≤ b)
    (hL : ∀ kb ∈ L, kb.2.ro = true → kb.1 ∉ p.F) (hR : setP ps j p' = ps') : St ⟨nn, [], w0, Pk w0.heap.size ps', Pf ps'⟩ T L a w' := by
  subst hR
  have hn := hst.inv.set hst.frame.size hj hp hfr hM hF
  exact hst.callF hfr (fun b hb => List.mem_flatMap.2 ⟨p, nthP_mem hj, hM b hb⟩) (fun b hb => .inr (hst.inv.newOf hj b (hM b hb))) (fun kb h1 h2 h3 => hL kb h1 h2 (hM _ h3)) hn Pk.stable hn.low (Pf_set_sub hj hF)

/-- One piece more, over new blocks. -/
theorem St.pcAdd (hst : St ⟨nn, [], w0, Pk w0.heap.size ps, Pf ps⟩ T L a w) (hp : PcOk p' w') (hfr : Fr [] w w') (hF : ∀ b ∈ p'.F, w.heap.size ≤ b) (hR : ps ++ [p'] = ps') : St ⟨nn, [], w0, Pk w0.heap.size ps', Pf ps'⟩ T L a w' := by
  subst hR
  have hff : Pf (ps ++ [p']) = Pf ps ++ p'.F := by simp [Pf]
  have hn : Pk w0.heap.size (ps ++ [p']) w' := by
    refine ⟨?_, ?_, ?_⟩
    · rw [hff, List.nodup_append]
      refine ⟨hst.inv.nd, hp.nd, fun x hx y hy he => ?_⟩
      subst he
      have h1 := hst.low x hx
      have h2 := hF x hy
      omega
    · intro b hb
      rw [hff] at hb
      rcases List.mem_append.1 hb with h | h
      · exact hst.inv.new b h
      · have h1 := hst.frame.size
        have h2 := hF b h
        simp only at h1
        omega
    · intro q hq
      rcases List.mem_append.1 hq with h | h
      · exact (hst.inv.ok q h).fr hfr (fun _ _ h => by cases h)
      · simp at h; subst h; exact hp
  refine hst.callF hfr (fun b hb => by cases hb) (fun b hb => by cases hb) (fun _ _ _ h => by cases h) hn Pk.stable hn.low (fun b hb => ?_)
  rw [hff] at hb
  rcases List.mem_append.1 hb with h | h
  · exact .inl h
  · exact .inr (hF b h)

/-- A known new block becomes a piece. -/
theorem St.pcOf {b : Nat} {cs : List Value} {e : TypeId} (hst : St ⟨nn, [], w0, Pk w0.heap.size ps, Pf ps⟩ T (L ++ [(b, ⟨cs, e, false⟩)]) a w) (hF : p'.F = [b]) (hp : PcOk p' w) (hR : ps ++ [p'] = ps') : St ⟨nn, [], w0, Pk w0.heap.size ps', Pf ps'⟩ T L a w := by
  subst hR
  have hff : Pf (ps ++ [p']) = Pf ps ++ [b] := by simp [Pf, hF]
  have hb : b ∉ Pf ps := hst.disj (b, ⟨cs, e, false⟩) (by simp) rfl
  have hk : w0.heap.size ≤ b := by simpa using hst.keys (b, ⟨cs, e, false⟩) (by simp) rfl
  have h2 := hst.drop1
  refine h2.say ⟨?_, fun x hx => ?_, fun q hq => ?_⟩ Pk.stable ?_ ?_
  · rw [hff, List.nodup_append]
    exact ⟨hst.inv.nd, by simp, fun x hx y hy => by simp at hy; subst hy; intro h; subst h; exact hb hx⟩
  · rw [hff] at hx
    rcases List.mem_append.1 hx with h | h
    · exact hst.inv.new x h
    · simp at h; subst h; exact hk
  · rcases List.mem_append.1 hq with h | h
    · exact hst.inv.ok q h
    · simp at h; subst h; exact hp
  · intro x hx
    rw [hff] at hx
    rcases List.mem_append.1 hx with h | h
    · exact hst.low x h
    · simp at h; subst h; exact lt_of_heap (hst.known (x, ⟨cs, e, false⟩) (by simp))
  · intro kb hk hro hx
    rw [hff] at hx
    rcases List.mem_append.1 hx with h | h
    · exact h2.disj kb hk hro h
    · simp at h
      have := hst.nodup
      rw [List.map_append, List.nodup_append] at this
      exact this.2.2 kb.1 (List.mem_map.2 ⟨kb, hk, rfl⟩) b (by simp) h

theorem Pf_sub : ∀ {R' R : List Pc}, List.Sublist R' R → List.Sublist (Pf R') (Pf R)
  | _, _, .slnil => List.Sublist.slnil
  | _, _, .cons a h => by
    rw [Pf, Pf, List.flatMap_cons]
    exact (Pf_sub h).trans (List.sublist_append_right _ _)
  | _, _, .cons_cons a h => by
    rw [Pf, Pf, List.flatMap_cons, List.flatMap_cons]
    exact List.Sublist.append (List.Sublist.refl _) (Pf_sub h)

/-- Pieces given up. -/
theorem St.pcSub (hst : St ⟨nn, [], w0, Pk w0.heap.size ps, Pf ps⟩ T L a w) (hs : List.Sublist ps' ps) : St ⟨nn, [], w0, Pk w0.heap.size ps', Pf ps'⟩ T L a w :=
  hst.say ⟨hst.inv.nd.sublist (Pf_sub hs), fun b hb => hst.inv.new b ((Pf_sub hs).mem hb), fun q hq => hst.inv.ok q (hs.mem hq)⟩ Pk.stable (fun b hb => hst.low b ((Pf_sub hs).mem hb)) (fun kb h1 h2 h3 => hst.disj kb h1 h2 ((Pf_sub hs).mem h3))

/-- A piece said otherwise, nothing done. -/
theorem St.pcAs (hst : St ⟨nn, [], w0, Pk w0.heap.size ps, Pf ps⟩ T L a w) {j : Nat} (hj : nth ps j = some p) (hp : PcOk p' w) (hF : p'.F = p.F) (hR : setP ps j p' = ps') : St ⟨nn, [], w0, Pk w0.heap.size ps', Pf ps'⟩ T L a w := by
  subst hR
  have hsub : ∀ b ∈ Pf (setP ps j p'), b ∈ Pf ps := by
    intro b hb
    obtain ⟨q, hq, hbq⟩ := List.mem_flatMap.1 hb
    rcases setP_mem ps j p' q hq with h0 | ⟨i, hi, hx'⟩
    · subst h0
      exact List.mem_flatMap.2 ⟨p, nthP_mem hj, by rw [← hF]; exact hbq⟩
    · exact List.mem_flatMap.2 ⟨q, nthP_mem hx', hbq⟩
  exact hst.say (hst.inv.set hst.frame.size hj hp (Fr.refl [] _) (fun b hb => by cases hb) (fun b hb => .inl (by rw [← hF]; exact hb))) Pk.stable (fun b hb => hst.low b (hsub b hb)) (fun kb h1 h2 h3 => hst.disj kb h1 h2 (hsub _ h3))

/-- A row that is a piece, taken as a known block that may be turned. -/
theorem St.pcTake {b : Nat} {cs : List Value} {e : TypeId} (hst : St ⟨nn, [], w0, Pk w0.heap.size (ps ++ [p]), Pf (ps ++ [p])⟩ T L a w) (hF : p.F = [b]) (hb : w.heap[b]? = some (Blk.obj ⟨cs, e, true⟩)) (hL : ∀ kb ∈ L, kb.2.ro = true → kb.1 ∉ p.F) :
    St ⟨nn, [], w0, Pk w0.heap.size ps, Pf ps⟩ T (L ++ [(b, ⟨cs, e, false⟩)]) a w := by
  have hff : Pf (ps ++ [p]) = Pf ps ++ [b] := by simp [Pf, hF]
  have hbm : b ∈ Pf (ps ++ [p]) := by rw [hff]; simp
  have h2 := hst.pcSub (List.sublist_append_left ps [p])
  have hnd := hst.inv.nd
  rw [hff, List.nodup_append] at hnd
  refine ⟨h2.size, h2.defs, h2.slots, ?_, ?_, ?_, h2.frame, h2.inv, h2.stab, h2.low, ?_⟩
  · intro kb h
    rcases List.mem_append.1 h with h | h
    · exact h2.known kb h
    · simp at h; subst h; exact hb
  · rw [List.map_append, List.nodup_append]
    refine ⟨h2.nodup, by simp, fun x hx y hy => ?_⟩
    simp at hy
    subst hy
    intro he
    subst he
    obtain ⟨kb, h3, h4⟩ := List.mem_map.1 hx
    subst h4
    cases hro : kb.2.ro with
    | true => exact hL kb h3 hro (by rw [hF]; simp)
    | false => exact hst.disj kb h3 hro hbm
  · intro kb h hr
    rcases List.mem_append.1 h with h | h
    · exact h2.keys kb h hr
    · simp at h; subst h; exact .inr (hst.inv.new _ hbm)
  · intro kb h hr hq
    rcases List.mem_append.1 h with h | h
    · exact h2.disj kb h hr hq
    · simp at h; subst h; exact hnd.2.2 _ hq _ (List.mem_singleton.2 rfl) rfl

theorem St.pc0 (hst : St ⟨nn, [], w0, fun _ => True, []⟩ T L a w) : St ⟨nn, [], w0, Pk w0.heap.size [], Pf []⟩ T L a w :=
  hst.say Pk.nil Pk.stable (fun _ h => by cases h) (fun _ _ _ h => by cases h)

/-- A row as a piece. -/
abbrev pRow (r : RS) : Pc := ⟨r.at, r.F⟩

theorem pRow_ok {r : RS} (h : r.at w) : PcOk (pRow r) w := ⟨h, Row.stable, Row.low h, Row.nodup h⟩

end
end Go.Sx
