/-
  What holds of the model between calls, beside its memory; what a capability names.
-/
import Derived.Test.Qxb6500918aDoorUl
namespace Go.Proofs.Qxb6500918aDoor
open Go.Sx Go.Kn

structure MI (Z : MZ) (a : AK) (C : CP) : Prop where
  ci : CI C
  mp : MP Z a
  tk : ∀ x ∈ sl Z.tl, TOk (a.th x)
  ky : ∀ i : Nat, i < 256 → Z.ky i = refAtP C.ent (i : Int)
  td : ∀ i : Nat, i < 256 → ((C.ent i).ty = 3 ↔ i ∈ sl Z.tl)
  qd : ∀ i : Nat, i < 256 → ((C.ent i).ty = 4 ∨ (C.ent i).ty = 5 ↔ i ∈ sl Z.ql)
  ir : ∀ l : Nat, l < 16 → 0 ≤ (a.irq l).ntfn.idx ∧ (a.irq l).ntfn.idx < 256

section
variable {n : Nat} {K : List Nat} {w0 : World} {mb : Nat} {Z Z' : MZ} {R R' : MR} {a a' : AK} {C C' : CP} {w w' : World} {T : Slots} {L : Mem} {act : Act}

theorem find_factA (hC : CI C) {ad want need : Int} (hi : 0 ≤ (a.th a.cur.toNat).cs.idx) (ha : 0 ≤ ad) {c : Cp} {s k : Int} (h : findA a C ad want need = (c, s, k)) (hk : k = 0) :
    ∃ i j : Nat, i < 256 ∧ j < 16 ∧ C.pres i = true ∧ s = ((i * 16 + j : Nat) : Int) ∧ c = (C.cel (i * 16 + j)).cap ∧ c.ty = want ∧ c.ty ≠ 0 ∧ CapOk C.ent c := by
  unfold findA at h
  rcases look_cases hC (r := (a.th a.cur.toNat).cs) hi ha with e | ⟨i, j, h1, h2, h3, e⟩
  · rw [e] at h; simp at h; omega
  · rw [e] at h
    simp only [ne_eq, not_true_eq_false, if_false, Int.toNat_natCast] at h
    have hcp : (C.cel (i * 16 + j)).cap.ty ≠ 0 → CapOk C.ent (C.cel (i * 16 + j)).cap := fun hq => hC.cap ⟨by omega, by rw [show (i * 16 + j) / 16 = i by omega]; exact h3, hq⟩
    split at h
    · simp at h; omega
    · rename_i hz
      split at h
      · simp at h; omega
      · rename_i hw
        split at h
        · simp at h; omega
        · simp only [Prod.mk.injEq] at h
          obtain ⟨rfl, rfl, rfl⟩ := h
          exact ⟨i, j, h1, h2, h3, rfl, rfl, Classical.byContradiction fun hq => hw hq, hz, hcp hz⟩

theorem ref_live {E : Nat → Ent} {r : Rf} (hr : 0 ≤ r.idx ∧ r.idx < 256) (hg : (E r.idx.toNat).gen = r.gen) : refAtP E ((r.idx.toNat : Nat) : Int) = r := by
  have h1 := refAt_idx (E := E) (i := ((r.idx.toNat : Nat) : Int)) ⟨by omega, by omega⟩
  have h2 : (refAtP E ((r.idx.toNat : Nat) : Int)).gen = r.gen := by
    unfold refAtP
    simp only [Int.toNat_natCast]
    exact hg
  obtain ⟨x, y⟩ := r
  have h3 : (refAtP E (((⟨x, y⟩ : Rf).idx.toNat : Nat) : Int)).idx = x := by rw [h1]; show ((x.toNat : Nat) : Int) = x; have : 0 ≤ x := hr.1; omega
  show refAtP E _ = ⟨x, y⟩
  generalize refAtP E (((⟨x, y⟩ : Rf).idx.toNat : Nat) : Int) = q at h2 h3
  cases q
  simp only at h2 h3
  rw [h2, h3]

/-- What a capability of a wanted type names. -/
theorem MI.capQ (h : MI Z a C) {ad want need : Int} (hi : 0 ≤ (a.th a.cur.toNat).cs.idx) (ha : 0 ≤ ad) (hw : want = 4 ∨ want = 5) {c : Cp} {s : Int} (hf : findA a C ad want need = (c, s, 0)) : ∃ i : Nat, i ∈ sl Z.ql ∧ c = ⟨c.ty, Z.ky i, c.rights, c.badge⟩ := by
  obtain ⟨_, _, _, _, _, _, _, h1, _, h2⟩ := find_factA h.ci hi ha hf rfl
  rcases h2 with h2 | h2
  · exfalso; have := h2.1; omega
  obtain ⟨_, _, h3, h4, h5, h6⟩ := h2
  have h7 := ref_live ⟨h3, h4⟩ h5
  have h8 : c.obj.idx.toNat < 256 := by omega
  refine ⟨c.obj.idx.toNat, (h.qd _ h8).1 (by omega), ?_⟩
  rw [h.ky _ h8, h7]

theorem MI.capT (h : MI Z a C) {ad need : Int} (hi : 0 ≤ (a.th a.cur.toNat).cs.idx) (ha : 0 ≤ ad) {c : Cp} {s : Int} (hf : findA a C ad 3 need = (c, s, 0)) : ∃ i : Nat, i ∈ sl Z.tl ∧ c = ⟨c.ty, Z.ky i, c.rights, c.badge⟩ := by
  obtain ⟨_, _, _, _, _, _, _, h1, _, h2⟩ := find_factA h.ci hi ha hf rfl
  rcases h2 with h2 | h2
  · exfalso; have := h2.1; omega
  obtain ⟨_, _, h3, h4, h5, h6⟩ := h2
  have h7 := ref_live ⟨h3, h4⟩ h5
  have h8 : c.obj.idx.toNat < 256 := by omega
  refine ⟨c.obj.idx.toNat, (h.td _ h8).1 (by omega), ?_⟩
  rw [h.ky _ h8, h7]

/-- The words of the event, later in the walk. -/
theorem words_now (hst : St (MCx n (mdF mb Z R C) w mb Z' R' a' C') T L act w') {xo : Option Addr} {ws : List Int} (h : WordsAt (mdF mb Z R C) w xo ws) : WordsAt (mdF mb Z' R' C') w' xo ws := by
  rcases h with h | ⟨b, k, h1, h2, h3, h4⟩
  · exact .inl h
  · have hz : w.heap.size ≤ w'.heap.size := hst.frame.size
    refine .inr ⟨b, k, h1, Nat.lt_of_lt_of_le h2 hz, cellsAt_fr h3 hst.frame h2 h4, fun hq => ?_⟩
    rcases (hst.inv.2.1 b hq).1 with h5 | h5
    · exact h4 h5
    · omega

theorem words_loc (hst : St (MCx n K w0 mb Z R a C) T L act w) {k b : Nat} {v : Int} {ty : TypeId} (hk : nth L k = some (b, ⟨[.int .u64 v], ty, false⟩)) : WordsAt (mdF mb Z R C) w (some ⟨b, 0, none⟩) [v] := by
  have h1 := hst.kn hk
  refine .inr ⟨b, 0, rfl, lt_of_heap h1, cellsAt_blk h1 ⟨rfl, trivial⟩, ?_⟩
  rw [nth_eq] at hk
  exact hst.disj _ (List.mem_of_getElem? hk) rfl

theorem curR_of {x : Nat} (hcu : a.cur = ((x : Nat) : Int)) : curR Z a = Z.ky x := by
  unfold curR; rw [if_neg (by omega), hcu, Int.toNat_natCast]

/-- What the output shows of thread x. -/
def repX (a : AK) (x : Nat) : Outp := { out0 with badge := (a.th x).badge, m0 := (a.th x).m0, m1 := (a.th x).m1, m2 := (a.th x).m2, m3 := (a.th x).m3, len := (a.th x).len, got := (a.th x).got }

/-- What a system call leaves. -/
def CallR (mb : Nat) (Z : MZ) (R : MR) (C : CP) (w : World) (r : AK × CP × Outp × Int) (x : Nat) (e : Ending) (w' : World) : Prop :=
  ∃ got : Bool, e = .returned (.tuple #[.int .u8 r.2.2.2, .bool got]) ∧ r.2.2.1 = (if got then repX r.1 x else out0) ∧ ∃ Z' R', MG mb Z R C w Z' R' r.1 r.2.1 w' ∧ (got = true → Z' = Z)

end
end Go.Proofs.Qxb6500918aDoor
