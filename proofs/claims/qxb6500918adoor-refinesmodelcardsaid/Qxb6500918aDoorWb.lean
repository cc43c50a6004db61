/-
  Waking and delivering commute: what a send and a receive of the model are to the kernel's.
-/
import Derived.Test.Qxb6500918aDoorUj
namespace Go.Proofs.Qxb6500918aDoor
open Go.Sx Go.Kn

section
variable {Z : MZ} {a : AK} {C : CP}

theorem upd_comm {α : Type} (f : Nat → α) {i j : Nat} (h : i ≠ j) (x y : α) : upd (upd f i x) j y = upd (upd f j y) i x := by
  funext k
  by_cases e1 : k = i
  · subst e1; rw [upd_other _ _ h, upd_same, upd_same]
  · by_cases e2 : k = j
    · subst e2; rw [upd_same, upd_other _ _ e1, upd_same]
    · rw [upd_other _ _ e2, upd_other _ _ e1, upd_other _ _ e1, upd_other _ _ e2]

theorem upd_upd' {α : Type} (f : Nat → α) (i : Nat) (x y : α) : upd (upd f i x) i y = upd f i y := by
  funext k
  by_cases e1 : k = i
  · subst e1; rw [upd_same, upd_same]
  · rw [upd_other _ _ e1, upd_other _ _ e1, upd_other _ _ e1]

theorem wake_setT_same {y : Nat} {t : Tcb} (h1 : t.st = (a.th y).st) (h2 : t.wait = (a.th y).wait) (h3 : t.prio = (a.th y).prio) : wakeA (a.setT y t) y = (wakeA a y).setT y { t with st := 1, wait := ⟨0, 0⟩ } := by
  have hp : place t = place (a.th y) := by unfold place; rw [h1, h2, h3]
  unfold wakeA AK.setT
  simp only [AK.mk.injEq, and_true, true_and, upd_same]
  refine ⟨?_, ?_, ?_⟩
  · rw [upd_upd', upd_upd']
  · rw [hp, h3]
  · rw [h1]

theorem wake_setT_other {x y : Nat} {t : Tcb} (h : x ≠ y) : wakeA (a.setT x t) y = (wakeA a y).setT x t := by
  unfold wakeA AK.setT
  simp only [AK.mk.injEq, and_true, true_and]
  rw [upd_other _ _ (Ne.symm h)]
  exact ⟨upd_comm _ h _ _, rfl, rfl⟩

theorem wake_tht (a : AK) (t : Nat) : (wakeA a t).th t = { a.th t with st := 1, wait := ⟨0, 0⟩ } := upd_same _ _ _
theorem wake_tho' {f t : Nat} (h : f ≠ t) : (wakeA a t).th f = a.th f := upd_other _ _ h

/-- The receiver is woken. -/
theorem wake_deliver {f t : Nat} (h : f ≠ t) : deliverA (wakeA a t) C f t = (wakeA (deliverA a C f t).1 t, (deliverA a C f t).2) := by
  have hf : (wakeA a t).th f = a.th f := wake_tho' h
  have ht := wake_tht a t
  have key : ∀ g : Int, (wakeA a t).setT t { (wakeA a t).th t with m0 := ((wakeA a t).th f).m0, m1 := ((wakeA a t).th f).m1, m2 := ((wakeA a t).th f).m2, m3 := ((wakeA a t).th f).m3, len := ((wakeA a t).th f).len, badge := ((wakeA a t).th f).badge, got := g } = wakeA (a.setT t { a.th t with m0 := (a.th f).m0, m1 := (a.th f).m1, m2 := (a.th f).m2, m3 := (a.th f).m3, len := (a.th f).len, badge := (a.th f).badge, got := g }) t := fun g => by
    rw [hf, ht]
    exact (wake_setT_same (a := a) (y := t) (t := { a.th t with m0 := (a.th f).m0, m1 := (a.th f).m1, m2 := (a.th f).m2, m3 := (a.th f).m3, len := (a.th f).len, badge := (a.th f).badge, got := g }) rfl rfl rfl).symm
  have h0 : del0A (wakeA a t) f t = wakeA (del0A a f t) t := key 0
  by_cases hg : (a.th f).grant = false ∨ (a.th f).xfer = 0
  · rw [deliver_no h hg, deliver_no h (by rw [hf]; exact hg), h0]
  · have hg1 : (a.th f).grant = true := by cases hq : (a.th f).grant with | true => rfl | false => exact absurd (.inl hq) hg
    have hg2 : (a.th f).xfer ≠ 0 := fun hq => hg (.inr hq)
    obtain ⟨s1, k1, e1⟩ : ∃ s1 k1, lookP C.ent (a.th f).cs (IntKind.wrap .u32 ((a.th f).xfer - 1)) = (s1, k1) := ⟨_, _, rfl⟩
    obtain ⟨s2, k2, e2⟩ : ∃ s2 k2, lookP C.ent (a.th t).cs (a.th t).dst = (s2, k2) := ⟨_, _, rfl⟩
    have e1' : lookP C.ent ((wakeA a t).th f).cs (IntKind.wrap .u32 (((wakeA a t).th f).xfer - 1)) = (s1, k1) := by rw [hf]; exact e1
    have e2' : lookP C.ent ((wakeA a t).th t).cs ((wakeA a t).th t).dst = (s2, k2) := by rw [ht]; exact e2
    by_cases hk : k1 = 0 ∧ k2 = 0
    · obtain ⟨dc, dk, ed⟩ : ∃ dc dk, deriveP C.cel s2.toNat s1.toNat 7 0 = (dc, dk) := ⟨_, _, rfl⟩
      rw [deliver_yes h hg1 hg2 e1 e2 hk.1 hk.2 ed, deliver_yes h (by rw [hf]; exact hg1) (by rw [hf]; exact hg2) e1' e2' hk.1 hk.2 ed]
      dsimp only
      by_cases e : dk = 0
      · rw [if_pos e, if_pos e, key 1]
      · rw [if_neg e, if_neg e, h0]
    · rw [deliver_bad h hg1 hg2 e1 e2 hk, deliver_bad h (by rw [hf]; exact hg1) (by rw [hf]; exact hg2) e1' e2' hk, h0]

/-- The sender is woken. -/
theorem wake_deliver' {f t : Nat} (h : f ≠ t) : deliverA (wakeA a f) C f t = (wakeA (deliverA a C f t).1 f, (deliverA a C f t).2) := by
  have ht : (wakeA a f).th t = a.th t := wake_tho' (Ne.symm h)
  have hf := wake_tht a f
  have key : ∀ g : Int, (wakeA a f).setT t { (wakeA a f).th t with m0 := ((wakeA a f).th f).m0, m1 := ((wakeA a f).th f).m1, m2 := ((wakeA a f).th f).m2, m3 := ((wakeA a f).th f).m3, len := ((wakeA a f).th f).len, badge := ((wakeA a f).th f).badge, got := g } = wakeA (a.setT t { a.th t with m0 := (a.th f).m0, m1 := (a.th f).m1, m2 := (a.th f).m2, m3 := (a.th f).m3, len := (a.th f).len, badge := (a.th f).badge, got := g }) f := fun g => by
    rw [hf, ht]
    exact (wake_setT_other (Ne.symm h)).symm
  have h0 : del0A (wakeA a f) f t = wakeA (del0A a f t) f := key 0
  by_cases hg : (a.th f).grant = false ∨ (a.th f).xfer = 0
  · rw [deliver_no h hg, deliver_no h (by rw [hf]; exact hg), h0]
  · have hg1 : (a.th f).grant = true := by cases hq : (a.th f).grant with | true => rfl | false => exact absurd (.inl hq) hg
    have hg2 : (a.th f).xfer ≠ 0 := fun hq => hg (.inr hq)
    obtain ⟨s1, k1, e1⟩ : ∃ s1 k1, lookP C.ent (a.th f).cs (IntKind.wrap .u32 ((a.th f).xfer - 1)) = (s1, k1) := ⟨_, _, rfl⟩
    obtain ⟨s2, k2, e2⟩ : ∃ s2 k2, lookP C.ent (a.th t).cs (a.th t).dst = (s2, k2) := ⟨_, _, rfl⟩
    have e1' : lookP C.ent ((wakeA a f).th f).cs (IntKind.wrap .u32 (((wakeA a f).th f).xfer - 1)) = (s1, k1) := by rw [hf]; exact e1
    have e2' : lookP C.ent ((wakeA a f).th t).cs ((wakeA a f).th t).dst = (s2, k2) := by rw [ht]; exact e2
    by_cases hk : k1 = 0 ∧ k2 = 0
    · obtain ⟨dc, dk, ed⟩ : ∃ dc dk, deriveP C.cel s2.toNat s1.toNat 7 0 = (dc, dk) := ⟨_, _, rfl⟩
      rw [deliver_yes h hg1 hg2 e1 e2 hk.1 hk.2 ed, deliver_yes h (by rw [hf]; exact hg1) (by rw [hf]; exact hg2) e1' e2' hk.1 hk.2 ed]
      dsimp only
      by_cases e : dk = 0
      · rw [if_pos e, if_pos e, key 1]
      · rw [if_neg e, if_neg e, h0]
    · rw [deliver_bad h hg1 hg2 e1 e2 hk, deliver_bad h (by rw [hf]; exact hg1) (by rw [hf]; exact hg2) e1' e2' hk, h0]

theorem erase_snoc {l : List Nat} {y : Nat} (h : y ∉ l) : (l ++ [y]).erase y = l := by
  rw [List.erase_append_right _ h]; simp

/-- A thread that is woken and then blocked is blocked. -/
theorem wake_block {y : Nat} (hq : y ∉ qCut a.q (place (a.th y)) y (.r (a.th y).prio.toNat)) (hs : (a.th y).st ≠ 2) (o : Rf) : blockA (wakeA a y) y 6 o = blockA a y 6 o := by
  unfold blockA
  rw [wake_tht]
  unfold wakeA
  simp only [AK.mk.injEq, and_true, true_and, if_true]
  refine ⟨upd_upd' _ _ _ _, ?_, ?_⟩
  · funext L
    have hp : place { a.th y with st := 1, wait := ⟨0, 0⟩ } = some (.r (a.th y).prio.toNat) := by unfold place; simp
    rw [hp]
    generalize hQ : qCut a.q (place (a.th y)) y = Q at hq
    unfold qCut qPush
    by_cases e : L = .r (a.th y).prio.toNat
    · subst e
      rw [if_pos rfl, if_pos rfl]
      exact erase_snoc hq
    · rw [if_neg (fun q => e (by simpa using q.symm)), if_neg e]
  · rw [if_neg hs, if_neg (by decide)]

end
end Go.Proofs.Qxb6500918aDoor
