/-
  What holds between the threads and the store, step by step.
-/
import Derived.Test.Qxb6500918aDoorLg
import Derived.Test.Qxb6500918aDoorLf
namespace Go.Kn
open Go.Sx

def sw (x : Tcb) : Int × Rf := (x.st, x.wait)

structure XT (E : Nat → Ent) (W : Nat → Int) (i : Nat) (p : Int × Rf) : Prop where
  rng : 0 ≤ p.1 ∧ p.1 ≤ 6
  live : p.1 ≠ 0 → (E i).ty = 3
  idle : p.1 ≤ 2 → p.2 = ⟨0, 0⟩
  w4 : p.1 = 3 ∨ p.1 = 4 → typeOfP E p.2 = 4
  w5 : p.1 = 5 → typeOfP E p.2 = 5 ∧ W p.2.idx.toNat = 0
  w6 : p.1 = 6 → typeOfP E p.2 = 3

def XI (S : KP) (E : Nat → Ent) : Prop := ∀ i, i < 256 → XT E S.word i (sw (S.tcb i))

theorem xt_idle {E : Nat → Ent} {W : Nat → Int} {i : Nat} {s : Int} (h : 0 ≤ s ∧ s ≤ 2) (hl : s ≠ 0 → (E i).ty = 3) : XT E W i (s, ⟨0, 0⟩) :=
  ⟨⟨h.1, by show s ≤ 6; omega⟩, hl, fun _ => rfl, fun hq => by have h1 : s = 3 ∨ s = 4 := hq; omega, fun hq => by have h1 : s = 5 := hq; omega, fun hq => by have h1 : s = 6 := hq; omega⟩

/-- Threads stay as they are or come to rest; words stay or are emptied. -/
structure Tame (S S' : KP) : Prop where
  t : ∀ i, sw (S'.tcb i) = sw (S.tcb i) ∨ ((0 ≤ (S'.tcb i).st ∧ (S'.tcb i).st ≤ 2) ∧ (S'.tcb i).wait = ⟨0, 0⟩ ∧ ((S'.tcb i).st ≠ 0 → (S.tcb i).st ≠ 0))
  w : ∀ i, S'.word i = S.word i ∨ S'.word i = 0

theorem Tame.refl (S : KP) : Tame S S := ⟨fun _ => .inl rfl, fun _ => .inl rfl⟩
theorem Tame.trans {S S1 S2 : KP} (h : Tame S S1) (h' : Tame S1 S2) : Tame S S2 where
  t i := by
    rcases h'.t i with a | a
    · rw [a]
      rcases h.t i with b | b
      · exact .inl b
      · have e1 : (S2.tcb i).st = (S1.tcb i).st := congrArg Prod.fst a
        have e2 : (S2.tcb i).wait = (S1.tcb i).wait := congrArg Prod.snd a
        rw [e1, e2]; exact .inr b
    · refine .inr ⟨a.1, a.2.1, fun hq => ?_⟩
      have h1 := a.2.2 hq
      rcases h.t i with b | b
      · have e1 : (S1.tcb i).st = (S.tcb i).st := congrArg Prod.fst b
        rw [← e1]; exact h1
      · exact b.2.2 h1
  w i := by
    rcases h'.w i with a | a
    · rw [a]; exact h.w i
    · exact .inr a

theorem XI.tame {S S' : KP} {E : Nat → Ent} (h : XI S E) (ht : Tame S S') : XI S' E := by
  intro i hi
  rcases ht.t i with a | a
  · have x := h i hi
    rw [a]
    refine ⟨x.rng, x.live, x.idle, x.w4, fun hq => ⟨(x.w5 hq).1, ?_⟩, x.w6⟩
    rcases ht.w (sw (S.tcb i)).2.idx.toNat with b | b
    · rw [b]; exact (x.w5 hq).2
    · exact b
  · have := xt_idle (E := E) (W := S'.word) (i := i) (s := (S'.tcb i).st) a.1 (fun hq => (h i hi).live (a.2.2 hq))
    rw [← a.2.1] at this; exact this

theorem tame_of {S S' : KP} (h : ∀ i, sw (S'.tcb i) = sw (S.tcb i)) (hw : S'.word = S.word) : Tame S S' := ⟨fun i => .inl (h i), fun i => .inl (by rw [hw])⟩

theorem sw_setT {S : KP} {j : Nat} {a : Tcb} (h : sw a = sw (S.tcb j)) (i : Nat) : sw ((S.setT j a).tcb i) = sw (S.tcb i) := by
  by_cases e : i = j
  · subst e; rw [setT_same, h]
  · rw [setT_other _ _ e]

theorem tame_setT {S : KP} {j : Nat} {a : Tcb} (h : sw a = sw (S.tcb j)) : Tame S (S.setT j a) := tame_of (sw_setT h) rfl

theorem sw_unl {x y : Tcb} (h : unl x = unl y) : sw x = sw y := by
  have h1 : sw (unl x) = sw (unl y) := by rw [h]
  exact h1

theorem sw_leave (S : KP) (t : Int) (i : Nat) : sw ((leaveP S t).tcb i) = if i = t.toNat then (0, ⟨0, 0⟩) else sw (S.tcb i) := by
  rw [sw_unl (unl_leave S t i)]; split <;> rfl
theorem sw_wake (S : KP) (t : Int) (i : Nat) : sw ((wakeP S t).tcb i) = if i = t.toNat then (1, ⟨0, 0⟩) else sw (S.tcb i) := by
  rw [sw_unl (unl_wake S t i)]; split <;> rfl
theorem sw_block (S : KP) (t s : Int) (o : Rf) (i : Nat) : sw ((blockP S t s o).tcb i) = if i = t.toNat then (s, o) else sw (S.tcb i) := by
  rw [sw_unl (unl_block S t s o i)]; split <;> rfl

theorem tame_leave (S : KP) (t : Int) : Tame S (leaveP S t) := ⟨fun i => by
  have h := sw_leave S t i
  split at h
  · have h1 : ((leaveP S t).tcb i).st = 0 := congrArg Prod.fst h
    have h2 : ((leaveP S t).tcb i).wait = ⟨0, 0⟩ := congrArg Prod.snd h
    exact .inr ⟨by omega, h2, fun hq => absurd h1 hq⟩
  · exact .inl h, fun i => .inl (by rw [(leave_rst S t).w])⟩

theorem tame_wake {S : KP} {t : Int} (ht : (S.tcb t.toNat).st ≠ 0) : Tame S (wakeP S t) := ⟨fun i => by
  have h := sw_wake S t i
  split at h
  · rename_i e
    have h1 : ((wakeP S t).tcb i).st = 1 := congrArg Prod.fst h
    have h2 : ((wakeP S t).tcb i).wait = ⟨0, 0⟩ := congrArg Prod.snd h
    exact .inr ⟨by omega, h2, fun _ => by rw [e]; exact ht⟩
  · exact .inl h, fun i => .inl (by rw [(wake_rst S t).w])⟩

section
variable {S : KP} {E : Nat → Ent}

theorem XI.wake (h : XI S E) {t : Int} (ht : (E t.toNat).ty = 3) : XI (wakeP S t) E := by
  intro i hi
  rw [sw_wake, (wake_rst S t).w]
  split
  · rename_i e; exact xt_idle (by omega) (fun _ => by rw [e]; exact ht)
  · exact h i hi

theorem XI.block (h : XI S E) {t s : Int} {o : Rf} (ht : (E t.toNat).ty = 3) (hs : 3 ≤ s ∧ s ≤ 6) (h4 : s = 3 ∨ s = 4 → typeOfP E o = 4) (h5 : s = 5 → typeOfP E o = 5 ∧ S.word o.idx.toNat = 0) (h6 : s = 6 → typeOfP E o = 3) : XI (blockP S t s o) E := by
  intro i hi
  rw [sw_block, (block_rst S t s o).w]
  split
  · rename_i e
    exact ⟨⟨by show 0 ≤ s; omega, hs.2⟩, fun _ => by rw [e]; exact ht, fun hq => by have h1 : s ≤ 2 := hq; omega, h4, h5, h6⟩
  · exact h i hi

theorem XI.lv (h : XI S E) {i : Nat} (hi : i < 256) (hs : (S.tcb i).st ≠ 0) : (E i).ty = 3 := (h i hi).live hs

theorem typeOf_ref {t : Int} (h0 : 0 ≤ t ∧ t < 256) : typeOfP E (refP E t) = (E t.toNat).ty := by
  unfold refP
  rw [if_neg (by omega)]
  have h1 := refAt_idx (E := E) (i := t) ⟨h0.1, by omega⟩
  unfold typeOfP
  rw [h1, if_neg (by omega), if_neg (by simp [refAtP])]

/-- The ones who wait on an object: their states say its type. -/
theorem XI.waits (h : XI S E) {Q : QL → List Nat} (hQ : LIQ S Q) (hR : RI S) {i x : Nat} (hi : i < 256) (hx : x ∈ Q (.w i)) :
    x < 256 ∧ (S.tcb x).wait.idx = (i : Int) ∧ (((S.tcb x).st = 3 ∨ (S.tcb x).st = 4) ∧ (E i).ty = 4 ∨ (S.tcb x).st = 5 ∧ (E i).ty = 5 ∧ S.word i = 0) := by
  have hx2 := (hQ.lx.ch (L := .w i) hi).lt x hx
  have hp := (hQ.lx.mem (L := .w i) hi x hx2).1 hx
  have hw := (hR.t hx2).wi
  have xt := h x hx2
  have key : ∀ k, k ≠ 0 → typeOfP E (S.tcb x).wait = k → (E (S.tcb x).wait.idx.toNat).ty = k := by
    intro k hk ht
    unfold typeOfP at ht
    rw [if_neg (by omega)] at ht
    split at ht
    · exact absurd ht.symm hk
    · exact ht
  unfold place at hp
  split at hp
  · cases hp
  · split at hp
    · rename_i h3
      simp only [Option.some.injEq, QL.w.injEq] at hp
      refine ⟨hx2, by omega, ?_⟩
      have e1 := xt.w4
      have e2 := xt.w5
      rcases h3 with h3 | h3 | h3
      · exact .inl ⟨.inl h3, by have := key 4 (by decide) (e1 (.inl h3)); rw [hp] at this; exact this⟩
      · exact .inl ⟨.inr h3, by have := key 4 (by decide) (e1 (.inr h3)); rw [hp] at this; exact this⟩
      · have e3 := e2 h3
        refine .inr ⟨h3, ?_, ?_⟩
        · have := key 5 (by decide) e3.1; rw [hp] at this; exact this
        · have h9 : S.word (S.tcb x).wait.idx.toNat = 0 := e3.2
          rw [hp] at h9; exact h9
    · cases hp

theorem typeOf_ty {o : Rf} {k : Int} (hk : k ≠ 0) (h : typeOfP E o = k) : (E o.idx.toNat).ty = k := by
  unfold typeOfP at h
  split at h
  · exact absurd h.symm hk
  · split at h
    · exact absurd h.symm hk
    · exact h

/-- A signal, seen plainly. -/
theorem signal_cases (h : XI S E) {Q : QL → List Nat} (hQ : LIQ S Q) (hR : RI S) {o : Rf} (ho : 0 ≤ o.idx ∧ o.idx < 256) (ht : typeOfP E o = 5) :
    (Q (.w o.idx.toNat) = [] ∧ oldestP S o 5 = -1) ∨ ∃ x r, Q (.w o.idx.toNat) = x :: r ∧ x < 256 ∧ oldestP S o 5 = (x : Int) ∧ (S.tcb x).st = 5 ∧ S.word o.idx.toNat = 0 := by
  have hty := typeOf_ty (by decide) ht
  have hd := hQ.head (i := o.idx.toNat) (by omega)
  unfold oldestP
  cases hq : Q (.w o.idx.toNat) with
  | nil => rw [hq] at hd; exact .inl ⟨rfl, by rw [if_neg (fun hz => hz.1 hd)]⟩
  | cons x r =>
    right
    have hx := h.waits hQ hR (i := o.idx.toNat) (x := x) (by omega) (by rw [hq]; simp)
    rw [hq] at hd
    have hd' : (S.wq o.idx.toNat).head = (x : Int) := hd
    have h5 : (S.tcb x).st = 5 ∧ S.word o.idx.toNat = 0 := by
      rcases hx.2.2 with a | a
      · rw [hty] at a; exact absurd a.2 (by decide)
      · exact ⟨a.1, a.2.2⟩
    refine ⟨x, r, rfl, hx.1, ?_, h5⟩
    rw [hd', if_pos ⟨by omega, by rw [Int.toNat_natCast]; exact h5.1⟩]

theorem XI.signal (h : XI S E) (h2 : Ok2 S) {o : Rf} (ho : 0 ≤ o.idx ∧ o.idx < 256) (ht : typeOfP E o = 5) (b : Int) : XI (signalP S o b) E := by
  obtain ⟨Q, hQ⟩ := h2.li
  have hty := typeOf_ty (by decide) ht
  unfold signalP
  rcases signal_cases h hQ h2.ri ho ht with ⟨hq, e⟩ | ⟨x, r, hq, hx, e, hs, _⟩
  · rw [e, if_neg (by decide)]
    intro i hi
    have xt := h i hi
    refine ⟨xt.rng, xt.live, xt.idle, xt.w4, fun h5 => ⟨(xt.w5 h5).1, ?_⟩, xt.w6⟩
    dsimp only
    by_cases e2 : (sw (S.tcb i)).2.idx.toNat = o.idx.toNat
    · have h3 : place (S.tcb i) = some (.w o.idx.toNat) := by
        have h5' : (S.tcb i).st = 5 := h5
        unfold place; rw [if_neg (by omega), if_pos (by omega)]; rw [show (S.tcb i).wait.idx.toNat = o.idx.toNat from e2]
      have := (hQ.lx.mem (L := .w o.idx.toNat) (show _ < 256 by omega) i hi).2 h3
      rw [hq] at this; cases this
    · rw [upd_other _ _ e2]; exact (xt.w5 h5).2
  · rw [e, if_pos (by omega), Int.toNat_natCast]
    have h1 : XI (S.setT x { S.tcb x with badge := b }) E := h.tame (tame_setT rfl)
    have hl : (E x).ty = 3 := h.lv hx (by omega)
    generalize S.setT x { S.tcb x with badge := b } = S1 at h1 ⊢
    exact h1.wake (t := (x : Int)) (by rw [Int.toNat_natCast]; exact hl)

theorem tame_load (S : KP) (t : Int) (ws : List Int) : Tame S (loadP S t ws) := by
  have key : ∀ (x : Tcb) (ws : List Int), sw (putMsg x ws) = sw x := by
    intro x ws
    rcases ws with _ | ⟨a, _ | ⟨b, _ | ⟨c, _ | ⟨d, _⟩⟩⟩⟩ <;> rfl
  unfold loadP
  refine (tame_setT ?_).trans ((tame_setT ?_).trans (tame_setT ?_))
  · rfl
  · exact key _ _
  · rfl

theorem tame_deliver0 (S : KP) (f t : Int) : Tame S (deliver0 S f t) := by
  unfold deliver0
  refine (tame_setT ?_).trans ((tame_setT ?_).trans ((tame_setT ?_).trans (tame_setT ?_))) <;> rfl

theorem tame_deliver (S : KP) (C : CP) (f t : Int) : Tame S (deliverP S C f t).1 := by
  have h0 := tame_deliver0 S f t
  unfold deliverP; dsimp only
  split
  · exact h0
  split
  · split
    · exact h0.trans (tame_setT rfl)
    · exact h0
  · exact h0

theorem deliver_ent (S : KP) (C : CP) (f t : Int) : (deliverP S C f t).2.ent = C.ent := by
  unfold deliverP; dsimp only
  split
  · rfl
  split
  · split <;> rfl
  · rfl

theorem XI.settle (h : XI S E) {f t : Int} (hf : (E f.toNat).ty = 3) (ht : 0 ≤ t ∧ t < 256) (ht3 : (E t.toNat).ty = 3) : XI (settleP S E f t) E := by
  unfold settleP
  split
  · have h1 := h.block (t := f) (s := 6) (o := refP E t) hf (by decide) (fun hq => by omega) (fun hq => by omega) (fun _ => by rw [typeOf_ref ht]; exact ht3)
    exact h1.tame (tame_setT rfl)
  · split
    · exact h.wake hf
    · exact h

end
end Go.Kn
