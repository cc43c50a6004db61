/-
  The model's invariant, from the kernel's.
-/
import Derived.Test.Qxb6500918aDoorVh
namespace Go.Proofs.Qxb6500918aDoor
open Go.Sx Go.Kn

/-- The entries are the live objects, by their names. -/
structure ZOk (Z : MZ) (E : Nat → Ent) : Prop where
  ky : ∀ i : Nat, i < 256 → Z.ky i = refAtP E (i : Int)
  td : ∀ i : Nat, i < 256 → ((E i).ty = 3 ↔ i ∈ sl Z.tl)
  qd : ∀ i : Nat, i < 256 → ((E i).ty = 4 ∨ (E i).ty = 5 ↔ i ∈ sl Z.ql)
  tx : ∀ x ∈ sl Z.tl, x < 256
  qx : ∀ x ∈ sl Z.ql, x < 256

section
variable {Z : MZ} {a : AK} {C : CP} {S : KP} {E : Nat → Ent} {n : Int}

theorem ZOk.type (h : ZOk Z E) {i : Nat} (hi : i < 256) : typeOfP E (Z.ky i) = (E i).ty := by
  have := typeOf_ref (E := E) (t := (i : Int)) ⟨by omega, by omega⟩
  unfold refP at this
  rw [if_neg (by omega), ← h.ky i hi, Int.toNat_natCast] at this
  exact this

theorem ZOk.idx (h : ZOk Z E) {i : Nat} (hi : i < 256) : (Z.ky i).idx = (i : Int) := by
  rw [h.ky i hi]; exact refAt_idx ⟨by omega, by omega⟩

theorem MP_of (ab : Abs S a) (xi : XI S E) (gi : ∀ i, 1 ≤ (E i).gen) (zo : ZOk Z E) : MP Z a := by
  have hpl : ∀ x, x < 256 → place (a.th x) = place (S.tcb x) := fun x hx => by rw [ab.th x hx]; rfl
  have hst : ∀ x, x < 256 → (a.th x).st = (S.tcb x).st := fun x hx => by rw [ab.th x hx]; rfl
  have hwt : ∀ x, x < 256 → (a.th x).wait = (S.tcb x).wait := fun x hx => by rw [ab.th x hx]; rfl
  have hw : ∀ x, x < 256 → ∀ i, place (S.tcb x) = some (.w i) → i ∈ sl Z.ql ∧ (S.tcb x).wait = Z.ky i := fun x hx i hp => by
    have hx6 := xi x hx
    have hwi := (ab.ri.t hx).wi
    have h3 : ((S.tcb x).st = 3 ∨ (S.tcb x).st = 4 ∨ (S.tcb x).st = 5) ∧ i = (S.tcb x).wait.idx.toNat := by
      unfold place at hp
      split at hp
      · simp at hp
      · split at hp
        · rename_i h3; simp at hp; exact ⟨h3, hp.symm⟩
        · simp at hp
    obtain ⟨h3, rfl⟩ := h3
    have hi : (S.tcb x).wait.idx.toNat < 256 := by omega
    have key : ∀ k : Int, k ≠ 0 → (k = 4 ∨ k = 5) → typeOfP E (S.tcb x).wait = k → (S.tcb x).wait.idx.toNat ∈ sl Z.ql ∧ (S.tcb x).wait = Z.ky (S.tcb x).wait.idx.toNat := fun k hk hk2 ht => by
      have h := ref_of_type hwi hk ht
      exact ⟨(zo.qd _ hi).1 (by rw [h.2]; exact hk2), by rw [zo.ky _ hi, h.1]⟩
    rcases h3 with h3 | h3 | h3
    · exact key 4 (by decide) (.inl rfl) (hx6.w4 (.inl h3))
    · exact key 4 (by decide) (.inl rfl) (hx6.w4 (.inr h3))
    · exact key 5 (by decide) (.inr rfl) (hx6.w5 h3).1
  refine ⟨fun L hL => (ab.li.lx.ch hL).nd, fun L hL x hx => ?_, fun x hx L hp => ?_, fun x hx i hp => ?_, fun x hx hn i hi => ?_, fun x hx => ?_, fun x hx => ?_, ?_⟩
  · have hx2 := (ab.li.lx.ch hL).lt x hx
    have h1 := (ab.li.lx.mem hL x hx2).1 hx
    refine ⟨(zo.td x hx2).1 (xi.lv hx2 ?_), by rw [hpl x hx2]; exact h1⟩
    intro h0
    have h1' : place (S.tcb x) = some L := h1
    unfold place at h1'
    rw [h0] at h1'
    simp at h1'
  · have hx2 := zo.tx x hx
    rw [hpl x hx2] at hp
    exact (ab.li.lx.mem (place_ok ab.ri hx2 hp) x hx2).2 hp
  · have hx2 := zo.tx x hx
    rw [hpl x hx2] at hp
    rw [hwt x hx2]
    exact hw x hx2 i hp
  · have hx2 := zo.tx x hx
    have hi2 := zo.qx i hi
    rw [hwt x hx2]
    intro e
    have hx6 := xi x hx2
    have hn' : ¬ ((S.tcb x).st = 3 ∨ (S.tcb x).st = 4 ∨ (S.tcb x).st = 5) := fun h3 => hn (S.tcb x).wait.idx.toNat (by rw [hpl x hx2]; exact place_b h3)
    have hr := hx6.rng
    have hr' : 0 ≤ (S.tcb x).st ∧ (S.tcb x).st ≤ 6 := hr
    by_cases h2 : (S.tcb x).st ≤ 2
    · have h0 : (S.tcb x).wait = ⟨0, 0⟩ := hx6.idle h2
      have hg : 1 ≤ (Z.ky i).gen := by rw [zo.ky i hi2]; exact gi i
      rw [e, h0] at hg
      exact absurd hg (by decide)
    · have h6 : (S.tcb x).st = 6 := by omega
      have ht : typeOfP E (S.tcb x).wait = 3 := hx6.w6 h6
      rw [← e, zo.type hi2] at ht
      have := (zo.qd i hi2).2 hi
      omega
  · have hx2 := zo.tx x hx
    have := (ab.ri.t hx2).pr
    rw [ab.th x hx2]; exact this
  · have hx2 := zo.tx x hx
    rw [hst x hx2, ab.cu]
    exact ab.li.cu x hx2
  · rw [ab.cu]
    by_cases hc : S.cur = -1
    · exact .inl hc
    · have h1 := lk_nat ab.ri.cur hc
      refine .inr ⟨S.cur.toNat, (zo.td _ (by omega)).1 (xi.lv (by omega) ?_), by omega⟩
      rw [(ab.li.cu S.cur.toNat (by omega)).2 (by omega)]; decide

theorem tok_unl {x : Tcb} (h : TOk x) : TOk (unl x) := ⟨.inr ⟨Int.le_refl 0, by show (0 : Int) < 256; decide⟩, .inr ⟨Int.le_refl 0, by show (0 : Int) < 256; decide⟩, h.pr, h.wi, h.ci, h.ri, h.ds⟩

theorem MI_of (ab : Abs S a) (hC : CI C) (xi : XI S C.ent) (gi : ∀ i, 1 ≤ (C.ent i).gen) (zo : ZOk Z C.ent) : MI Z a C :=
  ⟨hC, MP_of ab xi gi zo, fun x hx => by rw [ab.th x (zo.tx x hx)]; exact tok_unl (ab.ri.t (zo.tx x hx)), zo.ky, zo.td, zo.qd, fun l hl => by rw [ab.ir l hl]; exact ab.ri.irq hl⟩

theorem Iv.mi (h : Iv S a C n) (zo : ZOk Z C.ent) : MI Z a C := MI_of h.ab h.ci h.xi (fun i => (h.gi i).1) zo
end
end Go.Proofs.Qxb6500918aDoor
