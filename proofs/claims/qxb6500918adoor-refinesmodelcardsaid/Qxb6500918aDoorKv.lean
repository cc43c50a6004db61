/-
  Descent and revocation, as plain functions.
-/
import Derived.Test.Qxb6500918aDoorKu
namespace Go.Kn
open Go.Sx

/-- The parents of p, from p on, lead to s. -/
inductive Anc (cel : Nat → Cel) (s : Int) : Int → Prop
  | here {p : Int} : p ≠ -1 → p = s → Anc cel s p
  | up {p : Int} : p ≠ -1 → p ≠ s → Anc cel s (cel p.toNat).parent → Anc cel s p

theorem anc_end {cel : Nat → Cel} {s p : Int} (h : p = -1) : ¬ Anc cel s p := by
  intro hq; cases hq <;> contradiction

theorem anc_up {cel : Nat → Cel} {s p : Int} (h1 : p ≠ -1) (h2 : p ≠ s) : Anc cel s p ↔ Anc cel s (cel p.toNat).parent := by
  constructor
  · intro hq; cases hq with
    | here _ h => exact absurd h h2
    | up _ _ h => exact h
  · exact Anc.up h1 h2

noncomputable def belowP (cel : Nat → Cel) (s p : Int) : Bool := @decide (Anc cel s p) (Classical.propDecidable _)

theorem below_iff {cel : Nat → Cel} {s p : Int} : belowP cel s p = true ↔ Anc cel s p := by
  unfold belowP; simp

/-- The lowest full cell under n that descends from s. -/
noncomputable def nextUp (C : CP) (s : Int) : Nat → Int
  | 0 => -1
  | n + 1 => if nextUp C s n = -1 ∧ C.pres (n / 16) = true ∧ (C.cel n).cap.ty ≠ 0 ∧ belowP C.cel s (C.cel n).parent = true then (n : Int) else nextUp C s n

noncomputable def revokeP : Nat → CP → Int → List Cp → CP × List Cp
  | 0, C, _, acc => (C, acc)
  | f + 1, C, s, acc =>
    if nextUp C s 4096 = -1 then (C, acc) else
    revokeP f (deleteP 4097 C (nextUp C s 4096).toNat).1 s (acc ++ (deleteP 4097 C (nextUp C s 4096).toNat).2)

theorem nextUp_full {C : CP} {s : Int} : ∀ {n : Nat}, n ≤ 4096 → nextUp C s n = -1 ∨ ∃ m : Nat, nextUp C s n = (m : Int) ∧ m < n ∧ Full C m
  | 0, _ => .inl rfl
  | n + 1, hn => by
    rw [nextUp]
    split
    · rename_i h
      exact .inr ⟨n, rfl, by omega, by omega, h.2.1, h.2.2.1⟩
    · rcases nextUp_full (n := n) (by omega) with h | ⟨m, h1, h2, h3⟩
      · exact .inl h
      · exact .inr ⟨m, h1, by omega, h3⟩

theorem nextUp_skip {C : CP} {s : Int} {i : Nat} (h : C.pres i = false) : ∀ k, k ≤ 16 → nextUp C s (i * 16 + k) = nextUp C s (i * 16)
  | 0, _ => rfl
  | k + 1, hk => by
    rw [← Nat.add_assoc, nextUp, if_neg ?_, nextUp_skip h k (by omega)]
    rw [show (i * 16 + k) / 16 = i by omega, h]
    simp

/-- What a revocation yields. -/
structure RevOk (C : CP) (n : Nat) (r : CP × List Cp) : Prop where
  ci : CI r.1
  shr : Shr C r.1
  dead : ∀ c ∈ r.2, 2 ≤ c.ty ∧ c.ty < 6 ∧ 0 ≤ c.obj.idx ∧ c.obj.idx < 256
  len : r.2.length + cnt r.1 ≤ n + cnt C

theorem rev_ok (s : Int) : ∀ (f : Nat) (C : CP) (acc : List Cp), CI C → (∀ c ∈ acc, 2 ≤ c.ty ∧ c.ty < 6 ∧ 0 ≤ c.obj.idx ∧ c.obj.idx < 256) → RevOk C acc.length (revokeP f C s acc)
  | 0, C, acc, h, ha => ⟨h, Shr.refl _, ha, Nat.le_refl _⟩
  | f + 1, C, acc, h, ha => by
    rw [revokeP]
    split
    · exact ⟨h, Shr.refl _, ha, Nat.le_refl _⟩
    · rename_i hne
      rcases nextUp_full (C := C) (s := s) (n := 4096) (Nat.le_refl _) with hq | ⟨m, h1, h2, h3⟩
      · exact absurd hq hne
      · rw [h1, Int.toNat_natCast]
        have d := del_ok 4097 C m h (by have := cnt_le (C := C); omega) h3.1 h3.2.1
        have r := rev_ok s f (deleteP 4097 C m).1 (acc ++ (deleteP 4097 C m).2) d.ci (fun c hc => (List.mem_append.1 hc).elim (ha c) (d.dead c))
        refine ⟨r.ci, d.shr.trans r.shr, r.dead, ?_⟩
        have := r.len
        have := d.len
        rw [List.length_append] at *
        omega

end Go.Kn
