/-
  Deleting capabilities, as plain functions.
-/
import Derived.Test.Qxb6500918aDoorKs
namespace Go.Kn
open Go.Sx

def namesP (c : Cel) (o : Rf) : Bool := decide (c.cap.ty ≠ 0) && decide (c.cap.obj = o)

def namedUp (C : CP) (o : Rf) : Nat → Bool
  | 0 => false
  | n + 1 => namedUp C o n || (C.pres (n / 16) && namesP (C.cel n) o)

def namedP (C : CP) (o : Rf) : Bool := namedUp C o 4096

theorem namedUp_skip {C : CP} {o : Rf} {i : Nat} (h : C.pres i = false) : ∀ k, k ≤ 16 → namedUp C o (i * 16 + k) = namedUp C o (i * 16)
  | 0, _ => rfl
  | k + 1, hk => by
    rw [← Nat.add_assoc, namedUp, namedUp_skip h k (by omega), show (i * 16 + k) / 16 = i by omega, h]
    simp

theorem namedUp_true {C : CP} {o : Rf} : ∀ {n : Nat}, namedUp C o n = true ↔ ∃ s, s < n ∧ C.pres (s / 16) = true ∧ (C.cel s).cap.ty ≠ 0 ∧ (C.cel s).cap.obj = o
  | 0 => by simp [namedUp]
  | n + 1 => by
    rw [namedUp, Bool.or_eq_true, namedUp_true (n := n)]
    constructor
    · rintro (⟨s, h1, h2⟩ | h)
      · exact ⟨s, by omega, h2⟩
      · simp [namesP] at h; exact ⟨n, by omega, h.1, h.2.1, h.2.2⟩
    · rintro ⟨s, h1, h2, h3, h4⟩
      by_cases e : s = n
      · subst e; right; simp [namesP, h2, h3, h4]
      · exact .inl ⟨s, by omega, h2, h3, h4⟩

theorem named_iff {C : CP} {o : Rf} : namedP C o = true ↔ ∃ s, Full C s ∧ (C.cel s).cap.obj = o := by
  unfold namedP Full
  rw [namedUp_true]
  constructor
  · rintro ⟨s, h1, h2, h3, h4⟩; exact ⟨s, ⟨h1, h2, h3⟩, h4⟩
  · rintro ⟨s, ⟨h1, h2, h3⟩, h4⟩; exact ⟨s, h1, h2, h3, h4⟩

/-- The cells below n that hang on s hang on p now. -/
def reparUp (cel : Nat → Cel) (s p : Int) (n : Nat) : Nat → Cel := fun t => if t < n ∧ (cel t).parent = s then { cel t with parent := p } else cel t
def reparP (cel : Nat → Cel) (s p : Int) : Nat → Cel := reparUp cel s p 4096

def freeP (E : Nat → Ent) (r : Rf) : Nat → Ent := if typeOfP E r ≠ 0 then upd E r.idx.toNat ⟨0, IntKind.wrap .u32 (r.gen + 1), 0, 0⟩ else E

def cutP (C : CP) (s : Nat) : CP :=
  let C1 : CP := { C with cel := reparP C.cel s (C.cel s).parent }
  { C1 with cel := upd C1.cel s celE }

def deleteP : Nat → CP → Nat → CP × List Cp
  | 0, C, _ => (C, [])
  | f + 1, C, s =>
    if (C.cel s).cap.ty = 0 then (C, []) else
    if (C.cel s).cap.ty = 1 ∨ namedP (cutP C s) (C.cel s).cap.obj = true then (cutP C s, []) else
    if (C.cel s).cap.ty = 2 then
      let r := (List.range 16).foldl (fun (acc : CP × List Cp) j => ((deleteP f acc.1 ((C.cel s).cap.obj.idx.toNat * 16 + j)).1, acc.2 ++ (deleteP f acc.1 ((C.cel s).cap.obj.idx.toNat * 16 + j)).2)) (cutP C s, [(C.cel s).cap])
      ({ r.1 with pres := upd r.1.pres (C.cel s).cap.obj.idx.toNat false, ent := freeP r.1.ent (C.cel s).cap.obj }, r.2)
    else ({ cutP C s with ent := freeP (cutP C s).ent (C.cel s).cap.obj }, [(C.cel s).cap])

end Go.Kn
