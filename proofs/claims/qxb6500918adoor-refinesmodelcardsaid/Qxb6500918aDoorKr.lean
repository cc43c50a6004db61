/-
  Making an object, as a plain function.
-/
import Derived.Test.Qxb6500918aDoorKq
namespace Go.Kn
open Go.Sx

def sizeP (t : Int) : Int := if t = 2 then 512 else if t = 3 then 1024 else if t = 4 then 16 else if t = 5 then 32 else 0

def scanP (E : Nat → Ent) : Nat → Int → Int → Int × Int
  | 0, a, s => (a, s)
  | n + 1, a, s =>
    if (E n).ty = 0 then scanP E n a (n : Int)
    else if IntKind.wrap .u64 ((E n).base + (E n).size) > a then scanP E n (IntKind.wrap .u64 ((E n).base + (E n).size)) s
    else scanP E n a s

def alignP (a z : Int) : Int := if a % z ≠ 0 then IntKind.wrap .u64 (IntKind.wrap .u64 (a + z) - a % z) else a

def retype0 (E : Nat → Ent) (t : Int) : (Nat → Ent) × Rf × Int :=
  let r := scanP E 256 0 (-1)
  if IntKind.wrap .u64 (alignP r.1 (sizeP t) + sizeP t) > (E 256).size then (E, ⟨0, 0⟩, 9) else
  if r.2 < 0 then (E, ⟨0, 0⟩, 10) else
  let E1 := upd E r.2.toNat ⟨t, (E r.2.toNat).gen, alignP r.1 (sizeP t), sizeP t⟩
  (E1, refAtP E1 r.2, 0)

theorem wrap64 (x : Int) : 0 ≤ IntKind.wrap .u64 x ∧ IntKind.wrap .u64 x < 18446744073709551616 := by
  simp [IntKind.wrap, IntKind.bits, IntKind.signed]; omega

theorem scan_step {E : Nat → Ent} {i : Int} (hi : 0 ≤ i) (a s : Int) : scanP E (i + 1).toNat a s =
    if (E i.toNat).ty = 0 then scanP E i.toNat a i
    else if IntKind.wrap .u64 ((E i.toNat).base + (E i.toNat).size) > a then scanP E i.toNat (IntKind.wrap .u64 ((E i.toNat).base + (E i.toNat).size)) s
    else scanP E i.toNat a s := by
  rw [show (i + 1).toNat = i.toNat + 1 by omega, scanP, show ((i.toNat : Nat) : Int) = i by omega]

theorem scan_slot {E : Nat → Ent} : ∀ (n : Nat) (a s : Int), n ≤ 256 → 0 ≤ a → -1 ≤ s → s < 256 → 0 ≤ (scanP E n a s).1 ∧ -1 ≤ (scanP E n a s).2 ∧ (scanP E n a s).2 < 256 ∧ ((scanP E n a s).2 = s ∨ (0 ≤ (scanP E n a s).2 ∧ (E (scanP E n a s).2.toNat).ty = 0))
  | 0, a, s, _, ha, h1, h2 => ⟨ha, h1, h2, .inl rfl⟩
  | n + 1, a, s, hn, ha, h1, h2 => by
    rw [scanP]
    split
    · rename_i h0
      have h := scan_slot (E := E) n a (n : Int) (by omega) ha (by omega) (by omega)
      refine ⟨h.1, h.2.1, h.2.2.1, ?_⟩
      rcases h.2.2.2 with h3 | h3
      · right; rw [h3]; exact ⟨by omega, by simpa using h0⟩
      · exact .inr h3
    · split
      · exact scan_slot n _ s (by omega) (wrap64 _).1 h1 h2
      · exact scan_slot n a s (by omega) ha h1 h2

end Go.Kn
