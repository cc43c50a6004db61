/-
  The canonical bytes as lists of numbers.
-/
import Derived.Test.Qxb6500918aDoorKV
namespace Go.Kn
open Go.Sx

def packP (r : Rf) : Int := bitI .or .u64 (shlI .u64 (IntKind.wrap .u64 r.gen) 16) (IntKind.wrap .u64 r.idx)
def flagP (b : Bool) : Int := if b = true then 1 else 0
theorem pack_u (r : Rf) : u64r (packP r) := u64w _
theorem flag_u (b : Bool) : u64r (flagP b) := by unfold flagP; split <;> (unfold u64r; decide)

def entN (i : Int) (e : Ent) : List Int := if e = ⟨0, 1, 0, 0⟩ then [] else [IntKind.wrap .u64 i, IntKind.wrap .u64 e.ty, IntKind.wrap .u64 e.gen, e.base, e.size]
def entsN (E : Nat → Ent) : Nat → List Int
  | 0 => []
  | n + 1 => entsN E n ++ entN (n : Int) (E n)
def storeN (E : Nat → Ent) : List Int := entsN E 257 ++ [257]

theorem entsN_len (E : Nat → Ent) : ∀ n, (entsN E n).length ≤ n * 5
  | 0 => Nat.le_refl _
  | n + 1 => by
    have := entsN_len E n
    rw [entsN, List.length_append]
    have : (entN (n : Int) (E n)).length ≤ 5 := by unfold entN; split <;> simp
    omega

def celN (s : Int) (c : Cel) : List Int := if c.cap.ty = 0 then [] else [IntKind.wrap .u64 s, IntKind.wrap .u64 c.cap.ty, packP c.cap.obj, IntKind.wrap .u64 c.cap.rights, c.cap.badge, IntKind.wrap .u64 (IntKind.wrap .i64 (c.parent + 1))]
def celsN (C : CP) : Nat → List Int
  | 0 => []
  | n + 1 => celsN C n ++ (if C.pres (n / 16) = true then celN (n : Int) (C.cel n) else [])
def spaceN (C : CP) : List Int := celsN C 4096 ++ [4096]

theorem celsN_len (C : CP) : ∀ n, (celsN C n).length ≤ n * 6
  | 0 => Nat.le_refl _
  | n + 1 => by
    have := celsN_len C n
    rw [celsN, List.length_append]
    have : (if C.pres (n / 16) = true then celN (n : Int) (C.cel n) else []).length ≤ 6 := by
      split
      · unfold celN; split <;> simp
      · simp
    omega

theorem celsN_skip {C : CP} {i : Nat} (h : C.pres i = false) : ∀ k, k ≤ 16 → celsN C (i * 16 + k) = celsN C (i * 16)
  | 0, _ => rfl
  | k + 1, hk => by
    rw [← Nat.add_assoc, celsN, celsN_skip h k (by omega), show (i * 16 + k) / 16 = i by omega, h]
    simp

theorem ents_at {w : World} {bo : Nat} {E : Nat → Ent} (hb : w.heap[bo]? = some (Blk.obj ⟨stC E, 131, false⟩)) : CellsAt w bo 0 (arr 257 entC E) := by
  refine cellsAt_blk hb ?_
  have h1 : cellsAre (arr 257 entC E) 0 (arr 257 entC E) := cellsAre_of_take _ _ (by simp)
  exact cellsAre_app_right (a := []) (cellsAre_app_left h1)

theorem ents_len {E : Nat → Ent} : (arr 257 entC E).length = 1028 := by rw [arr_len entC_len]

end Go.Kn
