/-
  Numbers as bytes; the canonical bytes of the machine as a plain list.
-/
import Derived.Test.Qxb6500918aDoorLg
import Derived.Test.Qxb6500918aDoorKT
namespace Go.Kn
open Go.Sx

def uvar : Nat → Int → List Int
  | 0, v => [v]
  | k + 1, v => if 128 ≤ v then (v % 128 + 128) :: uvar k (v / 128) else [v]

def u8C (x : Int) : List Value := [.int .u8 x]

theorem uvar_len : ∀ (k : Nat) (v : Int), (uvar k v).length ≤ k + 1
  | 0, v => by simp [uvar]
  | k + 1, v => by
    simp only [uvar]
    split
    · simp; exact uvar_len k _
    · simp

theorem pow_step {g : Nat} {v : Int} (h : 128 ≤ v) (hb : v < 128 ^ (g + 1)) : ∃ g', g = g' + 1 ∧ v / 128 < 128 ^ (g' + 1) := by
  cases g with
  | zero => simp at hb; omega
  | succ g' =>
    refine ⟨g', rfl, ?_⟩
    rw [Int.pow_succ] at hb
    exact Int.ediv_lt_of_lt_mul (by omega) (by omega)

theorem uvar_step {g : Nat} {v : Int} (h : 128 ≤ v) : uvar (g + 1) v = (v % 128 + 128) :: uvar g (v / 128) := by simp [uvar, h]
theorem uvar_stop {g : Nat} {v : Int} (h : ¬ 128 ≤ v) : uvar g v = [v] := by cases g <;> simp [uvar, h]

theorem u8C_len (x : Int) : (u8C x).length = 1 := rfl
theorem u8C_one (x : Int) : allOne (u8C x) = true := rfl
theorem u64_pow {v : Int} (h : u64r v) : v < 128 ^ (9 + 1) := by
  have := h.2
  have : (128 : Int) ^ (9 + 1) = 1180591620717411303424 := by decide +kernel
  omega

theorem allOne_u8 : ∀ xs : List Int, allOne (xs.flatMap u8C) = true
  | [] => rfl
  | x :: xs => by simpa [allOne, u8C] using allOne_u8 xs

def uv (v : Int) : List Int := uvar 9 v
theorem uv_len (v : Int) : (uv v).length ≤ 10 := uvar_len 9 v
def uvs (vs : List Int) : List Int := vs.flatMap uv
theorem uvs_app (a b : List Int) : uvs (a ++ b) = uvs a ++ uvs b := List.flatMap_append ..
theorem uvs_len : ∀ (vs : List Int), (uvs vs).length ≤ vs.length * 10
  | [] => Nat.le_refl _
  | v :: vs => by
    have h1 := uv_len v
    have h2 := uvs_len vs
    show (uv v ++ uvs vs).length ≤ (vs.length + 1) * 10
    rw [List.length_append]; omega

end Go.Kn
