/-
  For the laws: commands that a law gives itself.
-/
import Derived.Test.Qxb6500919aX5
import Derived.Test.Qxb6500919aL4
import Derived.Test.Qxb6500919aEq2
namespace Go.Proofs.Qxb6500919a
open Go.Sx Go.Rp

theorem opk_ok {k n m : Int} (h0 : 0 ≤ k) (h1 : k ≤ 255) : (⟨k, n, m, ⟨0, 0, 0⟩⟩ : Opn).ok := ⟨⟨h0, h1⟩, ⟨(by decide : (0 : Int) ≤ 0), (by decide : (0 : Int) ≤ 255)⟩, ⟨(by decide : (0 : Int) ≤ 0), (by decide : (0 : Int) ≤ 4294967295)⟩, ⟨(by decide : (0 : Int) ≤ 0), (by decide : (0 : Int) ≤ 18446744073709551615)⟩⟩

end Go.Proofs.Qxb6500919a
