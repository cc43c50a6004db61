/-
  The events of a script in memory.
-/
import Derived.Test.Qxb6500918aDoorLg
import Derived.Test.Qxb6500918aDoorSxS
namespace Go.Kn
open Go.Sx

structure OpV where
  ev : Ev
  xo : Option Addr
  cx : Nat

def opC (v : OpV) : List Value := [.int .u8 v.ev.kind, .int .u32 v.ev.pick, .int .u64 v.ev.draw, .int .u32 v.ev.addr, .int .u32 v.ev.node, .int .u32 v.ev.dst, .int .u32 v.ev.xfer, .int .u8 v.ev.ty, .int .u64 v.ev.arg, .int .u64 v.ev.badge, .slice v.xo v.ev.ws.length v.cx]
theorem opC_len (v : OpV) : (opC v).length = 11 := rfl

/-- A script as it lies in memory. -/
structure Scr (w : World) (o : Option Addr) (ops : List OpV) : Prop where
  get : ∀ {i : Nat} {x : OpV}, ops[i]? = some x → ∃ b k0, o = some ⟨b, k0, none⟩ ∧ b < w.heap.size ∧ ∀ j y, ops[j]? = some y → CellsAt w b (k0 + j * 11) (opC y)

theorem cell_one {w : World} {b k : Nat} {vs : List Value} (h : CellsAt w b k vs) {j : Nat} {v : Value} (hj : vs[j]? = some v) : w.cell? ⟨b, k + j, none⟩ = some v := h j v hj

theorem cells_one {cs : List Value} : ∀ {vs : List Value} {k : Nat}, cellsAre cs k vs → ∀ {j : Nat} {v : Value}, vs[j]? = some v → ∀ {o : Nat}, o = k + j → cellsAre cs o [v]
  | [], _, _, _, _, h, _, _ => by simp at h
  | x :: xs, k, hc, 0, v, h, o, ho => by simp at h; subst h; subst ho; exact ⟨hc.1, trivial⟩
  | x :: xs, k, hc, j + 1, v, h, o, ho => cells_one (vs := xs) (k := k + 1) hc.2 (j := j) (by simpa using h) (by omega)

end Go.Kn
