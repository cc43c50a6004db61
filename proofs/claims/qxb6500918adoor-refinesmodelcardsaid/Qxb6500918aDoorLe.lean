/-
  The zero blocks, as the kernel's data.
-/
import Derived.Test.Qxb6500918aDoorKR
namespace Go.Kn
open Go.Sx

theorem arr_const {α : Type} (enc : α → List Value) (a : α) : ∀ n, arr n enc (fun _ => a) = (List.replicate n (enc a)).flatten
  | 0 => rfl
  | n + 1 => by rw [arr_succ, arr_const enc a n, List.replicate_succ', List.flatten_append]; simp

def zE : Ent := ⟨0, 0, 0, 0⟩
def zT : Tcb := ⟨0, 0, ⟨0, 0⟩, ⟨0, 0⟩, ⟨0, 0⟩, 0, 0, 0, 0, 0, 0, 0, 0, 0, false, false, 0, 0⟩
def zQ : Qu := ⟨0, 0, 0⟩
def noQ : Qu := ⟨-1, -1, 0⟩
def zI : Irq := ⟨⟨0, 0⟩, 0, false⟩
def zK (c : Int) : KP := ⟨fun _ => zT, fun _ => zQ, fun _ => 0, fun _ => zQ, 0, c, fun _ => zI, 0⟩

/-- All of the kernel but the two pointers ahead. -/
def kR (S : KP) : List Value := arr 256 tcbC S.tcb ++ (arr 256 quC S.wq ++ (arr 256 wdC S.word ++ (arr 8 quC S.rdy ++ (bcC S ++ (arr 16 irqC S.irq ++ [.int .u64 S.now])))))
def kCv (v : Value) (bo : Nat) (S : KP) : List Value := [.pointer (some ⟨bo, 0, none⟩), v] ++ kR S

theorem kC_kR (bo bc : Nat) (S : KP) : kC bo bc S = [.pointer (some ⟨bo, 0, none⟩), .pointer (some ⟨bc, 0, none⟩)] ++ kR S := rfl

theorem kR_cur (S : KP) (n : Int) : splice (kR S) 6425 [.int .i16 n] = kR { S with cur := n } := by
  have h := k_cur_w (bo := 0) (bc := 0) (S := S) n
  rw [kC_kR, kC_kR] at h
  have h2 := splice_app_right [.int .i16 n] [.pointer (some ⟨0, 0, none⟩), .pointer (some ⟨0, 0, none⟩)] (kR S) 6425
  rw [show ([.pointer (some ⟨0, 0, none⟩), .pointer (some ⟨0, 0, none⟩)] : List Value).length + 6425 = 6427 from rfl] at h2
  rw [h2] at h
  exact List.append_cancel_left h

end Go.Kn

namespace Go.Proofs.Qxb6500918aDoor
open Go.Sx Go.Kn
set_option maxRecDepth 100000

theorem z131_cells : vcells z131 = stC (fun _ => zE) := by
  unfold stC
  rw [arr_const]
  show (List.replicate 257 _).flatten = [] ++ ((List.replicate 257 _).flatten ++ [])
  rw [List.append_nil, List.nil_append]
  rfl

theorem z142_cells (bo : Nat) (nd : Nat → Nat) : splice (vcells z142) 0 [.pointer (some ⟨bo, 0, none⟩)] = spC bo nd (fun _ => false) := by
  unfold spC
  rw [show npV nd (fun _ => false) = fun _ => Value.pointer none from rfl, arr_const, List.append_nil]
  rfl

theorem z90_cells : vcells z90 = [.pointer none, .pointer none] ++ kR (zK 0) := by
  unfold kR zK
  dsimp only
  rw [arr_const, arr_const, arr_const, arr_const, arr_const]
  rfl

theorem kz_cells (bo : Nat) : splice (splice (vcells z90) 0 [.pointer (some ⟨bo, 0, none⟩)]) 6427 [.int .i16 (-1)] = kCv (.pointer none) bo (zK (-1)) := by
  rw [z90_cells]
  show splice ([.pointer (some ⟨bo, 0, none⟩), .pointer none] ++ kR (zK 0)) 6427 [.int .i16 (-1)] = _
  have h2 := splice_app_right [.int .i16 (-1)] [.pointer (some ⟨bo, 0, none⟩), .pointer none] (kR (zK 0)) 6425
  rw [show ([.pointer (some ⟨bo, 0, none⟩), .pointer none] : List Value).length + 6425 = 6427 from rfl] at h2
  rw [h2, kR_cur]
  rfl

theorem kcaps (bo bc : Nat) (S : KP) (v : Value) : splice (kCv v bo S) 1 [.pointer (some ⟨bc, 0, none⟩)] = kC bo bc S := rfl

end Go.Proofs.Qxb6500918aDoor
