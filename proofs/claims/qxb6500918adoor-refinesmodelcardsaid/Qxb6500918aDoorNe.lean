/-
  The script as an argument of the rows, with the range of one more field of its events.
-/
import Derived.Test.Qxb6500918aDoorNb
namespace Go.Proofs.Qxb6500918aDoor
open Go.Sx Go.Kn Go.ChangeShapes Go.WideShapes Go.ChangeAt Go.RowKit
set_option maxRecDepth 100000
set_option maxHeartbeats 4000000

section
variable {H : Type} {enc : TypeId × Value → H} {w : World} {base fuel : Nat} {sp : Nat → Bool} {held : Bool}

def XfR (e : Ev) : Prop := 0 ≤ e.xfer ∧ e.xfer < 4294967296

theorem op_ofX {cs : List Value} {x : DataW H × List MemPlace} (h : DataW.trod enc Tryd.prog w 0 (fun _ => true) true fuel 35 cs = some x) : ∃ o : OpV, (((EvOk o.ev ∧ EvU o.ev) ∧ XfR o.ev) ∧ WordsAt [] w o.xo o.ev.ws) ∧ cs = opC o := by
  obtain ⟨xs, n, _, _, hlen, hxl, hf⟩ := DataW.trod_struct Tryd.underlying35 h
  rw [cells35] at hlen
  match cs, hlen, xs, hxl with
  | [c0, c1, c2, c3, c4, c5, c6, c7, c8, c9, c10], _, [y0, y1, y2, y3, y4, y5, y6, y7, y8, y9, y10], _ =>
    have g0 : DataW.trod enc Tryd.prog w 0 (fun _ => true) true n 29 (([c0, c1, c2, c3, c4, c5, c6, c7, c8, c9, c10].drop 0).take (Tryd.prog.cellsOf 29)) = some y0 := hf 0 _ rfl
    rw [cells29] at g0
    have g1 : DataW.trod enc Tryd.prog w 0 (fun _ => true) true n 30 (([c0, c1, c2, c3, c4, c5, c6, c7, c8, c9, c10].drop 1).take (Tryd.prog.cellsOf 30)) = some y1 := hf 1 _ rfl
    rw [cells30] at g1
    have g2 : DataW.trod enc Tryd.prog w 0 (fun _ => true) true n 31 (([c0, c1, c2, c3, c4, c5, c6, c7, c8, c9, c10].drop 2).take (Tryd.prog.cellsOf 31)) = some y2 := hf 2 _ rfl
    rw [cells31] at g2
    have g3 : DataW.trod enc Tryd.prog w 0 (fun _ => true) true n 30 (([c0, c1, c2, c3, c4, c5, c6, c7, c8, c9, c10].drop 3).take (Tryd.prog.cellsOf 30)) = some y3 := hf 3 _ rfl
    rw [cells30] at g3
    have g4 : DataW.trod enc Tryd.prog w 0 (fun _ => true) true n 30 (([c0, c1, c2, c3, c4, c5, c6, c7, c8, c9, c10].drop 4).take (Tryd.prog.cellsOf 30)) = some y4 := hf 4 _ rfl
    rw [cells30] at g4
    have g5 : DataW.trod enc Tryd.prog w 0 (fun _ => true) true n 30 (([c0, c1, c2, c3, c4, c5, c6, c7, c8, c9, c10].drop 5).take (Tryd.prog.cellsOf 30)) = some y5 := hf 5 _ rfl
    rw [cells30] at g5
    have g6 : DataW.trod enc Tryd.prog w 0 (fun _ => true) true n 30 (([c0, c1, c2, c3, c4, c5, c6, c7, c8, c9, c10].drop 6).take (Tryd.prog.cellsOf 30)) = some y6 := hf 6 _ rfl
    rw [cells30] at g6
    have g7 : DataW.trod enc Tryd.prog w 0 (fun _ => true) true n 32 (([c0, c1, c2, c3, c4, c5, c6, c7, c8, c9, c10].drop 7).take (Tryd.prog.cellsOf 32)) = some y7 := hf 7 _ rfl
    rw [cells32] at g7
    have g8 : DataW.trod enc Tryd.prog w 0 (fun _ => true) true n 31 (([c0, c1, c2, c3, c4, c5, c6, c7, c8, c9, c10].drop 8).take (Tryd.prog.cellsOf 31)) = some y8 := hf 8 _ rfl
    rw [cells31] at g8
    have g9 : DataW.trod enc Tryd.prog w 0 (fun _ => true) true n 31 (([c0, c1, c2, c3, c4, c5, c6, c7, c8, c9, c10].drop 9).take (Tryd.prog.cellsOf 31)) = some y9 := hf 9 _ rfl
    rw [cells31] at g9
    have g10 : DataW.trod enc Tryd.prog w 0 (fun _ => true) true n 33 (([c0, c1, c2, c3, c4, c5, c6, c7, c8, c9, c10].drop 10).take (Tryd.prog.cellsOf 33)) = some y10 := hf 10 _ rfl
    rw [cells33] at g10
    have g10' : DataW.trod enc Tryd.prog w 0 (fun _ => true) true n 33 [c10] = some y10 := g10
    obtain ⟨z0, e0, _, w0⟩ := DataW.trod_int Tryd.underlying29 g0
    obtain ⟨z1, e1, _, w1⟩ := DataW.trod_int Tryd.underlying30 g1
    obtain ⟨z2, e2, _, w2⟩ := DataW.trod_int Tryd.underlying31 g2
    obtain ⟨z3, e3, _, w3⟩ := DataW.trod_int Tryd.underlying30 g3
    obtain ⟨z4, e4, _, w4⟩ := DataW.trod_int Tryd.underlying30 g4
    obtain ⟨z5, e5, _, w5⟩ := DataW.trod_int Tryd.underlying30 g5
    obtain ⟨z6, e6, _, w6⟩ := DataW.trod_int Tryd.underlying30 g6
    obtain ⟨z7, e7, _, w7⟩ := DataW.trod_int Tryd.underlying32 g7
    obtain ⟨z8, e8, _, w8⟩ := DataW.trod_int Tryd.underlying31 g8
    obtain ⟨z9, e9, _, w9⟩ := DataW.trod_int Tryd.underlying31 g9
    obtain ⟨xo, cx, ws, e10, hwu, hwa⟩ := words_of g10'
    simp at e0 e1 e2 e3 e4 e5 e6 e7 e8 e9
    subst e0 e1 e2 e3 e4 e5 e6 e7 e8 e9 e10
    simp [Lit.wf, IntKind.min, IntKind.max, IntKind.signed, IntKind.bits] at w0 w1 w2 w3 w4 w5 w6 w7 w8 w9
    refine ⟨⟨⟨z0, z1, z2, z3, z4, z5, z6, z7, z8, z9, ws⟩, xo, cx⟩, ⟨⟨⟨?_, ?_⟩, ?_⟩, hwa⟩, rfl⟩
    · constructor <;> (constructor <;> (dsimp only; omega))
    · exact ⟨⟨by dsimp only; omega, by dsimp only; omega⟩, ⟨by dsimp only; omega, by dsimp only; omega⟩, hwu⟩
    · exact ⟨by dsimp only; omega, by dsimp only; omega⟩

/-- The argument of the laws is a script. -/
theorem scr_ofX {a0 : Option Addr} {len cap : Nat} {x : DataW H × List MemPlace} (hf : DataW.trod enc Tryd.prog w 0 (fun _ => true) true fuel 22 [.slice a0 len cap] = some x) :
    ∃ ops : List OpV, ops.length = len ∧ (∀ op ∈ ops, (EvOk op.ev ∧ EvU op.ev) ∧ XfR op.ev) ∧ (∀ op ∈ ops, WordsAt [] w op.xo op.ev.ws) ∧ Scr w a0 ops := by
  rcases Go.Deep.open_slice Tryd.underlying22 hf with ⟨hcs, _⟩ | ⟨a, len', cap', m, n, D, Pl, hcs, _, hl, _, hm, _, hx⟩
  · simp at hcs
    obtain ⟨rfl, rfl, rfl⟩ := hcs
    exact ⟨[], rfl, fun _ h => (by cases h), fun _ h => (by cases h), ⟨fun h => by simp at h⟩⟩
  · simp at hcs
    obtain ⟨rfl, rfl, rfl⟩ := hcs
    simp only [if_true] at hm
    obtain ⟨b, off, spot⟩ := a
    have each : ∀ i, i < len → ∃ o : OpV, (((EvOk o.ev ∧ EvU o.ev) ∧ XfR o.ev) ∧ WordsAt [] w o.xo o.ev.ws) ∧ ∀ j, j < 11 → w.cell? (((⟨b, off, spot⟩ : Addr).add (i * 11)).add j) = (opC o)[j]? := by
      intro i hi
      obtain ⟨cs, h1, h2⟩ := hx i (by omega)
      rw [cells35] at h1
      obtain ⟨o, ho, rfl⟩ := op_ofX h2
      obtain ⟨_, _, h3⟩ := World.cells?_some h1
      exact ⟨o, ho, h3⟩
    obtain ⟨ops, hlen, hp⟩ := list_of len each
    refine ⟨ops, hlen, fun op hop => ?_, fun op hop => ?_, ⟨fun {i x} hix => ?_⟩⟩
    · obtain ⟨i, hi⟩ := List.getElem?_of_mem hop
      exact (hp i op hi).1.1
    · obtain ⟨i, hi⟩ := List.getElem?_of_mem hop
      exact (hp i op hi).1.2
    · have hpos : 0 < len := by have := (List.getElem?_eq_some_iff.1 hix).1; omega
      obtain ⟨y, hy⟩ := get_some (xs := ops) (i := 0) (by omega)
      have h0 := (hp 0 y hy).2 0 (by omega)
      have h0' : w.cell? ⟨b, off, spot⟩ = some (.int .u8 y.ev.kind) := by simpa [Addr.add, opC] using h0
      have hspot : spot = none := World.cell?_spot h0'
      subst hspot
      refine ⟨b, off, rfl, low_of h0', fun j z hz t v ht => ?_⟩
      have ht6 : t < 11 := (List.getElem?_eq_some_iff.1 ht).1
      have := (hp j z hz).2 t ht6
      rw [addr_add, addr_add, ht] at this
      exact this

end


end Go.Proofs.Qxb6500918aDoor
