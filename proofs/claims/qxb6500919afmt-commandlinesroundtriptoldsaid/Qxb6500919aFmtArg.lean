/-
  The script as an argument of the row: its reading opened.
-/
import Derived.Test.Qxb6500919aFmtSc
import Derived.Test.Qxb6500919aFmtLd
import Derived.ProofKit
import Derived.Deep.Slices
namespace Go.Proofs.Qxb6500919aFmt
open Go.Sx Go.Rp Go.ChangeShapes Go.WideShapes Go.ChangeAt Go.RowKit
set_option maxRecDepth 100000
set_option maxHeartbeats 4000000

theorem Tryf.own : ownKnob Tryf.prog.godebug = none := by kernel_rfl
theorem Tryf.laidOut : laidOutB Tryf.prog = true := by kernel_rfl

theorem cells33 : Tryf.prog.cellsOf 33 = 6 := by kernel_rfl
theorem cells31 : Tryf.prog.cellsOf 31 = 3 := by kernel_rfl
theorem cells26 : Tryf.prog.cellsOf 26 = 1 := by kernel_rfl
theorem cells3 : Tryf.prog.cellsOf 3 = 1 := by kernel_rfl
theorem cells27 : Tryf.prog.cellsOf 27 = 1 := by kernel_rfl
theorem cells28 : Tryf.prog.cellsOf 28 = 1 := by kernel_rfl
theorem cells29 : Tryf.prog.cellsOf 29 = 1 := by kernel_rfl

section
variable {H : Type} {enc : TypeId × Value → H} {w : World} {base fuel : Nat} {sp : Nat → Bool} {held : Bool}

theorem ev_of {cs : List Value} {x : DataW H × List MemPlace} (h : DataW.trod enc Tryf.prog w base sp held fuel 31 cs = some x) : ∃ e : Ev, e.ok ∧ cs = evC e := by
  obtain ⟨xs, n, _, _, hlen, hxl, hf⟩ := DataW.trod_struct Tryf.underlying31 h
  rw [cells31] at hlen
  match cs, hlen, xs, hxl with
  | [c0, c1, c2], _, [y0, y1, y2], _ =>
    have g0 : DataW.trod enc Tryf.prog w base sp held n 27 (([c0, c1, c2].drop 0).take (Tryf.prog.cellsOf 27)) = some y0 := hf 0 _ rfl
    rw [cells27] at g0
    have g1 : DataW.trod enc Tryf.prog w base sp held n 28 (([c0, c1, c2].drop 1).take (Tryf.prog.cellsOf 28)) = some y1 := hf 1 _ rfl
    rw [cells28] at g1
    have g2 : DataW.trod enc Tryf.prog w base sp held n 29 (([c0, c1, c2].drop 2).take (Tryf.prog.cellsOf 29)) = some y2 := hf 2 _ rfl
    rw [cells29] at g2
    obtain ⟨z0, e0, _, w0⟩ := DataW.trod_int Tryf.underlying27 g0
    obtain ⟨z1, e1, _, w1⟩ := DataW.trod_int Tryf.underlying28 g1
    obtain ⟨z2, e2, _, w2⟩ := DataW.trod_int Tryf.underlying29 g2
    simp at e0 e1 e2
    subst e0 e1 e2
    refine ⟨⟨z0, z1, z2⟩, ?_, rfl⟩
    simp [Lit.wf, IntKind.min, IntKind.max, IntKind.signed, IntKind.bits] at w0 w1 w2
    have k0 : 0 ≤ z0 ∧ z0 ≤ 255 := by omega
    have k1 : 0 ≤ z1 ∧ z1 ≤ 4294967295 := by omega
    have k2 : 0 ≤ z2 ∧ z2 ≤ 18446744073709551615 := by omega
    exact ⟨k0, k1, k2⟩

theorem op_of3 {cs : List Value} {x : DataW H × List MemPlace} (h : DataW.trod enc Tryf.prog w base sp held fuel 33 cs = some x) : ∃ o : Opn, (o.ok ∧ o.rng) ∧ cs = opC o := by
  obtain ⟨xs, n, _, _, hlen, hxl, hf⟩ := DataW.trod_struct Tryf.underlying33 h
  rw [cells33] at hlen
  match cs, hlen, xs, hxl with
  | [c0, c1, c2, c3, c4, c5], _, [y0, y1, y2, y3], _ =>
    have g0 : DataW.trod enc Tryf.prog w base sp held n 26 (([c0, c1, c2, c3, c4, c5].drop 0).take (Tryf.prog.cellsOf 26)) = some y0 := hf 0 _ rfl
    rw [cells26] at g0
    have g1 : DataW.trod enc Tryf.prog w base sp held n 3 (([c0, c1, c2, c3, c4, c5].drop 1).take (Tryf.prog.cellsOf 3)) = some y1 := hf 1 _ rfl
    rw [cells3] at g1
    have g2 : DataW.trod enc Tryf.prog w base sp held n 3 (([c0, c1, c2, c3, c4, c5].drop 2).take (Tryf.prog.cellsOf 3)) = some y2 := hf 2 _ rfl
    rw [cells3] at g2
    have g3 : DataW.trod enc Tryf.prog w base sp held n 31 (([c0, c1, c2, c3, c4, c5].drop 3).take (Tryf.prog.cellsOf 31)) = some y3 := hf 3 _ rfl
    rw [cells31] at g3
    obtain ⟨z0, e0, _, w0⟩ := DataW.trod_int Tryf.underlying26 g0
    obtain ⟨z1, e1, _, w1⟩ := DataW.trod_int Tryf.underlying3 g1
    obtain ⟨z2, e2, _, w2⟩ := DataW.trod_int Tryf.underlying3 g2
    obtain ⟨e, he, e3⟩ := ev_of g3
    simp [evC] at e0 e1 e2 e3
    obtain ⟨e4, e5, e6⟩ := e3
    subst e0 e1 e2 e4 e5 e6
    simp [Lit.wf, IntKind.min, IntKind.max, IntKind.signed, IntKind.bits] at w0 w1 w2
    have k0 : 0 ≤ z0 ∧ z0 ≤ 255 := by omega
    have k1 : -9223372036854775808 ≤ z1 ∧ z1 ≤ 9223372036854775807 := by omega
    have k2 : -9223372036854775808 ≤ z2 ∧ z2 ≤ 9223372036854775807 := by omega
    exact ⟨⟨z0, z1, z2, e⟩, ⟨⟨k0, he⟩, ⟨k1, k2⟩⟩, rfl⟩

theorem list_of {α : Type} {p : Nat → α → Prop} : ∀ (n : Nat), (∀ i, i < n → ∃ x, p i x) → ∃ l : List α, l.length = n ∧ ∀ (i : Nat) x, l[i]? = some x → p i x
  | 0, _ => ⟨[], rfl, fun i x h => by simp at h⟩
  | n + 1, h => by
    obtain ⟨l, hl, hp⟩ := list_of n (fun i hi => h i (by omega))
    obtain ⟨y, hy⟩ := h n (by omega)
    refine ⟨l ++ [y], by simp [hl], fun i x hx => ?_⟩
    rcases Nat.lt_trichotomy i n with h1 | h1 | h1
    · rw [List.getElem?_append_left (by omega)] at hx; exact hp i x hx
    · subst h1
      rw [List.getElem?_append_right (by omega), hl] at hx
      simp at hx; subst hx; exact hy
    · rw [List.getElem?_eq_none (by simp; omega)] at hx; cases hx

/-- The argument of the laws is a script. -/
theorem scr_of3 {a0 : Option Addr} {len cap : Nat} {x : DataW H × List MemPlace} (hf : DataW.trod enc Tryf.prog w 0 (fun _ => true) true fuel 22 [.slice a0 len cap] = some x) : ∃ ops : List Opn, ops.length = len ∧ (∀ op ∈ ops, op.ok) ∧ (∀ op ∈ ops, op.rng) ∧ Scr w a0 ops := by
  rcases Go.Deep.open_slice Tryf.underlying22 hf with ⟨hcs, _⟩ | ⟨a, len', cap', m, n, D, Pl, hcs, _, hl, _, hm, _, hx⟩
  · simp at hcs
    obtain ⟨rfl, rfl, rfl⟩ := hcs
    exact ⟨[], rfl, fun _ h => (by cases h), fun _ h => (by cases h), ⟨fun h => by simp at h⟩⟩
  · simp at hcs
    obtain ⟨rfl, rfl, rfl⟩ := hcs
    simp only [if_true] at hm
    obtain ⟨b, off, spot⟩ := a
    have each : ∀ i, i < len → ∃ o : Opn, (o.ok ∧ o.rng) ∧ ∀ j, j < 6 → w.cell? (((⟨b, off, spot⟩ : Addr).add (i * 6)).add j) = (opC o)[j]? := by
      intro i hi
      obtain ⟨cs, h1, h2⟩ := hx i (by omega)
      rw [cells33] at h1
      obtain ⟨o, ho, rfl⟩ := op_of3 h2
      obtain ⟨_, _, h3⟩ := World.cells?_some h1
      exact ⟨o, ho, h3⟩
    obtain ⟨ops, hlen, hp⟩ := list_of len each
    refine ⟨ops, hlen, fun op hop => ?_, fun op hop => ?_, ⟨fun {i x} hix => ?_⟩⟩
    · obtain ⟨i, hi⟩ := List.getElem?_of_mem hop
      exact (hp i op hi).1.1
    · obtain ⟨i, hi⟩ := List.getElem?_of_mem hop
      exact (hp i op hi).1.2
    · have hpos : 0 < len := by have := (List.getElem?_eq_some_iff.1 hix).1; omega
      obtain ⟨y, hy⟩ := get_some (xs := ops) (i := 0) (by omega)
      have h0 := (hp 0 y hy).2 0 (by omega)
      have h0' : w.cell? ⟨b, off, spot⟩ = some (.int .u8 y.kind) := by simpa [Addr.add, opC] using h0
      have hspot : spot = none := World.cell?_spot h0'
      subst hspot
      refine ⟨b, off, rfl, ?_, fun j z hz t v ht => ?_⟩
      · unfold World.cell? at h0'
        rcases Nat.lt_or_ge b w.heap.size with h | h
        · exact h
        · rw [show w.heap[b]? = none by simp; omega] at h0'; cases h0'
      · have ht6 : t < 6 := (List.getElem?_eq_some_iff.1 ht).1
        have := (hp j z hz).2 t ht6
        rw [addr_add, addr_add, ht] at this
        exact this

end

theorem below_of {W W' : World} (h : Fr [] W W') : Below W.heap.size W W' := ⟨h.os, h.tape, h.output, h.size, fun k hk => h.block k hk (by simp)⟩

end Go.Proofs.Qxb6500919aFmt
