/-
  What the rows list of the package-level variables, as the walks ask it.
-/
import Derived.Test.Qxb6500918aDoorRows
import Derived.Test.Qxb6500918aDoorKf
import Derived.Test.Qxb6500918aDoorKz
import Derived.Test.Qxb6500918aDoorLf
import Derived.ProofKit
import Derived.OpenShut
import Derived.LaidLaws
import Derived.LaidHandle
import Derived.Lib.LaidIn
import Derived.Lib.LaidTab
namespace Go.Proofs.Qxb6500918aDoor
open Go.Sx Go.Kn Go.ChangeShapes Go.WideShapes Go.ChangeAt Go.RowKit
set_option maxRecDepth 100000

section
variable {H : Type} {enc : TypeId × Value → H} {w : World} {base fuel : Nat} {sp : Nat → Bool} {held : Bool}

theorem nint {t : TypeId} {k : IntKind} (ht : Tryd.prog.underlying t = some (.int k)) {cs : List Value} {x : DataW H × List MemPlace} {n : Int} (h : DataW.trod enc Tryd.prog w base sp held fuel t cs = some x) (hx : x.1 = .lit (.int k n)) : cs = [.int k n] := by
  obtain ⟨s, rfl, rfl, _⟩ := DataW.trod_int ht h
  simp only [DataW.lit.injEq, Lit.int.injEq, true_and] at hx
  rw [hx]

theorem nbool {t : TypeId} (ht : Tryd.prog.underlying t = some .bool) {cs : List Value} {x : DataW H × List MemPlace} {b : Bool} (h : DataW.trod enc Tryd.prog w base sp held fuel t cs = some x) (hx : x.1 = .lit (.bool b)) : cs = [.bool b] := by
  obtain ⟨s, rfl, rfl⟩ := DataW.trod_bool ht h
  simp only [DataW.lit.injEq, Lit.bool.injEq] at hx
  rw [hx]

theorem nc54 : Tryd.prog.cellsOf 54 = 1 := by kernel_rfl

theorem nc5 : Tryd.prog.cellsOf 5 = 1 := by kernel_rfl

theorem nc37 : Tryd.prog.cellsOf 37 = 1 := by kernel_rfl

theorem nc30 : Tryd.prog.cellsOf 30 = 1 := by kernel_rfl

theorem nc39 : Tryd.prog.cellsOf 39 = 2 := by kernel_rfl

theorem nd39 {cs : List Value} {x : DataW H × List MemPlace} (h : DataW.trod enc Tryd.prog w base sp held fuel 39 cs = some x) (hx : x.1 = .agg [.lit (.int .u16 0), .lit (.int .u32 0)]) : cs = [.int .u16 0, .int .u32 0] := by
  obtain ⟨xs, m, _, rfl, hlen, hxl, hf⟩ := DataW.trod_struct Tryd.underlying39 h
  rw [nc39] at hlen
  match cs, hlen, xs, hxl with
  | [a0, a1], _, [y0, y1], _ =>
    simp only [List.map_cons, List.map_nil, DataW.agg.injEq, List.cons.injEq, and_true] at hx
    obtain ⟨h0, h1⟩ := hx
    have g0 : DataW.trod enc Tryd.prog w base sp held m 37 (([a0, a1].drop 0).take (Tryd.prog.cellsOf 37)) = some y0 := hf 0 _ rfl
    rw [nc37] at g0
    have e0 := (nint (show Tryd.prog.underlying 37 = some (.int .u16) by kernel_rfl) g0 h0)
    have g1 : DataW.trod enc Tryd.prog w base sp held m 30 (([a0, a1].drop 1).take (Tryd.prog.cellsOf 30)) = some y1 := hf 1 _ rfl
    rw [nc30] at g1
    have e1 := (nint (show Tryd.prog.underlying 30 = some (.int .u32) by kernel_rfl) g1 h1)
    simp at e0 e1
    subst e0
    subst e1
    rfl

theorem nc31 : Tryd.prog.cellsOf 31 = 1 := by kernel_rfl

theorem nc40 : Tryd.prog.cellsOf 40 = 4 := by kernel_rfl

theorem nd40 {cs : List Value} {x : DataW H × List MemPlace} (h : DataW.trod enc Tryd.prog w base sp held fuel 40 cs = some x) (hx : x.1 = .agg [.lit (.int .u64 0), .lit (.int .u64 0), .lit (.int .u64 0), .lit (.int .u64 0)]) : cs = [.int .u64 0, .int .u64 0, .int .u64 0, .int .u64 0] := by
  obtain ⟨xs, m, _, rfl, hlen, hxl, hf⟩ := DataW.trod_array (show Tryd.prog.underlying 40 = some (.array 4 31) by kernel_rfl) h
  rw [nc40] at hlen
  match cs, hlen, xs, hxl with
  | [a0, a1, a2, a3], _, [y0, y1, y2, y3], _ =>
    rw [nc31] at hf
    simp only [List.map_cons, List.map_nil, DataW.agg.injEq, List.cons.injEq, and_true] at hx
    obtain ⟨h0, h1, h2, h3⟩ := hx
    have e0 := (nint (show Tryd.prog.underlying 31 = some (.int .u64) by kernel_rfl) (hf 0 (by decide)) h0)
    have e1 := (nint (show Tryd.prog.underlying 31 = some (.int .u64) by kernel_rfl) (hf 1 (by decide)) h1)
    have e2 := (nint (show Tryd.prog.underlying 31 = some (.int .u64) by kernel_rfl) (hf 2 (by decide)) h2)
    have e3 := (nint (show Tryd.prog.underlying 31 = some (.int .u64) by kernel_rfl) (hf 3 (by decide)) h3)
    simp at e0 e1 e2 e3
    subst e0
    subst e1
    subst e2
    subst e3
    rfl

theorem nc4 : Tryd.prog.cellsOf 4 = 1 := by kernel_rfl

theorem nc59 : Tryd.prog.cellsOf 59 = 19 := by kernel_rfl

theorem nd59 {cs : List Value} {x : DataW H × List MemPlace} (h : DataW.trod enc Tryd.prog w base sp held fuel 59 cs = some x) (hx : x.1 = .agg [.lit (.int .u8 0), .lit (.int .u8 0), .agg [.lit (.int .u16 0), .lit (.int .u32 0)], .agg [.lit (.int .u16 0), .lit (.int .u32 0)], .agg [.lit (.int .u16 0), .lit (.int .u32 0)], .lit (.int .u64 0), .agg [.lit (.int .u64 0), .lit (.int .u64 0), .lit (.int .u64 0), .lit (.int .u64 0)], .lit (.int .u8 0), .lit (.int .u8 0), .lit (.int .u32 0), .lit (.int .u32 0), .lit (.bool false), .lit (.bool false)]) : cs = [.int .u8 0, .int .u8 0, .int .u16 0, .int .u32 0, .int .u16 0, .int .u32 0, .int .u16 0, .int .u32 0, .int .u64 0, .int .u64 0, .int .u64 0, .int .u64 0, .int .u64 0, .int .u8 0, .int .u8 0, .int .u32 0, .int .u32 0, .bool false, .bool false] := by
  obtain ⟨xs, m, _, rfl, hlen, hxl, hf⟩ := DataW.trod_struct Tryd.underlying59 h
  rw [nc59] at hlen
  match cs, hlen, xs, hxl with
  | [a0, a1, a2, a3, a4, a5, a6, a7, a8, a9, a10, a11, a12, a13, a14, a15, a16, a17, a18], _, [y0, y1, y2, y3, y4, y5, y6, y7, y8, y9, y10, y11, y12], _ =>
    simp only [List.map_cons, List.map_nil, DataW.agg.injEq, List.cons.injEq, and_true] at hx
    obtain ⟨h0, h1, h2, h3, h4, h5, h6, h7, h8, h9, h10, h11, h12⟩ := hx
    have g0 : DataW.trod enc Tryd.prog w base sp held m 54 (([a0, a1, a2, a3, a4, a5, a6, a7, a8, a9, a10, a11, a12, a13, a14, a15, a16, a17, a18].drop 0).take (Tryd.prog.cellsOf 54)) = some y0 := hf 0 _ rfl
    rw [nc54] at g0
    have e0 := (nint (show Tryd.prog.underlying 54 = some (.int .u8) by kernel_rfl) g0 h0)
    have g1 : DataW.trod enc Tryd.prog w base sp held m 5 (([a0, a1, a2, a3, a4, a5, a6, a7, a8, a9, a10, a11, a12, a13, a14, a15, a16, a17, a18].drop 1).take (Tryd.prog.cellsOf 5)) = some y1 := hf 1 _ rfl
    rw [nc5] at g1
    have e1 := (nint (show Tryd.prog.underlying 5 = some (.int .u8) by kernel_rfl) g1 h1)
    have g2 : DataW.trod enc Tryd.prog w base sp held m 39 (([a0, a1, a2, a3, a4, a5, a6, a7, a8, a9, a10, a11, a12, a13, a14, a15, a16, a17, a18].drop 2).take (Tryd.prog.cellsOf 39)) = some y2 := hf 2 _ rfl
    rw [nc39] at g2
    have e2 := nd39 g2 h2
    have g3 : DataW.trod enc Tryd.prog w base sp held m 39 (([a0, a1, a2, a3, a4, a5, a6, a7, a8, a9, a10, a11, a12, a13, a14, a15, a16, a17, a18].drop 4).take (Tryd.prog.cellsOf 39)) = some y3 := hf 3 _ rfl
    rw [nc39] at g3
    have e3 := nd39 g3 h3
    have g4 : DataW.trod enc Tryd.prog w base sp held m 39 (([a0, a1, a2, a3, a4, a5, a6, a7, a8, a9, a10, a11, a12, a13, a14, a15, a16, a17, a18].drop 6).take (Tryd.prog.cellsOf 39)) = some y4 := hf 4 _ rfl
    rw [nc39] at g4
    have e4 := nd39 g4 h4
    have g5 : DataW.trod enc Tryd.prog w base sp held m 31 (([a0, a1, a2, a3, a4, a5, a6, a7, a8, a9, a10, a11, a12, a13, a14, a15, a16, a17, a18].drop 8).take (Tryd.prog.cellsOf 31)) = some y5 := hf 5 _ rfl
    rw [nc31] at g5
    have e5 := (nint (show Tryd.prog.underlying 31 = some (.int .u64) by kernel_rfl) g5 h5)
    have g6 : DataW.trod enc Tryd.prog w base sp held m 40 (([a0, a1, a2, a3, a4, a5, a6, a7, a8, a9, a10, a11, a12, a13, a14, a15, a16, a17, a18].drop 9).take (Tryd.prog.cellsOf 40)) = some y6 := hf 6 _ rfl
    rw [nc40] at g6
    have e6 := nd40 g6 h6
    have g7 : DataW.trod enc Tryd.prog w base sp held m 5 (([a0, a1, a2, a3, a4, a5, a6, a7, a8, a9, a10, a11, a12, a13, a14, a15, a16, a17, a18].drop 13).take (Tryd.prog.cellsOf 5)) = some y7 := hf 7 _ rfl
    rw [nc5] at g7
    have e7 := (nint (show Tryd.prog.underlying 5 = some (.int .u8) by kernel_rfl) g7 h7)
    have g8 : DataW.trod enc Tryd.prog w base sp held m 5 (([a0, a1, a2, a3, a4, a5, a6, a7, a8, a9, a10, a11, a12, a13, a14, a15, a16, a17, a18].drop 14).take (Tryd.prog.cellsOf 5)) = some y8 := hf 8 _ rfl
    rw [nc5] at g8
    have e8 := (nint (show Tryd.prog.underlying 5 = some (.int .u8) by kernel_rfl) g8 h8)
    have g9 : DataW.trod enc Tryd.prog w base sp held m 30 (([a0, a1, a2, a3, a4, a5, a6, a7, a8, a9, a10, a11, a12, a13, a14, a15, a16, a17, a18].drop 15).take (Tryd.prog.cellsOf 30)) = some y9 := hf 9 _ rfl
    rw [nc30] at g9
    have e9 := (nint (show Tryd.prog.underlying 30 = some (.int .u32) by kernel_rfl) g9 h9)
    have g10 : DataW.trod enc Tryd.prog w base sp held m 30 (([a0, a1, a2, a3, a4, a5, a6, a7, a8, a9, a10, a11, a12, a13, a14, a15, a16, a17, a18].drop 16).take (Tryd.prog.cellsOf 30)) = some y10 := hf 10 _ rfl
    rw [nc30] at g10
    have e10 := (nint (show Tryd.prog.underlying 30 = some (.int .u32) by kernel_rfl) g10 h10)
    have g11 : DataW.trod enc Tryd.prog w base sp held m 4 (([a0, a1, a2, a3, a4, a5, a6, a7, a8, a9, a10, a11, a12, a13, a14, a15, a16, a17, a18].drop 17).take (Tryd.prog.cellsOf 4)) = some y11 := hf 11 _ rfl
    rw [nc4] at g11
    have e11 := (nbool (show Tryd.prog.underlying 4 = some .bool by kernel_rfl) g11 h11)
    have g12 : DataW.trod enc Tryd.prog w base sp held m 4 (([a0, a1, a2, a3, a4, a5, a6, a7, a8, a9, a10, a11, a12, a13, a14, a15, a16, a17, a18].drop 18).take (Tryd.prog.cellsOf 4)) = some y12 := hf 12 _ rfl
    rw [nc4] at g12
    have e12 := (nbool (show Tryd.prog.underlying 4 = some .bool by kernel_rfl) g12 h12)
    simp at e0 e1 e2 e3 e4 e5 e6 e7 e8 e9 e10 e11 e12
    subst e0
    subst e1
    obtain ⟨rfl, rfl⟩ := e2
    obtain ⟨rfl, rfl⟩ := e3
    obtain ⟨rfl, rfl⟩ := e4
    subst e5
    obtain ⟨rfl, rfl, rfl, rfl⟩ := e6
    subst e7
    subst e8
    subst e9
    subst e10
    subst e11
    subst e12
    rfl

theorem nc78 : Tryd.prog.cellsOf 78 = 1 := by kernel_rfl

theorem nc81 : Tryd.prog.cellsOf 81 = 21 := by kernel_rfl

theorem nd81 {cs : List Value} {x : DataW H × List MemPlace} (h : DataW.trod enc Tryd.prog w base sp held fuel 81 cs = some x) (hx : x.1 = .agg [.agg [.lit (.int .u8 0), .lit (.int .u8 0), .agg [.lit (.int .u16 0), .lit (.int .u32 0)], .agg [.lit (.int .u16 0), .lit (.int .u32 0)], .agg [.lit (.int .u16 0), .lit (.int .u32 0)], .lit (.int .u64 0), .agg [.lit (.int .u64 0), .lit (.int .u64 0), .lit (.int .u64 0), .lit (.int .u64 0)], .lit (.int .u8 0), .lit (.int .u8 0), .lit (.int .u32 0), .lit (.int .u32 0), .lit (.bool false), .lit (.bool false)], .lit (.int .i16 (-1)), .lit (.int .i16 (-1))]) : cs = [.int .u8 0, .int .u8 0, .int .u16 0, .int .u32 0, .int .u16 0, .int .u32 0, .int .u16 0, .int .u32 0, .int .u64 0, .int .u64 0, .int .u64 0, .int .u64 0, .int .u64 0, .int .u8 0, .int .u8 0, .int .u32 0, .int .u32 0, .bool false, .bool false, .int .i16 (-1), .int .i16 (-1)] := by
  obtain ⟨xs, m, _, rfl, hlen, hxl, hf⟩ := DataW.trod_struct Tryd.underlying81 h
  rw [nc81] at hlen
  match cs, hlen, xs, hxl with
  | [a0, a1, a2, a3, a4, a5, a6, a7, a8, a9, a10, a11, a12, a13, a14, a15, a16, a17, a18, a19, a20], _, [y0, y1, y2], _ =>
    simp only [List.map_cons, List.map_nil, DataW.agg.injEq, List.cons.injEq, and_true] at hx
    obtain ⟨h0, h1, h2⟩ := hx
    have g0 : DataW.trod enc Tryd.prog w base sp held m 59 (([a0, a1, a2, a3, a4, a5, a6, a7, a8, a9, a10, a11, a12, a13, a14, a15, a16, a17, a18, a19, a20].drop 0).take (Tryd.prog.cellsOf 59)) = some y0 := hf 0 _ rfl
    rw [nc59] at g0
    have e0 := nd59 g0 h0
    have g1 : DataW.trod enc Tryd.prog w base sp held m 78 (([a0, a1, a2, a3, a4, a5, a6, a7, a8, a9, a10, a11, a12, a13, a14, a15, a16, a17, a18, a19, a20].drop 19).take (Tryd.prog.cellsOf 78)) = some y1 := hf 1 _ rfl
    rw [nc78] at g1
    have e1 := (nint (show Tryd.prog.underlying 78 = some (.int .i16) by kernel_rfl) g1 h1)
    have g2 : DataW.trod enc Tryd.prog w base sp held m 78 (([a0, a1, a2, a3, a4, a5, a6, a7, a8, a9, a10, a11, a12, a13, a14, a15, a16, a17, a18, a19, a20].drop 20).take (Tryd.prog.cellsOf 78)) = some y2 := hf 2 _ rfl
    rw [nc78] at g2
    have e2 := (nint (show Tryd.prog.underlying 78 = some (.int .i16) by kernel_rfl) g2 h2)
    simp at e0 e1 e2
    obtain ⟨rfl, rfl, rfl, rfl, rfl, rfl, rfl, rfl, rfl, rfl, rfl, rfl, rfl, rfl, rfl, rfl, rfl, rfl, rfl⟩ := e0
    subst e1
    subst e2
    rfl

theorem nc84 : Tryd.prog.cellsOf 84 = 3 := by kernel_rfl

theorem nd84 {cs : List Value} {x : DataW H × List MemPlace} (h : DataW.trod enc Tryd.prog w base sp held fuel 84 cs = some x) (hx : x.1 = .agg [.lit (.int .i16 (-1)), .lit (.int .i16 (-1)), .lit (.int .u32 0)]) : cs = [.int .i16 (-1), .int .i16 (-1), .int .u32 0] := by
  obtain ⟨xs, m, _, rfl, hlen, hxl, hf⟩ := DataW.trod_struct Tryd.underlying84 h
  rw [nc84] at hlen
  match cs, hlen, xs, hxl with
  | [a0, a1, a2], _, [y0, y1, y2], _ =>
    simp only [List.map_cons, List.map_nil, DataW.agg.injEq, List.cons.injEq, and_true] at hx
    obtain ⟨h0, h1, h2⟩ := hx
    have g0 : DataW.trod enc Tryd.prog w base sp held m 78 (([a0, a1, a2].drop 0).take (Tryd.prog.cellsOf 78)) = some y0 := hf 0 _ rfl
    rw [nc78] at g0
    have e0 := (nint (show Tryd.prog.underlying 78 = some (.int .i16) by kernel_rfl) g0 h0)
    have g1 : DataW.trod enc Tryd.prog w base sp held m 78 (([a0, a1, a2].drop 1).take (Tryd.prog.cellsOf 78)) = some y1 := hf 1 _ rfl
    rw [nc78] at g1
    have e1 := (nint (show Tryd.prog.underlying 78 = some (.int .i16) by kernel_rfl) g1 h1)
    have g2 : DataW.trod enc Tryd.prog w base sp held m 30 (([a0, a1, a2].drop 2).take (Tryd.prog.cellsOf 30)) = some y2 := hf 2 _ rfl
    rw [nc30] at g2
    have e2 := (nint (show Tryd.prog.underlying 30 = some (.int .u32) by kernel_rfl) g2 h2)
    simp at e0 e1 e2
    subst e0
    subst e1
    subst e2
    rfl

end

theorem gTCB : Tryd.prog.globalNamed "e2e/kernel.noTCB" = some 1 := by kernel_rfl
theorem gQue : Tryd.prog.globalNamed "e2e/kernel.noQueue" = some 2 := by kernel_rfl
theorem gTCBt : (Tryd.prog.globals[1]?).map (·.type) = some 81 := by kernel_rfl
theorem gQuet : (Tryd.prog.globals[2]?).map (·.type) = some 84 := by kernel_rfl

theorem var_cells {P : Program} {W : World} {n : String} {g : Nat} {cs : Array Value} (hg : P.globalNamed n = some g) (hv : W.var? P n = some cs) : CellsAt W g 0 cs.toList := by
  intro j v hj
  have := World.var?_cell hg hv j
  rw [Nat.zero_add, this, ← hj, Array.getElem?_toList]

theorem vars_at {P : Program} {W : World} : ∀ {l : List (String × DataW Unit)} {ps : List MemPlace}, DataW.LaidVars P W l ps → ∀ {n : String} {d : DataW Unit}, (n, d) ∈ l →
    ∃ g t cs fuel p, P.globalNamed n = some g ∧ (P.globals[g]?).map (·.type) = some t ∧ W.var? P n = some cs ∧ DataW.trod (fun _ => ()) P W 0 (fun _ => true) false fuel t cs.toList = some (d, p)
  | x :: r, _, ⟨g, t, cs, fuel, p, _, h1, h2, h3, h4, h5, _⟩, n, d, hm => by
    by_cases e : (n, d) = x
    · subst e; exact ⟨g, t, cs, fuel, p, h1, h2, h3, h4⟩
    · exact vars_at h5 ((List.mem_cons.1 hm).resolve_left e)

theorem glob_of {l : List (String × DataW Unit)} {W : World} (hL : laidMet Tryd.prog l W) (h1 : ("e2e/kernel.noTCB", Rows.laid_e2e_kernel_noTCB) ∈ l) (h2 : ("e2e/kernel.noQueue", Rows.laid_e2e_kernel_noQueue) ∈ l) : (CellsAt W 1 0 (tcbC noT) ∧ 1 < W.heap.size) ∧ (CellsAt W 2 0 (quC noQ) ∧ 2 < W.heap.size) := by
  have cl : ∀ {g : Nat} {v : Value} {cs : List Value}, CellsAt W g 0 (v :: cs) → g < W.heap.size := fun {g v cs} h => by
    have h0 := h 0 v rfl
    unfold World.cell? at h0
    rcases Nat.lt_or_ge g W.heap.size with h | h
    · exact h
    · rw [show W.heap[g]? = none by simp; omega] at h0; cases h0
  constructor
  · obtain ⟨g, t, cs, fuel, p, hg, ht, hv, hd⟩ := vars_at hL.choose_spec.1 h1
    obtain rfl := Option.some.inj (gTCB.symm.trans hg)
    obtain rfl : 81 = t := Option.some.inj (gTCBt.symm.trans ht)
    have hc := nd81 hd rfl
    have h9 := var_cells gTCB hv
    rw [hc] at h9
    exact ⟨h9, cl h9⟩
  · obtain ⟨g, t, cs, fuel, p, hg, ht, hv, hd⟩ := vars_at hL.choose_spec.1 h2
    obtain rfl := Option.some.inj (gQue.symm.trans hg)
    obtain rfl : 84 = t := Option.some.inj (gQuet.symm.trans ht)
    have hc := nd84 hd rfl
    have h9 := var_cells gQue hv
    rw [hc] at h9
    exact ⟨h9, cl h9⟩

end Go.Proofs.Qxb6500918aDoor
