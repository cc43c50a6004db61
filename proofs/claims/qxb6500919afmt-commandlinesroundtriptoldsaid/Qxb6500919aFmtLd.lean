/-
  What the row lists of the package-level variables, as the walks ask it.
-/
import Derived.Test.Qxb6500919aFmtGv
import Derived.Test.Qxb6500919aFmtRows
import Derived.ProofKit
import Derived.OpenShut
import Derived.Stop.LaidErr
import Derived.Lib.LaidTab
import Derived.Lib.LaidU8
namespace Go.Proofs.Qxb6500919aFmt
open Go.Sx Go.Rp Go.ChangeShapes Go.WideShapes Go.ChangeAt Go.RowKit
set_option maxRecDepth 100000

theorem star_err : "*" ++ "errors.errorString" = "*errors.errorString" := by decide
theorem row171 (u : TypeId) (h : Tryf.prog.typeName? 3 u = some "*errors.errorString") : u = 171 :=
  typeName_ptr_named (nm := "errors.errorString") (by rw [star_err]; kernel_rfl) (by kernel_rfl) (by decide) u (by rw [star_err]; exact h)

theorem u62 : Tryf.prog.underlying 62 = some (.array 9 61) := by kernel_rfl
theorem u82 : Tryf.prog.underlying 82 = some (.array 6 9) := by kernel_rfl
theorem u9 : Tryf.prog.underlying 9 = some .string := by kernel_rfl
theorem u3 : Tryf.prog.underlying 3 = some (.int .i64) := by kernel_rfl
theorem c62 : Tryf.prog.cellsOf 62 = 18 := by kernel_rfl
theorem c61 : Tryf.prog.cellsOf 61 = 2 := by kernel_rfl
theorem c82 : Tryf.prog.cellsOf 82 = 6 := by kernel_rfl
theorem c9 : Tryf.prog.cellsOf 9 = 1 := by kernel_rfl
theorem c3 : Tryf.prog.cellsOf 3 = 1 := by kernel_rfl

section
variable {H : Type} {enc : TypeId × Value → H} {w : World} {base fuel : Nat} {sp : Nat → Bool} {held : Bool}

theorem str_of {cs : List Value} {x : DataW H × List MemPlace} {l : List UInt8} (h : DataW.trod enc Tryf.prog w base sp held fuel 9 cs = some x) (hx : x.1 = .lit (.string l)) : cs = [.string (bs l)] := by
  obtain ⟨s, rfl, rfl, _⟩ := DataW.trod_string u9 h
  simp only [DataW.lit.injEq, Lit.string.injEq] at hx
  rw [← hx, bs_of]

theorem num_of {cs : List Value} {x : DataW H × List MemPlace} {n : Int} (h : DataW.trod enc Tryf.prog w base sp held fuel 3 cs = some x) (hx : x.1 = .lit (.int .i64 n)) : cs = [.int .i64 n] := by
  obtain ⟨s, rfl, rfl, _⟩ := DataW.trod_int u3 h
  simp only [DataW.lit.injEq, Lit.int.injEq, true_and] at hx
  rw [hx]

theorem pair_of {cs : List Value} {x : DataW H × List MemPlace} {l : List UInt8} {n : Int} (h : DataW.trod enc Tryf.prog w base sp held fuel 61 cs = some x) (hx : x.1 = .agg [.lit (.string l), .lit (.int .i64 n)]) : cs = [.string (bs l), .int .i64 n] := by
  obtain ⟨xs, m, _, rfl, hlen, hxl, hf⟩ := DataW.trod_struct Tryf.underlying61 h
  rw [c61] at hlen
  match cs, hlen, xs, hxl with
  | [a, b], _, [y0, y1], _ =>
    have g0 : DataW.trod enc Tryf.prog w base sp held m 9 (([a, b].drop 0).take (Tryf.prog.cellsOf 9)) = some y0 := hf 0 _ rfl
    rw [c9] at g0
    have g1 : DataW.trod enc Tryf.prog w base sp held m 3 (([a, b].drop 1).take (Tryf.prog.cellsOf 3)) = some y1 := hf 1 _ rfl
    rw [c3] at g1
    simp only [List.map_cons, List.map_nil, DataW.agg.injEq, List.cons.injEq, and_true] at hx
    have e0 := str_of g0 hx.1
    have e1 := num_of g1 hx.2
    simp at e0 e1
    rw [e0, e1]

theorem verbs_of {cs : List Value} {x : DataW H × List MemPlace} (h : DataW.trod enc Tryf.prog w base sp held fuel 62 cs = some x) (hx : x.1 = Rows.laid_e2e_replay_verbs) : cs = verbsC := by
  obtain ⟨xs, m, _, rfl, hlen, hxl, hf⟩ := DataW.trod_array u62 h
  rw [c62] at hlen
  match cs, hlen, xs, hxl with
  | [a0, a1, a2, a3, a4, a5, a6, a7, a8, a9, a10, a11, a12, a13, a14, a15, a16, a17], _, [y0, y1, y2, y3, y4, y5, y6, y7, y8], _ =>
    rw [c61] at hf
    simp only [Rows.laid_e2e_replay_verbs, List.map_cons, List.map_nil, DataW.agg.injEq, List.cons.injEq, and_true] at hx
    obtain ⟨h0, h1, h2, h3, h4, h5, h6, h7, h8⟩ := hx
    have e0 := pair_of (hf 0 (by decide)) h0
    have e1 := pair_of (hf 1 (by decide)) h1
    have e2 := pair_of (hf 2 (by decide)) h2
    have e3 := pair_of (hf 3 (by decide)) h3
    have e4 := pair_of (hf 4 (by decide)) h4
    have e5 := pair_of (hf 5 (by decide)) h5
    have e6 := pair_of (hf 6 (by decide)) h6
    have e7 := pair_of (hf 7 (by decide)) h7
    have e8 := pair_of (hf 8 (by decide)) h8
    simp at e0 e1 e2 e3 e4 e5 e6 e7 e8
    obtain ⟨rfl, rfl⟩ := e0
    obtain ⟨rfl, rfl⟩ := e1
    obtain ⟨rfl, rfl⟩ := e2
    obtain ⟨rfl, rfl⟩ := e3
    obtain ⟨rfl, rfl⟩ := e4
    obtain ⟨rfl, rfl⟩ := e5
    obtain ⟨rfl, rfl⟩ := e6
    obtain ⟨rfl, rfl⟩ := e7
    obtain ⟨rfl, rfl⟩ := e8
    rfl

theorem codes_of {cs : List Value} {x : DataW H × List MemPlace} (h : DataW.trod enc Tryf.prog w base sp held fuel 82 cs = some x) (hx : x.1 = Rows.laid_e2e_replay_codeWords) : cs = codesC := by
  obtain ⟨xs, m, _, rfl, hlen, hxl, hf⟩ := DataW.trod_array u82 h
  rw [c82] at hlen
  match cs, hlen, xs, hxl with
  | [a0, a1, a2, a3, a4, a5], _, [y0, y1, y2, y3, y4, y5], _ =>
    rw [c9] at hf
    simp only [Rows.laid_e2e_replay_codeWords, List.map_cons, List.map_nil, DataW.agg.injEq, List.cons.injEq, and_true] at hx
    obtain ⟨h0, h1, h2, h3, h4, h5⟩ := hx
    have e0 := str_of (hf 0 (by decide)) h0
    have e1 := str_of (hf 1 (by decide)) h1
    have e2 := str_of (hf 2 (by decide)) h2
    have e3 := str_of (hf 3 (by decide)) h3
    have e4 := str_of (hf 4 (by decide)) h4
    have e5 := str_of (hf 5 (by decide)) h5
    simp at e0 e1 e2 e3 e4 e5
    subst e0 e1 e2 e3 e4 e5
    rfl
end

theorem pow_eq : (Rows.laid_internal_strconv_uint64pow10 : DataW Unit) = Lib.tabData .u64 Lib.pow10Tab := by kernel_rfl
theorem asc_eq : (Rows.laid_strings_asciiSpace : DataW Unit) = Lib.tabData .u8 Lib.asciiSpaceTab := by kernel_rfl

theorem gv_of {W : World} (hL : laidMet Tryf.prog Rows.commandLinesRoundTripRow.laid W) : GV W := by
  have hL' : laidMet Tryf.prog [("math/bits.deBruijn32tab", Rows.laid_math_bits_deBruijn32tab), ("math/bits.deBruijn64tab", Rows.laid_math_bits_deBruijn64tab), ("internal/strconv.uint64pow10", Rows.laid_internal_strconv_uint64pow10), ("strconv.ErrRange", Rows.laid_strconv_ErrRange), ("strconv.ErrSyntax", Rows.laid_strconv_ErrSyntax), ("unicode.White_Space", Rows.laid_unicode_White_Space), ("strings.asciiSpace", Rows.laid_strings_asciiSpace), ("e2e/replay.verbs", Rows.laid_e2e_replay_verbs), ("e2e/replay.codeWords", Rows.laid_e2e_replay_codeWords)] W := hL
  refine ⟨⟨?_, ?_, ?_, ?_⟩, ?_, ?_⟩
  · have h := hL'.tail.tail
    rw [pow_eq] at h
    exact Lib.tabIs_of_head (g := 6) (t := 165) (e := 29) (n := 20) (by kernel_rfl) (by kernel_rfl) (by kernel_rfl) (by kernel_rfl) (by kernel_rfl) (by kernel_rfl) h
  · have h := hL'.tail.tail.tail.tail.tail.tail
    rw [asc_eq] at h
    exact Lib.tabIs_of_head (g := 2) (t := 96) (e := 5) (n := 256) (by kernel_rfl) (by kernel_rfl) (by kernel_rfl) (by kernel_rfl) (by kernel_rfl) (by kernel_rfl) h
  · obtain ⟨a, s, hv, _⟩ := laid_sentinel (g := 4) hL'.tail.tail.tail.tail (by kernel_rfl) (by kernel_rfl) Tryf.underlying37 row171 Tryf.underlying171 Tryf.underlying173 rfl rfl u9 (by kernel_rfl) (by kernel_rfl)
    exact ⟨_, _, hv⟩
  · obtain ⟨a, s, hv, _⟩ := laid_sentinel (g := 5) hL'.tail.tail.tail (by kernel_rfl) (by kernel_rfl) Tryf.underlying37 row171 Tryf.underlying171 Tryf.underlying173 rfl rfl u9 (by kernel_rfl) (by kernel_rfl)
    exact ⟨_, _, hv⟩
  · obtain ⟨g, t, cs, fuel, p, hg, ht, hv, hd⟩ := Lib.laidMet.reads hL' (n := "e2e/replay.verbs") (d := Rows.laid_e2e_replay_verbs) (by simp)
    obtain rfl := Option.some.inj (gVerbs.symm.trans hg)
    obtain rfl : 62 = t := Option.some.inj ((show (Tryf.prog.globals[0]?).map (·.type) = some 62 by kernel_rfl).symm.trans ht)
    have := verbs_of hd rfl
    rw [hv, ← this]
  · obtain ⟨g, t, cs, fuel, p, hg, ht, hv, hd⟩ := Lib.laidMet.reads hL' (n := "e2e/replay.codeWords") (d := Rows.laid_e2e_replay_codeWords) (by simp)
    obtain rfl := Option.some.inj (gCodes.symm.trans hg)
    obtain rfl : 82 = t := Option.some.inj ((show (Tryf.prog.globals[1]?).map (·.type) = some 82 by kernel_rfl).symm.trans ht)
    have := codes_of hd rfl
    rw [hv, ← this]

end Go.Proofs.Qxb6500919aFmt
