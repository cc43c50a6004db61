/-
  The library's functions that the commands come to, by the shelf's contracts.
-/
import Derived.Test.Qxb6500919aFmtShelf
import Derived.Test.Qxb6500919aFmtStr
import Derived.Test.Qxb6500919aFmtWH
import Derived.Test.Qxb6500919aFmtTab
namespace Go.Proofs.Qxb6500919aFmt
open Go.Sx Go.Rp Go.RowKit Go.Sort
set_option maxRecDepth 100000

/-- What the library reads of the package-level variables. -/
structure Gl (w : World) : Prop where
  pow : Lib.TabIs Tryf.prog w "internal/strconv.uint64pow10" .u64 Lib.pow10Tab
  asc : Lib.TabIs Tryf.prog w "strings.asciiSpace" .u8 Lib.asciiSpaceTab
  syn : ∃ tp p, w.var? Tryf.prog "strconv.ErrSyntax" = some #[.iface tp p]
  ran : ∃ tp p, w.var? Tryf.prog "strconv.ErrRange" = some #[.iface tp p]

theorem fr_below {w w' : World} (h : Below w.heap.size w w') : Fr [] w w' := ⟨h.os, h.tape, h.output, h.size, fun b hb _ => h.block b hb⟩

theorem itoa_ok (n : Int) (h0 : -9223372036854775808 ≤ n) (h1 : n ≤ 9223372036854775807) (w : World) (hg : Gl w) :
    Calls Tryf.prog 17 #[.int .i64 n] w fun e w' => e = .returned (.string (bs (Lib.itoa n))) ∧ Fr [] w w' := by
  refine (Tryf.strconv_Itoa n h0 h1 w hg.pow).mono ?_
  rintro e w' ⟨rfl, k, os, rfl⟩
  refine ⟨rfl, rfl, rfl, rfl, by simp [grow], fun b hb _ => ?_⟩
  simp only [grow]
  rw [Array.getElem?_append_left (by simpa using hb)]
  simp

/-- strconv.Atoi at every string: a number, or an error that is not nil. -/
theorem atoi_ok (l : List UInt8) (hl : l.length ≤ 1000000) (w : World) (hg : Gl w) :
    Calls Tryf.prog 20 #[.string (bs l)] w fun e w' => Fr [] w w' ∧ ((∃ v, Lib.atoiAll l = .ok v ∧ e = .returned (.tuple #[.int .i64 v, .nilIface])) ∨ ((∀ v, Lib.atoiAll l ≠ .ok v) ∧ ∃ v t p, e = .returned (.tuple #[.int .i64 v, .iface t p]))) := by
  have hsz : (bs l).size = l.length := bs_size l
  obtain ⟨tp, p, hs⟩ := hg.syn
  obtain ⟨tp2, p2, hr⟩ := hg.ran
  cases hE : Lib.atoiAll l with
  | ok v =>
    refine (Tryf.strconv_Atoi_ok (bs l) (by omega) v (by rw [bs_data]; exact hE) w).mono ?_
    rintro e w' ⟨rfl, rfl | ⟨t, rfl⟩⟩
    · exact ⟨Fr.refl _ _, .inl ⟨v, rfl, rfl⟩⟩
    · exact ⟨fr_below (Lib.bytesWorld_below _ _ _), .inl ⟨v, rfl, rfl⟩⟩
  | _ =>
    first
    | (refine (Any.strconv_Atoi_syntax_var Tryf.laysC172 (bs l) (by omega) (by rw [bs_data]; exact hE) tp p w hs).mono ?_
       rintro e w' ⟨N, rfl, hN, hb, hB⟩
       exact ⟨fr_below hB, .inr ⟨fun v hq => (by cases hq), _, _, _, rfl⟩⟩)
    | (refine (Any.strconv_Atoi_range_var Tryf.laysC172 (bs l) (by omega) (by rw [bs_data]; exact hE) tp2 p2 w hr).mono ?_
       rintro e w' ⟨N, rfl, hN, hb, hB⟩
       exact ⟨fr_below hB, .inr ⟨fun v hq => (by cases hq), _, _, _, rfl⟩⟩)

theorem parse8_ok (l : List UInt8) (hl : l.length ≤ 1000000) (w : World) (hg : Gl w) :
    Calls Tryf.prog 19 #[.string (bs l), .int .i64 10, .int .i64 8] w fun e w' => Fr [] w w' ∧ ((∃ v : Nat, Lib.parseUintB 8 l = .ok v ∧ e = .returned (.tuple #[.int .u64 v, .nilIface])) ∨ ((∀ v, Lib.parseUintB 8 l ≠ .ok v) ∧ ∃ v t p, e = .returned (.tuple #[.int .u64 v, .iface t p]))) := by
  have hsz : (bs l).size = l.length := bs_size l
  obtain ⟨tp, p, hs⟩ := hg.syn
  obtain ⟨tp2, p2, hr⟩ := hg.ran
  cases hE : Lib.parseUintB 8 l with
  | ok v =>
    refine (Tryf.strconv_ParseUint_10_at8_ok (bs l) (by omega) v (by rw [bs_data]; exact hE) w).mono ?_
    rintro e w' ⟨rfl, rfl | rfl⟩
    · exact ⟨Fr.refl _ _, .inl ⟨v, rfl, rfl⟩⟩
    · exact ⟨fr_below (Lib.bytesWorld_below _ _ _), .inl ⟨v, rfl, rfl⟩⟩
  | _ =>
    first
    | (refine (Any.strconv_ParseUint_10_at8_syntax_var Tryf.laysPu14 (bs l) (by omega) (by rw [bs_data]; exact hE) tp p w hs).mono ?_
       rintro e w' ⟨N, rfl, hN, hb, hB⟩
       exact ⟨fr_below hB, .inr ⟨fun v hq => (by cases hq), _, _, _, rfl⟩⟩)
    | (refine (Any.strconv_ParseUint_10_at8_range_var Tryf.laysPu14 (bs l) (by omega) (by rw [bs_data]; exact hE) tp2 p2 w hr).mono ?_
       rintro e w' ⟨N, rfl, hN, hb, hB⟩
       exact ⟨fr_below hB, .inr ⟨fun v hq => (by cases hq), _, _, _, rfl⟩⟩)

theorem parse32_ok (l : List UInt8) (hl : l.length ≤ 1000000) (w : World) (hg : Gl w) :
    Calls Tryf.prog 19 #[.string (bs l), .int .i64 10, .int .i64 32] w fun e w' => Fr [] w w' ∧ ((∃ v : Nat, Lib.parseUintB 32 l = .ok v ∧ e = .returned (.tuple #[.int .u64 v, .nilIface])) ∨ ((∀ v, Lib.parseUintB 32 l ≠ .ok v) ∧ ∃ v t p, e = .returned (.tuple #[.int .u64 v, .iface t p]))) := by
  have hsz : (bs l).size = l.length := bs_size l
  obtain ⟨tp, p, hs⟩ := hg.syn
  obtain ⟨tp2, p2, hr⟩ := hg.ran
  cases hE : Lib.parseUintB 32 l with
  | ok v =>
    refine (Tryf.strconv_ParseUint_10_at32_ok (bs l) (by omega) v (by rw [bs_data]; exact hE) w).mono ?_
    rintro e w' ⟨rfl, rfl | rfl⟩
    · exact ⟨Fr.refl _ _, .inl ⟨v, rfl, rfl⟩⟩
    · exact ⟨fr_below (Lib.bytesWorld_below _ _ _), .inl ⟨v, rfl, rfl⟩⟩
  | _ =>
    first
    | (refine (Any.strconv_ParseUint_10_at32_syntax_var Tryf.laysPu14 (bs l) (by omega) (by rw [bs_data]; exact hE) tp p w hs).mono ?_
       rintro e w' ⟨N, rfl, hN, hb, hB⟩
       exact ⟨fr_below hB, .inr ⟨fun v hq => (by cases hq), _, _, _, rfl⟩⟩)
    | (refine (Any.strconv_ParseUint_10_at32_range_var Tryf.laysPu14 (bs l) (by omega) (by rw [bs_data]; exact hE) tp2 p2 w hr).mono ?_
       rintro e w' ⟨N, rfl, hN, hb, hB⟩
       exact ⟨fr_below hB, .inr ⟨fun v hq => (by cases hq), _, _, _, rfl⟩⟩)

theorem parse64_ok (l : List UInt8) (hl : l.length ≤ 1000000) (w : World) (hg : Gl w) :
    Calls Tryf.prog 19 #[.string (bs l), .int .i64 10, .int .i64 64] w fun e w' => Fr [] w w' ∧ ((∃ v : Nat, Lib.parseUintB 64 l = .ok v ∧ e = .returned (.tuple #[.int .u64 v, .nilIface])) ∨ ((∀ v, Lib.parseUintB 64 l ≠ .ok v) ∧ ∃ v t p, e = .returned (.tuple #[.int .u64 v, .iface t p]))) := by
  have hsz : (bs l).size = l.length := bs_size l
  obtain ⟨tp, p, hs⟩ := hg.syn
  obtain ⟨tp2, p2, hr⟩ := hg.ran
  cases hE : Lib.parseUintB 64 l with
  | ok v =>
    refine (Tryf.strconv_ParseUint_10_at64_ok (bs l) (by omega) v (by rw [bs_data]; exact hE) w).mono ?_
    rintro e w' ⟨rfl, rfl | rfl⟩
    · exact ⟨Fr.refl _ _, .inl ⟨v, rfl, rfl⟩⟩
    · exact ⟨fr_below (Lib.bytesWorld_below _ _ _), .inl ⟨v, rfl, rfl⟩⟩
  | _ =>
    first
    | (refine (Any.strconv_ParseUint_10_at64_syntax_var Tryf.laysPu14 (bs l) (by omega) (by rw [bs_data]; exact hE) tp p w hs).mono ?_
       rintro e w' ⟨N, rfl, hN, hb, hB⟩
       exact ⟨fr_below hB, .inr ⟨fun v hq => (by cases hq), _, _, _, rfl⟩⟩)
    | (refine (Any.strconv_ParseUint_10_at64_range_var Tryf.laysPu14 (bs l) (by omega) (by rw [bs_data]; exact hE) tp2 p2 w hr).mono ?_
       rintro e w' ⟨N, rfl, hN, hb, hB⟩
       exact ⟨fr_below hB, .inr ⟨fun v hq => (by cases hq), _, _, _, rfl⟩⟩)

theorem fields_ok (l : List UInt8) (hl : l.length ≤ 1000000) (ha : ∀ b ∈ l, b.toNat < 128) (w : World) (hg : Gl w) :
    Calls Tryf.prog 18 #[.string (bs l)] w fun e w' => ∃ b, e = .returned (.slice (some ⟨b, 0, none⟩) (Lib.fields l).length (Lib.fields l).length) ∧ w'.heap[b]? = some (Blk.obj ⟨(Lib.fields l).map (fun x => Value.string (bs x)), 9, false⟩) ∧ Fr [] w w' ∧ w.heap.size ≤ b := by
  refine (Tryf.strings_Fields (bs l) w (by rw [bs_size]; omega) (fun j b hb => ha b (by rw [bs_data] at hb; exact List.mem_of_getElem? hb)) hg.asc).mono ?_
  rintro e w' ⟨rfl, rfl⟩
  rw [bs_data]
  refine ⟨w.heap.size, rfl, ?_, ⟨rfl, rfl, rfl, by simp, fun b hb _ => (by simp only [World.alloc]; rw [Array.getElem?_push, if_neg (by omega)])⟩, Nat.le_refl _⟩
  simp only [World.alloc, Blk.obj]
  rw [Array.getElem?_push, if_pos rfl]
  rfl

end Go.Proofs.Qxb6500919aFmt
