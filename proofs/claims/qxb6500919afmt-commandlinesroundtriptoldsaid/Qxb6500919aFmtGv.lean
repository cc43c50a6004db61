/-
  What the package-level variables hold; the plain functions behind Format and Parse.
-/
import Derived.Test.Qxb6500919aFmtCt
import Derived.Test.Qxb6500919aFmtTab2
namespace Go.Rp
open Go.Sx

def verbW : Nat → List UInt8
  | 0 => [115, 116, 101, 112]
  | 1 => [115, 101, 101, 107]
  | 2 => [98, 97, 99, 107]
  | 3 => [102, 111, 114, 119, 97, 114, 100]
  | 4 => [116, 114, 117, 110, 99, 97, 116, 101]
  | 5 => [114, 101, 115, 117, 109, 101]
  | 6 => [99, 104, 101, 99, 107]
  | 7 => [114, 101, 112, 108, 97, 121]
  | 8 => [119, 104, 101, 114, 101]
  | _ => []

def verbN : Nat → Nat
  | 0 => 3
  | 5 => 0
  | 7 => 2
  | 8 => 0
  | _ => 1

def codeW : Nat → List UInt8
  | 0 => [111, 107]
  | 1 => [114, 101, 102, 117, 115, 101, 100, 58, 32, 105, 110, 100, 101, 120, 32, 111, 117, 116, 32, 111, 102, 32, 114, 97, 110, 103, 101]
  | 2 => [114, 101, 102, 117, 115, 101, 100, 58, 32, 110, 111, 32, 115, 110, 97, 112, 115, 104, 111, 116, 32, 104, 101, 108, 100, 32, 116, 104, 101, 114, 101]
  | 3 => [114, 101, 102, 117, 115, 101, 100, 58, 32, 114, 101, 112, 108, 97, 121, 105, 110, 103, 44, 32, 114, 101, 115, 117, 109, 101, 32, 102, 105, 114, 115, 116]
  | 4 => [114, 101, 102, 117, 115, 101, 100, 58, 32, 108, 111, 103, 32, 102, 117, 108, 108]
  | _ => [114, 101, 102, 117, 115, 101, 100, 58, 32, 117, 110, 107, 110, 111, 119, 110, 32, 99, 111, 109, 109, 97, 110, 100]

def verbsC : List Value := [.string (bs (verbW 0)), .int .i64 3, .string (bs (verbW 1)), .int .i64 1, .string (bs (verbW 2)), .int .i64 1, .string (bs (verbW 3)), .int .i64 1, .string (bs (verbW 4)), .int .i64 1, .string (bs (verbW 5)), .int .i64 0, .string (bs (verbW 6)), .int .i64 1, .string (bs (verbW 7)), .int .i64 2, .string (bs (verbW 8)), .int .i64 0]
def codesC : List Value := [.string (bs (codeW 0)), .string (bs (codeW 1)), .string (bs (codeW 2)), .string (bs (codeW 3)), .string (bs (codeW 4)), .string (bs (codeW 5))]

theorem verbs_at : ∀ {k : Nat}, k < 9 → verbsC[k * 2]? = some (.string (bs (verbW k))) ∧ verbsC[k * 2 + 1]? = some (.int .i64 (verbN k : Nat)) := by
  intro k hk
  match k, hk with
  | 0, _ => exact ⟨rfl, rfl⟩
  | 1, _ => exact ⟨rfl, rfl⟩
  | 2, _ => exact ⟨rfl, rfl⟩
  | 3, _ => exact ⟨rfl, rfl⟩
  | 4, _ => exact ⟨rfl, rfl⟩
  | 5, _ => exact ⟨rfl, rfl⟩
  | 6, _ => exact ⟨rfl, rfl⟩
  | 7, _ => exact ⟨rfl, rfl⟩
  | 8, _ => exact ⟨rfl, rfl⟩
  | n + 9, h => omega

theorem codes_at : ∀ {k : Nat}, k < 6 → codesC[k]? = some (.string (bs (codeW k))) := by
  intro k hk
  match k, hk with
  | 0, _ => rfl
  | 1, _ => rfl
  | 2, _ => rfl
  | 3, _ => rfl
  | 4, _ => rfl
  | 5, _ => rfl
  | n + 6, h => omega

theorem codeW_len (k : Nat) : (codeW k).length ≤ 40 := by
  unfold codeW; split <;> decide

/-- The verb's place: the last whose word it is; 9: none. -/
def kindP : Nat → List UInt8 → Nat
  | 0, _ => 9
  | k + 1, x => if verbW k == x then k else kindP k x

def numB (B : Nat) (l : List UInt8) : Option Int := match Lib.parseUintB B l with
  | .ok v => some (v : Int)
  | _ => none
def numI (l : List UInt8) : Option Int := match Lib.atoiAll l with
  | .ok v => some v
  | _ => none

def parseW (k : Nat) (xs : List (List UInt8)) : Option Opn := match xs with
  | [] => if verbN k = 0 then some ⟨k, 0, 0, ⟨0, 0, 0⟩⟩ else none
  | [a] => if verbN k = 1 then (match numI a with | some n => some ⟨k, n, 0, ⟨0, 0, 0⟩⟩ | none => none) else none
  | [a, b] => if verbN k = 2 then (match numI a with | some n => (match numI b with | some m => some ⟨k, n, m, ⟨0, 0, 0⟩⟩ | none => none) | none => none) else none
  | [a, b, c] => if verbN k = 3 then (match numB 8 a with | some x => (match numB 32 b with | some y => (match numB 64 c with | some z => some ⟨k, 0, 0, ⟨x, y, z⟩⟩ | none => none) | none => none) | none => none) else none
  | _ => none

def parseP (l : List UInt8) : Option Opn := match Lib.fields l with
  | [] => none
  | x :: xs => if kindP 9 x = 9 then none else parseW (kindP 9 x) xs

def fmtP (op : Opn) : List UInt8 :=
  if op.kind = 0 then verbW 0 ++ ([32] ++ Lib.itoa op.ev.kind ++ [32] ++ Lib.itoa op.ev.pick ++ [32] ++ Lib.itoa op.ev.arg) else
  if verbN op.kind.toNat = 1 then verbW op.kind.toNat ++ ([32] ++ Lib.itoa op.n) else
  if verbN op.kind.toNat = 2 then verbW op.kind.toNat ++ ([32] ++ Lib.itoa op.n ++ [32] ++ Lib.itoa op.m) else verbW op.kind.toNat

def plainP (op : Opn) : Opn :=
  if op.kind = 0 then ⟨op.kind, 0, 0, op.ev⟩ else
  if op.kind = 7 then ⟨op.kind, op.n, op.m, ⟨0, 0, 0⟩⟩ else
  if op.kind = 5 then ⟨op.kind, 0, 0, ⟨0, 0, 0⟩⟩ else
  if op.kind = 8 then ⟨op.kind, 0, 0, ⟨0, 0, 0⟩⟩ else ⟨op.kind, op.n, 0, ⟨0, 0, 0⟩⟩

def zop : Opn := ⟨0, 0, 0, ⟨0, 0, 0⟩⟩

theorem kindP_le : ∀ (k : Nat) (x : List UInt8), k ≤ 9 → kindP k x ≤ 9
  | 0, _, _ => Nat.le_refl _
  | k + 1, x, h => by
    unfold kindP
    split
    · omega
    · exact kindP_le k x (by omega)

theorem verbN_le (k : Nat) : verbN k ≤ 3 := by
  unfold verbN; split <;> decide

theorem verbN_three {k : Nat} (h : verbN k = 3) : k = 0 := by
  unfold verbN at h
  split at h
  · rfl
  all_goals omega

end Go.Rp

namespace Go.Proofs.Qxb6500919aFmt
open Go.Sx Go.Rp

def NG : Nat := 10
theorem NG_eq : Tryf.prog.globals.size = NG := by kernel_rfl

structure GV (w : World) : Prop where
  lib : Gl w
  verbs : w.var? Tryf.prog "e2e/replay.verbs" = some verbsC.toArray
  codes : w.var? Tryf.prog "e2e/replay.codeWords" = some codesC.toArray

theorem named_lt {n : String} {g : Nat} (h : Tryf.prog.globalNamed n = some g) : g < NG := by
  unfold Program.globalNamed at h
  split at h
  · rename_i g' hg
    simp only [Option.some.injEq] at h
    subst h
    have : g' ∈ (List.range Tryf.prog.globals.size).filter (fun g => (Tryf.prog.globals[g]?).any (·.name == n)) := by rw [hg]; simp
    have h2 := List.mem_range.1 (List.mem_filter.1 this).1
    rw [NG_eq] at h2
    exact h2
  · cases h

theorem var_fr {K : List Nat} {w w' : World} {n : String} {cs : Array Value} (h : w.var? Tryf.prog n = some cs) (hf : Fr K w w') (hK : ∀ b ∈ K, NG ≤ b) : w'.var? Tryf.prog n = some cs := by
  unfold World.var? at h ⊢
  cases hg : Tryf.prog.globalNamed n with
  | none => rw [hg] at h; cases h
  | some g =>
    rw [hg] at h
    simp only [Option.bind_some] at h ⊢
    have hlt := named_lt hg
    cases hh : w.heap[g]? with
    | none => rw [hh] at h; cases h
    | some o =>
      rw [hf.block g (lt_of_heap hh) (fun hm => by have := hK g hm; omega), hh]
      rw [hh] at h
      exact h

theorem GV.frK {K : List Nat} {w w' : World} (h : GV w) (hf : Fr K w w') (hK : ∀ b ∈ K, NG ≤ b) : GV w' where
  lib := ⟨var_fr h.lib.pow hf hK, var_fr h.lib.asc hf hK, by obtain ⟨t, p, hq⟩ := h.lib.syn; exact ⟨t, p, var_fr hq hf hK⟩, by obtain ⟨t, p, hq⟩ := h.lib.ran; exact ⟨t, p, var_fr hq hf hK⟩⟩
  verbs := var_fr h.verbs hf hK
  codes := var_fr h.codes hf hK

theorem GV.fr {w w' : World} (h : GV w) (hf : Fr [] w w') : GV w' := h.frK hf (fun _ hb => by cases hb)

theorem gVerbs : Tryf.prog.globalNamed "e2e/replay.verbs" = some 0 := by kernel_rfl
theorem gCodes : Tryf.prog.globalNamed "e2e/replay.codeWords" = some 1 := by kernel_rfl

theorem cells_of_var {w : World} {n : String} {g : Nat} {cs : List Value} (hg : Tryf.prog.globalNamed n = some g) (h : w.var? Tryf.prog n = some cs.toArray) {k : Nat} {v : Value} (hv : cs[k]? = some v) : w.cell? ⟨g, k, none⟩ = some v := by
  unfold World.var? at h
  rw [hg] at h
  simp only [Option.bind_some] at h
  split at h
  · rename_i cs' ty fr hh
    simp only [Option.some.injEq] at h
    subst h
    simp [World.cell?, hh, hv]
  · cases h

theorem GV.word {w : World} (h : GV w) {k : Nat} (hk : k < 9) {b o : Nat} (hb : b = 0) (ho : o = k * 2) : w.cell? ⟨b, o, none⟩ = some (.string (bs (verbW k))) := by
  subst hb ho
  exact cells_of_var gVerbs h.verbs (verbs_at hk).1
theorem GV.args {w : World} (h : GV w) {k : Nat} (hk : k < 9) {b o : Nat} (hb : b = 0) (ho : o = k * 2 + 1) : w.cell? ⟨b, o, none⟩ = some (.int .i64 (verbN k : Nat)) := by
  subst hb ho
  exact cells_of_var gVerbs h.verbs (verbs_at hk).2
theorem GV.code {w : World} (h : GV w) {k : Nat} (hk : k < 6) {b o : Nat} (hb : b = 1) (ho : o = k) : w.cell? ⟨b, o, none⟩ = some (.string (bs (codeW k))) := by
  subst hb ho
  exact cells_of_var gCodes h.codes (codes_at hk)
theorem GV.table {w : World} (h : GV w) : CellsAt w 0 0 verbsC := fun j v hv => by
  rw [Nat.zero_add]
  exact cells_of_var gVerbs h.verbs hv

theorem idx_verbs {T : Slots} {a : Act} {o : Oper} {x y : Operand} {k : Nat} (hs : SlotsOk T a) (hop : o.op = .index 62 x y) (hx : evO T x = some (.agg verbsC.toArray)) (hy : evO T y = some (.int .i64 (k : Nat))) (hk : k < 9) :
    Pure Tryf.prog a o (.agg #[.string (bs (verbW k)), .int .i64 (verbN k : Nat)]) := by
  match k, hk with
  | 0, _ => exact pure_index tabOk2 hs hop hx hy rfl rfl rfl (by decide) (by decide) (φ := some _) rfl rfl
  | 1, _ => exact pure_index tabOk2 hs hop hx hy rfl rfl rfl (by decide) (by decide) (φ := some _) rfl rfl
  | 2, _ => exact pure_index tabOk2 hs hop hx hy rfl rfl rfl (by decide) (by decide) (φ := some _) rfl rfl
  | 3, _ => exact pure_index tabOk2 hs hop hx hy rfl rfl rfl (by decide) (by decide) (φ := some _) rfl rfl
  | 4, _ => exact pure_index tabOk2 hs hop hx hy rfl rfl rfl (by decide) (by decide) (φ := some _) rfl rfl
  | 5, _ => exact pure_index tabOk2 hs hop hx hy rfl rfl rfl (by decide) (by decide) (φ := some _) rfl rfl
  | 6, _ => exact pure_index tabOk2 hs hop hx hy rfl rfl rfl (by decide) (by decide) (φ := some _) rfl rfl
  | 7, _ => exact pure_index tabOk2 hs hop hx hy rfl rfl rfl (by decide) (by decide) (φ := some _) rfl rfl
  | 8, _ => exact pure_index tabOk2 hs hop hx hy rfl rfl rfl (by decide) (by decide) (φ := some _) rfl rfl
  | n + 9, h => omega

end Go.Proofs.Qxb6500919aFmt
