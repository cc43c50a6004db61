/-
  Strings as lists of bytes.
-/
import Derived.Test.Qxb6500918aDoorSxM
import Derived.Lib.Strings
namespace Go.Sx

/-- The string of these bytes. -/
def bs (l : List UInt8) : ByteArray := ⟨l.toArray⟩

theorem bs_data (l : List UInt8) : (bs l).data.toList = l := by simp [bs]
theorem bs_size (l : List UInt8) : (bs l).size = l.length := by simp [bs, ByteArray.size]
theorem bs_app (l r : List UInt8) : bs l ++ bs r = bs (l ++ r) := by
  apply ByteArray.ext
  simp [bs]
theorem bs_toList (l : List UInt8) : (bs l).toList = l := by
  rw [ByteArray.toList_eq]
  exact bs_data l
theorem bs_extract (l : List UInt8) (a b : Nat) : (bs l).extract a b = bs ((l.drop a).take (b - a)) := by
  rw [Go.Lib.extract_eq, bs_data]; rfl
theorem bs_of (s : ByteArray) : bs s.data.toList = s := by
  apply ByteArray.ext
  simp [bs]

section
variable {P : Program} {tab : Tab} {T : Slots} {a : Act} {o : Oper}

theorem ps_add {x y : Operand} {t t' : TypeId} {l r : List UInt8} (hs : SlotsOk T a) (hop : o.op = .binOp .add t x y t') (hx : evO T x = some (.string (bs l))) (hy : evO T y = some (.string (bs r))) (hb : l.length + r.length ≤ 4294967296) : Pure P a o (.string (bs (l ++ r))) := by
  rw [← bs_app]; exact pure_add hs hop hx hy (by rw [bs_size, bs_size]; exact hb)

theorem ps_eql {x y : Operand} {t t' : TypeId} {l r : List UInt8} (hs : SlotsOk T a) (hop : o.op = .binOp .eql t x y t') (hx : evO T x = some (.string (bs l))) (hy : evO T y = some (.string (bs r))) : Pure P a o (.bool (l == r)) := by
  have := pure_eql (P := P) hs hop hx hy
  rw [bs_toList, bs_toList] at this
  exact this

theorem ps_neq {x y : Operand} {t t' : TypeId} {l r : List UInt8} (hs : SlotsOk T a) (hop : o.op = .binOp .neq t x y t') (hx : evO T x = some (.string (bs l))) (hy : evO T y = some (.string (bs r))) : Pure P a o (.bool !(l == r)) := by
  have := pure_neq (P := P) hs hop hx hy
  rw [bs_toList, bs_toList] at this
  exact this

theorem ps_len {x : Operand} {t : TypeId} {l : List UInt8} {ti : TI} (ht : TabOk P tab) (hs : SlotsOk T a) (hop : o.op = .call ⟨.builtin .len, #[x], #[t]⟩) (hx : evO T x = some (.string (bs l))) (hti : look tab t = some ti) (hd : ti.desc = .string) : Pure P a o (.int .i64 l.length) := by
  have := pure_len ht hs hop hx hti hd
  rw [bs_size] at this
  exact this

theorem ps_to {x y : Operand} {t : TypeId} {l : List UInt8} {ti : TI} {k : Int} (ht : TabOk P tab) (hs : SlotsOk T a) (hop : o.op = .slice t x none (some y) none) (hx : evO T x = some (.string (bs l))) (hy : evO T y = some (.int .i64 k)) (hti : look tab t = some ti) (hd : ti.desc = .string) (h0 : 0 ≤ k) (h1 : k ≤ l.length) : Pure P a o (.string (bs (l.take k.toNat))) := by
  intro w
  have hu : (underlying t).run P w = .ok .string w := by rw [← hd]; exact run_und ht hti (by rw [hd]; intro fs; simp)
  have hb : ¬ (k < 0 ∨ ((bs l).size : Int) < k) := by rw [bs_size]; omega
  simp only [execOp, hop, evO_eval hs hx, evO_eval hs hy, Option.map_some, Option.map_none, Sem.run_bind]
  simp [Instr.sliceAt, Instr.slice, hu, Instr.sliceBounds, Instr.sliceBound, bs_extract, bs_size, asIntOf, h0, h1]

theorem ps_from {x y : Operand} {t : TypeId} {l : List UInt8} {ti : TI} {k : Int} (ht : TabOk P tab) (hs : SlotsOk T a) (hop : o.op = .slice t x (some y) none none) (hx : evO T x = some (.string (bs l))) (hy : evO T y = some (.int .i64 k)) (hti : look tab t = some ti) (hd : ti.desc = .string) (h0 : 0 ≤ k) (h1 : k ≤ l.length) : Pure P a o (.string (bs (l.drop k.toNat))) := by
  intro w
  have hu : (underlying t).run P w = .ok .string w := by rw [← hd]; exact run_und ht hti (by rw [hd]; intro fs; simp)
  simp only [execOp, hop, evO_eval hs hx, evO_eval hs hy, Option.map_some, Option.map_none, Sem.run_bind]
  simp [Instr.sliceAt, Instr.slice, hu, Instr.sliceBounds, Instr.sliceBound, bs_extract, bs_size, asIntOf, h0, h1]
  rw [List.take_of_length_le (by rw [List.length_drop]; exact Nat.le_refl _)]

end

end Go.Sx
