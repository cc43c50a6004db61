/-
  slices.Insert over Refs: the cells.
-/
import Derived.Test.Qxb6500918aDoorMt
namespace Go.Proofs.Qxb6500918aDoor
open Go.Sx Go.Kn
set_option maxRecDepth 100000

def insP (rs : List Rf) (k : Nat) (r : Rf) : List Rf := rs.take k ++ r :: rs.drop k

theorem insP_len {rs : List Rf} {k : Nat} (r : Rf) (h : k ≤ rs.length) : (insP rs k r).length = rs.length + 1 := by
  unfold insP; simp; omega
theorem insP_end (rs : List Rf) (r : Rf) : insP rs rs.length r = rs ++ [r] := by unfold insP; simp

theorem rf_flat (rs : List Rf) : (rs.flatMap rfC).length = rs.length * 2 := by
  induction rs with
  | nil => rfl
  | cons r rs ih => rw [List.flatMap_cons, List.length_append, ih, rfC_len, List.length_cons]; omega

theorem ins_flat {rs : List Rf} {k : Nat} {r : Rf} : (insP rs k r).flatMap rfC = (rs.take k).flatMap rfC ++ (rfC r ++ (rs.drop k).flatMap rfC) := by
  unfold insP; rw [List.flatMap_append, List.flatMap_cons]

theorem flat_tail {rs : List Rf} {cs : List Value} (h : cs.take (rs.length * 2) = rs.flatMap rfC) {k : Nat} : cs.take (min k rs.length * 2) = (rs.take k).flatMap rfC ∧ cellsAre cs (min k rs.length * 2) ((rs.drop k).flatMap rfC) := by
  have hl : rs.length * 2 ≤ cs.length := by
    have := congrArg List.length h
    rw [List.length_take, rf_flat] at this; omega
  have e1 : cs.take (min k rs.length * 2) = (rs.take k).flatMap rfC := by
    have h1 := flat_take rfC 2 rfC_len rs (min k rs.length)
    rw [← h, List.take_take, Nat.min_eq_left (by omega)] at h1
    rw [h1]
    congr 1
    by_cases hk : k ≤ rs.length
    · rw [Nat.min_eq_left hk]
    · rw [Nat.min_eq_right (by omega), List.take_length, List.take_of_length_le (by omega)]
  refine ⟨e1, cellsAre_of_take _ _ ?_⟩
  rw [rf_flat]
  have h2 : (rs.take k).flatMap rfC ++ (rs.drop k).flatMap rfC = rs.flatMap rfC := by rw [← List.flatMap_append, List.take_append_drop]
  have h3 : (cs.take (rs.length * 2)).drop (min k rs.length * 2) = (rs.drop k).flatMap rfC := by
    rw [h, ← h2, ← e1]
    rw [List.drop_append_of_le_length (by rw [List.length_take]; omega), List.drop_eq_nil_of_le (by rw [List.length_take]; omega), List.nil_append]
  rw [List.drop_take] at h3
  rw [← h3]
  congr 1
  rw [List.length_drop]; omega

/-- The new row: v first, then the tail. -/
theorem ins_grow {rs : List Rf} {k c : Nat} {r : Rf} {cs : List Value} (hk : k < rs.length) (hl : cs.length = c * 2) (hc : rs.length + 1 ≤ c) (h : cs.take (k * 2) = (rs.take k).flatMap rfC) {o : Nat} (ho : o = k * 2 + 2) :
    (splice (splice cs (k * 2) (rfC r)) o ((rs.drop k).flatMap rfC)).take ((rs.length + 1) * 2) = (insP rs k r).flatMap rfC ∧ (splice (splice cs (k * 2) (rfC r)) o ((rs.drop k).flatMap rfC)).length = c * 2 := by
  subst ho
  have hd : ((rs.drop k).flatMap rfC).length = (rs.length - k) * 2 := by rw [rf_flat, List.length_drop]
  have ht : ((rs.take k).flatMap rfC).length = k * 2 := by rw [rf_flat, List.length_take]; omega
  refine ⟨?_, by rw [splice_length, splice_length, hl]⟩
  rw [splice_eq _ _ _ (by rw [splice_length, hd]; omega), splice_eq (rfC r) cs (k * 2) (by rw [rfC_len]; omega), ins_flat, h]
  have e1 : ((rs.take k).flatMap rfC ++ rfC r ++ cs.drop (k * 2 + (rfC r).length)).take (k * 2 + 2) = (rs.take k).flatMap rfC ++ rfC r := by
    rw [List.take_append_of_le_length (by rw [List.length_append, ht, rfC_len]; omega), List.take_of_length_le (by rw [List.length_append, ht, rfC_len]; omega)]
  rw [e1, List.take_append_of_le_length (by rw [List.length_append, List.length_append, ht, rfC_len, hd]; omega), List.take_of_length_le (by rw [List.length_append, List.length_append, ht, rfC_len, hd]; omega), List.append_assoc]

/-- In place: the tail first, then v. -/
theorem ins_shift {rs : List Rf} {k c : Nat} {r : Rf} {cs : List Value} (hk : k < rs.length) (hl : cs.length = c * 2) (hc : rs.length + 1 ≤ c) (h : cs.take (k * 2) = (rs.take k).flatMap rfC) {o : Nat} (ho : o = k * 2 + 2) :
    (splice (splice cs o ((rs.drop k).flatMap rfC)) (k * 2) (rfC r)).take ((rs.length + 1) * 2) = (insP rs k r).flatMap rfC ∧ (splice (splice cs o ((rs.drop k).flatMap rfC)) (k * 2) (rfC r)).length = c * 2 := by
  subst ho
  have hd : ((rs.drop k).flatMap rfC).length = (rs.length - k) * 2 := by rw [rf_flat, List.length_drop]
  have ht : ((rs.take k).flatMap rfC).length = k * 2 := by rw [rf_flat, List.length_take]; omega
  refine ⟨?_, by rw [splice_length, splice_length, hl]⟩
  rw [splice_eq _ _ _ (by rw [splice_length, rfC_len]; omega), splice_eq _ cs _ (by rw [hd]; omega), ins_flat, rfC_len]
  have hc2 : (cs.take (k * 2 + 2)).length = k * 2 + 2 := by rw [List.length_take]; omega
  have e0 : (cs.take (k * 2 + 2) ++ (rs.drop k).flatMap rfC ++ cs.drop (k * 2 + 2 + ((rs.drop k).flatMap rfC).length)).take (k * 2) = (rs.take k).flatMap rfC := by
    rw [List.append_assoc, List.take_append_of_le_length (by omega), List.take_take, Nat.min_eq_left (by omega), h]
  have e1 : (cs.take (k * 2 + 2) ++ (rs.drop k).flatMap rfC ++ cs.drop (k * 2 + 2 + ((rs.drop k).flatMap rfC).length)).drop (k * 2 + 2) = (rs.drop k).flatMap rfC ++ cs.drop (k * 2 + 2 + ((rs.drop k).flatMap rfC).length) := by
    rw [List.append_assoc, List.drop_append_of_le_length (by omega), List.drop_eq_nil_of_le (by omega), List.nil_append]
  rw [e0, e1, ← List.append_assoc, List.append_assoc ((rs.take k).flatMap rfC)]
  rw [List.take_append_of_le_length (by rw [List.length_append, List.length_append, ht, rfC_len, hd]; omega), List.take_of_length_le (by rw [List.length_append, List.length_append, ht, rfC_len, hd]; omega)]

theorem op_cap {C : Ctx} {T : Slots} {L : Mem} {w : World} {a : Act} {ops : List Oper} {Q : Exit → Act → World → Prop} {Kc : Act → World → Prop} {i : Nat} {o : Oper} {x : Operand} {so : Option Addr} {n c : Nat} (hst : St C T L a w) (hi : nth ops i = some o) (hw : wantE ops T o.guard = some true) (hop : o.op = .call ⟨.builtin .cap, #[x], #[51]⟩) (hx : evO T x = some (.slice so n c))
    (hn : Kc (a.put o.dst (.int .i64 (c : Int))) w) : wpOp Tryd.prog ops.toArray Q i Kc a w := by
  refine op_now hst hi hw ?_ hn
  have e1 : (#[x].map a.eval) = #[.slice so n c] := by simp [evO_eval hst.slots hx]
  have hu : (underlying 51).run Tryd.prog w = .ok (.slice 39) w := run_underlying Tryd.underlying51 w
  simp [execOp, hop, resolve, invoke, builtin, e1, Builtin.cap_, hu, goInt]

end Go.Proofs.Qxb6500918aDoor
