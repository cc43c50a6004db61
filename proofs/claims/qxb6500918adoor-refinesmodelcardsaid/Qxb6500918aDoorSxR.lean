/-
  A call that says itself what it turned; the nodes' row read as a value.
-/
import Derived.Test.Qxb6500918aDoorKs
import Derived.Test.Qxb6500918aDoorTab
import Derived.Laws.Pointers
namespace Go.Sx

section
variable {P : Program} {tab : Tab} {C : Ctx} {T T' : Slots} {L L' : Mem} {w w' : World} {a : Act} {ops : List Oper} {Q : Exit → Act → World → Prop}
  {Kc : Act → World → Prop}

/-- With no block known and nothing carried, a state goes to any world that the frame allows. -/
theorem St.jump {n : Nat} {K : List Nat} {w0 : World} (h : St ⟨n, K, w0, fun _ => True, []⟩ T [] a w) (hf : Fr K w0 w') : St ⟨n, K, w0, fun _ => True, []⟩ T [] a w' :=
  ⟨h.size, h.defs, h.slots, fun _ hq => (by cases hq), h.nodup, h.keys, hf, trivial, fun _ _ _ _ => trivial, fun _ hq => (by cases hq), h.disj⟩

theorem St.dj (hst : St C T L a w) {k b : Nat} {blk : Blk} (hk : nth L k = some (b, blk)) (hro : blk.ro = false) : b ∉ C.F := hst.disj (b, blk) (by rw [nth_eq] at hk; exact List.mem_of_getElem? hk) hro

theorem cellsAt_blk {b k : Nat} {blk : Blk} {vs : List Value} (hb : w.heap[b]? = some (Blk.obj blk)) (hc : cellsAre blk.cells k vs) : CellsAt w b k vs := by
  intro j v hj
  rw [cell_of_row w b (k + j) _ _ _ hb]
  have h : ∀ (vs : List Value) (k j : Nat) (v : Value), cellsAre blk.cells k vs → vs[j]? = some v → blk.cells[k + j]? = some v := by
    intro vs
    induction vs with
    | nil => intro k j v _ h; simp at h
    | cons x xs ih =>
      intro k j v hc h
      cases j with
      | zero => simp at h; subst h; have := hc.1; rw [nth_eq] at this; simpa using this
      | succ j => have := ih (k + 1) j v hc.2 (by simpa using h); rw [show k + 1 + j = k + (j + 1) by omega] at this; exact this
  simpa using h vs k j v hc hj

end
end Go.Sx

namespace Go.Kn
open Go.Sx

theorem nodes_at {w : World} {bo bc : Nat} {nd : Nat → Nat} {pr : Nat → Bool} (hb : w.heap[bc]? = some (Blk.obj ⟨spC bo nd pr, 142, false⟩)) : CellsAt w bc 1 (arr 256 one (npV nd pr)) := by
  refine cellsAt_blk hb ?_
  have h1 : cellsAre (arr 256 one (npV nd pr)) 0 (arr 256 one (npV nd pr)) := cellsAre_of_take _ _ (by simp)
  exact cellsAre_app_right (a := [.pointer (some ⟨bo, 0, none⟩)]) (cellsAre_app_left h1)

theorem nodes_len {nd : Nat → Nat} {pr : Nat → Bool} : (arr 256 one (npV nd pr)).length = 256 := by rw [arr_len one_len]

theorem nodes_nth {nd : Nat → Nat} {pr : Nat → Bool} {i : Nat} (hi : i < 256) : nth (arr 256 one (npV nd pr)) i = some (npV nd pr i) := by
  have := mid_read one_len (pre := []) (post := []) (f := npV nd pr) (i := i) (k := 0) (n := 256) (o := i) (vs := [npV nd pr i]) hi (by simp [one, cellsAre, nth]) (by simp)
  simpa [cellsAre] using this

end Go.Kn

namespace Go.Proofs.Qxb6500918aDoor
open Go.Sx Go.Kn

theorem pure_node {T : Slots} {a : Act} {o : Oper} {x y : Operand} {nd : Nat → Nat} {pr : Nat → Bool} {i : Int} (hs : SlotsOk T a) (hop : o.op = .index 140 x y) (hx : evO T x = some (.agg (arr 256 one (npV nd pr)).toArray)) (hy : evO T y = some (.int .i64 i))
    (h0 : 0 ≤ i) (h1 : i < 256) : Pure Tryd.prog a o (npV nd pr i.toNat) := by
  refine pure_index tabOk (φ := none) hs hop hx hy rfl rfl rfl h0 h1 ?_ trivial
  have h := nodes_nth (nd := nd) (pr := pr) (i := i.toNat) (by omega)
  show evPart tab 139 (arr 256 one (npV nd pr)) (i.toNat * 1) = _
  rw [Nat.mul_one]
  simp only [evPart, show Sx.look tab 139 = some _ from rfl, h]
  rfl

theorem und139p : Tryd.prog.underlying 139 = some (.pointer (Tryd.prog.pointee 139)) := by kernel_rfl

theorem pure_nodeNe {T : Slots} {a : Act} {o : Oper} {x : Operand} {nd : Nat → Nat} {pr : Nat → Bool} {i : Nat} (hs : SlotsOk T a) (hop : o.op = .binOp .neq 139 x (.const (.pointer none)) 139) (hx : evO T x = some (npV nd pr i)) : Pure Tryd.prog a o (.bool (pr i)) := by
  intro w
  have e1 := evO_eval hs hx
  have e2 : a.eval (.const (.pointer none)) = .pointer none := rfl
  simp only [execOp, hop, e1, e2]
  unfold npV
  cases pr i <;> simp [eqGuard, binOp, run_equal_pointer_nil w 139 _ und139p]

end Go.Proofs.Qxb6500918aDoor
