/-
  copy of elements of several cells; append of a make; slices.overlaps over two blocks.
-/
import Derived.Test.Qxb6500918aDoorP5
import Derived.Test.Qxb6500918aDoorPA
import Derived.Lib.AppendZerosOnto
import Derived.Lib.Overlaps
namespace Go.Sx

section
variable {P : Program} {tab : Tab} {C : Ctx} {T T' : Slots} {L L' : Mem} {w w' : World} {a : Act} {ops : List Oper} {Q : Exit → Act → World → Prop}
  {Kc : Act → World → Prop}

theorem sliceBase_at {b c k sz : Nat} (h : k ≠ c) : sliceBase (some ⟨b, 0, none⟩) c k sz = some ⟨b, k * sz, none⟩ := by
  unfold sliceBase
  rw [if_neg (fun e => h e.symm)]
  simp [addr_add]

theorem op_copyN (ht : TabOk P tab) {i : Nat} {op : Oper} {s x : Operand} {t t' : TypeId} {ti te : TI} {e : TypeId} {b off n c m cx k q b2 k2 : Nat} {blk blk2 : Blk} {vs : List Value}
    (hst : St C T L a w) (hi : nth ops i = some op) (hw : wantE ops T op.guard = some true) (hop : op.op = .call ⟨.builtin .copy, #[s, x], #[t, t']⟩)
    (hs : evO T s = some (.slice (some ⟨b, off, none⟩) n c)) (hx : evO T x = some (.slice (some ⟨b2, k2, none⟩) m cx)) (hti : look tab t = some ti) (hd : ti.desc = .slice e) (hte : look tab e = some te)
    (hk : nth L k = some (b, blk)) (hro : blk.ro = false) (hb2 : w.heap[b2]? = some blk2.obj) (hsrc : cellsAre blk2.cells k2 vs) (hq : Nat.min m n = q) (hl : vs.length = q * te.size) (hin : off + vs.length ≤ blk.cells.length) (hone : allOne vs = true)
    (hn : ∀ w', St C T (setM L k ⟨splice blk.cells off vs, blk.ty, false⟩) a w' → Kc (a.put op.dst (goInt q)) w') : wpOp P ops.toArray Q i Kc a w := by
  unfold wpOp
  rw [nth_eq] at hi
  simp only [List.getElem?_toArray, hi, wantE_spec hst.slots hw, if_true]
  left
  have hb := hst.known _ (by rw [nth_eq] at hk; exact List.mem_of_getElem? hk)
  obtain ⟨w', h2, h3⟩ := run_storeCells (P := P) vs 0 off blk w hb (by omega) (allOne_spec hone)
  have hu : (underlying t).run P w = .ok (.slice e) w := by rw [run_und ht hti (by rw [hd]; intro fs h; cases h), hd]
  have hfc : (Builtin.firstCells te.size q (.slice (some ⟨b2, k2, none⟩) m cx)).run P w = .ok vs.toArray w := run_first te.size q hb2 hl hsrc m cx
  have hrun : (execOp a.eval op).run P w = .ok (.value (goInt q)) w' := by
    simp only [execOp, hop, resolve, Sem.run_bind, Sem.run_pure, Result.andThen_ok, invoke, builtin]
    have e1 : (#[s, x].map a.eval) = #[.slice (some ⟨b, off, none⟩) n c, .slice (some ⟨b2, k2, none⟩) m cx] := by simp [evO_eval hst.slots hs, evO_eval hst.slots hx]
    rw [e1]
    have h2' : (storeCells ⟨b, off, none⟩ vs).run P w = .ok () w' := h2
    simp [Builtin.copy_, hu, Builtin.lenOf, run_size ht hte, hq, hfc, h2']
  simp only [Oper.wp, hrun, Oper.upon]
  exact hn w' (hst.wrote hk hro h3)

end

theorem cellsAre_drop {cs vs : List Value} {k : Nat} (h : (cs.drop k).take vs.length = vs) : cellsAre cs k vs := cellsAre_of_take _ _ h

end Go.Sx

namespace Go.Proofs.Qxb6500918aDoor
open Go.Sx Go.Kn
set_option maxRecDepth 100000

section
variable {C : Ctx} {T : Slots} {L : Mem} {w : World} {a : Act} {ops : List Oper} {Q : Exit → Act → World → Prop} {Kc : Act → World → Prop} {i : Nat} {o : Oper}

/-- append(s[:n], make([]Ref, k)...) where there is no room: a new block. -/
theorem op_appendZ {s x : Operand} {b n c k d : Nat} {cs : List Value} (hst : St C T L a w) (hi : nth ops i = some o) (hw : wantE ops T o.guard = some true) (hd : o.dst = some d) (hdn : Nat.blt d C.n = true) (hop : o.op = .call ⟨.builtin .append, #[s, x], #[51, 3]⟩)
    (hs : evO T s = some (.slice (some ⟨b, 0, none⟩) n c)) (hx : evO T x = some (.int .i64 (k : Int))) (hb : w.heap[b]? = some (Blk.obj ⟨cs, 39, false⟩)) (hcs : n * 2 ≤ cs.length) (hk : 0 < k) (hc : c < n + k) (hbig : n + k ≤ 2147483648)
    (hn : ∀ nb c' cs' w' a', cs'.length = c' * 2 → n + k ≤ c' → cs'.take (n * 2) = cs.take (n * 2) → St C ((d, .slice (some ⟨nb, 0, none⟩) (n + k) c') :: T) (L ++ [(nb, ⟨cs', 39, false⟩)]) a' w' → Fr [] w w' → w.heap.size ≤ nb → Kc a' w') : wpOp Tryd.prog ops.toArray Q i Kc a w := by
  obtain ⟨hu, i0, hi0, hsz, hbt, hzo⟩ := tabOk _ _ (show Sx.look _ 39 = some _ from rfl)
  have hsz' : i0.size = 2 := hsz
  have hbt' : i0.bytes = 8 := hbt
  have hold : (Builtin.firstCells i0.size n (.slice (some ⟨b, 0, none⟩) n c)).run Tryd.prog w.drew = .ok (cs.take (n * 2)).toArray w.drew := by
    rw [hsz']
    exact run_first (w := w.drew) 2 n (blk := ⟨cs, 39, false⟩) hb (by rw [List.length_take]; omega) (cellsAre_of_take _ _ (by rw [List.drop_zero, List.length_take, Nat.min_eq_left hcs])) n c
  have hcap := nextcap_le (n + k) c hc
  have hr := Lib.run_append_grow_zeros w 51 3 o.type 39 i0 (.agg #[.int .u16 0, .int .u32 0]) .i64 .i64 Tryd.underlying51 Tryd.underlying3 hi0 hzo (some ⟨b, 0, none⟩) n c (cs.take (n * 2)) hold k hk (by omega) hc (by omega) (by rw [hbt']; omega) (by rw [hbt']; omega)
  have hge : n + k ≤ grownCap w (n + k) c 39 := grownCap_ge w _ _ _
  generalize hG : grownCap w (n + k) c 39 = G at hr hge
  let cs' := ((cs.take (n * 2)).toArray ++ Builtin.zeroCells (Value.agg #[.int .u16 0, .int .u32 0]).cells k ++ Builtin.zeroCells (Value.agg #[.int .u16 0, .int .u32 0]).cells (G - (n + k))).toList
  have hzl : ∀ m, (Builtin.zeroCells (Value.agg #[.int .u16 0, .int .u32 0]).cells m).size = m * 2 := fun m => by simp [Builtin.zeroCells, Value.cells]
  have hcl : cs'.length = G * 2 := by
    show (((cs.take (n * 2)).toArray ++ _ ++ _).toList).length = _
    rw [Array.length_toList, Array.size_append, Array.size_append, hzl, hzl]
    simp only [List.size_toArray, List.length_take]
    omega
  have hrun : (execOp a.eval o).run Tryd.prog w = .ok (.value (.slice (some ⟨w.heap.size, 0, none⟩) (n + k) G)) (w.drew.alloc (Blk.obj ⟨cs', 39, false⟩)) := by
    simp only [execOp, hop, resolve, Sem.run_bind, Sem.run_pure, Result.andThen_ok, invoke, builtin]
    have e1 : (#[s, x].map a.eval) = #[.slice (some ⟨b, 0, none⟩) n c, .int .i64 (k : Int)] := by simp [evO_eval hst.slots hs, evO_eval hst.slots hx]
    rw [e1, hr]
    simp only [Result.andThen_ok]
    have e2 : ∀ A : Array Value, Blk.obj ⟨A.toList, 39, false⟩ = .cells A 39 := fun A => by simp [Blk.obj]
    rw [show cs' = _ from rfl, e2]
  have hfr : Fr [] w (w.drew.alloc (Blk.obj ⟨cs', 39, false⟩)) := ⟨rfl, rfl, rfl, by simp, fun b hb _ => heap_alloc_old w.drew _ b hb⟩
  unfold wpOp
  rw [nth_eq] at hi
  simp only [List.getElem?_toArray, hi, wantE_spec hst.slots hw, if_true]
  left
  simp only [Oper.wp, hrun, Oper.upon]
  refine hn w.heap.size G cs' _ _ hcl hge ?_ ?_ hfr (Nat.le_refl _)
  · show (((cs.take (n * 2)).toArray ++ _ ++ _).toList).take _ = _
    rw [Array.toList_append, Array.toList_append, List.append_assoc, List.take_append_of_le_length (by simp; omega)]
    rw [show (List.take (n * 2) cs).toArray.toList = List.take (n * 2) cs from rfl, List.take_take, Nat.min_self]
  · rw [hd]
    exact (hst.fresh hfr (Nat.le_refl _) (heap_alloc_new w.drew _)).put (by simp [putS, hdn])

/-- overlaps of two slices in two blocks. -/
theorem op_overlaps {x y : Operand} {tys : Array TypeId} {b1 k1 n1 c1 b2 k2 n2 c2 : Nat} {A B : Blk} (hst : St C T L a w) (hi : nth ops i = some o) (hw : wantE ops T o.guard = some true) (hop : o.op = .call ⟨.value (.func 98), #[x, y], tys⟩)
    (hx : evO T x = some (.slice (some ⟨b1, k1, none⟩) n1 c1)) (hy : evO T y = some (.slice (some ⟨b2, k2, none⟩) n2 c2)) (h1 : w.heap[b1]? = some A.obj) (h2 : w.heap[b2]? = some B.obj) (hne : b1 ≠ b2) (hB : B.cells ≠ [])
    (hn : Kc (a.put o.dst (.bool false)) w) : wpOp Tryd.prog ops.toArray Q i Kc a w := by
  have hz : ∀ w, (Go.sizeOf 39).run Tryd.prog w = .ok 2 w := fun w => run_size tabOk (show Sx.look _ 39 = some _ from rfl)
  have hov := Lib.run_overlaps_apart (P := Tryd.prog) w 51 4 39 Tryd.underlying51 2 hz ⟨b1, k1, none⟩ ⟨b2, k2, none⟩ n1 c1 n2 c2 hne A.ty B.ty A.cells.length B.cells.length (by simp [World.shape?, h1, Blk.obj]) (by simp [World.shape?, h2, Blk.obj]) (by simpa using hB) (frozen_of_row w b1 _ _ _ h1) (frozen_of_row w b1 _ _ _ h1)
  have hcall : (callFunc 98 #[.slice (some ⟨b1, k1, none⟩) n1 c1, .slice (some ⟨b2, k2, none⟩) n2 c2]).run Tryd.prog w = .ok (.value (.bool false)) w := by
    rw [run_callFunc_extern Tryd.func98 (by kernel_rfl) (by kernel_rfl) (by kernel_rfl) (e := Extern.SlicesOverlaps.overlaps #[51, 51] #[4]) (by kernel_rfl), hov]
    rfl
  refine op_now hst hi hw ?_ hn
  have e1 : (#[x, y].map a.eval) = #[.slice (some ⟨b1, k1, none⟩) n1 c1, .slice (some ⟨b2, k2, none⟩) n2 c2] := by simp [evO_eval hst.slots hx, evO_eval hst.slots hy]
  simp only [execOp, hop, resolve, Sem.run_bind, invoke, e1]
  exact hcall

end
end Go.Proofs.Qxb6500918aDoor
