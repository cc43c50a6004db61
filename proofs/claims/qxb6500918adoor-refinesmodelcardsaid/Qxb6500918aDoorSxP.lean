/-
  A slice of an array in memory; the builtin copy into a known block.
-/
import Derived.Test.Qxb6500918aDoorSxN
namespace Go.Sx

section
variable {P : Program} {tab : Tab} {C : Ctx} {T T' : Slots} {L L' : Mem} {w w' : World} {a : Act} {ops : List Oper} {Q : Exit → Act → World → Prop}
  {Kc : Act → World → Prop}

theorem St.castL (h : St C T L a w) (e : L = L') : St C T L' a w := e ▸ h

theorem pure_arrslice {o : Oper} {x : Operand} {t e : TypeId} {ti te : TI} {n b k : Nat} (ht : TabOk P tab) (hs : SlotsOk T a) (hop : o.op = .slice t x none none none)
    (hx : evO T x = some (.pointer (some ⟨b, k, none⟩))) (hti : look tab t = some ti) (hd : ti.desc = .array n e) (hte : look tab e = some te) : Pure P a o (.slice (some ⟨b, k, none⟩) n n) := by
  intro w
  have h1 : (underlying t).run P w = .ok (.array n e) w := by rw [run_und ht hti (by rw [hd]; intro fs h; cases h), hd]
  have h2 : ((⟨b, k, none⟩ : Addr).add 0) = ⟨b, k, none⟩ := by rw [addr_add]; rfl
  simp only [execOp, hop, evO_eval hs hx, Option.map_none, Instr.sliceAt, Sem.run_bind, h1, Result.andThen_ok, Instr.sureAddr, Sem.run_pure, Instr.sliceBounds, run_size ht hte]
  simp [h2]

/-- Cells of a source, wherever they lie. -/
def SrcC (w : World) (o : Option Addr) (m : Nat) (vs : List Value) : Prop := vs.length = m ∧ (m = 0 ∨ ∃ b k, o = some ⟨b, k, none⟩ ∧ CellsAt w b k vs)

theorem op_copy (ht : TabOk P tab) {i : Nat} {op : Oper} {s x : Operand} {t t' : TypeId} {ti te : TI} {e : TypeId} {b off n c m cx k : Nat} {blk : Blk} {xo : Option Addr} {vs : List Value}
    (hst : St C T L a w) (hi : nth ops i = some op) (hw : wantE ops T op.guard = some true) (hop : op.op = .call ⟨.builtin .copy, #[s, x], #[t, t']⟩)
    (hs : evO T s = some (.slice (some ⟨b, off, none⟩) n c)) (hx : evO T x = some (.slice xo m cx)) (hti : look tab t = some ti) (hd : ti.desc = .slice e) (hte : look tab e = some te) (h1 : te.size = 1)
    (hk : nth L k = some (b, blk)) (hro : blk.ro = false) (hsrc : SrcC w xo m vs) (hm : m ≤ n) (hin : off + vs.length ≤ blk.cells.length) (hone : allOne vs = true)
    (hn : ∀ w', St C T (setM L k ⟨splice blk.cells off vs, blk.ty, false⟩) a w' → Kc (a.put op.dst (goInt m)) w') : wpOp P ops.toArray Q i Kc a w := by
  unfold wpOp
  rw [nth_eq] at hi
  simp only [List.getElem?_toArray, hi, wantE_spec hst.slots hw, if_true]
  left
  have hb := hst.known _ (by rw [nth_eq] at hk; exact List.mem_of_getElem? hk)
  obtain ⟨w', h2, h3⟩ := run_storeCells (P := P) vs 0 off blk w hb (by omega) (allOne_spec hone)
  have hu : (underlying t).run P w = .ok (.slice e) w := by rw [run_und ht hti (by rw [hd]; intro fs h; cases h), hd]
  have hmin : Nat.min m n = m := Nat.min_eq_left hm
  have hfc : (Builtin.firstCells 1 m (.slice xo m cx)).run P w = .ok vs.toArray w := by
    rcases hsrc with ⟨hl, h | ⟨b', k', rfl, hc⟩⟩
    · subst h
      have : vs = [] := List.length_eq_zero_iff.1 (by omega)
      subst this
      cases xo <;> simp [Builtin.firstCells, loadCells, loadCellsFrom]
    · simp only [Builtin.firstCells, loadCells]
      rw [Nat.mul_one, ← hl, run_loadx vs 0 #[] (by simpa [CellsAt] using hc)]
      simp
  have hrun : (execOp a.eval op).run P w = .ok (.value (goInt m)) w' := by
    simp only [execOp, hop, resolve, Sem.run_bind, Sem.run_pure, Result.andThen_ok, invoke, builtin]
    have e1 : (#[s, x].map a.eval) = #[.slice (some ⟨b, off, none⟩) n c, .slice xo m cx] := by simp [evO_eval hst.slots hs, evO_eval hst.slots hx]
    rw [e1]
    have h2' : (storeCells ⟨b, off, none⟩ vs).run P w = .ok () w' := h2
    simp [Builtin.copy_, hu, Builtin.lenOf, run_size ht hte, h1, hmin, hfc, h2']
  simp only [Oper.wp, hrun, Oper.upon]
  exact hn w' (hst.wrote hk hro h3)

end
end Go.Sx
