/-
  The canonical bytes of the machine.
-/
import Derived.Test.Qxb6500918aDoorM1
namespace Go.Kn
open Go.Sx Go.Proofs.Qxb6500918aDoor

def thrA (x : Tcb) : List Int := [IntKind.wrap .u64 x.st, IntKind.wrap .u64 x.prio, packP x.wait, packP x.cs, packP x.rep, x.badge, IntKind.wrap .u64 x.len, IntKind.wrap .u64 x.got, IntKind.wrap .u64 x.xfer, IntKind.wrap .u64 x.dst, flagP x.grant, flagP x.call]
def thrB (x : Tcb) : List Int := [x.m0, x.m1, x.m2, x.m3]

def slotN (S : KP) (Q : QL → List Nat) (E : Nat → Ent) (i : Nat) : List Int :=
  if (E i).ty = 3 then thrA (S.tcb i) ++ thrB (S.tcb i)
  else if (E i).ty = 4 ∨ (E i).ty = 5 then [S.word i] ++ memN (S.wq i).n (Q (.w i)) else []
def slotsN (S : KP) (Q : QL → List Nat) (E : Nat → Ent) : Nat → List Int
  | 0 => []
  | n + 1 => slotsN S Q E n ++ slotN S Q E n
def rdysN (S : KP) (Q : QL → List Nat) : Nat → List Int
  | 0 => []
  | n + 1 => rdysN S Q n ++ memN (S.rdy n).n (Q (.r n))
def irqN (q : Irq) : List Int := [packP q.ntfn, q.badge, flagP q.masked]
def irqsN (S : KP) : Nat → List Int
  | 0 => []
  | n + 1 => irqsN S n ++ irqN (S.irq n)
def headN (S : KP) : List Int := [IntKind.wrap .u64 (IntKind.wrap .i16 (S.cur + 1)), S.now]
def bytesN (S : KP) (Q : QL → List Nat) (C : CP) : List Int := storeN C.ent ++ (spaceN C ++ (headN S ++ (slotsN S Q C.ent 256 ++ (rdysN S Q 8 ++ irqsN S 16))))

theorem slotN_len {S : KP} {Q : QL → List Nat} (hQ : ∀ L, L.ok → (Q L).length ≤ 256) (E : Nat → Ent) {i : Nat} (hi : i < 256) : (slotN S Q E i).length ≤ 258 := by
  unfold slotN; split
  · simp [thrA, thrB]
  · split
    · have := hQ (.w i) hi
      rw [List.length_append, memN_len]; simp; omega
    · simp

theorem slotsN_len {S : KP} {Q : QL → List Nat} (hQ : ∀ L, L.ok → (Q L).length ≤ 256) (E : Nat → Ent) : ∀ n, n ≤ 256 → (slotsN S Q E n).length ≤ n * 258
  | 0, _ => Nat.le_refl _
  | n + 1, hn => by
    have h1 := slotsN_len (S := S) hQ E n (by omega)
    have h2 := slotN_len (S := S) hQ E (i := n) (by omega)
    rw [slotsN, List.length_append]; omega

theorem rdysN_len {S : KP} {Q : QL → List Nat} (hQ : ∀ L, L.ok → (Q L).length ≤ 256) : ∀ n, n ≤ 8 → (rdysN S Q n).length ≤ n * 257
  | 0, _ => Nat.le_refl _
  | n + 1, hn => by
    have h1 := rdysN_len (S := S) hQ n (by omega)
    have h2 := hQ (.r n) (show n < 8 by omega)
    rw [rdysN, List.length_append, memN_len]; omega

theorem irqsN_len (S : KP) : ∀ n, (irqsN S n).length = n * 3
  | 0 => rfl
  | n + 1 => by rw [irqsN, List.length_append, irqsN_len S n]; simp [irqN]; omega

theorem storeN_len (E : Nat → Ent) : (storeN E).length ≤ 1286 := by
  have := entsN_len E 257
  unfold storeN; rw [List.length_append]; simp; omega
theorem spaceN_len (C : CP) : (spaceN C).length ≤ 24577 := by
  have := celsN_len C 4096
  unfold spaceN; rw [List.length_append]; simp; omega

theorem irqs_at {w : World} {kb bo bc : Nat} {S : KP} (hb : w.heap[kb]? = some (Blk.obj ⟨kC bo bc S, 90, true⟩)) : CellsAt w kb 6428 (arr 16 irqC S.irq) := by
  refine cellsAt_blk hb ?_
  have h1 : cellsAre (arr 16 irqC S.irq) 0 (arr 16 irqC S.irq) := cellsAre_of_take _ _ (by simp)
  have h2 := cellsAre_app_right (a := kpre bo bc ++ arr 256 tcbC S.tcb ++ arr 256 quC S.wq ++ arr 256 wdC S.word ++ arr 8 quC S.rdy ++ bcC S) (cellsAre_app_left (b := [.int .u64 S.now]) h1)
  rw [kpre_irq, ← kC_irq] at h2
  exact h2
theorem irqs_len {S : KP} : (arr 16 irqC S.irq).length = 64 := by rw [arr_len irqC_len]

end Go.Kn

namespace Go.Proofs.Qxb6500918aDoor
open Go.Sx Go.Kn

theorem pure_irq {T : Slots} {a : Act} {o : Oper} {x y : Operand} {S : KP} {i : Int} (hs : SlotsOk T a) (hop : o.op = .index 88 x y) (hx : evO T x = some (.agg (arr 16 irqC S.irq).toArray)) (hy : evO T y = some (.int .i64 i)) (h0 : 0 ≤ i) (h1 : i < 16) :
    Pure Tryd.prog a o (.agg #[.int .u16 (S.irq i.toNat).ntfn.idx, .int .u32 (S.irq i.toNat).ntfn.gen, .int .u64 (S.irq i.toNat).badge, .bool (S.irq i.toNat).masked]) := by
  have hc : cellsAre (arr 16 irqC S.irq) (i.toNat * 4) (irqC (S.irq i.toNat)) := by
    have := mid_read irqC_len (pre := []) (post := []) (f := S.irq) (i := i.toNat) (k := 0) (n := 16) (o := i.toNat * 4) (vs := irqC (S.irq i.toNat)) (by omega) (cellsAre_of_take _ _ (by simp)) (by simp)
    simpa using this
  refine pure_index tabOk (φ := some (Nat.ble (i.toNat * 4 + 4) (arr 16 irqC S.irq).length = true)) hs hop hx hy rfl rfl rfl h0 h1 ?_ ?_
  · show some (Value.agg (cellsFrom (arr 16 irqC S.irq) (i.toNat * 4) 4).toArray, _) = _
    rw [show cellsFrom (arr 16 irqC S.irq) (i.toNat * 4) 4 = irqC (S.irq i.toNat) from (cellsAre_from hc).1]
    rfl
  · show Nat.ble (i.toNat * 4 + 4) (arr 16 irqC S.irq).length = true
    rw [irqs_len]; exact Nat.ble_eq_true_of_le (by omega)

end Go.Proofs.Qxb6500918aDoor
