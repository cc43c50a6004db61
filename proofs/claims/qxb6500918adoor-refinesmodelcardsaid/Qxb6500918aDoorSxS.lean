/-
  A store into a block that is carried, not known; a state with another carried fact; caps and a row of caps carried at once.
-/
import Derived.Test.Qxb6500918aDoorSxR
import Derived.Test.Qxb6500918aDoorKt
namespace Go.Sx

section
variable {P : Program} {tab : Tab} {C : Ctx} {T T' : Slots} {L L' : Mem} {w w' : World} {a : Act} {ops : List Oper} {Q : Exit → Act → World → Prop}
  {Kc : Act → World → Prop}

theorem Wrote.fr {b : Nat} {o : Obj} (h : Wrote b o w w') : Fr [b] w w' :=
  ⟨h.os, h.tape, h.output, by rw [h.size]; exact Nat.le_refl _, fun k _ hk => h.else_ k (by simpa using hk)⟩

theorem op_storeX (ht : TabOk P tab) {i : Nat} {o : Oper} {t : TypeId} {xa xv : Operand} {b k : Nat} {v : Value} {ti : TI} {blk : Blk} (hst : St C T L a w) (hi : nth ops i = some o) (hw : wantE ops T o.guard = some true) (hd : o.dst = none)
    (hop : o.op = .store t xa xv) (ha : evO T xa = some (.pointer (some ⟨b, k, none⟩))) (hv : evO T xv = some v) (hti : look tab t = some ti) (hlen : (vcells v).length = ti.size) (hone : allOne (vcells v) = true)
    (hb : w.heap[b]? = some (Blk.obj blk)) (hle : k + ti.size ≤ blk.cells.length) (hn : ∀ w', w'.heap[b]? = some (Blk.obj ⟨splice blk.cells k (vcells v), blk.ty, false⟩) → Fr [b] w w' → Kc a w') : wpOp P ops.toArray Q i Kc a w := by
  unfold wpOp
  rw [nth_eq] at hi
  simp only [List.getElem?_toArray, hi, wantE_spec hst.slots hw, if_true]
  left
  obtain ⟨w1, h1, h2⟩ := run_storeCells (P := P) (vcells v) 0 k blk w hb (by omega) (allOne_spec hone)
  have hrun : (execOp a.eval o).run P w = .ok .skip w1 := by
    obtain ⟨dst, op, type, pos, after, guard⟩ := o
    simp only at hop
    subst hop
    have hsz : v.cells.size = ti.size := by rw [vcells_eq]; simpa using hlen
    have hcl : v.cells.toList = vcells v := by rw [vcells_eq]
    simp only [execOp, evO_eval hst.slots ha, evO_eval hst.slots hv, Instr.storeAt, Instr.sureAddr, storeVar, Sem.run_bind, Sem.run_pure, Result.andThen_ok, run_size ht hti, hsz, hcl]
    simp [h1]
  simp only [Oper.wp, hrun, Oper.upon, hd, Act.put]
  exact hn w1 h2.at_ h2.fr

theorem St.as (hst : St C T L a w) (hs : List.Sublist L' L) {A' : World → Prop} {F' : List Nat} (hA : A' w) (hS : Stable A' F') (hlow : ∀ b ∈ F', b < w.heap.size) (hd : ∀ kb ∈ L', kb.2.ro = false → kb.1 ∉ F') : St ⟨C.n, C.K, C.w0, A', F'⟩ T L' a w :=
  have h := hst.memMono hs
  ⟨h.size, h.defs, h.slots, h.known, h.nodup, h.keys, h.frame, hA, hS, hlow, hd⟩

end
end Go.Sx

namespace Go.Kn
open Go.Sx

def rep1 (c : Cel) (s p : Int) : Cel := if c.parent = s then { c with parent := p } else c

theorem repar_step (cel : Nat → Cel) (s p : Int) (n : Nat) : upd (reparUp cel s p n) n (rep1 (reparUp cel s p n n) s p) = reparUp cel s p (n + 1) := by
  have e0 : reparUp cel s p n n = cel n := if_neg (by omega)
  rw [e0]
  funext t
  unfold upd reparUp rep1
  by_cases e : t = n
  · subst e
    rw [if_pos rfl]
    by_cases h : (cel t).parent = s
    · rw [if_pos h, if_pos ⟨by omega, h⟩]
    · rw [if_neg h, if_neg (fun hq => h hq.2)]
  · rw [if_neg e]
    by_cases h : t < n ∧ (cel t).parent = s
    · rw [if_pos h, if_pos ⟨by omega, h.2⟩]
    · rw [if_neg h, if_neg (fun hq => h ⟨by omega, hq.2⟩)]

theorem repar_zero (cel : Nat → Cel) (s p : Int) : reparUp cel s p 0 = cel := by
  funext t; unfold reparUp; rw [if_neg (by omega)]

theorem CapAt.ext {w : World} {bo bc : Nat} {nd : Nat → Nat} {C : CP} (h : CapAt w bo bc nd C) {cel : Nat → Cel} (he : ∀ s, s < 4096 → C.pres (s / 16) = true → cel s = C.cel s) : CapAt w bo bc nd { C with cel := cel } := by
  refine ⟨h.st, h.sp, fun {i} hi hp => ?_, h.ap, h.n1, h.n2⟩
  rw [h.no hi hp, nd_ext (cel := C.cel) (cel' := cel) (i := i) (fun x hx => he _ (by omega) (by rw [show (i * 16 + x) / 16 = i by omega]; exact hp))]

theorem CapAt.cutNode {w w' : World} {bo bc : Nat} {nd : Nat → Nat} {C : CP} (h : CapAt w bo bc nd C) {i : Nat} (hf : Fr [bc] w w') (hsp : w'.heap[bc]? = some (Blk.obj ⟨spC bo nd (upd C.pres i false), 142, false⟩)) : CapAt w' bo bc nd { C with pres := upd C.pres i false } := by
  have hp' : ∀ {j : Nat}, upd C.pres i false j = true → C.pres j = true := fun {j} hq => by
    unfold upd at hq; split at hq
    · cases hq
    · exact hq
  refine ⟨?_, hsp, fun {j} hj hp => ?_, h.ap, fun hj hp => h.n1 hj (hp' hp), fun hj hk hp hq => h.n2 hj hk (hp' hp) (hp' hq)⟩
  · rw [hf.block bo (lt_of_heap h.st) (by simp; exact h.ap)]; exact h.st
  · have := hp' hp
    rw [hf.block (nd j) (lt_of_heap (h.no hj this)) (by simp; exact (h.n1 hj this).2)]; exact h.no hj this

theorem capF_cut {bo bc : Nat} {nd : Nat → Nat} {C : CP} {i : Nat} : ∀ x ∈ capF bo bc nd { C with pres := upd C.pres i false }, x ∈ capF bo bc nd C := by
  intro x hx
  rcases mem_capF.1 hx with h | h | ⟨j, hj, hp, he⟩
  · exact mem_capF.2 (.inl h)
  · exact mem_capF.2 (.inr (.inl h))
  · refine mem_capF.2 (.inr (.inr ⟨j, hj, ?_, he⟩))
    dsimp only at hp
    unfold upd at hp; split at hp
    · cases hp
    · exact hp

/-- The caps, and a row of capabilities beside them. -/
structure CRow (bo bc : Nat) (nd : Nat → Nat) (C : CP) (xs : List Cp) (o : Option Addr) (c : Nat) (F : List Nat) (w : World) : Prop where
  cap : CapAt w bo bc nd C
  row : (rl cpC 49 5 xs o c F).at w
  dis : ∀ b ∈ F, b ∉ capF bo bc nd C

theorem CRow.stable {bo bc : Nat} {nd : Nat → Nat} {C : CP} {xs : List Cp} {o : Option Addr} {c : Nat} {F : List Nat} : Stable (CRow bo bc nd C xs o c F) (capF bo bc nd C ++ F) := by
  intro w w' hs h
  exact ⟨CapAt.stable w w' (fun b hb => hs b (List.mem_append_left _ hb)) h.cap, Row.stable w w' (fun b hb => hs b (List.mem_append_right _ hb)) h.row, h.dis⟩

theorem CRow.low {w : World} {bo bc : Nat} {nd : Nat → Nat} {C : CP} {xs : List Cp} {o : Option Addr} {c : Nat} {F : List Nat} (h : CRow bo bc nd C xs o c F w) : ∀ b ∈ capF bo bc nd C ++ F, b < w.heap.size := by
  intro b hb
  rcases List.mem_append.1 hb with hb | hb
  · exact h.cap.low b hb
  · exact Row.low h.row b hb

end Go.Kn
