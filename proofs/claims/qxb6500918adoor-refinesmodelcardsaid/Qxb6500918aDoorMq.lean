/-
  Map operations in a walk; a map of rows as a piece.
-/
import Derived.Test.Qxb6500918aDoorMp
import Derived.Test.Qxb6500918aDoorPA
namespace Go.Proofs.Qxb6500918aDoor
open Go.Sx Go.Kn
set_option maxRecDepth 100000

section
variable {T : Slots} {a : Act} {o : Oper} {w w' : World}

theorem exec_lookup {t : TypeId} {x i : Operand} {m key v : Value} (hs : SlotsOk T a) (hop : o.op = .lookup t x i false) (hx : evO T x = some m) (hi : evO T i = some key) (hr : (Instr.lookup t m key false).run Tryd.prog w = .ok v w) : (execOp a.eval o).run Tryd.prog w = .ok (.value v) w := by
  simp only [execOp, hop, evO_eval hs hx, evO_eval hs hi, Sem.run_bind, hr, Result.andThen_ok, Sem.run_pure]

theorem exec_entry {t : TypeId} {x i : Operand} {m key v : Value} (hs : SlotsOk T a) (hop : o.op = .mapEntry t x i) (hx : evO T x = some m) (hi : evO T i = some key) (hr : (Instr.mapEntry t m key).run Tryd.prog w = .ok v w') : (execOp a.eval o).run Tryd.prog w = .ok (.value v) w' := by
  simp only [execOp, hop, evO_eval hs hx, evO_eval hs hi, Sem.run_bind, hr, Result.andThen_ok, Sem.run_pure]

theorem exec_store {t : TypeId} {x i y : Operand} {m st v : Value} (hs : SlotsOk T a) (hop : o.op = .entryStore t x i y) (hx : evO T x = some m) (hi : evO T i = some st) (hy : evO T y = some v) (hr : (Instr.entryStore t m st v).run Tryd.prog w = .ok () w') : (execOp a.eval o).run Tryd.prog w = .ok .skip w' := by
  simp only [execOp, hop, evO_eval hs hx, evO_eval hs hi, evO_eval hs hy, Sem.run_bind, hr, Result.andThen_ok, Sem.run_pure]

theorem exec_update {t : TypeId} {x i y : Operand} {m key v : Value} (hs : SlotsOk T a) (hop : o.op = .mapUpdate t x i y) (hx : evO T x = some m) (hi : evO T i = some key) (hy : evO T y = some v) (hr : (Instr.mapUpdate t m key v).run Tryd.prog w = .ok () w') : (execOp a.eval o).run Tryd.prog w = .ok .skip w' := by
  simp only [execOp, hop, evO_eval hs hx, evO_eval hs hi, evO_eval hs hy, Sem.run_bind, hr, Result.andThen_ok, Sem.run_pure]

theorem exec_delete {t t2 : TypeId} {x i : Operand} {m key v : Value} (hs : SlotsOk T a) (hop : o.op = .call ⟨.builtin .delete, #[x, i], #[t, t2]⟩) (hx : evO T x = some m) (hi : evO T i = some key) (hr : (Builtin.delete_ #[t, t2] o.type #[m, key]).run Tryd.prog w = .ok v w') : (execOp a.eval o).run Tryd.prog w = .ok (.value v) w' := by
  have e1 : (#[x, i].map a.eval) = #[m, key] := by simp [evO_eval hs hx, evO_eval hs hi]
  simp only [execOp, hop, resolve, Sem.run_bind, Sem.run_pure, Result.andThen_ok, invoke, builtin, e1, hr]

theorem exec_len {t : TypeId} {x : Operand} {m v : Value} (hs : SlotsOk T a) (hop : o.op = .call ⟨.builtin .len, #[x], #[t]⟩) (hx : evO T x = some m) (hr : (Builtin.len_ #[t] o.type #[m]).run Tryd.prog w = .ok v w) : (execOp a.eval o).run Tryd.prog w = .ok (.value v) w := by
  have e1 : (#[x].map a.eval) = #[m] := by simp [evO_eval hs hx]
  simp only [execOp, hop, resolve, Sem.run_bind, Sem.run_pure, Result.andThen_ok, invoke, builtin, e1, hr]

theorem exec_make {t : TypeId} (hop : o.op = .makeMap t none) : (execOp a.eval o).run Tryd.prog w = .ok (.value (.map (some w.heap.size))) (w.alloc (.map #[] 0)) := by
  simp only [execOp, hop, Option.map_none, Instr.makeMap, Sem.run_bind, run_newObj, Result.andThen_ok, Sem.run_pure]
  rfl

end

theorem op_skip {P : Program} {C : Ctx} {T : Slots} {L : Mem} {w w' : World} {a : Act} {ops : List Oper} {Q : Exit → Act → World → Prop} {Kc : Act → World → Prop} {i : Nat} {o : Oper} (hst : St C T L a w) (hi : nth ops i = some o) (hw : wantE ops T o.guard = some true) (hr : (execOp a.eval o).run P w = .ok .skip w') (hn : Kc (a.put o.dst undef) w') : wpOp P ops.toArray Q i Kc a w := by
  unfold wpOp
  rw [nth_eq] at hi
  simp only [List.getElem?_toArray, hi, wantE_spec hst.slots hw, if_true]
  left
  simp only [Oper.wp, hr, Oper.upon]
  exact hn

/-! A map of rows -/

structure Pe where
  x : Nat
  at_ : Rf
  o : Option Addr
  cp : Nat
  F : List Nat
  b : Nat

def plM (E : Nat → Ent) (ps : List Pe) : List Mn := ps.map (fun e => ⟨refP E (e.x : Int), .slice e.o 1 e.cp, e.b⟩)
def plF (mb : Nat) (ps : List Pe) : List Nat := mb :: ps.flatMap (·.F)

structure PlAt (w : World) (mb c : Nat) (E : Nat → Ent) (ps : List Pe) (ms : List Mn) (c2 : Nat) : Prop where
  m : w.heap[mb]? = some (mapO (plM E ps ++ ms) c2)
  r : ∀ e ∈ ps, (rl rfC 39 2 [e.at_] e.o e.cp e.F).at w
  b : ∀ e ∈ ps, e.b < c
  nd : (plF mb ps).Nodup

def pPl (mb c : Nat) (E : Nat → Ent) (ps : List Pe) : Pc := ⟨fun w => PlAt w mb c E ps [] c, plF mb ps⟩
def pPlN (mb c : Nat) (E : Nat → Ent) (ps : List Pe) (k : Rf) : Pc := ⟨fun w => PlAt w mb c E ps [⟨k, .slice none 0 0, c⟩] (c + 1), plF mb ps⟩

section
variable {w w' : World} {mb c c2 : Nat} {E : Nat → Ent} {ps : List Pe} {ms : List Mn}

theorem PlAt.ok (h : PlAt w mb c E ps ms c2) : PcOk ⟨fun w => PlAt w mb c E ps ms c2, plF mb ps⟩ w where
  A := h
  st w1 w2 hs h1 := ⟨by rw [hs mb (List.mem_cons_self ..)]; exact h1.m, fun e he => Row.stable w1 w2 (fun b hb => hs b (List.mem_cons_of_mem _ (List.mem_flatMap.2 ⟨e, he, hb⟩))) (h1.r e he), h1.b, h1.nd⟩
  low b hb := by
    rcases List.mem_cons.1 hb with e | hb
    · rw [e]; exact lt_of_heap h.m
    · obtain ⟨e, he, hb⟩ := List.mem_flatMap.1 hb
      exact Row.low (h.r e he) b hb
  nd := h.nd

theorem PlAt.turn (h : PlAt w mb c E ps ms c2) {ms' : List Mn} {c3 : Nat} (hm : w'.heap[mb]? = some (mapO (plM E ps ++ ms') c3)) (hf : Fr [mb] w w') : PlAt w' mb c E ps ms' c3 := by
  refine ⟨hm, fun e he => Row.fr (h.r e he) hf (fun b hb hq => ?_), h.b, h.nd⟩
  have hnd := h.nd
  unfold plF at hnd
  rw [List.nodup_cons] at hnd
  simp at hq
  exact hnd.1 (List.mem_flatMap.2 ⟨e, he, by rw [← hq]; exact hb⟩)

/-- A thread is not yet in the map. -/
theorem pl_none {x : Nat} (hx : x < 256) (hp : ∀ e ∈ ps, e.x < 256 ∧ e.x ≠ x) : fnd (refP E (x : Int)) (plM E ps) 0 = none := by
  refine fnd_none (fun e he hq => ?_)
  obtain ⟨p, hp1, rfl⟩ := List.mem_map.1 he
  have := hp p hp1
  have h1 : (refP E (p.x : Int)).idx = (p.x : Int) := by unfold refP; rw [if_neg (by omega)]; exact refAt_idx ⟨by omega, by omega⟩
  have h2 : (refP E (x : Int)).idx = (x : Int) := by unfold refP; rw [if_neg (by omega)]; exact refAt_idx ⟨by omega, by omega⟩
  have hq' : refP E (p.x : Int) = refP E (x : Int) := hq
  have h3 : (refP E (p.x : Int)).idx = (refP E (x : Int)).idx := by rw [hq']
  omega

theorem pl_entry (h : PlAt w mb c E ps [] c) {x : Nat} (hx : x < 256) (hp : ∀ e ∈ ps, e.x < 256 ∧ e.x ≠ x) :
    (Instr.mapEntry 100 (.map (some mb)) (rfV (refP E (x : Int)))).run Tryd.prog w = .ok (.tuple #[.slice none 0 0, goInt c]) (putH w mb (mapO (plM E ps ++ [⟨refP E (x : Int), .slice none 0 0, c⟩]) (c + 1))) ∧
    PlAt (putH w mb (mapO (plM E ps ++ [⟨refP E (x : Int), .slice none 0 0, c⟩]) (c + 1))) mb c E ps [⟨refP E (x : Int), .slice none 0 0, c⟩] (c + 1) := by
  have hm := h.m
  rw [List.append_nil] at hm
  have hz : (zeroValue 51).run Tryd.prog w = .ok (.slice none 0 0) w := by kernel_rfl
  exact ⟨run_entry39 Tryd.underlying100 hz hm (pl_none hx hp), h.turn (putH_same hm) putH_fr⟩

theorem pl_store {k : Rf} (h : PlAt w mb c E ps [⟨k, .slice none 0 0, c⟩] (c + 1)) {x : Nat} (hk : k = refP E (x : Int)) {at_ : Rf} {o : Option Addr} {cp : Nat} {F : List Nat} (hr : (rl rfC 39 2 [at_] o cp F).at w) (hd : ∀ b ∈ F, b ∉ plF mb ps) :
    (Instr.entryStore 100 (.map (some mb)) (goInt c) (.slice o 1 cp)).run Tryd.prog w = .ok () (putH w mb (mapO (plM E ps ++ [⟨k, .slice o 1 cp, c⟩]) (c + 1))) ∧
    PlAt (putH w mb (mapO (plM E ps ++ [⟨k, .slice o 1 cp, c⟩]) (c + 1))) mb (c + 1) E (ps ++ [⟨x, at_, o, cp, F, c⟩]) [] (c + 1) := by
  have hb : ∀ e ∈ plM E ps, e.b ≠ c := fun e he => by
    obtain ⟨p, hp1, rfl⟩ := List.mem_map.1 he
    have := h.b p hp1
    show p.b ≠ c; omega
  refine ⟨run_store39 h.m hb, ?_, fun e he => ?_, fun e he => ?_, ?_⟩
  · rw [putH_same h.m]
    unfold plM; rw [List.map_append, List.append_nil, hk]; rfl
  · rcases List.mem_append.1 he with he | he
    · refine Row.fr (h.r e he) putH_fr (fun b hb hq => ?_)
      have hnd := h.nd
      unfold plF at hnd
      rw [List.nodup_cons] at hnd
      simp at hq
      exact hnd.1 (List.mem_flatMap.2 ⟨e, he, by rw [← hq]; exact hb⟩)
    · simp at he; subst he
      exact Row.fr hr putH_fr (fun b hb hq => by simp at hq; exact hd b hb (by rw [hq]; exact List.mem_cons_self ..))
  · rcases List.mem_append.1 he with he | he
    · have := h.b e he; omega
    · simp at he; subst he; show c < c + 1; omega
  · have hnd := h.nd
    have hrn : F.Nodup := Row.nodup hr
    show (mb :: (ps ++ [(⟨x, at_, o, cp, F, c⟩ : Pe)]).flatMap (·.F)).Nodup
    rw [List.flatMap_append, show ([(⟨x, at_, o, cp, F, c⟩ : Pe)] : List Pe).flatMap (·.F) = F by simp, ← List.cons_append, List.nodup_append]
    exact ⟨hnd, hrn, fun a ha b hb he => hd b hb (by rw [← he]; exact ha)⟩

end

end Go.Proofs.Qxb6500918aDoor
