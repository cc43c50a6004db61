/-
  The map of the machines that were met, as a piece with all of them.
-/
import Derived.Test.Qxb6500918aDoorRa
namespace Go.Kn
open Go.Sx Go.Proofs.Qxb6500918aDoor

structure Me where
  key : ByteArray
  kb : Nat
  bo : Nat
  bc : Nat
  nd : Nat → Nat
  S : KP
  C : CP
  a : AK
  n : Int
  b : Nat

def meF (e : Me) : List Nat := e.kb :: capF e.bo e.bc e.nd e.C
def meM (es : List Me) : List Sn := es.map (fun e => ⟨e.key, .pointer (some ⟨e.kb, 0, none⟩), e.b⟩)
def metF (mb : Nat) (es : List Me) : List Nat := mb :: es.flatMap meF

structure MetAt (w : World) (mb c : Nat) (es : List Me) : Prop where
  m : w.heap[mb]? = some (mapS (meM es) c)
  k : ∀ e ∈ es, KAt w e.kb e.bo e.bc e.nd e.S e.C
  nd : (metF mb es).Nodup

def pMet (mb c : Nat) (es : List Me) : Pc := ⟨fun w => MetAt w mb c es, metF mb es⟩

/-- What is known of a machine that was met. -/
structure MeOk (e : Me) : Prop where
  iv : Iv e.S e.a e.C e.n
  nb : e.n ≤ 65537
  ky : e.key = strOf (uvs (bytesN e.S e.a.q e.C))

end Go.Kn

namespace Go.Proofs.Qxb6500918aDoor
open Go.Sx Go.Kn
set_option maxRecDepth 100000

section
variable {w w' : World} {mb c : Nat} {es pre post : List Me} {e : Me}

theorem kat_fr {w w' : World} {kb bo bc : Nat} {nd : Nat → Nat} {S : KP} {C : CP} (h : KAt w kb bo bc nd S C) {M : List Nat} (hf : Fr M w w') (hM : ∀ b ∈ kb :: capF bo bc nd C, b ∉ M) : KAt w' kb bo bc nd S C :=
  ⟨by rw [hf.block kb (lt_of_heap h.ker) (hM kb (List.mem_cons_self ..))]; exact h.ker, h.cap.fr hf (fun b hb => hM b (List.mem_cons_of_mem _ hb)), h.nk⟩

theorem metOk (h : MetAt w mb c es) : PcOk (pMet mb c es) w where
  A := h
  st w1 w2 hs h1 := ⟨by rw [hs mb (List.mem_cons_self ..)]; exact h1.m, fun e he => by
    have hk := h1.k e he
    have hb : ∀ b ∈ meF e, w2.heap[b]? = w1.heap[b]? := fun b hb => hs b (List.mem_cons_of_mem _ (List.mem_flatMap.2 ⟨e, he, hb⟩))
    exact ⟨by rw [hb e.kb (List.mem_cons_self ..)]; exact hk.ker, CapAt.stable w1 w2 (fun b h => hb b (List.mem_cons_of_mem _ h)) hk.cap, hk.nk⟩, h1.nd⟩
  low b hb := by
    rcases List.mem_cons.1 hb with e | hb
    · rw [e]; exact lt_of_heap h.m
    · obtain ⟨e, he, hb⟩ := List.mem_flatMap.1 hb
      have hk := h.k e he
      rcases List.mem_cons.1 hb with e2 | hb
      · rw [e2]; exact lt_of_heap hk.ker
      · exact hk.cap.low b hb
  nd := h.nd

theorem met_nil (h : w.heap[mb]? = some (mapO [] 0)) : MetAt w mb 0 [] := ⟨h, fun _ hq => (by cases hq), by simp [metF]⟩

theorem meM_app (l r : List Me) : meM (l ++ r) = meM l ++ meM r := by unfold meM; rw [List.map_append]

theorem met_look (h : MetAt w mb c (pre ++ e :: post)) (hp : ∀ y ∈ pre, y.key ≠ e.key) : (Instr.lookup 73 (.map (some mb)) (.string e.key) false).run Tryd.prog w = .ok (.pointer (some ⟨e.kb, 0, none⟩)) w := by
  have hz : (zeroValue 24).run Tryd.prog w = .ok (.pointer none) w := by kernel_rfl
  have := run_lookupS Tryd.underlying73 hz h.m e.key
  rw [meM_app, show meM (e :: post) = ⟨e.key, .pointer (some ⟨e.kb, 0, none⟩), e.b⟩ :: meM post from rfl, sfnd_mid (k := e.key) (fun y hy => by
    obtain ⟨q, hq1, rfl⟩ := List.mem_map.1 hy
    exact hp q hq1) rfl] at this
  exact this

theorem met_none {k : ByteArray} (hp : ∀ y ∈ es, y.key ≠ k) : sfnd k (meM es) 0 = none := sfnd_none (fun y hy => by
  obtain ⟨q, hq1, rfl⟩ := List.mem_map.1 hy
  exact hp q hq1)

theorem met_lookN (h : MetAt w mb c es) {k : ByteArray} (hp : ∀ y ∈ es, y.key ≠ k) : (Instr.lookup 73 (.map (some mb)) (.string k) false).run Tryd.prog w = .ok (.pointer none) w := by
  have hz : (zeroValue 24).run Tryd.prog w = .ok (.pointer none) w := by kernel_rfl
  have := run_lookupS Tryd.underlying73 hz h.m k
  rw [met_none hp] at this
  exact this

theorem met_put (h : MetAt w mb c es) (he : KAt w e.kb e.bo e.bc e.nd e.S e.C) (hd : ∀ b ∈ meF e, b ∉ metF mb es) (hn : (meF e).Nodup) (hp : ∀ y ∈ es, y.key ≠ e.key) (hb : e.b = c) :
    (Instr.mapUpdate 73 (.map (some mb)) (.string e.key) (.pointer (some ⟨e.kb, 0, none⟩))).run Tryd.prog w = .ok () (putH w mb (mapS (meM (es ++ [e])) (c + 1))) ∧ MetAt (putH w mb (mapS (meM (es ++ [e])) (c + 1))) mb (c + 1) (es ++ [e]) := by
  have hm : meM (es ++ [e]) = meM es ++ [⟨e.key, .pointer (some ⟨e.kb, 0, none⟩), c⟩] := by rw [meM_app, ← hb]; rfl
  refine ⟨by rw [hm]; exact run_updateS Tryd.underlying73 h.m (met_none hp) _, putH_same h.m, fun y hy => ?_, ?_⟩
  · rcases List.mem_append.1 hy with hy | hy
    · refine kat_fr (h.k y hy) putH_fr (fun b hb hq => ?_)
      have hnd := h.nd
      unfold metF at hnd
      rw [List.nodup_cons] at hnd
      simp at hq
      exact hnd.1 (List.mem_flatMap.2 ⟨y, hy, by rw [← hq]; exact hb⟩)
    · simp at hy; subst hy
      exact kat_fr he putH_fr (fun b hb hq => by simp at hq; exact hd b hb (by rw [hq]; exact List.mem_cons_self ..))
  · show (mb :: (es ++ [e]).flatMap meF).Nodup
    rw [List.flatMap_append, show ([e] : List Me).flatMap meF = meF e by simp, ← List.cons_append, List.nodup_append]
    exact ⟨h.nd, hn, fun a ha b hb he => hd b hb (by rw [← he]; exact ha)⟩

theorem met_F1 (mb : Nat) (es : List Me) (e : Me) : ∀ b ∈ metF mb (es ++ [e]), b ∈ metF mb es ∨ b ∈ meF e := fun b hb => by
  have hb' : b ∈ mb :: (es ++ [e]).flatMap meF := hb
  rw [List.flatMap_append, show ([e] : List Me).flatMap meF = meF e by simp, ← List.cons_append] at hb'
  exact List.mem_append.1 hb'

/-- A key: the first that has it, or none. -/
theorem met_split (k : ByteArray) : ∀ es : List Me, (∀ y ∈ es, y.key ≠ k) ∨ ∃ pre e post, es = pre ++ e :: post ∧ e.key = k ∧ ∀ y ∈ pre, y.key ≠ k
  | [] => .inl (fun _ h => by cases h)
  | x :: es => by
    by_cases h : x.key = k
    · exact .inr ⟨[], x, es, rfl, h, fun _ h => by cases h⟩
    · rcases met_split k es with h1 | ⟨pre, e, post, h1, h2, h3⟩
      · exact .inl (fun y hy => by
          rcases List.mem_cons.1 hy with e | hy
          · rw [e]; exact h
          · exact h1 y hy)
      · refine .inr ⟨x :: pre, e, post, by rw [h1]; rfl, h2, fun y hy => ?_⟩
        rcases List.mem_cons.1 hy with e | hy
        · rw [e]; exact h
        · exact h3 y hy

end

section
variable {C : Ctx} {T : Slots} {L : Mem} {w : World} {a : Act} {ops : List Oper} {Q : Exit → Act → World → Prop} {Kc : Act → World → Prop} {i : Nat} {o : Oper} {x y z : Operand} {mb c : Nat} {es pre post : List Me} {e : Me}

theorem op_metLook (hst : St C T L a w) (hi : nth ops i = some o) (hw : wantE ops T o.guard = some true) (hop : o.op = .lookup 73 x y false) (hx : evO T x = some (.map (some mb))) {k : ByteArray} (hy : evO T y = some (.string k)) (h : MetAt w mb c (pre ++ e :: post)) (hk : e.key = k) (hp : ∀ y ∈ pre, y.key ≠ k)
    (hn : Kc (a.put o.dst (.pointer (some ⟨e.kb, 0, none⟩))) w) : wpOp Tryd.prog ops.toArray Q i Kc a w := by
  subst hk
  exact op_now hst hi hw (exec_lookup hst.slots hop hx hy (met_look h hp)) hn

theorem op_metLookN (hst : St C T L a w) (hi : nth ops i = some o) (hw : wantE ops T o.guard = some true) (hop : o.op = .lookup 73 x y false) (hx : evO T x = some (.map (some mb))) {k : ByteArray} (hy : evO T y = some (.string k)) (h : MetAt w mb c es) (hp : ∀ y ∈ es, y.key ≠ k)
    (hn : Kc (a.put o.dst (.pointer none)) w) : wpOp Tryd.prog ops.toArray Q i Kc a w :=
  op_now hst hi hw (exec_lookup hst.slots hop hx hy (met_lookN h hp)) hn

theorem op_metPut (hst : St C T L a w) (hi : nth ops i = some o) (hw : wantE ops T o.guard = some true) (hop : o.op = .mapUpdate 73 x y z) (hx : evO T x = some (.map (some mb))) (hy : evO T y = some (.string e.key)) (hz : evO T z = some (.pointer (some ⟨e.kb, 0, none⟩))) (h : MetAt w mb c es)
    (he : KAt w e.kb e.bo e.bc e.nd e.S e.C) (hd : ∀ b ∈ meF e, b ∉ metF mb es) (hnd : (meF e).Nodup) (hp : ∀ y ∈ es, y.key ≠ e.key) (hb : e.b = c) (hn : ∀ w', MetAt w' mb (c + 1) (es ++ [e]) → Fr [mb] w w' → Kc (a.put o.dst undef) w') : wpOp Tryd.prog ops.toArray Q i Kc a w := by
  have h1 := met_put h he hd hnd hp hb
  exact op_skip hst hi hw (exec_update hst.slots hop hx hy hz h1.1) (hn _ h1.2 putH_fr)

end
end Go.Proofs.Qxb6500918aDoor
