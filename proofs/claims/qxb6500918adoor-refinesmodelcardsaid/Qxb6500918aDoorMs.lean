/-
  Map operations as steps of a walk; pieces joined and parted.
-/
import Derived.Test.Qxb6500918aDoorMr
namespace Go.Sx

section
variable {nn : Nat} {w0 w w' : World} {T : Slots} {L : Mem} {a : Act} {ps ps' : List Pc} {p q p' : Pc} {M : List Nat}

theorem Pf_app (l r : List Pc) : Pf (l ++ r) = Pf l ++ Pf r := by simp [Pf]

/-- The last piece goes into piece j. -/
theorem St.pcInto (hst : St ⟨nn, [], w0, Pk w0.heap.size (ps ++ [q]), Pf (ps ++ [q])⟩ T L a w) {j : Nat} (hj : nth ps j = some p) (hp : PcOk p' w') (hF : ∀ b ∈ p'.F, b ∈ p.F ∨ b ∈ q.F) (hfr : Fr M w w') (hM : ∀ b ∈ M, b ∈ p.F)
    (hL : ∀ kb ∈ L, kb.2.ro = true → kb.1 ∉ p.F) (hR : setP ps j p' = ps') : St ⟨nn, [], w0, Pk w0.heap.size ps', Pf ps'⟩ T L a w' := by
  subst hR
  have hi := hst.inv
  have hnd := hi.nd
  rw [Pf_app, List.nodup_append] at hnd
  have hq : ∀ b ∈ q.F, b ∉ Pf ps := fun b hb hc => hnd.2.2 b hc b (by simpa [Pf] using hb) rfl
  have hmem : ∀ b ∈ Pf (setP ps j p'), b ∈ Pf (ps ++ [q]) := fun b hb => by
    obtain ⟨x, hx, hbx⟩ := List.mem_flatMap.1 hb
    rw [Pf_app]
    rcases setP_mem ps j p' x hx with e | ⟨i, _, hx'⟩
    · subst e
      rcases hF b hbx with h | h
      · exact List.mem_append_left _ (List.mem_flatMap.2 ⟨p, nthP_mem hj, h⟩)
      · exact List.mem_append_right _ (by simpa [Pf] using h)
    · exact List.mem_append_left _ (List.mem_flatMap.2 ⟨x, nthP_mem hx', hbx⟩)
  have hn : Pk w0.heap.size (setP ps j p') w' := by
    refine ⟨Pf_set_nodup hnd.1 hj hp.nd (fun b hb => (hF b hb).imp id (hq b)), fun b hb => hi.new b (hmem b hb), fun x hx => ?_⟩
    rcases setP_mem ps j p' x hx with e | ⟨i, hij, hx'⟩
    · subst e; exact hp
    · exact (hi.ok x (List.mem_append_left _ (nthP_mem hx'))).fr hfr (fun b hb hm => Pf_nodup hnd.1 hx' hj hij b hb (hM b hm))
  exact hst.callF hfr (fun b hb => List.mem_flatMap.2 ⟨p, List.mem_append_left _ (nthP_mem hj), hM b hb⟩) (fun b hb => .inr (hi.new b (List.mem_flatMap.2 ⟨p, List.mem_append_left _ (nthP_mem hj), hM b hb⟩))) (fun kb h1 h2 h3 => hL kb h1 h2 (hM _ h3)) hn Pk.stable hn.low (fun b hb => .inl (hmem b hb))

/-- A part of piece j becomes a piece of its own. -/
theorem St.pcPart (hst : St ⟨nn, [], w0, Pk w0.heap.size ps, Pf ps⟩ T L a w) {j : Nat} (hj : nth ps j = some p) (hp : PcOk p' w') (hq : PcOk q w') (hF : ∀ b ∈ p'.F, b ∈ p.F) (hG : ∀ b ∈ q.F, b ∈ p.F) (hd : ∀ b ∈ q.F, b ∉ p'.F) (hfr : Fr M w w') (hM : ∀ b ∈ M, b ∈ p.F)
    (hL : ∀ kb ∈ L, kb.2.ro = true → kb.1 ∉ p.F) (hR : setP ps j p' ++ [q] = ps') : St ⟨nn, [], w0, Pk w0.heap.size ps', Pf ps'⟩ T L a w' := by
  subst hR
  have hi := hst.inv
  have hmem : ∀ b ∈ Pf (setP ps j p' ++ [q]), b ∈ Pf ps := fun b hb => by
    rw [Pf_app] at hb
    rcases List.mem_append.1 hb with hb | hb
    · obtain ⟨x, hx, hbx⟩ := List.mem_flatMap.1 hb
      rcases setP_mem ps j p' x hx with e | ⟨i, _, hx'⟩
      · subst e; exact List.mem_flatMap.2 ⟨p, nthP_mem hj, hF b hbx⟩
      · exact List.mem_flatMap.2 ⟨x, nthP_mem hx', hbx⟩
    · exact List.mem_flatMap.2 ⟨p, nthP_mem hj, hG b (by simpa [Pf] using hb)⟩
  have hn : Pk w0.heap.size (setP ps j p' ++ [q]) w' := by
    refine ⟨?_, fun b hb => hi.new b (hmem b hb), fun x hx => ?_⟩
    · rw [Pf_app, List.nodup_append]
      refine ⟨Pf_set_nodup hi.nd hj hp.nd (fun b hb => .inl (hF b hb)), by simpa [Pf] using hq.nd, fun b hb b' hb' e => ?_⟩
      subst e
      have hb2 : b ∈ q.F := by simpa [Pf] using hb'
      obtain ⟨x, hx, hbx⟩ := List.mem_flatMap.1 hb
      rcases setP_mem ps j p' x hx with e | ⟨i, hij, hx'⟩
      · subst e; exact hd b hb2 hbx
      · exact Pf_nodup hi.nd hx' hj hij b hbx (hG b hb2)
    · rcases List.mem_append.1 hx with hx | hx
      · rcases setP_mem ps j p' x hx with e | ⟨i, hij, hx'⟩
        · subst e; exact hp
        · exact (hi.ok x (nthP_mem hx')).fr hfr (fun b hb hm => Pf_nodup hi.nd hx' hj hij b hb (hM b hm))
      · simp at hx; subst hx; exact hq
  exact hst.callF hfr (fun b hb => List.mem_flatMap.2 ⟨p, nthP_mem hj, hM b hb⟩) (fun b hb => .inr (hi.newOf hj b (hM b hb))) (fun kb h1 h2 h3 => hL kb h1 h2 (hM _ h3)) hn Pk.stable hn.low (fun b hb => .inl (hmem b hb))

end
end Go.Sx

namespace Go.Proofs.Qxb6500918aDoor
open Go.Sx Go.Kn
set_option maxRecDepth 100000

section
variable {C : Ctx} {T : Slots} {L : Mem} {w : World} {a : Act} {ops : List Oper} {Q : Exit → Act → World → Prop} {Kc : Act → World → Prop} {i : Nat} {o : Oper} {x y z : Operand} {mb c : Nat} {E : Nat → Ent} {ps pre post : List Pe} {e : Pe} {qs pr1 po1 : List Qe} {e1 : Qe} {t : Nat}

theorem op_make (hst : St C T L a w) (hi : nth ops i = some o) (hw : wantE ops T o.guard = some true) {ty : TypeId} (hop : o.op = .makeMap ty none) (hn : ∀ mb w', w'.heap[mb]? = some (mapO [] 0) → Fr [] w w' → w.heap.size ≤ mb → Kc (a.put o.dst (.map (some mb))) w') : wpOp Tryd.prog ops.toArray Q i Kc a w :=
  op_now hst hi hw (exec_make hop) (hn _ _ (heap_alloc_new w _) (fr_alloc [] w _) (Nat.le_refl _))

theorem op_mapEntry (hst : St C T L a w) (hi : nth ops i = some o) (hw : wantE ops T o.guard = some true) (hop : o.op = .mapEntry 100 x y) (hx : evO T x = some (.map (some mb))) (hy : evO T y = some (rfV (refP E (t : Int)))) (h : PlAt w mb c E ps [] c) (ht : t < 256) (hp : ∀ e ∈ ps, e.x < 256 ∧ e.x ≠ t)
    (hn : ∀ w', PlAt w' mb c E ps [⟨refP E (t : Int), .slice none 0 0, c⟩] (c + 1) → Fr [mb] w w' → Kc (a.put o.dst (.tuple #[.slice none 0 0, .int .i64 (c : Int)])) w') : wpOp Tryd.prog ops.toArray Q i Kc a w := by
  have h1 := pl_entry h ht hp
  exact op_now hst hi hw (exec_entry hst.slots hop hx hy h1.1) (hn _ h1.2 putH_fr)

theorem op_entryStore (hst : St C T L a w) (hi : nth ops i = some o) (hw : wantE ops T o.guard = some true) (hop : o.op = .entryStore 100 x y z) (hx : evO T x = some (.map (some mb))) (hy : evO T y = some (.int .i64 (c : Int))) {so : Option Addr} {cp : Nat} (hz : evO T z = some (.slice so 1 cp)) (h : PlAt w mb c E ps [⟨refP E (t : Int), .slice none 0 0, c⟩] (c + 1))
    {at_ : Rf} {F : List Nat} (hr : (rl rfC 39 2 [at_] so cp F).at w) (hd : ∀ b ∈ F, b ∉ plF mb ps) (hn : ∀ w', PlAt w' mb (c + 1) E (ps ++ [⟨t, at_, so, cp, F, c⟩]) [] (c + 1) → Fr [mb] w w' → Kc (a.put o.dst undef) w') : wpOp Tryd.prog ops.toArray Q i Kc a w := by
  have h1 := pl_store h rfl hr hd
  exact op_skip hst hi hw (exec_store hst.slots hop hx hy hz h1.1) (hn _ h1.2 putH_fr)

theorem op_prio (hst : St C T L a w) (hi : nth ops i = some o) (hw : wantE ops T o.guard = some true) (hop : o.op = .mapUpdate 137 x y z) (hx : evO T x = some (.map (some mb))) (hy : evO T y = some (rfV (refP E (t : Int)))) {p : Int} (hz : evO T z = some (.int .i64 p)) (h : w.heap[mb]? = some (mapO (prM E qs) c)) (ht : t < 256) (hp : ∀ e ∈ qs, e.x < 256 ∧ e.x ≠ t)
    (hn : ∀ w', w'.heap[mb]? = some (mapO (prM E (qs ++ [⟨t, p, c⟩])) (c + 1)) → Fr [mb] w w' → Kc (a.put o.dst undef) w') : wpOp Tryd.prog ops.toArray Q i Kc a w :=
  op_skip hst hi hw (exec_update hst.slots hop hx hy hz (pr_put h ht hp p)) (hn _ (putH_same h) putH_fr)

theorem op_plLook (hst : St C T L a w) (hi : nth ops i = some o) (hw : wantE ops T o.guard = some true) (hop : o.op = .lookup 100 x y false) (hx : evO T x = some (.map (some mb))) (hy : evO T y = some (rfV (refP E (e.x : Int)))) (h : PlAt w mb c E (pre ++ e :: post) [] c) (ht : e.x < 256) (hp : ∀ y ∈ pre, y.x < 256 ∧ y.x ≠ e.x)
    (hn : Kc (a.put o.dst (.slice e.o 1 e.cp)) w) : wpOp Tryd.prog ops.toArray Q i Kc a w :=
  op_now hst hi hw (exec_lookup hst.slots hop hx hy (pl_look h ht hp)) hn

theorem op_plLookN (hst : St C T L a w) (hi : nth ops i = some o) (hw : wantE ops T o.guard = some true) (hop : o.op = .lookup 100 x y false) (hx : evO T x = some (.map (some mb))) (hy : evO T y = some (rfV (refP E (t : Int)))) (h : PlAt w mb c E ps [] c) (ht : t < 256) (hp : ∀ y ∈ ps, y.x < 256 ∧ y.x ≠ t)
    (hn : Kc (a.put o.dst (.slice none 0 0)) w) : wpOp Tryd.prog ops.toArray Q i Kc a w :=
  op_now hst hi hw (exec_lookup hst.slots hop hx hy (pl_lookN h ht hp)) hn

theorem op_prLook (hst : St C T L a w) (hi : nth ops i = some o) (hw : wantE ops T o.guard = some true) (hop : o.op = .lookup 137 x y false) (hx : evO T x = some (.map (some mb))) (hy : evO T y = some (rfV (refP E (e1.x : Int)))) (h : w.heap[mb]? = some (mapO (prM E (pr1 ++ e1 :: po1)) c)) (ht : e1.x < 256) (hp : ∀ y ∈ pr1, y.x < 256 ∧ y.x ≠ e1.x)
    (hn : Kc (a.put o.dst (.int .i64 e1.p)) w) : wpOp Tryd.prog ops.toArray Q i Kc a w :=
  op_now hst hi hw (exec_lookup hst.slots hop hx hy (pr_look h ht hp)) hn

theorem op_plDel (hst : St C T L a w) (hi : nth ops i = some o) (hw : wantE ops T o.guard = some true) (hop : o.op = .call ⟨.builtin .delete, #[x, y], #[100, 39]⟩) (hx : evO T x = some (.map (some mb))) (hy : evO T y = some (rfV (refP E (e.x : Int)))) (h : PlAt w mb c E (pre ++ e :: post) [] c) (ht : e.x < 256) (hp : ∀ y ∈ pre, y.x < 256 ∧ y.x ≠ e.x)
    (hn : ∀ w', PlAt w' mb c E (pre ++ post) [] c → (rl rfC 39 2 [e.at_] e.o e.cp e.F).at w' → Fr [mb] w w' → Kc (a.put o.dst (.tuple #[])) w') : wpOp Tryd.prog ops.toArray Q i Kc a w := by
  have h1 := pl_del (ty := o.type) h ht hp
  refine op_now hst hi hw (exec_delete hst.slots hop hx hy h1.1) (hn _ h1.2.1 ?_ putH_fr)
  refine Row.fr (h.r e (by simp)) putH_fr (fun b hb hq => ?_)
  have hnd := h.nd
  unfold plF at hnd
  rw [List.nodup_cons] at hnd
  simp at hq
  exact hnd.1 (List.mem_flatMap.2 ⟨e, by simp, by rw [← hq]; exact hb⟩)

theorem op_plDelN (hst : St C T L a w) (hi : nth ops i = some o) (hw : wantE ops T o.guard = some true) (hop : o.op = .call ⟨.builtin .delete, #[x, y], #[100, 39]⟩) (hx : evO T x = some (.map (some mb))) (hy : evO T y = some (rfV (refP E (t : Int)))) (h : PlAt w mb c E ps [] c) (ht : t < 256) (hp : ∀ y ∈ ps, y.x < 256 ∧ y.x ≠ t)
    (hn : ∀ w', PlAt w' mb c E ps [] c → Fr [mb] w w' → Kc (a.put o.dst (.tuple #[])) w') : wpOp Tryd.prog ops.toArray Q i Kc a w := by
  have h1 := pl_delN (ty := o.type) h ht hp
  exact op_now hst hi hw (exec_delete hst.slots hop hx hy h1.1) (hn _ h1.2 putH_fr)

theorem op_plLen (hst : St C T L a w) (hi : nth ops i = some o) (hw : wantE ops T o.guard = some true) (hop : o.op = .call ⟨.builtin .len, #[x], #[100]⟩) (hx : evO T x = some (.map (some mb))) (h : PlAt w mb c E ps [] c)
    (hn : Kc (a.put o.dst (.int .i64 ps.length)) w) : wpOp Tryd.prog ops.toArray Q i Kc a w :=
  op_now hst hi hw (exec_len hst.slots hop hx (pl_len h)) hn

/-- A row leaves the map. -/
theorem pl_part (h : (plF mb (pre ++ e :: post)).Nodup) : (∀ b ∈ plF mb (pre ++ post), b ∈ plF mb (pre ++ e :: post)) ∧ (∀ b ∈ e.F, b ∈ plF mb (pre ++ e :: post)) ∧ ∀ b ∈ e.F, b ∉ plF mb (pre ++ post) := by
  unfold plF at h ⊢
  have e1 : (pre ++ e :: post).flatMap (·.F) = pre.flatMap (·.F) ++ (e.F ++ post.flatMap (·.F)) := by rw [List.flatMap_append, List.flatMap_cons]
  have e2 : (pre ++ post).flatMap (·.F) = pre.flatMap (·.F) ++ post.flatMap (·.F) := List.flatMap_append ..
  rw [e1] at h ⊢
  rw [e2]
  rw [List.nodup_cons, List.nodup_append, List.nodup_append] at h
  obtain ⟨h1, h2, ⟨h3, h4, h5⟩, h6⟩ := h
  refine ⟨fun b hb => ?_, fun b hb => ?_, fun b hb hq => ?_⟩
  · rcases List.mem_cons.1 hb with hb | hb
    · rw [hb]; exact List.mem_cons_self ..
    · refine List.mem_cons_of_mem _ ?_
      rcases List.mem_append.1 hb with hb | hb
      · exact List.mem_append_left _ hb
      · exact List.mem_append_right _ (List.mem_append_right _ hb)
  · exact List.mem_cons_of_mem _ (List.mem_append_right _ (List.mem_append_left _ hb))
  · rcases List.mem_cons.1 hq with hq | hq
    · exact h1 (by rw [← hq]; exact List.mem_append_right _ (List.mem_append_left _ hb))
    · rcases List.mem_append.1 hq with hq | hq
      · exact h6 b hq b (List.mem_append_left _ hb) rfl
      · exact h5 b hb b hq rfl

end
end Go.Proofs.Qxb6500918aDoor
