/-
  More of the maps: looks, deletions, the second map; two pieces joined.
-/
import Derived.Test.Qxb6500918aDoorMq
namespace Go.Sx

theorem St.pcJoin {nn : Nat} {w0 w w' : World} {T : Slots} {L : Mem} {a : Act} {ps ps0 ps' : List Pc} {p q p' : Pc} (hst : St ⟨nn, [], w0, Pk w0.heap.size ps0, Pf ps0⟩ T L a w) (h0 : ps0 = ps ++ [p, q]) (hp : PcOk p' w') (hF : p'.F = p.F ++ q.F) {M : List Nat} (hfr : Fr M w w') (hM : ∀ b ∈ M, b ∈ p.F)
    (hL : ∀ kb ∈ L, kb.2.ro = true → kb.1 ∉ p.F) (hR : ps ++ [p'] = ps') : St ⟨nn, [], w0, Pk w0.heap.size ps', Pf ps'⟩ T L a w' := by
  subst hR h0
  have hff : Pf (ps ++ [p']) = Pf (ps ++ [p, q]) := by simp [Pf, hF]
  have hnd := hst.inv.nd
  have hn : Pk w0.heap.size (ps ++ [p']) w' := by
    refine ⟨by rw [hff]; exact hnd, by rw [hff]; exact hst.inv.new, fun r hr => ?_⟩
    rcases List.mem_append.1 hr with h | h
    · refine (hst.inv.ok r (List.mem_append_left _ h)).fr hfr (fun b hb hm => ?_)
      have h1 : b ∈ Pf ps := List.mem_flatMap.2 ⟨r, h, hb⟩
      have h2 : b ∈ Pf [p, q] := List.mem_flatMap.2 ⟨p, by simp, hM b hm⟩
      rw [show Pf (ps ++ [p, q]) = Pf ps ++ Pf [p, q] by simp [Pf], List.nodup_append] at hnd
      exact hnd.2.2 b h1 b h2 rfl
    · simp at h; subst h; exact hp
  refine hst.callF hfr (fun b hb => List.mem_flatMap.2 ⟨p, by simp, hM b hb⟩) (fun b hb => .inr (hst.inv.new b (List.mem_flatMap.2 ⟨p, by simp, hM b hb⟩))) (fun kb h1 h2 h3 => hL kb h1 h2 (hM _ h3)) hn Pk.stable hn.low (fun b hb => .inl (by rw [hff] at hb; exact hb))

end Go.Sx

namespace Go.Proofs.Qxb6500918aDoor
open Go.Sx Go.Kn
set_option maxRecDepth 100000

section
variable {w w' : World} {mb c : Nat} {E : Nat → Ent} {ps pre post : List Pe} {e : Pe}

theorem ref_ne {x y : Nat} (hx : x < 256) (hy : y < 256) (h : x ≠ y) : refP E (x : Int) ≠ refP E (y : Int) := fun hq => by
  have h1 : (refP E (x : Int)).idx = (x : Int) := by unfold refP; rw [if_neg (by omega)]; exact refAt_idx ⟨by omega, by omega⟩
  have h2 : (refP E (y : Int)).idx = (y : Int) := by unfold refP; rw [if_neg (by omega)]; exact refAt_idx ⟨by omega, by omega⟩
  rw [hq, h2] at h1; omega

theorem plM_app (l r : List Pe) : plM E (l ++ r) = plM E l ++ plM E r := by unfold plM; rw [List.map_append]

theorem pl_pre (hx : e.x < 256) (hp : ∀ y ∈ pre, y.x < 256 ∧ y.x ≠ e.x) : ∀ y ∈ plM E pre, y.k ≠ refP E (e.x : Int) := fun y hy => by
  obtain ⟨p, hp1, rfl⟩ := List.mem_map.1 hy
  have := hp p hp1
  exact ref_ne this.1 hx this.2

theorem pl_look (h : PlAt w mb c E (pre ++ e :: post) [] c) (hx : e.x < 256) (hp : ∀ y ∈ pre, y.x < 256 ∧ y.x ≠ e.x) :
    (Instr.lookup 100 (.map (some mb)) (rfV (refP E (e.x : Int))) false).run Tryd.prog w = .ok (.slice e.o 1 e.cp) w := by
  have hm := h.m
  rw [List.append_nil] at hm
  have hz : (zeroValue 51).run Tryd.prog w = .ok (.slice none 0 0) w := by kernel_rfl
  have := run_lookup39 Tryd.underlying100 hz hm (refP E (e.x : Int))
  unfold getV at this
  rw [plM_app, show plM E (e :: post) = ⟨refP E (e.x : Int), .slice e.o 1 e.cp, e.b⟩ :: plM E post from rfl, fnd_mid (k := refP E (e.x : Int)) (pl_pre hx hp) rfl] at this
  exact this

theorem pl_lookN (h : PlAt w mb c E ps [] c) {x : Nat} (hx : x < 256) (hp : ∀ y ∈ ps, y.x < 256 ∧ y.x ≠ x) :
    (Instr.lookup 100 (.map (some mb)) (rfV (refP E (x : Int))) false).run Tryd.prog w = .ok (.slice none 0 0) w := by
  have hm := h.m
  rw [List.append_nil] at hm
  have hz : (zeroValue 51).run Tryd.prog w = .ok (.slice none 0 0) w := by kernel_rfl
  have := run_lookup39 Tryd.underlying100 hz hm (refP E (x : Int))
  unfold getV at this
  rw [pl_none hx hp] at this
  exact this

theorem pl_del {ty : TypeId} (h : PlAt w mb c E (pre ++ e :: post) [] c) (hx : e.x < 256) (hp : ∀ y ∈ pre, y.x < 256 ∧ y.x ≠ e.x) :
    (Builtin.delete_ #[100, 39] ty #[.map (some mb), rfV (refP E (e.x : Int))]).run Tryd.prog w = .ok (.tuple #[]) (putH w mb (mapO (plM E (pre ++ post)) c)) ∧
    PlAt (putH w mb (mapO (plM E (pre ++ post)) c)) mb c E (pre ++ post) [] c ∧ ∀ b ∈ plF mb (pre ++ post), b ∈ plF mb (pre ++ e :: post) := by
  have hm := h.m
  rw [List.append_nil, plM_app, show plM E (e :: post) = ⟨refP E (e.x : Int), .slice e.o 1 e.cp, e.b⟩ :: plM E post from rfl] at hm
  have hr := run_delete39 (ty := ty) Tryd.underlying100 hm (pl_pre hx hp) rfl
  rw [← plM_app] at hr
  have hsub : List.Sublist (pre ++ post) (pre ++ e :: post) := List.Sublist.append_left (List.sublist_cons_self ..) _
  have hfs : List.Sublist (plF mb (pre ++ post)) (plF mb (pre ++ e :: post)) := by
    unfold plF
    refine List.Sublist.cons_cons _ ?_
    rw [List.flatMap_append, List.flatMap_append, List.flatMap_cons]
    exact List.Sublist.append_left (List.sublist_append_right ..) _
  refine ⟨hr, ⟨by rw [putH_same hm, List.append_nil], fun y hy => ?_, fun y hy => h.b y (hsub.subset hy), h.nd.sublist hfs⟩, fun b hb => hfs.subset hb⟩
  have hy2 := hsub.subset hy
  refine Row.fr (h.r y hy2) putH_fr (fun b hb hq => ?_)
  have hnd := h.nd
  unfold plF at hnd
  rw [List.nodup_cons] at hnd
  simp at hq
  exact hnd.1 (List.mem_flatMap.2 ⟨y, hy2, by rw [← hq]; exact hb⟩)

theorem pl_delN {ty : TypeId} (h : PlAt w mb c E ps [] c) {x : Nat} (hx : x < 256) (hp : ∀ y ∈ ps, y.x < 256 ∧ y.x ≠ x) :
    (Builtin.delete_ #[100, 39] ty #[.map (some mb), rfV (refP E (x : Int))]).run Tryd.prog w = .ok (.tuple #[]) (putH w mb (mapO (plM E ps) c)) ∧ PlAt (putH w mb (mapO (plM E ps) c)) mb c E ps [] c := by
  have hm := h.m
  rw [List.append_nil] at hm
  have hk : ∀ y ∈ plM E ps, y.k ≠ refP E (x : Int) := fun y hy => by
    obtain ⟨p, hp1, rfl⟩ := List.mem_map.1 hy
    have := hp p hp1
    exact ref_ne this.1 hx this.2
  refine ⟨run_delete39n (ty := ty) Tryd.underlying100 hm hk, h.turn ?_ putH_fr⟩
  rw [putH_same hm, List.append_nil]

theorem pl_len {ty : TypeId} (h : PlAt w mb c E ps [] c) : (Builtin.len_ #[100] ty #[.map (some mb)]).run Tryd.prog w = .ok (.int .i64 ps.length) w := by
  have hm := h.m
  rw [List.append_nil] at hm
  have := run_len39 (ty := ty) Tryd.underlying100 hm
  unfold plM at this
  rw [List.length_map] at this
  exact this

end

/-! The map of priorities -/

structure Qe where
  x : Nat
  p : Int
  b : Nat

def prM (E : Nat → Ent) (qs : List Qe) : List Mn := qs.map (fun e => ⟨refP E (e.x : Int), .int .i64 e.p, e.b⟩)
def pPr (mb c : Nat) (E : Nat → Ent) (qs : List Qe) : Pc := ⟨fun w => w.heap[mb]? = some (mapO (prM E qs) c), [mb]⟩

section
variable {w : World} {mb c : Nat} {E : Nat → Ent} {qs pre post : List Qe} {e : Qe}

theorem pPr_ok (h : w.heap[mb]? = some (mapO (prM E qs) c)) : PcOk (pPr mb c E qs) w where
  A := h
  st w1 w2 hs h1 := by
    show w2.heap[mb]? = _
    rw [hs mb (by simp [pPr])]; exact h1
  low b hb := by simp [pPr] at hb; rw [hb]; exact lt_of_heap h
  nd := by simp [pPr]

theorem pr_put (h : w.heap[mb]? = some (mapO (prM E qs) c)) {x : Nat} (hx : x < 256) (hp : ∀ y ∈ qs, y.x < 256 ∧ y.x ≠ x) (p : Int) :
    (Instr.mapUpdate 137 (.map (some mb)) (rfV (refP E (x : Int))) (.int .i64 p)).run Tryd.prog w = .ok () (putH w mb (mapO (prM E (qs ++ [⟨x, p, c⟩])) (c + 1))) := by
  have hn : fnd (refP E (x : Int)) (prM E qs) 0 = none := fnd_none (fun y hy => by
    obtain ⟨q, hq1, rfl⟩ := List.mem_map.1 hy
    have := hp q hq1
    exact ref_ne this.1 hx this.2)
  have := run_update39 Tryd.underlying137 h hn (.int .i64 p)
  rw [show prM E (qs ++ [⟨x, p, c⟩]) = prM E qs ++ [⟨refP E (x : Int), .int .i64 p, c⟩] by unfold prM; rw [List.map_append]; rfl]
  exact this

theorem pr_look (h : w.heap[mb]? = some (mapO (prM E (pre ++ e :: post)) c)) (hx : e.x < 256) (hp : ∀ y ∈ pre, y.x < 256 ∧ y.x ≠ e.x) :
    (Instr.lookup 137 (.map (some mb)) (rfV (refP E (e.x : Int))) false).run Tryd.prog w = .ok (.int .i64 e.p) w := by
  have hz : (zeroValue 3).run Tryd.prog w = .ok (.int .i64 0) w := by kernel_rfl
  have := run_lookup39 Tryd.underlying137 hz h (refP E (e.x : Int))
  unfold getV at this
  rw [show prM E (pre ++ e :: post) = prM E pre ++ ⟨refP E (e.x : Int), .int .i64 e.p, e.b⟩ :: prM E post by unfold prM; rw [List.map_append]; rfl, fnd_mid (k := refP E (e.x : Int)) (fun y hy => by
    obtain ⟨q, hq1, rfl⟩ := List.mem_map.1 hy
    have := hp q hq1
    exact ref_ne this.1 hx this.2) rfl] at this
  exact this

end

end Go.Proofs.Qxb6500918aDoor
