/-
  The model as pieces.
-/
import Derived.Test.Qxb6500919aMd
namespace Go.Sx

section
variable {T : Slots} {L L' : Mem} {w w' : World} {a : Act} {ps ps' : List Pc} {p p' : Pc} {nn n0 : Nat} {w0 : World} {K : List Nat}

theorem Pq.setX (h : Pq K n0 ps w) (hn : n0 ≤ w.heap.size) {j : Nat} (hj : nth ps j = some p) (hp : PcOk p' w') {M : List Nat} (hfr : Fr M w w') (hM : ∀ b ∈ M, b ∈ p.F ∨ b ∉ Pf ps) (hF : ∀ b ∈ p'.F, b ∈ p.F ∨ w.heap.size ≤ b) : Pq K n0 (setP ps j p') w' := by
  refine ⟨Pf_set_nodup h.nd hj hp.nd (fun b hb => orMap (hF b hb) id (fun h1 hc => ?_)), fun b hb => ?_, fun x hx => ?_⟩
  · have := h.low b hc; omega
  · rcases Pf_set_sub hj hF b hb with h1 | h1
    · exact h.new b h1
    · right; omega
  · rcases setP_mem ps j p' x hx with h0 | ⟨i, hi, hx'⟩
    · subst h0; exact hp
    · refine (h.ok x (nthP_mem hx')).fr hfr (fun b hb hm => ?_)
      rcases hM b hm with h1 | h1
      · exact Pf_nodup h.nd hx' hj hi b hb h1
      · exact h1 (List.mem_flatMap.2 ⟨x, nthP_mem hx', hb⟩)

/-- Behind a call that turns piece j and a known block x, which is given up. -/
theorem St.qSetX (hst : St ⟨nn, K, w0, Pq K w0.heap.size ps, Pf ps⟩ T L a w) {k x : Nat} {blk : Blk} (hk : nth L k = some (x, blk)) (hro : blk.ro = false) {j : Nat} (hj : nth ps j = some p) (hp : PcOk p' w') {M : List Nat} (hfr : Fr M w w')
    (hM : ∀ b ∈ M, b = x ∨ b ∈ p.F) (hF : ∀ b ∈ p'.F, b ∈ p.F ∨ w.heap.size ≤ b) (hs : List.Sublist L' L) (hx : ∀ kb ∈ L', kb.1 ≠ x) (hL : ∀ kb ∈ L', kb.2.ro = true → kb.1 ∉ p.F) (hR : setP ps j p' = ps') :
    St ⟨nn, K, w0, Pq K w0.heap.size ps', Pf ps'⟩ T L' a w' := by
  subst hR
  have hxm : (x, blk) ∈ L := by rw [nth_eq] at hk; exact List.mem_of_getElem? hk
  have hxP : x ∉ Pf ps := hst.disj (x, blk) hxm hro
  have hn := hst.inv.setX hst.frame.size hj hp hfr (fun b hb => by rcases hM b hb with h1 | h1; exact .inr (by rw [h1]; exact hxP); exact .inl h1) hF
  have hpP : ∀ b ∈ p.F, b ∈ Pf ps := fun b hb => List.mem_flatMap.2 ⟨p, nthP_mem hj, hb⟩
  refine hst.call hfr (fun b hb => ?_) (fun kb h => ?_) (hst.nodup.sublist (hs.map _)) (fun kb h => hst.keys kb (hs.mem h)) hn Pq.stable hn.low (fun kb h hr hf => ?_)
  · rcases hM b hb with h1 | h1
    · rw [h1]; exact hst.keys (x, blk) hxm hro
    · exact hst.inv.new b (hpP b h1)
  · rw [hfr.block kb.1 (lt_of_heap (hst.known kb (hs.mem h))) (fun hm => ?_)]
    · exact hst.known kb (hs.mem h)
    · rcases hM _ hm with h1 | h1
      · exact hx kb h h1
      · cases hrr : kb.2.ro with
        | true => exact hL kb h hrr h1
        | false => exact hst.disj kb (hs.mem h) hrr (hpP _ h1)
  · rcases Pf_set_sub hj hF _ hf with h1 | h1
    · exact hst.disj kb (hs.mem h) hr h1
    · have := lt_of_heap (hst.known kb (hs.mem h)); omega

end
end Go.Sx

namespace Go.Rp
open Go.Sx Go.Proofs.Qxb6500919a

theorem pf2 (bl : Nat) (d : Hd) (o : Option Addr) (c : Nat) (F : List Nat) (all : List Ev) (lg : Lg) : Pf [pRow (rl evC 33 3 all o c F), pLog bl d lg] = F ++ (bl :: d.F) := by simp [Pf]

theorem ModAt.pq {w : World} {bm bl : Nat} {d : Hd} {o : Option Addr} {c : Nat} {F : List Nat} {m : Md} (h : ModAt w bm bl d ⟨o, c, F⟩ m) : Pq (MF bm bl d ⟨o, c, F⟩) w.heap.size [pRow (rl evC 33 3 m.all o c F), pLog bl d m.lg] w := by
  refine ⟨?_, fun b hb => ?_, fun p hp => ?_⟩
  · rw [pf2]; exact (List.nodup_cons.1 h.nd).2
  · rw [pf2] at hb; exact .inl (List.mem_cons_of_mem _ hb)
  · simp only [List.mem_cons, List.not_mem_nil, or_false] at hp
    rcases hp with rfl | rfl
    · exact pRow_ok h.row
    · exact pLog_ok h.log

theorem ModAt.dis {w : World} {bm bl : Nat} {d : Hd} {o : Option Addr} {c : Nat} {F : List Nat} {m : Md} (h : ModAt w bm bl d ⟨o, c, F⟩ m) : bm ∉ Pf [pRow (rl evC 33 3 m.all o c F), pLog bl d m.lg] := by
  rw [pf2]; exact (List.nodup_cons.1 h.nd).1

section
variable {nn n0 : Nat} {K : List Nat} {w0 w : World} {T : Slots} {L : Mem} {act : Act} {k bm bl : Nat} {blk : Blk} {d : Hd} {o : Option Addr} {c : Nat} {F : List Nat} {all : List Ev} {lg : Lg}

theorem ModAt.ofQ (h : St ⟨nn, K, w0, Pq K n0 [pRow (rl evC 33 3 all o c F), pLog bl d lg], Pf [pRow (rl evC 33 3 all o c F), pLog bl d lg]⟩ T L act w) (hk : nth L k = some (bm, blk)) (hro : blk.ro = false) {pos : Int} {live : Bool}
    (hb : w.heap[bm]? = some (Blk.obj ⟨modC (.slice o all.length c) (.pointer (some ⟨bl, 0, none⟩)) pos live, 52, false⟩)) : ModAt w bm bl d ⟨o, c, F⟩ ⟨all, lg, pos, live⟩ := by
  have hmem : (bm, blk) ∈ L := by rw [nth_eq] at hk; exact List.mem_of_getElem? hk
  refine ⟨hb, h.inv.get (j := 0) (p := pRow (rl evC 33 3 all o c F)) rfl, h.inv.get (j := 1) (p := pLog bl d lg) rfl, ?_⟩
  have h1 := h.disj _ hmem hro
  have h2 := h.inv.nd
  simp only at h1
  rw [pf2] at h1 h2
  exact List.nodup_cons.2 ⟨h1, h2⟩

theorem ModAt.subQ (h : St ⟨nn, K, w0, Pq K w0.heap.size [pRow (rl evC 33 3 all o c F), pLog bl d lg], Pf [pRow (rl evC 33 3 all o c F), pLog bl d lg]⟩ T L act w) (hk : nth L k = some (bm, blk)) (hro : blk.ro = false) : ∀ b ∈ MF bm bl d ⟨o, c, F⟩, b ∈ K ∨ w0.heap.size ≤ b := by
  have hmem : (bm, blk) ∈ L := by rw [nth_eq] at hk; exact List.mem_of_getElem? hk
  intro b hb
  rcases List.mem_cons.1 hb with rfl | hb
  · exact h.keys _ hmem hro
  · exact h.inv.new b (by rw [pf2]; exact hb)

end

/-- What Do of the model leaves. -/
def MOK (w : World) (bm bl : Nat) (d : Hd) (a : Ah) (r : Res) (m' : Md) : Ending → World → Prop := fun e w' =>
  ∃ bl' d' a', e = .returned (.agg (resC r).toArray) ∧ ModAt w' bm bl' d' a' m' ∧ Fr (MF bm bl d a) w w' ∧ ∀ b ∈ MF bm bl' d' a', b ∈ MF bm bl d a ∨ w.heap.size ≤ b

/-! What Do answers, case by case. -/
section
variable {B : Int} {all : List Ev} {s : Ss} {op : Opn}

theorem do3_dead (hwf : s.wf B) (hon : Hon all s) (h0 : op.kind = 0) (hl : s.live = false) : (doR s op).1 = mans (mdOf all s) 3 s.pos ∧ mdOf (nextAll s all op) (doR s op).2 = mdOf all s := by
  have h1 : stepR s op.ev = (s.stat 3, s) := by unfold stepR; rw [if_pos hl]
  have hn : nextAll s all op = all := by unfold nextAll; rw [if_pos h0, h1, if_neg (show ¬ (s.stat 3).code = 0 by show ¬ (3 : Int) = 0; decide)]
  rw [do_k0 h0, h1, hn]
  exact ⟨(mans_stat hwf hon 3).symm, rfl⟩

theorem do3_full (hwf : s.wf B) (hon : Hon all s) (h0 : op.kind = 0) (hl : s.live = true) (hf : s.lg.full op.ev) : (doR s op).1 = mans (mdOf all s) 4 s.pos ∧ mdOf (nextAll s all op) (doR s op).2 = mdOf all s := by
  have h1 : stepR s op.ev = (s.stat 4, s) := by unfold stepR; rw [if_neg (by rw [hl]; decide), if_pos (show 4096 < s.lg.used + s.lg.need op.ev from hf)]
  have hn : nextAll s all op = all := by unfold nextAll; rw [if_pos h0, h1, if_neg (show ¬ (s.stat 4).code = 0 by show ¬ (4 : Int) = 0; decide)]
  rw [do_k0 h0, h1, hn]
  exact ⟨(mans_stat hwf hon 4).symm, rfl⟩

theorem do3_step (hwf : s.wf B) (hon : Hon all s) (he : op.ev.ok) (h0 : op.kind = 0) (hl : s.live = true) (hf : ¬ s.lg.full op.ev) :
    (doR s op).1 = ({ mans ⟨all ++ [op.ev], s.lg.recd s.m op.ev, s.pos + 1, s.live⟩ 0 (s.pos + 1) with from_ := s.pos + 1 - 1, replayed := 1 } : Res) ∧ mdOf (nextAll s all op) (doR s op).2 = ⟨all ++ [op.ev], s.lg.recd s.m op.ev, s.pos + 1, s.live⟩ := by
  have h1 : stepR s op.ev = (stepRes s op.ev, s.recd op.ev) := by unfold stepR; rw [if_neg (by rw [hl]; decide), if_neg (show ¬ 4096 < s.lg.used + s.lg.need op.ev from hf)]
  have hn : nextAll s all op = all ++ [op.ev] := by unfold nextAll; rw [if_pos h0, h1, if_pos (show (stepRes s op.ev).code = 0 from rfl)]
  have hon1 := do_hon' hwf hon op
  have hwf1 := do_wf hwf op he
  rw [hn] at hon1
  rw [do_k0 h0, h1] at hon1 hwf1 ⊢
  rw [hn]
  simp only at hon1 hwf1 ⊢
  have h2 := mans_stat hwf1 hon1 0
  refine ⟨?_, rfl⟩
  unfold stepRes
  rw [← h2]
  rfl

theorem do3_seek (h : op.kind = 1) : doR s op = seekR s op.n ∧ nextAll s all op = all := by
  refine ⟨?_, else6 (by omega) (by omega) all⟩
  unfold doR; rw [if_neg (by omega), if_pos h]

theorem do3_back (h : op.kind = 2) : doR s op = backR s op.n ∧ nextAll s all op = all := by
  refine ⟨?_, else6 (by omega) (by omega) all⟩
  unfold doR; rw [if_neg (by omega), if_neg (by omega), if_pos h]

theorem do3_forw (h : op.kind = 3) : doR s op = forwR s op.n ∧ nextAll s all op = all := by
  refine ⟨?_, else6 (by omega) (by omega) all⟩
  unfold doR; rw [if_neg (by omega), if_neg (by omega), if_neg (by omega), if_pos h]

theorem do3_trunc (h : op.kind = 4) : doR s op = truncR s op.n ∧ nextAll s all op = all := by
  refine ⟨?_, else6 (by omega) (by omega) all⟩
  unfold doR; rw [if_neg (by omega), if_neg (by omega), if_neg (by omega), if_neg (by omega), if_pos h]

theorem do3_check (h : op.kind = 6) : doR s op = (checkR s op.n, s) ∧ nextAll s all op = all := by
  refine ⟨?_, else6 (by omega) (by omega) all⟩
  unfold doR; rw [if_neg (by omega), if_neg (by omega), if_neg (by omega), if_neg (by omega), if_neg (by omega), if_neg (by omega), if_pos h]

theorem do3_replay (h : op.kind = 7) : doR s op = (replayR s op.n op.m, s) ∧ nextAll s all op = all := by
  refine ⟨?_, else6 (by omega) (by omega) all⟩
  unfold doR; rw [if_neg (by omega), if_neg (by omega), if_neg (by omega), if_neg (by omega), if_neg (by omega), if_neg (by omega), if_neg (by omega), if_pos h]

theorem do3_where (h : op.kind = 8) : doR s op = (s.stat 0, s) ∧ nextAll s all op = all := by
  refine ⟨?_, else6 (by omega) (by omega) all⟩
  unfold doR; rw [if_neg (by omega), if_neg (by omega), if_neg (by omega), if_neg (by omega), if_neg (by omega), if_neg (by omega), if_neg (by omega), if_neg (by omega), if_pos h]

theorem do3_bad (h0 : op.kind ≠ 0) (h1 : op.kind ≠ 1) (h2 : op.kind ≠ 2) (h3 : op.kind ≠ 3) (h4 : op.kind ≠ 4) (h5 : op.kind ≠ 5) (h6 : op.kind ≠ 6) (h7 : op.kind ≠ 7) (h8 : op.kind ≠ 8) : doR s op = (s.stat 5, s) ∧ nextAll s all op = all := by
  refine ⟨?_, else6 h0 h5 all⟩
  unfold doR; rw [if_neg h0, if_neg h1, if_neg h2, if_neg h3, if_neg h4, if_neg h5, if_neg h6, if_neg h7, if_neg h8]

theorem trunc_none (h : (s.lg.snap op.n).isSome = false) : truncR s op.n = (s.stat 2, s) := by
  unfold truncR
  cases hq : s.lg.snap op.n with
  | none => rfl
  | some p => rw [hq] at h; cases h

theorem trunc_far (h : (s.lg.snap op.n).isSome = true) (hp : s.pos < op.n) : truncR s op.n = (s.stat 1, s) := by
  unfold truncR
  cases hq : s.lg.snap op.n with
  | none => rw [hq] at h; cases h
  | some p => simp only; rw [if_pos hp]

theorem trunc_ok3 (h : (s.lg.snap op.n).isSome = true) (hp : ¬ s.pos < op.n) : truncR s op.n = (({ s with lg := s.lg.truncAt op.n } : Ss).stat 0, { s with lg := s.lg.truncAt op.n }) := by
  unfold truncR
  cases hq : s.lg.snap op.n with
  | none => rw [hq] at h; cases h
  | some p => simp only; rw [if_neg hp]

end
end Go.Rp
