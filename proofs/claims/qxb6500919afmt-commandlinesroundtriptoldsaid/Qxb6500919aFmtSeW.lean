/-
  What the commands keep of a log and a session.
-/
import Derived.Test.Qxb6500919aFmtSe
namespace Go.Rp
open Go.Sx Go.Proofs.Qxb6500919aFmt

theorem pw_filter {α : Type} {R : α → α → Prop} {l : List α} (f : α → Bool) (h : l.Pairwise R) : (l.filter f).Pairwise R := List.Pairwise.sublist (List.filter_sublist) h

theorem keep_wf {B lo hi : Int} {lg : Lg} (h0 : 0 ≤ lg.base.idx) (h1 : lg.fin ≤ B) (h2 : lg.evs.length ≤ 1000) (h3 : lg.mks.length ≤ 1000) (h4 : lg.sns.length ≤ 6) (h5 : ∀ e ∈ lg.evs, e.ok) (h6 : lg.base.st.ok) (h7 : ∀ p ∈ lg.sns, p.st.ok)
    (hlo : lo = lg.base.idx) (hhi : hi = lg.fin) (h8 : lg.sns.Pairwise (fun a b => a.idx < b.idx)) (h9 : lg.mks.Pairwise (fun a b => a.idx < b.idx)) : (lg.keep lo hi).wf B := by
  subst hlo hhi
  have hw : ∀ i, inW lg.base.idx lg.fin i = true → lg.base.idx ≤ i ∧ i ≤ lg.fin := by
    intro i h
    simpa [inW] using h
  exact
    { b0 := h0
      fin := h1
      len := h2
      mlen := Nat.le_trans (List.length_filter_le _ _) h3
      slen := Nat.le_trans (List.length_filter_le _ _) h4
      evs := h5
      bst := h6
      sst := fun p hp => h7 p (List.mem_filter.1 hp).1
      sin := fun p hp => hw _ (List.mem_filter.1 hp).2
      min := fun p hp => hw _ (List.mem_filter.1 hp).2
      ssort := pw_filter _ h8
      msort := pw_filter _ h9 }

theorem cut_wf {B n : Int} {lg : Lg} (h : lg.wf B) (hlo : lg.base.idx ≤ n) (hhi : n ≤ lg.fin) : (lg.cutAfter n).wf B := by
  unfold Lg.cutAfter
  have hf : lg.fin = lg.base.idx + (lg.evs.length : Int) := rfl
  have hl : (lg.evs.take (n - lg.base.idx).toNat).length = (n - lg.base.idx).toNat := by rw [List.length_take]; omega
  have hn : n = Lg.fin { lg with evs := lg.evs.take (n - lg.base.idx).toNat } := by
    show n = lg.base.idx + ((lg.evs.take (n - lg.base.idx).toNat).length : Int)
    rw [hl]; omega
  refine keep_wf h.b0 ?_ ?_ h.mlen h.slen (fun e he => h.evs e (List.mem_of_mem_take he)) h.bst h.sst rfl hn h.ssort h.msort
  · rw [← hn]; have := h.fin; omega
  · show (lg.evs.take _).length ≤ 1000
    rw [hl]; have := h.len; omega

theorem trunc_wf {B n : Int} {lg : Lg} (h : lg.wf B) : (lg.truncAt n).wf B := by
  unfold Lg.truncAt
  cases hs : lg.snap n with
  | none => exact h
  | some p =>
    have hp := List.mem_of_find?_eq_some hs
    have hin := h.sin p hp
    have hf : lg.fin = lg.base.idx + (lg.evs.length : Int) := rfl
    have hb0 := h.b0
    have hl : (lg.evs.drop (p.idx - lg.base.idx).toNat).length = lg.evs.length - (p.idx - lg.base.idx).toNat := List.length_drop ..
    refine keep_wf (lg := { lg with base := p, evs := lg.evs.drop (p.idx - lg.base.idx).toNat }) ?_ ?_ ?_ h.mlen h.slen (fun e he => h.evs e (List.mem_of_mem_drop he)) (h.sst p hp) h.sst rfl rfl h.ssort h.msort
    · show 0 ≤ p.idx; omega
    · show p.idx + ((lg.evs.drop (p.idx - lg.base.idx).toNat).length : Int) ≤ B
      rw [hl]; have := h.fin; omega
    · show (lg.evs.drop _).length ≤ 1000
      rw [hl]; have := h.len; omega

theorem trunc_fin {B n : Int} {lg : Lg} (h : lg.wf B) : (lg.truncAt n).fin = lg.fin := by
  unfold Lg.truncAt
  cases hs : lg.snap n with
  | none => rfl
  | some p =>
    have hp := List.mem_of_find?_eq_some hs
    have hin := h.sin p hp
    have hf : lg.fin = lg.base.idx + (lg.evs.length : Int) := rfl
    show p.idx + ((lg.evs.drop (p.idx - lg.base.idx).toNat).length : Int) = lg.fin
    rw [List.length_drop]; omega

theorem SessAt.of {w : World} {bs bl : Nat} {d : Hd} {s : Ss} {ro : Bool} (h : w.heap[bs]? = some (Blk.obj ⟨sessC (.pointer (some ⟨bl, 0, none⟩)) s.m s.out s.pos s.live, 60, ro⟩)) (h2 : LogAt w bl d s.lg) (h3 : bs ≠ bl) (h4 : bs ∉ d.F) : SessAt w bs bl d s := ⟨h, h2, h3, h4⟩

end Go.Rp
