/-
  SeekStartsAtLatestSnapshot, plainly.
-/
import Derived.Test.Qxb6500919aFmtHn
namespace Go.Rp
open Go.Sx Go.Proofs.Qxb6500919aFmt

def lat (n : Int) (b : Int) (l : List Int) : Int := l.foldl (fun a p => if p > n then a else if p > a then p else a) b

theorem lat_snoc (n b : Int) (l : List Int) (p : Int) : lat n b (l ++ [p]) = if p > n then lat n b l else if p > lat n b l then p else lat n b l := by simp [lat]

theorem lat_spec (n : Int) : ∀ (l : List Int) (b : Int), (∀ p ∈ l, p ≤ n → p ≤ lat n b l) ∧ (lat n b l = b ∨ (lat n b l ∈ l ∧ lat n b l ≤ n)) ∧ b ≤ lat n b l
  | [], b => ⟨(fun _ h => (by cases h)), .inl rfl, Int.le_refl _⟩
  | q :: l, b => by
    have ih := lat_spec n l (if q > n then b else if q > b then q else b)
    have e : lat n b (q :: l) = lat n (if q > n then b else if q > b then q else b) l := rfl
    rw [e]
    obtain ⟨h1, h2, h3⟩ := ih
    generalize lat n (if q > n then b else if q > b then q else b) l = L at *
    refine ⟨?_, ?_, ?_⟩
    · intro p hp hpn
      rcases List.mem_cons.1 hp with rfl | hp
      · split at h3
        · omega
        · split at h3 <;> omega
      · exact h1 p hp hpn
    · rcases h2 with h2 | h2
      · split at h2
        · exact .inl h2
        · split at h2
          · exact .inr ⟨by rw [h2]; simp, by omega⟩
          · exact .inl h2
      · exact .inr ⟨List.mem_cons_of_mem _ h2.1, h2.2⟩
    · split at h3
      · exact h3
      · split at h3 <;> omega

theorem near_max {B : Int} {lg : Lg} (h : lg.wf B) {n : Int} {q : Pt} (hq : q ∈ lg.sns) (hn : q.idx ≤ n) : q.idx ≤ (lg.near n).idx := by
  unfold Lg.near
  have hp : (lg.sns.filter (fun p => decide (p.idx ≤ n))).Pairwise (fun a b => a.idx < b.idx) := pw_filter _ h.ssort
  have hm : q ∈ lg.sns.filter (fun p => decide (p.idx ≤ n)) := List.mem_filter.2 ⟨hq, by simpa using hn⟩
  generalize lg.sns.filter (fun p => decide (p.idx ≤ n)) = l at hp hm
  rcases List.eq_nil_or_concat l with rfl | ⟨l', x, rfl⟩
  · cases hm
  · simp only [List.concat_eq_append, List.getLast?_append, List.getLast?_singleton, Option.some_or, Option.getD_some] at *
    rcases List.mem_append.1 hm with h1 | h1
    · rw [List.pairwise_append] at hp
      have := hp.2.2 q h1 x (by simp)
      omega
    · simp at h1; subst h1; exact Int.le_refl _

theorem lat_near {B : Int} {lg : Lg} (h : lg.wf B) {n : Int} (hb : lg.base.idx ≤ n) : lat n lg.base.idx (ptsOf lg.base.idx lg.sns) = (lg.near n).idx := by
  obtain ⟨h1, h2, h3⟩ := lat_spec n (ptsOf lg.base.idx lg.sns) lg.base.idx
  have hge := near_ge h n
  have hle := near_le lg hb
  refine Int.le_antisymm ?_ ?_
  · rcases h2 with h2 | ⟨h2, h4⟩
    · rw [h2]; exact hge
    · generalize lat n lg.base.idx (ptsOf lg.base.idx lg.sns) = L at *
      rcases List.mem_cons.1 h2 with rfl | h2
      · exact hge
      · obtain ⟨q, hq, rfl⟩ := List.mem_map.1 h2
        exact near_max h (List.mem_filter.1 hq).1 h4
  · rcases near_mem lg n with h5 | h5
    · rw [h5]; exact h3
    · rcases Int.lt_or_eq_of_le hge with h6 | h6
      · refine h1 _ (List.mem_cons_of_mem _ (List.mem_map.2 ⟨_, List.mem_filter.2 ⟨h5, ?_⟩, rfl⟩)) hle
        simp; omega
      · rw [← h6]; exact h3

theorem point_hon {B : Int} {all : List Ev} {lg : Lg} (h : lg.wf B) (hh : HonL all lg) {p : Int} (hp : p ∈ ptsOf lg.base.idx lg.sns) : ∃ q, lg.point p = some q ∧ q.idx = p ∧ (q.st, q.out) = stAt all p ∧ lg.base.idx ≤ p ∧ p ≤ lg.fin := by
  have hq : ∃ q, lg.point p = some q := by
    unfold Lg.point
    split
    · exact ⟨_, rfl⟩
    · rename_i hne
      rcases List.mem_cons.1 hp with h1 | h1
      · exact absurd h1 hne
      · obtain ⟨x, hx, rfl⟩ := List.mem_map.1 h1
        cases hs : lg.snap x.idx with
        | some q => exact ⟨q, rfl⟩
        | none =>
          unfold Lg.snap at hs
          rw [List.find?_eq_none] at hs
          exact absurd (hs x (List.mem_filter.1 hx).1) (by simp)
  obtain ⟨q, hq⟩ := hq
  obtain ⟨h1, h2, h3, h4⟩ := point_facts h hq
  refine ⟨q, hq, h1, ?_, by omega, by omega⟩
  rw [← h1]
  unfold Lg.point at hq
  split at hq
  · cases hq; exact hh.base
  · exact hh.sns q (List.mem_of_find?_eq_some hq)

theorem pts_replay {B : Int} {all : List Ev} {s : Ss} (h : s.wf B) (hh : HonL all s.lg) {p n : Int} (hp : p ∈ ptsOf s.lg.base.idx s.lg.sns) (hpn : p ≤ n) (hn : n ≤ s.lg.fin) :
    replayR s p n = { s.stat 0 with out := (stAt all n).2, dig := dig (stAt all n).1, from_ := p, replayed := n - p } := by
  obtain ⟨q, h1, h2, h3, h4, h5⟩ := point_hon h.lg hh hp
  unfold replayR
  simp only [h1]
  rw [if_neg (by omega), h3, h2, hon_run hh h.lg.b0 h4 hpn]

theorem seek_acc {B : Int} {all : List Ev} {s : Ss} (h : s.wf B) (hh : Hon all s) {op : Opn} (hc : (doR s op).1.code = 0) (hk : op.kind = 1 ∨ op.kind = 2) :
    ∃ n, s.lg.base.idx ≤ n ∧ n ≤ s.lg.fin ∧ (op.kind = 1 → n = op.n) ∧ (doR s op).2.lg = s.lg ∧ (doR s op).1.pos = n ∧ (doR s op).1.base = s.lg.base.idx ∧ (doR s op).1.dig = dig (stAt all n).1 ∧ (doR s op).1.out = (stAt all n).2 ∧
      (doR s op).1.from_ = (s.lg.near n).idx ∧ (doR s op).1.replayed = n - (s.lg.near n).idx ∧ Hon all (doR s op).2 := by
  have key : ∀ n, (seekR s n).1.code = 0 → s.lg.base.idx ≤ n ∧ n ≤ s.lg.fin ∧ (seekR s n).2.lg = s.lg ∧ (seekR s n).1.pos = n ∧ (seekR s n).1.base = s.lg.base.idx ∧ (seekR s n).1.dig = dig (stAt all n).1 ∧ (seekR s n).1.out = (stAt all n).2 ∧
      (seekR s n).1.from_ = (s.lg.near n).idx ∧ (seekR s n).1.replayed = n - (s.lg.near n).idx ∧ Hon all (seekR s n).2 := by
    intro n hc
    have hs := seek_hon h hh n
    unfold seekR at hc hs ⊢
    split at hc
    · simp [Ss.stat] at hc
    · rename_i hn
      rw [if_neg hn] at hs ⊢
      have h1 := hs.cur
      refine ⟨by omega, by omega, rfl, rfl, rfl, ?_, ?_, rfl, rfl, hs⟩
      · have := congrArg (fun x => dig x.1) h1; exact this
      · have := congrArg (fun x => x.2) h1; exact this
  rcases hk with hk | hk
  · have hd : doR s op = seekR s op.n := by unfold doR; rw [if_neg (by omega), if_pos hk]
    rw [hd] at hc ⊢
    obtain ⟨h1, h2, h3⟩ := key op.n hc
    exact ⟨op.n, h1, h2, fun _ => rfl, h3⟩
  · have hd : doR s op = backR s op.n := by unfold doR; rw [if_neg (by omega), if_neg (by omega), if_pos hk]
    rw [hd] at hc ⊢
    rcases back_cases s op.n with h1 | ⟨h1, _⟩
    · rw [h1] at hc; simp [Ss.stat] at hc
    · rw [h1] at hc ⊢
      obtain ⟨h1, h2, h3⟩ := key _ hc
      exact ⟨s.pos - op.n, h1, h2, fun h => by omega, h3⟩

end Go.Rp
