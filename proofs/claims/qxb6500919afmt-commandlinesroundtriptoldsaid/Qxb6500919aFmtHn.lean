/-
  What every command of a session keeps: the bounds, and that the log tells of one run from boot.
-/
import Derived.Test.Qxb6500919aFmtLw
namespace Go.Rp
open Go.Sx Go.Proofs.Qxb6500919aFmt

/-- The kernel at index n of a run. -/
def stAt (all : List Ev) (n : Int) : Mach × Ot := runF (all.take n.toNat) (mach0, out0)

structure HonL (all : List Ev) (l : Lg) : Prop where
  le : l.base.idx.toNat ≤ all.length
  evs : l.evs = all.drop l.base.idx.toNat
  base : (l.base.st, l.base.out) = stAt all l.base.idx
  sns : ∀ p ∈ l.sns, (p.st, p.out) = stAt all p.idx
  mks : ∀ k ∈ l.mks, k.sum = dig (stAt all k.idx).1

structure Hon (all : List Ev) (s : Ss) : Prop where
  lg : HonL all s.lg
  cur : (s.m, s.out) = stAt all s.pos

theorem Lg.wf.mono {B B' : Int} {l : Lg} (h : l.wf B) (hb : B ≤ B') : l.wf B' := { h with fin := Int.le_trans h.fin hb }
theorem Ss.wf.mono {B B' : Int} {s : Ss} (h : s.wf B) (hb : B ≤ B') : s.wf B' := { h with lg := h.lg.mono hb }

theorem hon_fin {all : List Ev} {l : Lg} (h : HonL all l) (b0 : 0 ≤ l.base.idx) : l.fin = all.length := by
  have := h.le
  unfold Lg.fin
  rw [h.evs, List.length_drop]
  omega

theorem hon_run {all : List Ev} {l : Lg} (h : HonL all l) (b0 : 0 ≤ l.base.idx) {p n : Int} (hp : l.base.idx ≤ p) (hn : p ≤ n) : l.run (stAt all p) p n = stAt all n := by
  unfold Lg.run stAt seg
  rw [h.evs, List.drop_drop, ← runF_append]
  have e1 : l.base.idx.toNat + (p - l.base.idx).toNat = p.toNat := by omega
  have e2 : n.toNat = p.toNat + (n - p).toNat := by omega
  rw [e1, e2, List.take_add]

theorem run_wf {B : Int} {l : Lg} (h : l.wf B) {s : Mach × Ot} (hs : s.1.ok) (p n : Int) : (l.run s p n).1.ok := runF_ok _ _ hs (seg_ok h.evs _ _)

theorem seek_wf {B : Int} {s : Ss} (h : s.wf B) (n : Int) : (seekR s n).2.wf B := by
  unfold seekR
  split
  · exact h
  · rename_i hn
    exact ⟨h.lg, run_wf h.lg (near_ok h.lg n) _ _, by show s.lg.base.idx ≤ n; omega, by show n ≤ s.lg.fin; omega, fun hl => by simp [Ss.go] at hl⟩

theorem seek_hon {B : Int} {all : List Ev} {s : Ss} (h : s.wf B) (hh : Hon all s) (n : Int) : Hon all (seekR s n).2 := by
  unfold seekR
  split
  · exact hh
  · rename_i hn
    refine ⟨hh.lg, ?_⟩
    have hp : ((s.lg.near n).st, (s.lg.near n).out) = stAt all (s.lg.near n).idx := by
      rcases near_mem s.lg n with h1 | h1
      · rw [h1]; exact hh.lg.base
      · exact hh.lg.sns _ h1
    show ((s.lg.run ((s.lg.near n).st, (s.lg.near n).out) (s.lg.near n).idx n).1, (s.lg.run ((s.lg.near n).st, (s.lg.near n).out) (s.lg.near n).idx n).2) = stAt all n
    rw [hp, hon_run hh.lg h.lg.b0 (near_ge h.lg n) (near_le s.lg (by omega))]

theorem forw_wf {B : Int} {s : Ss} (h : s.wf B) (n : Int) : (forwR s n).2.wf B := by
  unfold forwR
  have := h.lo
  have := h.hi
  split
  · exact h
  · rename_i hn
    exact ⟨h.lg, run_wf h.lg h.m _ _, by show s.lg.base.idx ≤ s.pos + n; omega, by show s.pos + n ≤ s.lg.fin; omega, fun hl => by simp [Ss.go] at hl⟩

theorem forw_hon {B : Int} {all : List Ev} {s : Ss} (h : s.wf B) (hh : Hon all s) (n : Int) : Hon all (forwR s n).2 := by
  unfold forwR
  split
  · exact hh
  · rename_i hn
    refine ⟨hh.lg, ?_⟩
    show ((s.lg.run (s.m, s.out) s.pos (s.pos + n)).1, (s.lg.run (s.m, s.out) s.pos (s.pos + n)).2) = stAt all (s.pos + n)
    rw [hh.cur, hon_run hh.lg h.lg.b0 h.lo (by omega)]

theorem trunc_hon {B : Int} {all : List Ev} {l : Lg} (h : l.wf B) (hh : HonL all l) (n : Int) : HonL all (l.truncAt n) := by
  unfold Lg.truncAt
  cases hs : l.snap n with
  | none => exact hh
  | some p =>
    have hp := List.mem_of_find?_eq_some hs
    have hin := h.sin p hp
    have hb0 := h.b0
    have hf := hon_fin hh h.b0
    refine ⟨?_, ?_, hh.sns p hp, fun q hq => hh.sns q (List.mem_filter.1 hq).1, fun q hq => hh.mks q (List.mem_filter.1 hq).1⟩
    · show p.idx.toNat ≤ all.length; omega
    · show l.evs.drop (p.idx - l.base.idx).toNat = all.drop p.idx.toNat
      rw [hh.evs, List.drop_drop]
      congr 1
      omega

theorem stAt_take {all : List Ev} {n m : Int} (h : m ≤ n) : stAt (all.take n.toNat) m = stAt all m := by
  unfold stAt
  rw [List.take_take, Nat.min_eq_left (by omega)]

theorem cut_hon {B : Int} {all : List Ev} {l : Lg} (h : l.wf B) (hh : HonL all l) {n : Int} (hlo : l.base.idx ≤ n) (hhi : n ≤ l.fin) : HonL (all.take n.toNat) (l.cutAfter n) := by
  have hb0 := h.b0
  have hf := hon_fin hh h.b0
  have hw : ∀ i, inW l.base.idx n i = true → i ≤ n := by intro i h; simp [inW] at h; exact h.2
  refine ⟨?_, ?_, ?_, ?_, ?_⟩
  · show l.base.idx.toNat ≤ (all.take n.toNat).length
    rw [List.length_take]; omega
  · show l.evs.take (n - l.base.idx).toNat = (all.take n.toNat).drop l.base.idx.toNat
    rw [hh.evs, List.drop_take]
    congr 1
    omega
  · show (l.base.st, l.base.out) = stAt (all.take n.toNat) l.base.idx
    rw [stAt_take hlo]; exact hh.base
  · intro p hp
    have := List.mem_filter.1 hp
    rw [stAt_take (hw _ this.2)]; exact hh.sns p this.1
  · intro p hp
    have := List.mem_filter.1 hp
    rw [stAt_take (hw _ this.2)]; exact hh.mks p this.1

theorem stAt_app {all : List Ev} {e : Ev} {m : Int} (h : m ≤ all.length) : stAt (all ++ [e]) m = stAt all m := by
  unfold stAt
  rw [List.take_append_of_le_length (by omega)]

theorem stAt_last {all : List Ev} {e : Ev} {n : Int} (h : n = all.length) : stAt (all ++ [e]) (n + 1) = kstep (stAt all n).1 e := by
  unfold stAt
  rw [List.take_of_length_le (by simp; omega), List.take_of_length_le (by omega), runF_snoc]

theorem recd_hon {B : Int} {all : List Ev} {l : Lg} {m : Mach} {o : Ot} {e : Ev} (h : l.wf B) (hh : HonL all l) (hm : (m, o) = stAt all l.fin) : HonL (all ++ [e]) (l.recd m e) := by
  have hb0 := h.b0
  have hf := hon_fin hh h.b0
  have hm1 : m = (stAt all l.fin).1 := by rw [← hm]
  have hk : kstep m e = stAt (all ++ [e]) (l.fin + 1) := by rw [stAt_last hf, hm1]
  refine ⟨?_, ?_, ?_, ?_, ?_⟩
  · show l.base.idx.toNat ≤ (all ++ [e]).length
    have := hh.le
    simp; omega
  · show l.evs ++ [e] = (all ++ [e]).drop l.base.idx.toNat
    rw [hh.evs, List.drop_append_of_le_length hh.le]
  · show (l.base.st, l.base.out) = stAt (all ++ [e]) l.base.idx
    rw [stAt_app (by have := hh.le; omega)]; exact hh.base
  · intro p hp
    have hp2 : p ∈ l.sns ∨ p = ⟨l.fin + 1, (kstep m e).1, (kstep m e).2⟩ := by
      simp only [Lg.recd] at hp
      split at hp
      · unfold addSnap at hp
        split at hp
        · have := List.mem_of_mem_drop hp; simpa using this
        · simpa using hp
      · exact .inl hp
    rcases hp2 with h1 | h1
    · rw [stAt_app (by have := (h.sin p h1).2; omega)]; exact hh.sns p h1
    · subst h1; exact hk
  · intro p hp
    have hp2 : p ∈ l.mks ∨ p = ⟨l.fin + 1, dig (kstep m e).1⟩ := by
      simp only [Lg.recd] at hp
      split at hp
      · simpa using hp
      · exact .inl hp
    rcases hp2 with h1 | h1
    · rw [stAt_app (by have := (h.min p h1).2; omega)]; exact hh.mks p h1
    · subst h1; show dig (kstep m e).1 = dig (stAt (all ++ [e]) (l.fin + 1)).1; rw [hk]

theorem step_cases (s : Ss) (e : Ev) : (stepR s e).2 = s ∨ (s.live = true ∧ ¬ s.lg.full e ∧ stepR s e = (stepRes s e, s.recd e)) := by
  unfold stepR
  split
  · exact .inl rfl
  · rename_i h1
    split
    · exact .inl rfl
    · rename_i h2
      exact .inr ⟨by simpa using h1, h2, rfl⟩

theorem step_wf {B : Int} {s : Ss} {e : Ev} (h : s.wf B) (he : e.ok) : (stepR s e).2.wf (B + 1) := by
  rcases step_cases s e with h1 | ⟨h1, h2, h3⟩
  · rw [h1]; exact h.mono (by omega)
  · rw [h3]
    have hp := h.live h1
    have hf := recd_fin s.lg s.m e
    exact ⟨recd_wf h.lg h.m he h2, kstep_ok h.m he, by show s.lg.base.idx ≤ s.pos + 1; have := h.lo; omega, by show s.pos + 1 ≤ (s.lg.recd s.m e).fin; omega, fun _ => by show s.pos + 1 = (s.lg.recd s.m e).fin; omega⟩

theorem step_hon {B : Int} {all : List Ev} {s : Ss} {e : Ev} (h : s.wf B) (hh : Hon all s) : ∃ all', Hon all' (stepR s e).2 := by
  rcases step_cases s e with h1 | ⟨h1, h2, h3⟩
  · rw [h1]; exact ⟨all, hh⟩
  · rw [h3]
    have hp := h.live h1
    have hc := hh.cur
    rw [hp] at hc
    refine ⟨all ++ [e], recd_hon h.lg hh.lg hc, ?_⟩
    show ((kstep s.m e).1, (kstep s.m e).2) = stAt (all ++ [e]) (s.pos + 1)
    rw [hp, stAt_last (hon_fin hh.lg h.lg.b0), ← hc]

theorem truncR_wf {B : Int} {s : Ss} (h : s.wf B) (n : Int) : (truncR s n).2.wf B := by
  unfold truncR
  split
  · exact h
  · rename_i p hs
    split
    · exact h
    · rename_i hn
      have hf := trunc_fin h.lg (n := n)
      have hb : (s.lg.truncAt n).base.idx = n := by
        have h2 := List.find?_some hs
        simp only [Lg.truncAt, hs, Lg.truncate, Lg.keep]
        simpa using h2
      exact ⟨trunc_wf h.lg, h.m, by show (s.lg.truncAt n).base.idx ≤ s.pos; omega, by show s.pos ≤ (s.lg.truncAt n).fin; have := h.hi; omega, fun hl => by show s.pos = (s.lg.truncAt n).fin; rw [hf]; exact h.live hl⟩

theorem truncR_hon {B : Int} {all : List Ev} {s : Ss} (h : s.wf B) (hh : Hon all s) (n : Int) : Hon all (truncR s n).2 := by
  unfold truncR
  split
  · exact hh
  · split
    · exact hh
    · exact ⟨trunc_hon h.lg hh.lg n, hh.cur⟩

theorem cut_fin {B : Int} {s : Ss} (h : s.wf B) : (s.lg.cutAfter s.pos).fin = s.pos := by
  have := h.lo
  have := h.hi
  have hf : s.lg.fin = s.lg.base.idx + (s.lg.evs.length : Int) := rfl
  show s.lg.base.idx + ((s.lg.evs.take (s.pos - s.lg.base.idx).toNat).length : Int) = s.pos
  rw [List.length_take]; omega

theorem resume_wf {B : Int} {s : Ss} (h : s.wf B) : (resumeR s).2.wf B :=
  ⟨cut_wf h.lg h.lo h.hi, h.m, h.lo, by show s.pos ≤ (s.lg.cutAfter s.pos).fin; rw [cut_fin h]; exact Int.le_refl _, fun _ => (cut_fin h).symm⟩

theorem resume_hon {B : Int} {all : List Ev} {s : Ss} (h : s.wf B) (hh : Hon all s) : ∃ all', Hon all' (resumeR s).2 :=
  ⟨all.take s.pos.toNat, cut_hon h.lg hh.lg h.lo h.hi, by show (s.m, s.out) = stAt (all.take s.pos.toNat) s.pos; rw [stAt_take (Int.le_refl _)]; exact hh.cur⟩

theorem back_cases (s : Ss) (n : Int) : (backR s n = (s.stat 1, s)) ∨ (backR s n = seekR s (s.pos - n) ∧ 0 ≤ n ∧ s.lg.base.idx ≤ s.pos - n) := by
  unfold backR
  split
  · exact .inl rfl
  · rename_i h; exact .inr ⟨rfl, by omega, by omega⟩

theorem do_wf {B : Int} {s : Ss} (h : s.wf B) (op : Opn) (he : op.ev.ok) : (doR s op).2.wf (B + 1) := by
  have hm := h.mono (B' := B + 1) (by omega)
  unfold doR
  repeat' split
  · exact step_wf h he
  · exact seek_wf hm _
  · rcases back_cases s op.n with h1 | ⟨h1, _⟩
    · rw [h1]; exact hm
    · rw [h1]; exact seek_wf hm _
  · exact forw_wf hm _
  · exact truncR_wf hm _
  · exact resume_wf hm
  all_goals exact hm

theorem do_hon {B : Int} {all : List Ev} {s : Ss} (h : s.wf B) (hh : Hon all s) (op : Opn) : ∃ all', Hon all' (doR s op).2 := by
  unfold doR
  repeat' split
  · exact step_hon h hh
  · exact ⟨all, seek_hon h hh _⟩
  · rcases back_cases s op.n with h1 | ⟨h1, _⟩
    · rw [h1]; exact ⟨all, hh⟩
    · rw [h1]; exact ⟨all, seek_hon h hh _⟩
  · exact ⟨all, forw_hon h hh _⟩
  · exact ⟨all, truncR_hon h hh _⟩
  · exact resume_hon h hh
  all_goals exact ⟨all, hh⟩

end Go.Rp
