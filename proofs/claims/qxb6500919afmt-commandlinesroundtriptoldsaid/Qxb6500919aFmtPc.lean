/-
  The session and the log as pieces; what a command does to the run that the log tells of.
-/
import Derived.Test.Qxb6500919aFmtSxK
import Derived.Test.Qxb6500919aFmtL5
namespace Go.Rp
open Go.Sx Go.Proofs.Qxb6500919aFmt

abbrev pSess (bs bl : Nat) (d : Hd) (s : Ss) : Pc := ⟨fun w => SessAt w bs bl d s, bs :: bl :: d.F⟩
abbrev pLog (bl : Nat) (d : Hd) (lg : Lg) : Pc := ⟨fun w => LogAt w bl d lg, bl :: d.F⟩

theorem pLog_ok {w : World} {bl : Nat} {d : Hd} {lg : Lg} (h : LogAt w bl d lg) : PcOk (pLog bl d lg) w :=
  ⟨h, LogAt.stable, h.low, List.nodup_cons.2 ⟨h.sep, by have := h.rows.1; rw [← Hd.F_rows] at this; exact this⟩⟩

theorem pSess_ok {w : World} {bs bl : Nat} {d : Hd} {s : Ss} (h : SessAt w bs bl d s) : PcOk (pSess bs bl d s) w :=
  ⟨h, SessAt.stable, h.low, List.nodup_cons.2 ⟨fun hq => by rcases List.mem_cons.1 hq with h1 | h1; exact h.ne h1; exact h.sep h1, (pLog_ok h.log).nd⟩⟩

/-- Blocks of a session behind a command. -/
theorem sess_sub {bs bl n : Nat} {d d' : Hd} (h : ∀ b ∈ d'.F, b ∈ d.F ∨ n ≤ b) : ∀ b ∈ bs :: bl :: d'.F, b ∈ bs :: bl :: d.F ∨ n ≤ b := by
  intro b hb
  rcases List.mem_cons.1 hb with rfl | hb
  · exact .inl (by simp)
  · rcases List.mem_cons.1 hb with rfl | hb
    · exact .inl (by simp)
    · exact orMap (h b hb) (fun hq => List.mem_cons_of_mem _ (List.mem_cons_of_mem _ hq)) id

/-- The run behind a command. -/
def nextAll (s : Ss) (all : List Ev) (op : Opn) : List Ev :=
  if op.kind = 0 then (if (stepR s op.ev).1.code = 0 then all ++ [op.ev] else all) else
  if op.kind = 5 then all.take s.pos.toNat else all

theorem step_ref (s : Ss) (e : Ev) : (∃ c, (c = 3 ∨ c = 4) ∧ stepR s e = (s.stat c, s)) ∨ (s.live = true ∧ ¬ s.lg.full e ∧ stepR s e = (stepRes s e, s.recd e)) := by
  unfold stepR
  split
  · exact .inl ⟨_, .inl rfl, rfl⟩
  · rename_i h1
    split
    · exact .inl ⟨_, .inr rfl, rfl⟩
    · rename_i h2
      exact .inr ⟨by simpa using h1, h2, rfl⟩

theorem step_hon' {B : Int} {all : List Ev} {s : Ss} {e : Ev} (h : s.wf B) (hh : Hon all s) : Hon (if (stepR s e).1.code = 0 then all ++ [e] else all) (stepR s e).2 := by
  rcases step_ref s e with ⟨c, hc, h1⟩ | ⟨h1, h2, h3⟩
  · rw [h1]
    have : (s.stat c).code ≠ 0 := by show c ≠ 0; omega
    rw [if_neg this]; exact hh
  · rw [h3]
    have hp := h.live h1
    have hc := hh.cur
    rw [hp] at hc
    rw [if_pos (show (stepRes s e).code = 0 from rfl)]
    refine ⟨recd_hon h.lg hh.lg hc, ?_⟩
    show ((kstep s.m e).1, (kstep s.m e).2) = stAt (all ++ [e]) (s.pos + 1)
    rw [hp, stAt_last (hon_fin hh.lg h.lg.b0), ← hc]

theorem do_hon' {B : Int} {all : List Ev} {s : Ss} (h : s.wf B) (hh : Hon all s) (op : Opn) : Hon (nextAll s all op) (doR s op).2 := by
  unfold doR nextAll
  by_cases h0 : op.kind = 0
  · rw [if_pos h0, if_pos h0]; exact step_hon' h hh
  rw [if_neg h0, if_neg h0]
  by_cases h5 : op.kind = 5
  · rw [if_pos h5]
    simp only [h5]
    rw [if_neg (by decide), if_neg (by decide), if_neg (by decide), if_neg (by decide), if_pos trivial]
    exact ⟨cut_hon h.lg hh.lg h.lo h.hi, by show (s.m, s.out) = stAt (all.take s.pos.toNat) s.pos; rw [stAt_take (Int.le_refl _)]; exact hh.cur⟩
  rw [if_neg h5]
  repeat' split
  · exact seek_hon h hh _
  · rcases back_cases s op.n with h1 | ⟨h1, _⟩
    · rw [h1]; exact hh
    · rw [h1]; exact seek_hon h hh _
  · exact forw_hon h hh _
  · exact truncR_hon h hh _
  all_goals first | exact hh | (rename_i hq; exact absurd hq h5)

end Go.Rp
