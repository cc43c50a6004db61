/-
  RefusalsChangeNothing, ResumeCutsAtThePosition, plainly.
-/
import Derived.Test.Qxb6500919aL6
namespace Go.Rp
open Go.Sx Go.Proofs.Qxb6500919a

theorem seek_same (s : Ss) (n : Int) : (seekR s n).1.code = 0 ∨ ((seekR s n).1.code = 1 ∧ (seekR s n).2 = s) := by
  unfold seekR
  split
  · exact .inr ⟨rfl, rfl⟩
  · exact .inl rfl

/-- A command that is refused leaves the session. -/
theorem do_same {s : Ss} {op : Opn} (h : (doR s op).1.code ≠ 0 ∨ op.kind = 6 ∨ op.kind = 7 ∨ op.kind = 8) : (doR s op).2 = s := by
  rcases h with h | h
  · revert h
    unfold doR
    repeat' split
    · rcases step_ref s op.ev with ⟨c, _, h1⟩ | ⟨_, _, h1⟩
      · rw [h1]; intro _; rfl
      · rw [h1]; intro h; exact absurd rfl h
    · intro h
      rcases seek_same s op.n with h1 | h1
      · exact absurd h1 h
      · exact h1.2
    · intro h
      rcases back_cases s op.n with h1 | ⟨h1, _⟩
      · rw [h1]
      · rw [h1] at h ⊢
        rcases seek_same s (s.pos - op.n) with h2 | h2
        · exact absurd h2 h
        · exact h2.2
    · unfold forwR
      split
      · intro _; rfl
      · intro h; exact absurd rfl h
    · unfold truncR
      split
      · intro _; rfl
      · split
        · intro _; rfl
        · intro h; exact absurd rfl h
    · intro h; exact absurd rfl h
    all_goals (intro _; rfl)
  · unfold doR
    have h0 : op.kind ≠ 0 := by omega
    have h1 : op.kind ≠ 1 := by omega
    have h2 : op.kind ≠ 2 := by omega
    have h3 : op.kind ≠ 3 := by omega
    have h4 : op.kind ≠ 4 := by omega
    have h5 : op.kind ≠ 5 := by omega
    rw [if_neg h0, if_neg h1, if_neg h2, if_neg h3, if_neg h4, if_neg h5]
    repeat' split
    all_goals rfl

/-- A seek to an index outside. -/
theorem seek_out {s : Ss} {op : Opn} (hk : op.kind = 1) (h : op.n < s.lg.base.idx ∨ op.n > s.lg.fin) : (doR s op).1.code = 1 := by
  unfold doR
  rw [if_neg (by omega), if_pos hk]
  unfold seekR
  rw [if_pos (by omega)]
  rfl

theorem res8 {B : Int} {s : Ss} {op : Opn} (h : s.wf B) (hk : op.kind = 5) :
    (doR s op).1.code = 0 ∧ (doR s op).1.live = true ∧ (doR s op).1.fin = s.pos ∧ (doR s op).1.pos = s.pos ∧ (doR s op).2.lg = s.lg.cutAfter s.pos := by
  rw [do_k5 hk]
  exact ⟨rfl, rfl, cut_fin h, rfl, rfl⟩

theorem keep_mk {B : Int} {lg : Lg} (h : lg.wf B) {k : Mk} (hk : k ∈ lg.mks) (n : Int) : (k ∈ (lg.cutAfter n).mks) ↔ k.idx ≤ n := by
  show k ∈ keepM lg.base.idx n lg.mks ↔ _
  unfold keepM
  rw [List.mem_filter]
  have := (h.min k hk).1
  simp [inW, hk, this]

theorem keep_sn {B : Int} {lg : Lg} (h : lg.wf B) {k : Pt} (hk : k ∈ lg.sns) (n : Int) : (k ∈ (lg.cutAfter n).sns) ↔ k.idx ≤ n := by
  show k ∈ keepS lg.base.idx n lg.sns ↔ _
  unfold keepS
  rw [List.mem_filter]
  have := (h.sin k hk).1
  simp [inW, hk, this]

/-- The step taken is the last event of the log. -/
theorem step8 {B : Int} {s : Ss} {op : Opn} (h : s.wf B) (hk : op.kind = 0) (hc : (doR s op).1.code = 0) :
    (doR s op).1.pos = s.pos + 1 ∧ (doR s op).2.lg.base = s.lg.base ∧ (doR s op).2.lg.evs[(s.pos - s.lg.base.idx).toNat]? = some op.ev ∧ s.pos = s.lg.fin := by
  rw [do_k0 hk] at hc ⊢
  rcases step_ref s op.ev with ⟨c, hc1, h1⟩ | ⟨h1, h2, h3⟩
  · rw [h1] at hc
    have h7 : c = 0 := hc
    omega
  · rw [h3]
    have hp := h.live h1
    refine ⟨rfl, rfl, ?_, hp⟩
    show (s.lg.evs ++ [op.ev])[(s.pos - s.lg.base.idx).toNat]? = some op.ev
    have : (s.pos - s.lg.base.idx).toNat = s.lg.evs.length := by rw [hp]; unfold Lg.fin; omega
    rw [this, List.getElem?_append_right (Nat.le_refl _), Nat.sub_self]
    rfl

end Go.Rp
