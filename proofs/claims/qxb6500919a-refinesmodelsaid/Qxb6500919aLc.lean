/-
  For the law of divergence: the edited log and the points of it.
-/
import Derived.Test.Qxb6500919aLb
namespace Go.Rp
open Go.Sx Go.Proofs.Qxb6500919a

theorem tamps_wf {B : Int} : ∀ {l : List Opn} {lg : Lg}, lg.wf B → (∀ e ∈ l, e.ev.ok) → (l.foldl tampR lg).wf B
  | [], _, h, _ => h
  | e :: l, lg, h, he => by
    rw [List.foldl_cons]
    exact tamps_wf (tamp_wf h (he e (by simp))) (fun q hq => he q (by simp [hq]))

theorem start_facts {B : Int} {lg : Lg} (h : lg.wf B) {q : Pt} (hq : q ∈ [lg.base] ++ lg.sns) : lg.base.idx ≤ q.idx ∧ q.idx ≤ lg.fin ∧ q.st.ok := by
  rcases List.mem_append.1 hq with h1 | h1
  · simp at h1
    subst h1
    exact ⟨Int.le_refl _, by unfold Lg.fin; omega, h.bst⟩
  · exact ⟨(h.sin q h1).1, (h.sin q h1).2, h.sst q h1⟩

/-- The point that a session starts from at the index of q. -/
def pqOf (lg : Lg) (q : Pt) : Pt := if q.idx = lg.base.idx then lg.base else q

theorem snap_self {B : Int} {lg : Lg} (h : lg.wf B) {q : Pt} (hq : q ∈ lg.sns) : lg.snap q.idx = some q := by
  unfold Lg.snap
  obtain ⟨j, hj⟩ := List.getElem?_of_mem hq
  refine find_at hj (by simp) (fun z hz => ?_)
  obtain ⟨i, hi⟩ := List.getElem?_of_mem hz
  have hlt : i < j := by
    have := (List.getElem?_eq_some_iff.1 hi).1
    rw [List.length_take] at this; omega
  rw [List.getElem?_take_of_lt hlt] at hi
  have := sorted_lt h.ssort hi hj hlt
  simp; omega

theorem check7 {B : Int} {lg : Lg} (h : lg.wf B) {q : Pt} (hq : q ∈ [lg.base] ++ lg.sns) :
    checkR (ssOf lg) q.idx = ({ (ssOf lg).stat 0 with from_ := q.idx, replayed := (vfy lg (pqOf lg q)).rep, at_ := (vfy lg (pqOf lg q)).at_ } : Res) := by
  have hp : (ssOf lg).lg.point q.idx = some (pqOf lg q) := by
    show lg.point q.idx = some (pqOf lg q)
    unfold Lg.point pqOf
    by_cases h1 : q.idx = lg.base.idx
    · rw [if_pos h1, if_pos h1]
    · rw [if_neg h1, if_neg h1]
      rcases List.mem_append.1 hq with h2 | h2
      · simp at h2; subst h2; exact absurd rfl h1
      · exact snap_self h h2
  unfold checkR
  rw [hp]
  rfl

theorem seek_fin {lg : Lg} {n : Int} (h1 : lg.base.idx ≤ n) (h2 : n ≤ lg.fin) : (seekR (ssOf lg) n).1.code = 0 ∧ (seekR (ssOf lg) n).1.pos = n := by
  unfold seekR
  rw [if_neg (by show ¬ (n < lg.base.idx ∨ lg.fin < n); omega)]
  exact ⟨rfl, rfl⟩

theorem seek_lg (s : Ss) (n : Int) : (seekR s n).2.lg = s.lg := by
  unfold seekR
  split <;> rfl

end Go.Rp
