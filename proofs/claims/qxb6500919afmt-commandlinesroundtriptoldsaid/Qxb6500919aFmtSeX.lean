/-
  Recording and performing a command, plainly.
-/
import Derived.Test.Qxb6500919aFmtSeW
namespace Go.Rp
open Go.Sx Go.Proofs.Qxb6500919aFmt

theorem recd_fin (lg : Lg) (m : Mach) (e : Ev) : (lg.recd m e).fin = lg.fin + 1 := by
  simp only [Lg.recd, Lg.fin, List.length_append, List.length_cons, List.length_nil]
  omega

theorem recd_wf {B : Int} {lg : Lg} {m : Mach} {e : Ev} (h : lg.wf B) (hm : m.ok) (he : e.ok) (hf : ¬ lg.full e) : (lg.recd m e).wf (B + 1) := by
  have hfin := recd_fin lg m e
  have hcb := costs_bd lg.evs
  have hce := cost_bd e
  have hu : 10 * (lg.mks.length : Int) + costs lg.evs + lg.need e ≤ 4096 := by
    unfold Lg.full Lg.used at hf; omega
  have hn : 5 ≤ lg.need e := by unfold Lg.need; split <;> omega
  have hlast : ∀ {α : Type} (f : α → Int) (l : List α) (x : α), l.Pairwise (fun a b => f a < f b) → (∀ a ∈ l, f a < f x) → (l ++ [x]).Pairwise (fun a b => f a < f b) := by
    intro α f l x h1 h2
    rw [List.pairwise_append]
    refine ⟨h1, by simp, fun a ha b hb => ?_⟩
    simp at hb; subst hb; exact h2 a ha
  have hbase : (lg.recd m e).base = lg.base := rfl
  have hs : ∀ p ∈ (lg.recd m e).sns, p ∈ lg.sns ∨ p = ⟨lg.fin + 1, (kstep m e).1, (kstep m e).2⟩ := by
    intro p hp
    simp only [Lg.recd] at hp
    split at hp
    · unfold addSnap at hp
      split at hp
      · have := List.mem_of_mem_drop hp; simpa using this
      · simpa using hp
    · exact .inl hp
  have hk : ∀ p ∈ (lg.recd m e).mks, p ∈ lg.mks ∨ p.idx = lg.fin + 1 := by
    intro p hp
    simp only [Lg.recd] at hp
    split at hp
    · rcases List.mem_append.1 hp with h1 | h1
      · exact .inl h1
      · simp at h1; subst h1; exact .inr rfl
    · exact .inl hp
  have hb : lg.base.idx ≤ lg.fin := by unfold Lg.fin; omega
  exact
    { b0 := h.b0
      fin := by rw [hfin]; have := h.fin; omega
      len := by
        show (lg.evs ++ [e]).length ≤ 1000
        simp only [List.length_append, List.length_cons, List.length_nil]; omega
      mlen := by
        simp only [Lg.recd]
        split
        · simp only [List.length_append, List.length_cons, List.length_nil]; omega
        · exact h.mlen
      slen := by
        simp only [Lg.recd]
        split
        · unfold addSnap
          split
          · simp only [List.length_drop, List.length_append, List.length_cons, List.length_nil]; have := h.slen; omega
          · omega
        · exact h.slen
      evs := by
        intro x hx
        rcases List.mem_append.1 hx with h1 | h1
        · exact h.evs x h1
        · simp at h1; subst h1; exact he
      bst := h.bst
      sst := by
        intro p hp
        rcases hs p hp with h1 | h1
        · exact h.sst p h1
        · subst h1; exact kstep_ok hm he
      sin := by
        intro p hp
        rw [hfin, hbase]
        rcases hs p hp with h1 | h1
        · have := h.sin p h1; omega
        · subst h1; simp only; omega
      min := by
        intro p hp
        rw [hfin, hbase]
        rcases hk p hp with h1 | h1
        · have := h.min p h1; omega
        · omega
      ssort := by
        simp only [Lg.recd]
        split
        · have h1 := hlast Pt.idx lg.sns ⟨lg.fin + 1, (kstep m e).1, (kstep m e).2⟩ h.ssort (fun a ha => by have := (h.sin a ha).2; simp only; omega)
          unfold addSnap
          split
          · exact h1.sublist (List.drop_sublist 1 _)
          · exact h1
        · exact h.ssort
      msort := by
        simp only [Lg.recd]
        split
        · exact hlast Mk.idx lg.mks _ h.msort (fun a ha => by have := (h.min a ha).2; simp only; omega)
        · exact h.msort }

def stepR (s : Ss) (e : Ev) : Res × Ss :=
  if s.live = false then (s.stat 3, s) else if 4096 < s.lg.used + s.lg.need e then (s.stat 4, s) else (stepRes s e, s.recd e)

def doR (s : Ss) (op : Opn) : Res × Ss :=
  if op.kind = 0 then stepR s op.ev else
  if op.kind = 1 then seekR s op.n else
  if op.kind = 2 then backR s op.n else
  if op.kind = 3 then forwR s op.n else
  if op.kind = 4 then truncR s op.n else
  if op.kind = 5 then resumeR s else
  if op.kind = 6 then (checkR s op.n, s) else
  if op.kind = 7 then (replayR s op.n op.m, s) else
  if op.kind = 8 then (s.stat 0, s) else (s.stat 5, s)

end Go.Rp
