/-
  The session, plainly.
-/
import Derived.Test.Qxb6500919aFmtVf
namespace Go.Rp
open Go.Sx Go.Proofs.Qxb6500919aFmt

def Ss.stat (s : Ss) (code : Int) : Res := ⟨code, s.pos, s.lg.base.idx, s.lg.fin, s.live, s.out, dig s.m, s.pos, 0, -1⟩

/-- The kernel fed from a state at index pos up to index n. -/
def Lg.run (l : Lg) (s : Mach × Ot) (pos n : Int) : Mach × Ot := runF (seg l.evs (pos - l.base.idx).toNat (n - pos).toNat) s

def Ss.go (s : Ss) (r : Mach × Ot) (n : Int) : Ss := { lg := s.lg, m := r.1, out := r.2, pos := n, live := false }

def seekR (s : Ss) (n : Int) : Res × Ss :=
  if n < s.lg.base.idx ∨ s.lg.fin < n then (s.stat 1, s) else
  let p := s.lg.near n
  let s' := s.go (s.lg.run (p.st, p.out) p.idx n) n
  ({ s'.stat 0 with from_ := p.idx, replayed := n - p.idx }, s')

def backR (s : Ss) (k : Int) : Res × Ss :=
  if k < 0 ∨ s.pos - s.lg.base.idx < k then (s.stat 1, s) else seekR s (s.pos - k)

def forwR (s : Ss) (k : Int) : Res × Ss :=
  if k < 0 ∨ s.lg.fin - s.pos < k then (s.stat 1, s) else
  let s' := s.go (s.lg.run (s.m, s.out) s.pos (s.pos + k)) (s.pos + k)
  ({ s'.stat 0 with from_ := s.pos + k - k, replayed := k }, s')

def Ss.recd (s : Ss) (e : Ev) : Ss := { lg := s.lg.recd s.m e, m := (kstep s.m e).1, out := (kstep s.m e).2, pos := s.pos + 1, live := s.live }

/-- The answer to an event that is taken. -/
def stepRes (s : Ss) (e : Ev) : Res := { (s.recd e).stat 0 with from_ := s.pos + 1 - 1, replayed := 1 }

def truncR (s : Ss) (n : Int) : Res × Ss := match s.lg.snap n with
  | none => (s.stat 2, s)
  | some _ => if s.pos < n then (s.stat 1, s) else
    let s' : Ss := { s with lg := s.lg.truncAt n }
    (s'.stat 0, s')

def resumeR (s : Ss) : Res × Ss :=
  let s' : Ss := { s with lg := s.lg.cutAfter s.pos, live := true }
  (s'.stat 0, s')

def replayR (s : Ss) (a b : Int) : Res := match s.lg.point a with
  | none => s.stat 2
  | some p => if b < a ∨ s.lg.fin < b then s.stat 1 else
    { s.stat 0 with out := (s.lg.run (p.st, p.out) p.idx b).2, dig := dig (s.lg.run (p.st, p.out) p.idx b).1, from_ := a, replayed := b - a }

def checkR (s : Ss) (a : Int) : Res := match s.lg.point a with
  | none => s.stat 2
  | some p => { s.stat 0 with from_ := a, replayed := (vfy s.lg p).rep, at_ := (vfy s.lg p).at_ }

/-- What a command of a session leaves: the answer r, the session s'. -/
def SOK (w : World) (bs bl : Nat) (d : Hd) (r : Res) (s' : Ss) : Ending → World → Prop := fun e w' =>
  ∃ d', e = .returned (.agg (resC r).toArray) ∧ SessAt w' bs bl d' s' ∧ Fr (bs :: bl :: d.F) w w' ∧ ∀ b ∈ d'.F, b ∈ d.F ∨ w.heap.size ≤ b

section
variable {C : Ctx} {T : Slots} {L L' : Mem} {w w' : World} {a : Act}

/-- Behind a call that turns all that is carried, and keeps some known blocks. -/
theorem _root_.Go.Sx.St.callSub (hst : St C T L a w) {M : List Nat} (hfr : Fr M w w') (hM : ∀ b ∈ M, b ∈ C.K ∨ C.w0.heap.size ≤ b) {A' : World → Prop} {F' : List Nat} (hs : List.Sublist L' L) (hL : ∀ kb ∈ L', kb.1 ∉ M)
    (hA : A' w') (hst' : Stable A' F') (hlow : ∀ b ∈ F', b < w'.heap.size) (hF : ∀ b ∈ F', b ∈ M ∨ b ∈ C.F ∨ w.heap.size ≤ b) : St ⟨C.n, C.K, C.w0, A', F'⟩ T L' a w' := by
  refine hst.call hfr hM (fun kb h => ?_) (hst.nodup.sublist (hs.map _)) (fun kb h => hst.keys kb (hs.mem h)) hA hst' hlow (fun kb h hr hf => ?_)
  · rw [hfr.block kb.1 (lt_of_heap (hst.known kb (hs.mem h))) (hL kb h)]
    exact hst.known kb (hs.mem h)
  · rcases hF _ hf with h1 | h1 | h1
    · exact hL kb h h1
    · exact hst.disj kb (hs.mem h) hr h1
    · have := lt_of_heap (hst.known kb (hs.mem h)); omega

end

theorem near_mem (lg : Lg) (n : Int) : lg.near n = lg.base ∨ lg.near n ∈ lg.sns := by
  unfold Lg.near
  cases h : (lg.sns.filter (fun p => decide (p.idx ≤ n))).getLast? with
  | none => left; rfl
  | some x => right; exact (List.mem_filter.1 (List.mem_of_getLast? h)).1

theorem near_le (lg : Lg) {n : Int} (hb : lg.base.idx ≤ n) : (lg.near n).idx ≤ n := by
  unfold Lg.near
  cases h : (lg.sns.filter (fun p => decide (p.idx ≤ n))).getLast? with
  | none => exact hb
  | some x => simpa using (List.mem_filter.1 (List.mem_of_getLast? h)).2

theorem near_ge {lg : Lg} {B : Int} (h : lg.wf B) (n : Int) : lg.base.idx ≤ (lg.near n).idx := by
  rcases near_mem lg n with h1 | h1
  · rw [h1]; exact Int.le_refl _
  · exact (h.sin _ h1).1

theorem near_ok {lg : Lg} {B : Int} (h : lg.wf B) (n : Int) : (lg.near n).st.ok := by
  rcases near_mem lg n with h1 | h1
  · rw [h1]; exact h.bst
  · exact h.sst _ h1

theorem point_facts {lg : Lg} {B : Int} (h : lg.wf B) {n : Int} {p : Pt} (hp : lg.point n = some p) : p.idx = n ∧ lg.base.idx ≤ p.idx ∧ p.idx ≤ lg.fin ∧ p.st.ok := by
  unfold Lg.point at hp
  split at hp
  · rename_i hn
    cases hp
    exact ⟨hn.symm, Int.le_refl _, by unfold Lg.fin; omega, h.bst⟩
  · unfold Lg.snap at hp
    have h1 := List.mem_of_find?_eq_some hp
    have h2 := List.find?_some hp
    exact ⟨by simpa using h2, (h.sin p h1).1, (h.sin p h1).2, h.sst p h1⟩

end Go.Rp
