/-
  The plain functions that the log and the session compute.
-/
import Derived.Test.Qxb6500919aFmtFun
namespace Go.Rp

def Lg.fin (l : Lg) : Int := l.base.idx + l.evs.length

def costs : List Ev → Int
  | [] => 0
  | e :: r => cost e + costs r

theorem costs_app (l l' : List Ev) : costs (l ++ l') = costs l + costs l' := by
  induction l with
  | nil => simp [costs]
  | cons e r ih => simp only [List.cons_append, costs, ih]; omega

theorem costs_bd (l : List Ev) : 5 * (l.length : Int) ≤ costs l ∧ costs l ≤ 32 * l.length := by
  induction l with
  | nil => simp [costs]
  | cons e r ih =>
    have := cost_bd e
    simp only [costs, List.length_cons]
    omega

def Lg.used (l : Lg) : Int := 10 * l.mks.length + costs l.evs

def addSnap (l : List Pt) (p : Pt) : List Pt := if 6 < (l ++ [p]).length then (l ++ [p]).drop 1 else l ++ [p]

/-- The log and the kernel behind one event recorded. -/
def Lg.recd (l : Lg) (m : Mach) (e : Ev) : Lg :=
  let nx := l.fin + 1
  { base := l.base, evs := l.evs ++ [e],
    mks := if nx % 8 = 0 then l.mks ++ [⟨nx, dig (kstep m e).1⟩] else l.mks,
    sns := if nx % 32 = 0 then addSnap l.sns ⟨nx, (kstep m e).1, (kstep m e).2⟩ else l.sns }

def Lg.need (l : Lg) (e : Ev) : Int := if (l.fin + 1) % 8 = 0 then cost e + 10 else cost e

def Lg.full (l : Lg) (e : Ev) : Prop := 4096 < l.used + l.need e

def inW (lo hi i : Int) : Bool := decide (lo ≤ i) && decide (i ≤ hi)

def keepM (lo hi : Int) (l : List Mk) : List Mk := l.filter (fun k => inW lo hi k.idx)
def keepS (lo hi : Int) (l : List Pt) : List Pt := l.filter (fun k => inW lo hi k.idx)

def Lg.keep (lo hi : Int) (l : Lg) : Lg := { l with mks := keepM lo hi l.mks, sns := keepS lo hi l.sns }

def Lg.cutAfter (n : Int) (l : Lg) : Lg := Lg.keep l.base.idx n { l with evs := l.evs.take (n - l.base.idx).toNat }

def Lg.truncate (p : Pt) (l : Lg) : Lg :=
  let l' : Lg := { l with base := p, evs := l.evs.drop (p.idx - l.base.idx).toNat }
  Lg.keep p.idx l'.fin l'

def Lg.snap (l : Lg) (n : Int) : Option Pt := l.sns.find? (fun p => p.idx == n)

def Lg.truncAt (n : Int) (l : Lg) : Lg := match l.snap n with
  | some p => l.truncate p
  | none => l

def Lg.near (l : Lg) (n : Int) : Pt := ((l.sns.filter (fun p => decide (p.idx ≤ n))).getLast?).getD l.base


def Lg.point (l : Lg) (n : Int) : Option Pt := if n = l.base.idx then some l.base else l.snap n

structure Lg.wf (B : Int) (l : Lg) : Prop where
  b0 : 0 ≤ l.base.idx
  fin : l.fin ≤ B
  len : l.evs.length ≤ 1000
  mlen : l.mks.length ≤ 1000
  slen : l.sns.length ≤ 6
  evs : ∀ e ∈ l.evs, e.ok
  bst : l.base.st.ok
  sst : ∀ p ∈ l.sns, p.st.ok
  sin : ∀ p ∈ l.sns, l.base.idx ≤ p.idx ∧ p.idx ≤ l.fin
  min : ∀ k ∈ l.mks, l.base.idx ≤ k.idx ∧ k.idx ≤ l.fin
  ssort : l.sns.Pairwise (fun a b => a.idx < b.idx)
  msort : l.mks.Pairwise (fun a b => a.idx < b.idx)

structure Ss.wf (B : Int) (s : Ss) : Prop where
  lg : s.lg.wf B
  m : s.m.ok
  lo : s.lg.base.idx ≤ s.pos
  hi : s.pos ≤ s.lg.fin
  live : s.live = true → s.pos = s.lg.fin

end Go.Rp
