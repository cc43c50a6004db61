/-
  The divergence detector, plainly.
-/
import Derived.Test.Qxb6500919aFmtLib2
import Derived.Test.Qxb6500919aFmtEq
namespace Go.Rp
open Go.Sx Go.Proofs.Qxb6500919aFmt

structure Rep where
  at_ : Int
  good : Int
  rep : Int

def nextOf (fin : Int) (ms : List Mk) (ss : List Pt) : Int :=
  let nx := match ms with
    | [] => fin + 1
    | k :: _ => k.idx
  match ss with
  | [] => nx
  | q :: _ => if q.idx < nx then q.idx else nx

def vm (nx dg : Int) : List Mk → Option (List Mk)
  | [] => some []
  | k :: r => if k.idx = nx then (if k.sum = dg then vm nx dg r else none) else some (k :: r)

def vs (nx : Int) (s : Mach × Ot) : List Pt → Option (List Pt)
  | [] => some []
  | q :: r => if q.idx = nx then (if (machEq q.st s.1 && otEq q.out s.2) = true then vs nx s r else none) else some (q :: r)

def vloop (lg : Lg) (p0 : Int) : Nat → List Mk → List Pt → Mach × Ot → Int → Int → Rep
  | 0, _, _, _, _, good => ⟨-1, good, 0⟩
  | g + 1, ms, ss, s, pos, good =>
    let nx := nextOf lg.fin ms ss
    if lg.fin < nx then ⟨-1, good, lg.fin - p0⟩ else
    let s' := runF (seg lg.evs (pos - lg.base.idx).toNat (nx - pos).toNat) s
    match vm nx (dig s'.1) ms with
    | none => ⟨nx, good, nx - p0⟩
    | some ms' => match vs nx s' ss with
      | none => ⟨nx, good, nx - p0⟩
      | some ss' => vloop lg p0 g ms' ss' s' nx nx

def vfy (lg : Lg) (p : Pt) : Rep :=
  vloop lg p.idx (lg.mks.length + lg.sns.length + 1) (lg.mks.dropWhile (fun k => decide (k.idx < p.idx))) (lg.sns.dropWhile (fun k => decide (k.idx < p.idx))) (p.st, p.out) p.idx p.idx

section
variable {lg : Lg} {p0 pos good : Int} {g : Nat} {ms ms' : List Mk} {ss ss' : List Pt} {s s' : Mach × Ot} {nx : Int}

theorem vloop_end (hn : nextOf lg.fin ms ss = nx) (h : lg.fin < nx) : vloop lg p0 (g + 1) ms ss s pos good = ⟨-1, good, lg.fin - p0⟩ := by
  subst hn
  simp only [vloop, if_pos h]

theorem vloop_mark (hn : nextOf lg.fin ms ss = nx) (h : ¬ lg.fin < nx) (hs : runF (seg lg.evs (pos - lg.base.idx).toNat (nx - pos).toNat) s = s') (hv : vm nx (dig s'.1) ms = none) : vloop lg p0 (g + 1) ms ss s pos good = ⟨nx, good, nx - p0⟩ := by
  subst hn hs
  simp only [vloop, if_neg h, hv]

theorem vloop_snap (hn : nextOf lg.fin ms ss = nx) (h : ¬ lg.fin < nx) (hs : runF (seg lg.evs (pos - lg.base.idx).toNat (nx - pos).toNat) s = s') (hv : vm nx (dig s'.1) ms = some ms') (hv2 : vs nx s' ss = none) : vloop lg p0 (g + 1) ms ss s pos good = ⟨nx, good, nx - p0⟩ := by
  subst hn hs
  simp only [vloop, if_neg h, hv, hv2]

theorem vloop_next (hn : nextOf lg.fin ms ss = nx) (h : ¬ lg.fin < nx) (hs : runF (seg lg.evs (pos - lg.base.idx).toNat (nx - pos).toNat) s = s') (hv : vm nx (dig s'.1) ms = some ms') (hv2 : vs nx s' ss = some ss') : vloop lg p0 (g + 1) ms ss s pos good = vloop lg p0 g ms' ss' s' nx nx := by
  subst hn hs
  simp only [vloop, if_neg h, hv, hv2]

end

theorem drop_at {α : Type} {l : List α} {j : Nat} {x : α} (h : l[j]? = some x) : l.drop j = x :: l.drop (j + 1) := by
  obtain ⟨h1, h2⟩ := List.getElem?_eq_some_iff.1 h
  rw [List.drop_eq_getElem_cons h1, h2]

theorem dropWhile_at {α : Type} {f : α → Bool} : ∀ {l : List α} {j : Nat}, (∀ k ∈ l.take j, f k = true) → (∀ x, l[j]? = some x → f x = false) → l.dropWhile f = l.drop j
  | [], j, _, _ => by simp
  | y :: l, 0, _, h => by
    have := h y (by simp)
    simp [List.dropWhile, this]
  | y :: l, j + 1, h1, h2 => by
    have := h1 y (by simp)
    rw [List.dropWhile_cons_of_pos this, List.drop_succ_cons]
    exact dropWhile_at (fun k hk => h1 k (by simp [hk])) (fun x hx => h2 x (by simpa using hx))

theorem mk_lt {l : List Mk} (h : l.Pairwise (fun a b => a.idx < b.idx)) {i j : Nat} {x y : Mk} (hi : l[i]? = some x) (hj : l[j]? = some y) (hij : i < j) : x.idx < y.idx := by
  obtain ⟨h1, rfl⟩ := List.getElem?_eq_some_iff.1 hi
  obtain ⟨h2, rfl⟩ := List.getElem?_eq_some_iff.1 hj
  exact List.pairwise_iff_getElem.1 h i j h1 h2 hij

theorem mk_ge {l : List Mk} (h : l.Pairwise (fun a b => a.idx < b.idx)) {j : Nat} {n : Int} (hh : ∀ x, l[j]? = some x → n ≤ x.idx) : ∀ k ∈ l.drop j, n ≤ k.idx := by
  intro k hk
  obtain ⟨i, hi⟩ := List.getElem?_of_mem hk
  rw [List.getElem?_drop] at hi
  obtain ⟨x, hx⟩ := get_some (xs := l) (i := j) (by have := (List.getElem?_eq_some_iff.1 hi).1; omega)
  have h0 := hh x hx
  rcases Nat.eq_zero_or_pos i with rfl | h1
  · rw [Nat.add_zero, hx] at hi; cases hi; exact h0
  · have := mk_lt h hx hi (by omega); omega

theorem pt_ge {l : List Pt} (h : l.Pairwise (fun a b => a.idx < b.idx)) {j : Nat} {n : Int} (hh : ∀ x, l[j]? = some x → n ≤ x.idx) : ∀ k ∈ l.drop j, n ≤ k.idx := by
  intro k hk
  obtain ⟨i, hi⟩ := List.getElem?_of_mem hk
  rw [List.getElem?_drop] at hi
  obtain ⟨x, hx⟩ := get_some (xs := l) (i := j) (by have := (List.getElem?_eq_some_iff.1 hi).1; omega)
  have h0 := hh x hx
  rcases Nat.eq_zero_or_pos i with rfl | h1
  · rw [Nat.add_zero, hx] at hi; cases hi; exact h0
  · have := sorted_lt h hx hi (by omega); omega

theorem next_nil {fin : Int} {ms : List Mk} {ss : List Pt} {j i : Nat} (hj : ms.length ≤ j) (hi : ss.length ≤ i) : nextOf fin (ms.drop j) (ss.drop i) = fin + 1 := by
  rw [List.drop_eq_nil_of_le hj, List.drop_eq_nil_of_le hi]; rfl
theorem next_m {fin : Int} {ms : List Mk} {ss : List Pt} {j i : Nat} {x : Mk} (hj : ms[j]? = some x) (hi : ss.length ≤ i) : nextOf fin (ms.drop j) (ss.drop i) = x.idx := by
  rw [drop_at hj, List.drop_eq_nil_of_le hi]; rfl
theorem next_s {fin : Int} {ms : List Mk} {ss : List Pt} {j i : Nat} {y : Pt} (hj : ms.length ≤ j) (hi : ss[i]? = some y) : nextOf fin (ms.drop j) (ss.drop i) = if y.idx < fin + 1 then y.idx else fin + 1 := by
  rw [drop_at hi, List.drop_eq_nil_of_le hj]; rfl
theorem next_ms {fin : Int} {ms : List Mk} {ss : List Pt} {j i : Nat} {x : Mk} {y : Pt} (hj : ms[j]? = some x) (hi : ss[i]? = some y) : nextOf fin (ms.drop j) (ss.drop i) = if y.idx < x.idx then y.idx else x.idx := by
  rw [drop_at hi, drop_at hj]; rfl

theorem vm_same {nx dg : Int} {l : List Mk} {j : Nat} {x : Mk} (h : l[j]? = some x) (h1 : x.idx = nx) (h2 : x.sum = dg) : vm nx dg (l.drop j) = vm nx dg (l.drop (j + 1)) := by
  rw [drop_at h]; simp [vm, h1, h2]
theorem vm_bad {nx dg : Int} {l : List Mk} {j : Nat} {x : Mk} (h : l[j]? = some x) (h1 : x.idx = nx) (h2 : x.sum ≠ dg) : vm nx dg (l.drop j) = none := by
  rw [drop_at h]; simp [vm, h1, h2]
theorem vm_stop {nx dg : Int} {l : List Mk} {j : Nat} (h : ∀ x, l[j]? = some x → x.idx ≠ nx) : vm nx dg (l.drop j) = some (l.drop j) := by
  cases hx : l[j]? with
  | none => rw [List.drop_eq_nil_of_le (by simpa using hx)]; rfl
  | some x => rw [drop_at hx]; simp [vm, h x hx]
theorem vs_same {nx : Int} {s : Mach × Ot} {l : List Pt} {j : Nat} {x : Pt} (h : l[j]? = some x) (h1 : x.idx = nx) (h2 : machEq x.st s.1 = true) (h3 : otEq x.out s.2 = true) : vs nx s (l.drop j) = vs nx s (l.drop (j + 1)) := by
  rw [drop_at h]; simp [vs, h1, h2, h3]
theorem vs_bad1 {nx : Int} {s : Mach × Ot} {l : List Pt} {j : Nat} {x : Pt} (h : l[j]? = some x) (h1 : x.idx = nx) (h2 : machEq x.st s.1 = false) : vs nx s (l.drop j) = none := by
  rw [drop_at h]; simp [vs, h1, h2]
theorem vs_bad2 {nx : Int} {s : Mach × Ot} {l : List Pt} {j : Nat} {x : Pt} (h : l[j]? = some x) (h1 : x.idx = nx) (h3 : otEq x.out s.2 = false) : vs nx s (l.drop j) = none := by
  rw [drop_at h]; simp [vs, h1, h3]
theorem vs_stop {nx : Int} {s : Mach × Ot} {l : List Pt} {j : Nat} (h : ∀ x, l[j]? = some x → x.idx ≠ nx) : vs nx s (l.drop j) = some (l.drop j) := by
  cases hx : l[j]? with
  | none => rw [List.drop_eq_nil_of_le (by simpa using hx)]; rfl
  | some x => rw [drop_at hx]; simp [vs, h x hx]

theorem rl_at {α : Type} {enc : α → List Value} {w : World} {b c : Nat} {e : TypeId} {sz : Nat} {xs : List α} {F : List Nat} {blk : Blk} (h : (rl enc e sz xs (some ⟨b, 0, none⟩) c F).at w) (hb : w.heap[b]? = some blk.obj) (hsz : ∀ x, (enc x).length = sz) {i : Nat} {x : α} (hx : xs[i]? = some x) : cellsAre blk.cells (i * sz) (enc x) := by
  obtain ⟨b', cs, h1, h2, h3, _⟩ := rl_open h hsz hx
  simp only [Option.some.injEq, Addr.mk.injEq, and_true] at h1
  subst h1
  rw [hb] at h2
  have : blk.cells = cs := by
    cases blk
    simp [Blk.obj] at h2
    exact h2.1
  rw [this]; exact h3

theorem rl_blk {α : Type} {enc : α → List Value} {w : World} {b c : Nat} {e : TypeId} {sz : Nat} {xs : List α} {F : List Nat} (h : (rl enc e sz xs (some ⟨b, 0, none⟩) c F).at w) : (∃ cs, w.heap[b]? = some (Blk.obj ⟨cs, e, true⟩)) ∧ F = [b] := by
  rcases h.2 with ⟨h1, _⟩ | ⟨b', cs, h1, h2, h3, h4, h5, h6⟩
  · cases h1
  · simp only [Option.some.injEq, Addr.mk.injEq, and_true] at h1
    subst h1
    exact ⟨⟨cs, h2⟩, h6⟩

theorem _root_.Go.Sx.St.dj {C : Ctx} {T : Slots} {L : Mem} {a : Act} {w : World} (h : St C T L a w) {k b : Nat} {blk : Blk} (hk : nth L k = some (b, blk)) (hro : blk.ro = false) : b ∉ C.F :=
  h.disj (b, blk) (by rw [nth_eq] at hk; exact List.mem_of_getElem? hk) hro

end Go.Rp
