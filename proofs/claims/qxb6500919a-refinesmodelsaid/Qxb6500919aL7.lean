/-
  DivergenceReportedIsFirst, plainly.
-/
import Derived.Test.Qxb6500919aL4
namespace Go.Rp
open Go.Sx Go.Proofs.Qxb6500919a
set_option linter.unusedVariables false

/-- The kernel at index i, replayed from the point p. -/
def sAt (lg : Lg) (p : Pt) (i : Int) : Mach × Ot := lg.run (p.st, p.out) p.idx i

/-- Index i diverges if the kernel there is s. -/
def BadS (lg : Lg) (s : Mach × Ot) (i : Int) : Prop :=
  (∃ k ∈ lg.mks, k.idx = i ∧ k.sum ≠ dig s.1) ∨ (∃ q ∈ lg.sns, q.idx = i ∧ (q.st, q.out) ≠ s)

def Bad (lg : Lg) (p : Pt) (i : Int) : Prop := BadS lg (sAt lg p i) i

/-- r is the first divergence from p on, -1 if there is none. -/
def IsFD (lg : Lg) (p : Pt) (r : Int) : Prop :=
  (r = -1 ∧ ∀ i, p.idx ≤ i → i ≤ lg.fin → ¬ Bad lg p i) ∨ (p.idx ≤ r ∧ r ≤ lg.fin ∧ Bad lg p r ∧ ∀ i, p.idx ≤ i → i < r → ¬ Bad lg p i)

theorem IsFD.unique {lg : Lg} {p : Pt} {r r' : Int} (h0 : 0 ≤ p.idx) (h : IsFD lg p r) (h' : IsFD lg p r') : r = r' := by
  rcases h with ⟨h1, h2⟩ | ⟨h1, h2, h3, h4⟩
  · rcases h' with ⟨k1, k2⟩ | ⟨k1, k2, k3, k4⟩
    · omega
    · exact absurd k3 (h2 r' k1 k2)
  · rcases h' with ⟨k1, k2⟩ | ⟨k1, k2, k3, k4⟩
    · exact absurd h3 (k2 r h1 h2)
    · rcases Int.lt_trichotomy r r' with hq | hq | hq
      · exact absurd h3 (k4 r h1 hq)
      · exact hq
      · exact absurd k3 (h4 r' k1 hq)

/-- Index i is a checkpoint. -/
def Chk (lg : Lg) (i : Int) : Prop := (∃ k ∈ lg.mks, k.idx = i) ∨ (∃ q ∈ lg.sns, q.idx = i)

def OkC (st at_ i : Int) : Prop := st ≤ i ∧ (at_ = -1 ∨ i < at_)

/-- r is the last checkpoint from st on before at_. -/
structure IsLast (lg : Lg) (st at_ r : Int) : Prop where
  hit : r = st ∨ (Chk lg r ∧ OkC st at_ r)
  ge : st ≤ r
  max : ∀ i, Chk lg i → OkC st at_ i → i ≤ r

theorem IsLast.unique {lg : Lg} {st at_ r r' : Int} (h : IsLast lg st at_ r) (h' : IsLast lg st at_ r') : r = r' := by
  have h1 : r ≤ r' := by
    rcases h.hit with h1 | ⟨h1, h2⟩
    · rw [h1]; exact h'.ge
    · exact h'.max r h1 h2
  have h2 : r' ≤ r := by
    rcases h'.hit with h1 | ⟨h1, h2⟩
    · rw [h1]; exact h.ge
    · exact h.max r' h1 h2
  omega

theorem bad_chk {lg : Lg} {p : Pt} {i : Int} (h : Bad lg p i) : Chk lg i := by
  rcases h with ⟨k, h1, h2, _⟩ | ⟨q, h1, h2, _⟩
  · exact .inl ⟨k, h1, h2⟩
  · exact .inr ⟨q, h1, h2⟩

theorem seg_add {evs : List Ev} {j k l : Nat} (s : Mach × Ot) : runF (seg evs (j + k) l) (runF (seg evs j k) s) = runF (seg evs j (k + l)) s := by
  unfold seg
  rw [← runF_append, List.take_add, List.drop_drop]

theorem sAt_run {B : Int} {lg : Lg} (h : lg.wf B) {p : Pt} (hp : lg.base.idx ≤ p.idx) {i n : Int} (h1 : p.idx ≤ i) (h2 : i ≤ n) : lg.run (sAt lg p i) i n = sAt lg p n := by
  unfold sAt Lg.run
  have e1 : (i - lg.base.idx).toNat = (p.idx - lg.base.idx).toNat + (i - p.idx).toNat := by omega
  have e2 : (n - p.idx).toNat = (i - p.idx).toNat + (n - i).toNat := by omega
  rw [e1, e2, seg_add]

theorem sAt_zero (lg : Lg) (p : Pt) : sAt lg p p.idx = (p.st, p.out) := by
  unfold sAt Lg.run
  rw [show (p.idx - p.idx).toNat = 0 by omega, seg_zero]
  rfl

theorem sAt_succ {B : Int} {lg : Lg} (h : lg.wf B) {p : Pt} (hp : lg.base.idx ≤ p.idx) {i : Int} (h1 : p.idx ≤ i) {e : Ev} (he : lg.evs[(i - lg.base.idx).toNat]? = some e) : sAt lg p (i + 1) = kstep (sAt lg p i).1 e := by
  rw [← sAt_run h hp h1 (show i ≤ i + 1 by omega)]
  unfold Lg.run
  rw [show (i + 1 - i).toNat = 0 + 1 by omega, seg_succ (by simpa using he), seg_zero]
  rfl

theorem sAt_ok {B : Int} {lg : Lg} (h : lg.wf B) {p : Pt} (hp : p.st.ok) (i : Int) : (sAt lg p i).1.ok := run_wf h hp _ _

/-! The detector. -/

theorem vm_spec {nx dg : Int} : ∀ (l : List Mk), (∀ k ∈ l, nx ≤ k.idx) → l.Pairwise (fun a b => a.idx < b.idx) →
    (vm nx dg l = none ∧ ∃ k ∈ l, k.idx = nx ∧ k.sum ≠ dg) ∨ (vm nx dg l = some (l.filter (fun k => decide (nx + 1 ≤ k.idx))) ∧ ∀ k ∈ l, k.idx = nx → k.sum = dg)
  | [], _, _ => .inr ⟨rfl, fun _ h => by cases h⟩
  | k :: r, hge, hs => by
    have hk := hge k (by simp)
    have hs2 := List.pairwise_cons.1 hs
    unfold vm
    by_cases h1 : k.idx = nx
    · rw [if_pos h1]
      by_cases h2 : k.sum = dg
      · rw [if_pos h2]
        rcases vm_spec r (fun q hq => hge q (by simp [hq])) hs2.2 with ⟨h3, q, h4, h5, h6⟩ | ⟨h3, h4⟩
        · exact .inl ⟨h3, q, by simp [h4], h5, h6⟩
        · refine .inr ⟨?_, ?_⟩
          · rw [h3, List.filter_cons_of_neg (by simp; omega)]
          · intro q hq hqn
            rcases List.mem_cons.1 hq with rfl | hq
            · exact h2
            · exact h4 q hq hqn
      · rw [if_neg h2]
        exact .inl ⟨rfl, k, by simp, h1, h2⟩
    · rw [if_neg h1]
      have hall : ∀ q ∈ k :: r, nx + 1 ≤ q.idx := by
        intro q hq
        rcases List.mem_cons.1 hq with rfl | hq
        · omega
        · have := hs2.1 q hq; omega
      refine .inr ⟨?_, fun q hq hqn => ?_⟩
      · rw [List.filter_eq_self.2 (fun q hq => by simpa using hall q hq)]
      · have := hall q hq; omega

theorem vs_spec {nx : Int} {s : Mach × Ot} : ∀ (l : List Pt), (∀ k ∈ l, nx ≤ k.idx) → l.Pairwise (fun a b => a.idx < b.idx) →
    (vs nx s l = none ∧ ∃ k ∈ l, k.idx = nx ∧ (k.st, k.out) ≠ s) ∨ (vs nx s l = some (l.filter (fun k => decide (nx + 1 ≤ k.idx))) ∧ ∀ k ∈ l, k.idx = nx → (k.st, k.out) = s)
  | [], _, _ => .inr ⟨rfl, fun _ h => by cases h⟩
  | k :: r, hge, hs => by
    have hk := hge k (by simp)
    have hs2 := List.pairwise_cons.1 hs
    unfold vs
    by_cases h1 : k.idx = nx
    · rw [if_pos h1]
      by_cases h2 : (machEq k.st s.1 && otEq k.out s.2) = true
      · rw [if_pos h2]
        have h2' : (k.st, k.out) = s := by
          rw [Bool.and_eq_true, machEq_iff, otEq_iff] at h2
          rw [h2.1, h2.2]
        rcases vs_spec r (fun q hq => hge q (by simp [hq])) hs2.2 with ⟨h3, q, h4, h5, h6⟩ | ⟨h3, h4⟩
        · exact .inl ⟨h3, q, by simp [h4], h5, h6⟩
        · refine .inr ⟨?_, ?_⟩
          · rw [h3, List.filter_cons_of_neg (by simp; omega)]
          · intro q hq hqn
            rcases List.mem_cons.1 hq with rfl | hq
            · exact h2'
            · exact h4 q hq hqn
      · rw [if_neg h2]
        refine .inl ⟨rfl, k, by simp, h1, fun hq => h2 ?_⟩
        rw [Bool.and_eq_true, machEq_iff, otEq_iff, ← hq]
        exact ⟨rfl, rfl⟩
    · rw [if_neg h1]
      have hall : ∀ q ∈ k :: r, nx + 1 ≤ q.idx := by
        intro q hq
        rcases List.mem_cons.1 hq with rfl | hq
        · omega
        · have := hs2.1 q hq; omega
      refine .inr ⟨?_, fun q hq hqn => ?_⟩
      · rw [List.filter_eq_self.2 (fun q hq => by simpa using hall q hq)]
      · have := hall q hq; omega

theorem dropW_mk (c : Int) : ∀ (l : List Mk), l.Pairwise (fun a b => a.idx < b.idx) → l.dropWhile (fun k => decide (k.idx < c)) = l.filter (fun k => decide (c ≤ k.idx))
  | [], _ => rfl
  | k :: r, h => by
    have h2 := List.pairwise_cons.1 h
    by_cases hk : k.idx < c
    · rw [List.dropWhile_cons_of_pos (by simpa using hk), List.filter_cons_of_neg (by simp; omega), dropW_mk c r h2.2]
    · rw [List.dropWhile_cons_of_neg (by simpa using hk)]
      refine (List.filter_eq_self.2 fun q hq => ?_).symm
      rcases List.mem_cons.1 hq with rfl | hq
      · simp; omega
      · have := h2.1 q hq; simp; omega

theorem dropW_pt (c : Int) : ∀ (l : List Pt), l.Pairwise (fun a b => a.idx < b.idx) → l.dropWhile (fun k => decide (k.idx < c)) = l.filter (fun k => decide (c ≤ k.idx))
  | [], _ => rfl
  | k :: r, h => by
    have h2 := List.pairwise_cons.1 h
    by_cases hk : k.idx < c
    · rw [List.dropWhile_cons_of_pos (by simpa using hk), List.filter_cons_of_neg (by simp; omega), dropW_pt c r h2.2]
    · rw [List.dropWhile_cons_of_neg (by simpa using hk)]
      refine (List.filter_eq_self.2 fun q hq => ?_).symm
      rcases List.mem_cons.1 hq with rfl | hq
      · simp; omega
      · have := h2.1 q hq; simp; omega

abbrev mF (lg : Lg) (c : Int) : List Mk := lg.mks.filter (fun k => decide (c ≤ k.idx))
abbrev sF (lg : Lg) (c : Int) : List Pt := lg.sns.filter (fun k => decide (c ≤ k.idx))

theorem mF_mF (lg : Lg) {c d : Int} (h : c ≤ d) : (mF lg c).filter (fun k => decide (d ≤ k.idx)) = mF lg d := by
  unfold mF
  rw [List.filter_filter]
  apply List.filter_congr
  intro k _
  by_cases h1 : d ≤ k.idx
  · simp [h1]; omega
  · simp [h1]

theorem sF_sF (lg : Lg) {c d : Int} (h : c ≤ d) : (sF lg c).filter (fun k => decide (d ≤ k.idx)) = sF lg d := by
  unfold sF
  rw [List.filter_filter]
  apply List.filter_congr
  intro k _
  by_cases h1 : d ≤ k.idx
  · simp [h1]; omega
  · simp [h1]

/-- The next checkpoint. -/
theorem next_spec {B : Int} {lg : Lg} (h : lg.wf B) (c : Int) :
    (nextOf lg.fin (mF lg c) (sF lg c) = lg.fin + 1 ∧ mF lg c = [] ∧ sF lg c = []) ∨
    (∃ nx, nextOf lg.fin (mF lg c) (sF lg c) = nx ∧ c ≤ nx ∧ nx ≤ lg.fin ∧ Chk lg nx ∧ (∀ k ∈ mF lg c, nx ≤ k.idx) ∧ (∀ k ∈ sF lg c, nx ≤ k.idx) ∧ ((∃ k ∈ mF lg c, k.idx = nx) ∨ (∃ k ∈ sF lg c, k.idx = nx))) := by
  have hm : ∀ k ∈ mF lg c, c ≤ k.idx ∧ k ∈ lg.mks := fun k hk => by have := List.mem_filter.1 hk; exact ⟨by simpa using this.2, this.1⟩
  have hs : ∀ k ∈ sF lg c, c ≤ k.idx ∧ k ∈ lg.sns := fun k hk => by have := List.mem_filter.1 hk; exact ⟨by simpa using this.2, this.1⟩
  have hms : (mF lg c).Pairwise (fun a b => a.idx < b.idx) := h.msort.filter _
  have hss : (sF lg c).Pairwise (fun a b => a.idx < b.idx) := h.ssort.filter _
  cases h1 : mF lg c with
  | nil =>
    cases h2 : sF lg c with
    | nil => exact .inl ⟨rfl, rfl, rfl⟩
    | cons y ys =>
      rw [h2] at hs hss
      have hy := hs y (by simp)
      have hyf := (h.sin y hy.2).2
      refine .inr ⟨y.idx, ?_, hy.1, hyf, .inr ⟨y, hy.2, rfl⟩, fun k hk => (by cases hk), ?_, .inr ⟨y, by simp, rfl⟩⟩
      · simp only [nextOf]; rw [if_pos (by omega)]
      · intro k hk
        rcases List.mem_cons.1 hk with rfl | hk
        · exact Int.le_refl _
        · have := (List.pairwise_cons.1 hss).1 k hk; omega
  | cons x xs =>
    rw [h1] at hm hms
    have hx := hm x (by simp)
    have hxf := (h.min x hx.2).2
    have hxa : ∀ k ∈ x :: xs, x.idx ≤ k.idx := by
      intro k hk
      rcases List.mem_cons.1 hk with rfl | hk
      · exact Int.le_refl _
      · have := (List.pairwise_cons.1 hms).1 k hk; omega
    cases h2 : sF lg c with
    | nil => exact .inr ⟨x.idx, rfl, hx.1, hxf, .inl ⟨x, hx.2, rfl⟩, hxa, fun k hk => (by cases hk), .inl ⟨x, by simp, rfl⟩⟩
    | cons y ys =>
      rw [h2] at hs hss
      have hy := hs y (by simp)
      have hyf := (h.sin y hy.2).2
      have hya : ∀ k ∈ y :: ys, y.idx ≤ k.idx := by
        intro k hk
        rcases List.mem_cons.1 hk with rfl | hk
        · exact Int.le_refl _
        · have := (List.pairwise_cons.1 hss).1 k hk; omega
      by_cases hlt : y.idx < x.idx
      · refine .inr ⟨y.idx, ?_, hy.1, hyf, .inr ⟨y, hy.2, rfl⟩, fun k hk => ?_, hya, .inr ⟨y, by simp, rfl⟩⟩
        · simp only [nextOf]; rw [if_pos hlt]
        · have := hxa k hk; omega
      · refine .inr ⟨x.idx, ?_, hx.1, hxf, .inl ⟨x, hx.2, rfl⟩, hxa, fun k hk => ?_, .inl ⟨x, by simp, rfl⟩⟩
        · simp only [nextOf]; rw [if_neg hlt]
        · have := hya k hk; omega

theorem filter_lt {α : Type} {f : α → Bool} : ∀ {l : List α} {x : α}, x ∈ l → f x = false → (l.filter f).length < l.length
  | [], _, h, _ => by cases h
  | y :: l, x, h, hf => by
    rcases List.mem_cons.1 h with rfl | h
    · rw [List.filter_cons_of_neg (by simp [hf])]
      have := List.length_filter_le f l
      simp only [List.length_cons]; omega
    · have ih := filter_lt h hf
      by_cases hy : f y = true
      · rw [List.filter_cons_of_pos hy]; simp only [List.length_cons]; omega
      · rw [List.filter_cons_of_neg hy]; simp only [List.length_cons]; omega

theorem vloop_law {B : Int} {lg : Lg} (h : lg.wf B) {p : Pt} (hp : lg.base.idx ≤ p.idx) (hpf : p.idx ≤ lg.fin) : ∀ (g : Nat) (c pos good : Int), (mF lg c).length + (sF lg c).length < g →
    p.idx ≤ pos → pos ≤ c → c ≤ pos + 1 → (∀ i, p.idx ≤ i → i < c → ¬ Bad lg p i) →
    (good = p.idx ∨ (Chk lg good ∧ good < c)) → p.idx ≤ good → (∀ i, Chk lg i → p.idx ≤ i → i < c → i ≤ good) →
    IsFD lg p (vloop lg p.idx g (mF lg c) (sF lg c) (sAt lg p pos) pos good).at_ ∧
    IsLast lg p.idx (vloop lg p.idx g (mF lg c) (sF lg c) (sAt lg p pos) pos good).at_ (vloop lg p.idx g (mF lg c) (sF lg c) (sAt lg p pos) pos good).good
  | 0, _, _, _, hg, _, _, _, _, _, _, _ => absurd hg (Nat.not_lt_zero _)
  | g + 1, c, pos, good, hg, hpos, hpc, hcp, hbad, hgd, hgp, hgm => by
    have hmem : ∀ i, c ≤ i → Chk lg i → (∃ k ∈ mF lg c, k.idx = i) ∨ (∃ q ∈ sF lg c, q.idx = i) := by
      intro i hi hc
      rcases hc with ⟨k, h1, h2⟩ | ⟨k, h1, h2⟩
      · exact .inl ⟨k, List.mem_filter.2 ⟨h1, by simp; omega⟩, h2⟩
      · exact .inr ⟨k, List.mem_filter.2 ⟨h1, by simp; omega⟩, h2⟩
    have hb0 := h.b0
    rcases next_spec h c with ⟨hn, hm0, hs0⟩ | ⟨nx, hn, hcn, hnf, hck, hgm2, hgs2, hat⟩
    · rw [vloop_end hn (by omega)]
      have hno : ∀ i, c ≤ i → ¬ Chk lg i := by
        intro i hi hc
        rcases hmem i hi hc with ⟨k, h1, _⟩ | ⟨k, h1, _⟩
        · rw [hm0] at h1; cases h1
        · rw [hs0] at h1; cases h1
      refine ⟨.inl ⟨rfl, fun i h1 h2 h3 => ?_⟩, ⟨?_, hgp, fun i h1 h2 => ?_⟩⟩
      · by_cases hi : i < c
        · exact hbad i h1 hi h3
        · exact hno i (by omega) (bad_chk h3)
      · rcases hgd with h1 | ⟨h1, h2⟩
        · exact .inl h1
        · exact .inr ⟨h1, hgp, .inl rfl⟩
      · by_cases hi : i < c
        · exact hgm i h1 h2.1 hi
        · exact absurd h1 (hno i (by omega))
    · have hfin : ¬ lg.fin < nx := by omega
      have hs2 : runF (seg lg.evs (pos - lg.base.idx).toNat (nx - pos).toNat) (sAt lg p pos) = sAt lg p nx := sAt_run h hp hpos (by omega)
      have hno : ∀ i, c ≤ i → i < nx → ¬ Chk lg i := by
        intro i hi hin hc
        rcases hmem i hi hc with ⟨k, h1, h2⟩ | ⟨k, h1, h2⟩
        · have := hgm2 k h1; omega
        · have := hgs2 k h1; omega
      have hnb : ∀ i, p.idx ≤ i → i < nx → ¬ Bad lg p i := by
        intro i h1 h2 h3
        by_cases hi : i < c
        · exact hbad i h1 hi h3
        · exact hno i (by omega) h2 (bad_chk h3)
      have hlast : IsLast lg p.idx nx good := by
        refine ⟨?_, hgp, fun i h1 h2 => ?_⟩
        · rcases hgd with h1 | ⟨h1, h2⟩
          · exact .inl h1
          · exact .inr ⟨h1, hgp, .inr (by omega)⟩
        · have hin : i < nx := by rcases h2.2 with h3 | h3 <;> omega
          by_cases hi : i < c
          · exact hgm i h1 h2.1 hi
          · exact absurd h1 (hno i (by omega) hin)
      rcases vm_spec (nx := nx) (dg := dig (sAt lg p nx).1) (mF lg c) hgm2 (h.msort.filter _) with ⟨hv, k, hk1, hk2, hk3⟩ | ⟨hv, hvm⟩
      · rw [vloop_mark hn hfin hs2 hv]
        exact ⟨.inr ⟨by show p.idx ≤ nx; omega, hnf, .inl ⟨k, (List.mem_filter.1 hk1).1, hk2, hk3⟩, hnb⟩, hlast⟩
      · rcases vs_spec (nx := nx) (s := sAt lg p nx) (sF lg c) hgs2 (h.ssort.filter _) with ⟨hv2, k, hk1, hk2, hk3⟩ | ⟨hv2, hvs⟩
        · rw [vloop_snap hn hfin hs2 hv hv2]
          exact ⟨.inr ⟨by show p.idx ≤ nx; omega, hnf, .inr ⟨k, (List.mem_filter.1 hk1).1, hk2, hk3⟩, hnb⟩, hlast⟩
        · rw [vloop_next hn hfin hs2 hv hv2, mF_mF lg (by omega), sF_sF lg (by omega)]
          have hlen : (mF lg (nx + 1)).length + (sF lg (nx + 1)).length < g := by
            have e1 := mF_mF lg (c := c) (d := nx + 1) (by omega)
            have e2 := sF_sF lg (c := c) (d := nx + 1) (by omega)
            have l1 := List.length_filter_le (fun k : Mk => decide (nx + 1 ≤ k.idx)) (mF lg c)
            have l2 := List.length_filter_le (fun k : Pt => decide (nx + 1 ≤ k.idx)) (sF lg c)
            rw [e1] at l1
            rw [e2] at l2
            rcases hat with ⟨k, h1, h2⟩ | ⟨k, h1, h2⟩
            · have := filter_lt (f := fun k : Mk => decide (nx + 1 ≤ k.idx)) h1 (by simp; omega)
              rw [e1] at this; omega
            · have := filter_lt (f := fun k : Pt => decide (nx + 1 ≤ k.idx)) h1 (by simp; omega)
              rw [e2] at this; omega
          refine vloop_law h hp hpf g (nx + 1) nx nx hlen (by omega) (by omega) (Int.le_refl _) ?_ (.inr ⟨hck, by omega⟩) (by omega) ?_
          · intro i h1 h2 h3
            by_cases hi : i < nx
            · exact hnb i h1 hi h3
            · have hin : i = nx := by omega
              subst hin
              rcases h3 with ⟨k, k1, k2, k3⟩ | ⟨k, k1, k2, k3⟩
              · exact k3 (hvm k (List.mem_filter.2 ⟨k1, by simp; omega⟩) k2)
              · exact k3 (hvs k (List.mem_filter.2 ⟨k1, by simp; omega⟩) k2)
          · intro i _ _ h3; omega

/-- The detector finds the first divergence, and the checkpoint before it. -/
theorem vfy_law {B : Int} {lg : Lg} (h : lg.wf B) {p : Pt} (hp : lg.base.idx ≤ p.idx) (hpf : p.idx ≤ lg.fin) : IsFD lg p (vfy lg p).at_ ∧ IsLast lg p.idx (vfy lg p).at_ (vfy lg p).good := by
  have hl : (mF lg p.idx).length + (sF lg p.idx).length < lg.mks.length + lg.sns.length + 1 := by
    have l1 : (mF lg p.idx).length ≤ lg.mks.length := List.length_filter_le (fun k : Mk => decide (p.idx ≤ k.idx)) lg.mks
    have l2 : (sF lg p.idx).length ≤ lg.sns.length := List.length_filter_le (fun k : Pt => decide (p.idx ≤ k.idx)) lg.sns
    omega
  have := vloop_law h hp hpf _ p.idx p.idx p.idx hl (Int.le_refl _) (Int.le_refl _) (by omega) (fun i h1 h2 => by omega) (.inl rfl) (Int.le_refl _) (fun i _ h1 h2 => by omega)
  rw [sAt_zero] at this
  unfold vfy
  rw [dropW_mk _ _ h.msort, dropW_pt _ _ h.ssort]
  exact this

/-! An edit of a log. -/

def edS (op : Opn) (q : Pt) : Pt := if op.m.tmod 2 = 0 then { q with st := { q.st with now := op.ev.arg } } else { q with out := { q.out with value := op.ev.arg } }

theorem edS_idx (op : Opn) (q : Pt) : (edS op q).idx = q.idx := by unfold edS; split <;> rfl

theorem edS_ok {op : Opn} {q : Pt} (h : q.st.ok) (he : op.ev.ok) : (edS op q).st.ok := by
  unfold edS
  split
  · exact { h with now := he.2.2 }
  · exact h

def tampR (lg : Lg) (op : Opn) : Lg :=
  if op.kind = 9 ∧ lg.base.idx ≤ op.n ∧ op.n < lg.fin then { lg with evs := lg.evs.set (op.n - lg.base.idx).toNat op.ev } else
  if op.kind = 10 ∧ 0 ≤ op.n ∧ op.n < lg.mks.length then { lg with mks := match lg.mks[op.n.toNat]? with | some k => lg.mks.set op.n.toNat { k with sum := op.ev.arg } | none => lg.mks } else
  if op.kind = 11 ∧ 0 ≤ op.n ∧ op.n < lg.sns.length then { lg with sns := match lg.sns[op.n.toNat]? with
    | some q => lg.sns.set op.n.toNat (edS op q)
    | none => lg.sns } else lg

theorem set_pair {α : Type} {R : α → α → Prop} {l : List α} {i : Nat} {x y : α} (h : l.Pairwise R) (hx : l[i]? = some x) (h1 : ∀ z, R z x → R z y) (h2 : ∀ z, R x z → R y z) : (l.set i y).Pairwise R := by
  rw [List.pairwise_iff_getElem] at h ⊢
  intro a b ha hb hab
  obtain ⟨hi, hxi⟩ := List.getElem?_eq_some_iff.1 hx
  have ha' : a < l.length := by simpa using ha
  have hb' : b < l.length := by simpa using hb
  have h0 := h a b ha' hb' hab
  rw [List.getElem_set, List.getElem_set]
  split
  · rename_i e1
    subst e1
    rw [hxi] at h0
    split
    · omega
    · exact h2 _ h0
  · split
    · rename_i e1
      subst e1
      rw [hxi] at h0
      exact h1 _ h0
    · exact h0

theorem set_all {α : Type} {P : α → Prop} {l : List α} {i : Nat} {y : α} (h : ∀ z ∈ l, P z) (hy : P y) : ∀ z ∈ l.set i y, P z := by
  intro z hz
  rcases List.mem_or_eq_of_mem_set hz with h1 | h1
  · exact h z h1
  · rw [h1]; exact hy

theorem tamp_wf {B : Int} {lg : Lg} {op : Opn} (h : lg.wf B) (he : op.ev.ok) : (tampR lg op).wf B := by
  unfold tampR
  split
  · have hf : ({ lg with evs := lg.evs.set (op.n - lg.base.idx).toNat op.ev } : Lg).fin = lg.fin := by simp [Lg.fin]
    refine ⟨h.b0, by rw [hf]; exact h.fin, ?_, h.mlen, h.slen, set_all h.evs he, h.bst, h.sst, ?_, ?_, h.ssort, h.msort⟩
    · show (lg.evs.set _ _).length ≤ 1000
      rw [List.length_set]; exact h.len
    · rw [hf]; exact h.sin
    · rw [hf]; exact h.min
  · split
    · cases hk : lg.mks[op.n.toNat]? with
      | none => exact h
      | some k =>
        refine ⟨h.b0, h.fin, h.len, ?_, h.slen, h.evs, h.bst, h.sst, h.sin, ?_, h.ssort, ?_⟩
        · show (lg.mks.set _ _).length ≤ 1000
          rw [List.length_set]; exact h.mlen
        · exact set_all h.min (h.min k (List.mem_of_getElem? hk))
        · exact set_pair h.msort hk (fun _ hz => hz) (fun _ hz => hz)
    · split
      · cases hk : lg.sns[op.n.toNat]? with
        | none => exact h
        | some q =>
          have hq := List.mem_of_getElem? hk
          refine ⟨h.b0, h.fin, h.len, h.mlen, ?_, h.evs, h.bst, ?_, ?_, h.min, ?_, h.msort⟩
          · show (lg.sns.set _ _).length ≤ 6
            rw [List.length_set]; exact h.slen
          · exact set_all h.sst (edS_ok (h.sst q hq) he)
          · refine set_all h.sin ?_
            show lg.base.idx ≤ (edS op q).idx ∧ (edS op q).idx ≤ lg.fin
            rw [edS_idx]
            exact h.sin q hq
          · refine set_pair h.ssort hk ?_ ?_
            · intro z hz; rw [edS_idx]; exact hz
            · intro z hz; rw [edS_idx]; exact hz
      · exact h

end Go.Rp
