/-
  Entries of the model's maps come and go; names anew.
-/
import Derived.Test.Qxb6500918aDoorUj
namespace Go.Kn
open Go.Sx Go.Proofs.Qxb6500918aDoor

def MZ.addT (Z : MZ) (o b : Nat) : MZ := { Z with tl := Z.tl ++ [(o, Z.tc)], tc := Z.tc + 1, tp := upd Z.tp o b }
def MZ.addQ (Z : MZ) (o : Nat) : MZ := { Z with ql := Z.ql ++ [(o, Z.qc)], qc := Z.qc + 1 }
def MZ.delT (Z : MZ) (o : Nat) : MZ := { Z with tl := Z.tl.filter (fun e => decide (e.1 ≠ o)) }
def MZ.delQ (Z : MZ) (o : Nat) : MZ := { Z with ql := Z.ql.filter (fun e => decide (e.1 ≠ o)) }
def MR.delW (R : MR) (o : Nat) : MR := { R with wl := R.wl.filter (fun e => decide (e.1 ≠ o)), ho := none }
def MR.addQ (R : MR) (o : Nat) : MR := { R with qo := upd R.qo o none, qk := upd R.qk o 0, qF := upd R.qF o [] }

theorem sl_add {l : List (Nat × Nat)} {o c x : Nat} : x ∈ sl (l ++ [(o, c)]) ↔ x ∈ sl l ∨ x = o := by simp [sl]
theorem sl_del {l : List (Nat × Nat)} {o x : Nat} : x ∈ sl (l.filter (fun e => decide (e.1 ≠ o))) ↔ x ∈ sl l ∧ x ≠ o := by
  unfold sl
  rw [List.mem_map, List.mem_map]
  constructor
  · rintro ⟨e, he, rfl⟩
    have := List.mem_filter.1 he
    exact ⟨⟨e, this.1, rfl⟩, by simpa using this.2⟩
  · rintro ⟨⟨e, he, rfl⟩, hne⟩
    exact ⟨e, List.mem_filter.2 ⟨he, by simpa using hne⟩, rfl⟩
theorem nodup_add {l : List (Nat × Nat)} {o c : Nat} (h : (sl l).Nodup) (ho : o ∉ sl l) : (sl (l ++ [(o, c)])).Nodup := by
  show (List.map (·.1) (l ++ [(o, c)])).Nodup
  rw [List.map_append, List.nodup_append]
  refine ⟨h, by simp, fun x hx y hy e => ?_⟩
  simp at hy
  exact ho (by rw [← hy, ← e]; exact hx)
theorem nodup_del {l : List (Nat × Nat)} {o : Nat} (h : (sl l).Nodup) : (sl (l.filter (fun e => decide (e.1 ≠ o)))).Nodup :=
  (List.filter_sublist.map _).nodup h

section
variable {mb : Nat} {Z : MZ} {R : MR} {a : AK} {C : CP} {w w' : World}

/-- Another shape of what stays: every place that is a place now was one, with the same blocks, or is new. -/
theorem MD0.addT (h : MD0 mb Z R a C w) {o b : Nat} (ho : o ∉ sl Z.tl) (ho2 : o < 256) (hb : w.heap[b]? = some (Blk.obj ⟨thC (a.th o), 59, false⟩)) (hbn : b ∉ mdF mb Z R C)
    (hw : w'.heap[Z.tb]? = some (mapO ((Z.addT o b).tl.map (tE (Z.addT o b))) (Z.addT o b).tc)) (hf : Fr [Z.tb] w w') : MD0 mb (Z.addT o b) R a C w' := by
  have kp : ∀ {l : MLoc}, l.ok Z → l ≠ .t → ∀ b ∈ locF mb Z R C l, w'.heap[b]? = w.heap[b]? := fun hl hne => h.keep (l0 := .t) trivial hl hne (fun b hb => hb) hf
  have hne : ∀ x ∈ sl Z.tl, x ≠ o := fun x hx e => ho (by rw [← e]; exact hx)
  have hok : ∀ l : MLoc, l.ok (Z.addT o b) → l ≠ .th o → l.ok Z := fun l hl hn => by
    cases l <;> try exact hl
    rename_i x
    rcases sl_add.1 hl with h1 | h1
    · exact h1
    · exact absurd (by rw [h1]) hn
  have hF : ∀ l, l ≠ .th o → locF mb (Z.addT o b) R C l = locF mb Z R C l := fun l hn => by
    cases l <;> try rfl
    rename_i x
    show [upd Z.tp o b x] = [Z.tp x]
    rw [upd_other _ _ (fun e => hn (by rw [e]))]
  have hFo : locF mb (Z.addT o b) R C (.th o) = [b] := by show [upd Z.tp o b o] = [b]; rw [upd_same]
  have hbt : b ≠ Z.tb := fun e => hbn (mem_mdF.2 ⟨.t, trivial, by rw [e]; simp [locF]⟩)
  refine ⟨⟨nodup_add h.k.tn ho, h.k.qn, h.k.wn, h.k.bq, ?_, h.k.qc, ?_, h.k.qx, h.k.wx, h.k.kx, h.k.kg, h.k.wq⟩, ?_, hw, fun x hx => ?_, ?_, fun i hi hho => ?_, ?_, fun p hp hho => ?_, fun l hl => ?_, ?_, ?_, h.w0⟩
  · intro e he
    rcases List.mem_append.1 he with h1 | h1
    · have := h.k.tc e h1; show e.2 < Z.tc + 1; omega
    · simp at h1; rw [h1]; show Z.tc < Z.tc + 1; omega
  · intro x hx
    rcases sl_add.1 hx with h1 | h1
    · exact h.k.tx x h1
    · rw [h1]; exact ho2
  · exact (kp (l := .m) trivial (by simp) mb (by simp [locF])).trans (h.m)
  · rcases sl_add.1 hx with h1 | h1
    · show w'.heap[upd Z.tp o b x]? = _
      rw [upd_other _ _ (hne x h1), kp (l := .th x) h1 (by simp) (Z.tp x) (by simp [locF])]; exact h.th x h1
    · subst h1
      show w'.heap[upd Z.tp x b x]? = _
      rw [upd_same, hf.block b (lt_of_heap hb) (by simpa using hbt)]; exact hb
  · exact (kp (l := .q) trivial (by simp) Z.qb (by simp [locF])).trans (h.q)
  · exact Row.stable w w' (fun b hq => kp (l := .qr i) hi (by simp) b hq) (h.qr i hi hho)
  · exact (kp (l := .w) trivial (by simp) Z.wb (by simp [locF])).trans (h.wm)
  · exact Row.stable w w' (fun b hq => kp (l := .rr p) hp (by simp) b hq) (h.rr p hp hho)
  · have hn : l ≠ .th o := fun e => by
      subst e
      have h1 := h.hh _ hl
      simp [locF] at h1
    rw [hF l hn]; exact h.hh l hl
  · exact CapAt.stable w w' (fun b hq => kp (l := .cp) trivial (by simp) b hq) h.cp
  · intro l l' hl hl' hne' c hc hc'
    by_cases e : l = .th o
    · subst e
      rw [hFo] at hc
      simp at hc
      have e' : l' ≠ .th o := fun q => hne' q.symm
      rw [hF l' e'] at hc'
      exact hbn (mem_mdF.2 ⟨l', hok l' hl' e', by rw [← hc]; exact hc'⟩)
    · by_cases e' : l' = .th o
      · subst e'
        rw [hFo] at hc'
        simp at hc'
        rw [hF l e] at hc
        exact hbn (mem_mdF.2 ⟨l, hok l hl e, by rw [← hc']; exact hc⟩)
      · rw [hF l e] at hc
        rw [hF l' e'] at hc'
        exact h.dj l l' (hok l hl e) (hok l' hl' e') hne' c hc hc'

theorem MD0.addQ (h : MD0 mb Z R a C w) {o : Nat} (ho : o ∉ sl Z.ql) (ho2 : o < 256) (hho : R.ho = none) (hq0 : a.q (.w o) = []) (hw0 : a.word o = 0)
    (hw : w'.heap[Z.qb]? = some (mapO ((Z.addQ o).ql.map (qE (Z.addQ o) (R.addQ o) a)) (Z.addQ o).qc)) (hf : Fr [Z.qb] w w') : MD0 mb (Z.addQ o) (R.addQ o) a C w' := by
  have kp : ∀ {l : MLoc}, l.ok Z → l ≠ .q → ∀ b ∈ locF mb Z R C l, w'.heap[b]? = w.heap[b]? := fun hl hne => h.keep (l0 := .q) trivial hl hne (fun b hb => hb) hf
  have hne : ∀ x ∈ sl Z.ql, x ≠ o := fun x hx e => ho (by rw [← e]; exact hx)
  have hok : ∀ l : MLoc, l.ok (Z.addQ o) → l ≠ .qr o → l.ok Z := fun l hl hn => by
    cases l <;> try exact hl
    rename_i x
    rcases sl_add.1 hl with h1 | h1
    · exact h1
    · exact absurd (by rw [h1]) hn
  have hF : ∀ l, l ≠ .qr o → locF mb (Z.addQ o) (R.addQ o) C l = locF mb Z R C l := fun l hn => by
    cases l <;> try rfl
    rename_i x
    show upd R.qF o [] x = R.qF x
    rw [upd_other _ _ (fun e => hn (by rw [e]))]
  have hFo : locF mb (Z.addQ o) (R.addQ o) C (.qr o) = [] := by show upd R.qF o [] o = []; rw [upd_same]
  refine ⟨⟨h.k.tn, nodup_add h.k.qn ho, h.k.wn, ?_, h.k.tc, ?_, h.k.tx, ?_, h.k.wx, h.k.kx, h.k.kg, fun x hx => (h.k.wq x hx).imp (fun hq => sl_add.2 (.inl hq)) id⟩, ?_, ?_, fun x hx => ?_, hw, fun i hi _ => ?_, ?_, fun p hp hho' => ?_, fun l hl => ?_, ?_, ?_, ?_⟩
  · show ((Z.ql ++ [(o, Z.qc)]).map (·.2)).Nodup
    rw [List.map_append, List.nodup_append]
    refine ⟨h.k.bq, by simp, fun x hx y hy e => ?_⟩
    simp at hy
    obtain ⟨e', he', rfl⟩ := List.mem_map.1 hx
    have := h.k.qc e' he'
    omega
  · intro e he
    rcases List.mem_append.1 he with h1 | h1
    · have := h.k.qc e h1; show e.2 < Z.qc + 1; omega
    · simp at h1; rw [h1]; show Z.qc < Z.qc + 1; omega
  · intro x hx
    rcases sl_add.1 hx with h1 | h1
    · exact h.k.qx x h1
    · rw [h1]; exact ho2
  · exact (kp (l := .m) trivial (by simp) mb (by simp [locF])).trans (h.m)
  · exact (kp (l := .t) trivial (by simp) Z.tb (by simp [locF])).trans (h.t)
  · exact (kp (l := .th x) hx (by simp) (Z.tp x) (by simp [locF])).trans (h.th x hx)
  · rcases sl_add.1 hi with h1 | h1
    · have := Row.stable w w' (fun b hq => kp (l := .qr i) h1 (by simp) b hq) (h.qr i h1 (by rw [hho]; simp))
      unfold rowQ MR.addQ
      dsimp only
      rw [upd_other _ _ (hne i h1), upd_other _ _ (hne i h1), upd_other _ _ (hne i h1)]
      exact this
    · subst h1
      unfold rowQ MR.addQ
      dsimp only
      rw [upd_same, upd_same, upd_same, hq0]
      exact rl_nil _ _ _ _
  · exact (kp (l := .w) trivial (by simp) Z.wb (by simp [locF])).trans (h.wm)
  · exact Row.stable w w' (fun b hq => kp (l := .rr p) hp (by simp) b hq) (h.rr p hp (by rw [hho]; simp))
  · have : (R.addQ o).ho = R.ho := rfl
    rw [this, hho] at hl; cases hl
  · exact CapAt.stable w w' (fun b hq => kp (l := .cp) trivial (by simp) b hq) h.cp
  · intro l l' hl hl' hne' c hc hc'
    by_cases e : l = .qr o
    · subst e; rw [hFo] at hc; cases hc
    · by_cases e' : l' = .qr o
      · subst e'; rw [hFo] at hc'; cases hc'
      · rw [hF l e] at hc
        rw [hF l' e'] at hc'
        exact h.dj l l' (hok l hl e) (hok l' hl' e') hne' c hc hc'
  · intro i hi hn
    rcases sl_add.1 hi with h1 | h1
    · exact h.w0 i h1 hn
    · rw [h1]; exact hw0

theorem MD0.delT (h : MD0 mb Z R a C w) {o : Nat} (hw : w'.heap[Z.tb]? = some (mapO ((Z.delT o).tl.map (tE Z)) Z.tc)) (hf : Fr [Z.tb] w w') : MD0 mb (Z.delT o) R a C w' := by
  have kp : ∀ {l : MLoc}, l.ok Z → l ≠ .t → ∀ b ∈ locF mb Z R C l, w'.heap[b]? = w.heap[b]? := fun hl hne => h.keep (l0 := .t) trivial hl hne (fun b hb => hb) hf
  have hok : ∀ l : MLoc, l.ok (Z.delT o) → l.ok Z := fun l hl => by
    cases l <;> try exact hl
    exact (sl_del.1 hl).1
  have hF : ∀ l, locF mb (Z.delT o) R C l = locF mb Z R C l := fun l => by cases l <;> rfl
  refine ⟨⟨nodup_del h.k.tn, h.k.qn, h.k.wn, h.k.bq, fun e he => h.k.tc e (List.mem_filter.1 he).1, h.k.qc, fun x hx => h.k.tx x (sl_del.1 hx).1, h.k.qx, h.k.wx, h.k.kx, h.k.kg, h.k.wq⟩, ?_, hw, fun x hx => ?_, ?_, fun i hi hho => ?_, ?_, fun p hp hho => ?_, fun l hl => by rw [hF]; exact h.hh l hl, ?_, ?_, h.w0⟩
  · exact (kp (l := .m) trivial (by simp) mb (by simp [locF])).trans (h.m)
  · have h1 := (sl_del.1 hx).1
    show w'.heap[Z.tp x]? = _
    rw [kp (l := .th x) h1 (by simp) (Z.tp x) (by simp [locF])]; exact h.th x h1
  · exact (kp (l := .q) trivial (by simp) Z.qb (by simp [locF])).trans (h.q)
  · exact Row.stable w w' (fun b hq => kp (l := .qr i) hi (by simp) b hq) (h.qr i hi hho)
  · exact (kp (l := .w) trivial (by simp) Z.wb (by simp [locF])).trans (h.wm)
  · exact Row.stable w w' (fun b hq => kp (l := .rr p) hp (by simp) b hq) (h.rr p hp hho)
  · exact CapAt.stable w w' (fun b hq => kp (l := .cp) trivial (by simp) b hq) h.cp
  · intro l l' hl hl' hne c hc hc'
    rw [hF] at hc hc'
    exact h.dj l l' (hok l hl) (hok l' hl') hne c hc hc'

theorem MD0.delQ (h : MD0 mb Z R a C w) {o : Nat} (hn : R.ho = none) (hw : w'.heap[Z.qb]? = some (mapO ((Z.delQ o).ql.map (qE Z R a)) Z.qc)) (hf : Fr [Z.qb] w w') : MD0 mb (Z.delQ o) (R.hole (.qr o)) a C w' := by
  have kp : ∀ {l : MLoc}, l.ok Z → l ≠ .q → ∀ b ∈ locF mb Z R C l, w'.heap[b]? = w.heap[b]? := fun hl hne => h.keep (l0 := .q) trivial hl hne (fun b hb => hb) hf
  have hok : ∀ l : MLoc, l.ok (Z.delQ o) → l.ok Z := fun l hl => by
    cases l <;> try exact hl
    exact (sl_del.1 hl).1
  have hnq : ∀ l : MLoc, l.ok (Z.delQ o) → l ≠ .qr o := fun l hl e => by
    subst e
    exact (sl_del.1 hl).2 rfl
  have hF : ∀ l, l ≠ .qr o → locF mb (Z.delQ o) (R.hole (.qr o)) C l = locF mb Z R C l := fun l hl => by
    cases l <;> try rfl
    rename_i x
    exact upd_other _ _ (fun e => hl (by rw [e]))
  refine ⟨⟨h.k.tn, nodup_del h.k.qn, h.k.wn, (List.filter_sublist.map _).nodup h.k.bq, h.k.tc, fun e he => h.k.qc e (List.mem_filter.1 he).1, h.k.tx, fun x hx => h.k.qx x (sl_del.1 hx).1, h.k.wx, h.k.kx, h.k.kg, fun x hx => ?_⟩, ?_, ?_, fun x hx => ?_, hw, fun i hi hho => ?_, ?_, fun p hp hho => ?_, fun l hl => ?_, ?_, ?_, fun i hi hn => h.w0 i (sl_del.1 hi).1 hn⟩
  · by_cases e : x = o
    · exact .inr (by rw [e]; rfl)
    · exact (h.k.wq x hx).elim (fun hq => .inl (sl_del.2 ⟨hq, e⟩)) (fun hq => by rw [hn] at hq; cases hq)
  · exact (kp (l := .m) trivial (by simp) mb (by simp [locF])).trans (h.m)
  · exact (kp (l := .t) trivial (by simp) Z.tb (by simp [locF])).trans (h.t)
  · exact (kp (l := .th x) hx (by simp) (Z.tp x) (by simp [locF])).trans (h.th x hx)
  · have h1 := (sl_del.1 hi).1
    have h2 := (sl_del.1 hi).2
    have := Row.stable w w' (fun b hq => kp (l := .qr i) h1 (by simp) b hq) (h.qr i h1 (by rw [hn]; simp))
    unfold rowQ MR.hole
    dsimp only
    rw [upd_other _ _ h2]
    exact this
  · exact (kp (l := .w) trivial (by simp) Z.wb (by simp [locF])).trans (h.wm)
  · exact Row.stable w w' (fun b hq => kp (l := .rr p) hp (by simp) b hq) (h.rr p hp (by rw [hn]; simp))
  · have e : MLoc.qr o = l := by
      have hl' : some (MLoc.qr o) = some l := hl
      simpa using hl'
    subst e
    exact upd_same _ _ _
  · exact CapAt.stable w w' (fun b hq => kp (l := .cp) trivial (by simp) b hq) h.cp
  · intro l l' hl hl' hne c hc hc'
    rw [hF l (hnq l hl)] at hc
    rw [hF l' (hnq l' hl')] at hc'
    exact h.dj l l' (hok l hl) (hok l' hl') hne c hc hc'

/-- The word's entry goes: of what is no queue. -/
theorem MD0.delW (h : MD0 mb Z R a C w) {o : Nat} (ho : o ∉ sl Z.ql) (hn : R.ho = some (.qr o)) {v : Int} (hw : w'.heap[Z.wb]? = some (mapO ((R.delW o).wl.map (wE Z (a.setW o v))) R.wc)) (hf : Fr [Z.wb] w w') : MD0 mb Z (R.delW o) (a.setW o v) C w' := by
  have kp : ∀ {l : MLoc}, l.ok Z → l ≠ .w → ∀ b ∈ locF mb Z R C l, w'.heap[b]? = w.heap[b]? := fun hl hne => h.keep (l0 := .w) trivial hl hne (fun b hb => hb) hf
  refine ⟨⟨h.k.tn, h.k.qn, nodup_del h.k.wn, h.k.bq, h.k.tc, h.k.qc, h.k.tx, h.k.qx, fun x hx => h.k.wx x (sl_del.1 hx).1, h.k.kx, h.k.kg, fun x hx => ?_⟩, ?_, ?_, fun x hx => ?_, ?_, fun i hi hho => ?_, hw, fun p hp hho => ?_, (fun l hl => by cases hl), ?_, h.dj, fun i hi hq => ?_⟩
  · rcases h.k.wq x (sl_del.1 hx).1 with hq | hq
    · exact .inl hq
    · rw [hn] at hq
      exact absurd (by simpa using hq.symm) (sl_del.1 hx).2
  · exact (kp (l := .m) trivial (by simp) mb (by simp [locF])).trans (h.m)
  · exact (kp (l := .t) trivial (by simp) Z.tb (by simp [locF])).trans (h.t)
  · exact (kp (l := .th x) hx (by simp) (Z.tp x) (by simp [locF])).trans (h.th x hx)
  · exact (kp (l := .q) trivial (by simp) Z.qb (by simp [locF])).trans (h.q)
  · refine Row.stable w w' (fun b hq => kp (l := .qr i) hi (by simp) b hq) (h.qr i hi ?_)
    rw [hn]
    intro e
    have e' : o = i := by simpa using e
    exact ho (by rw [e']; exact hi)
  · exact Row.stable w w' (fun b hq => kp (l := .rr p) hp (by simp) b hq) (h.rr p hp (by rw [hn]; simp))
  · exact CapAt.stable w w' (fun b hq => kp (l := .cp) trivial (by simp) b hq) h.cp
  · have hne : i ≠ o := fun e => ho (by rw [← e]; exact hi)
    show upd a.word o v i = 0
    rw [upd_other _ _ hne]
    exact h.w0 i hi (fun hz => hq (sl_del.2 ⟨hz, hne⟩))

/-- A block that no place names any more may turn: here only what a dead thread's block says. -/
theorem MD0.setDead (h : MD0 mb Z R a C w) {o : Nat} (ho : o ∉ sl Z.tl) (y : Tcb) : MD0 mb Z R (a.setT o y) C w := by
  refine ⟨h.k, h.m, h.t, fun x hx => ?_, h.q, h.qr, h.wm, h.rr, h.hh, h.cp, h.dj, h.w0⟩
  have hne : x ≠ o := fun e => ho (by rw [← e]; exact hx)
  show w.heap[Z.tp x]? = some (Blk.obj ⟨thC (upd a.th o y x), 59, false⟩)
  rw [upd_other _ _ hne]; exact h.th x hx

/-- New names for what is no entry. -/
theorem MD0.rekey (h : MD0 mb Z R a C w) {ky : Nat → Rf} (hx : ∀ x, x < 256 → (ky x).idx = (x : Int)) (hg : ∀ x, x < 256 → 1 ≤ (ky x).gen) (ht : ∀ x ∈ sl Z.tl, ky x = Z.ky x) (hq : ∀ x ∈ sl Z.ql, ky x = Z.ky x) (hw : ∀ x ∈ sl R.wl, ky x = Z.ky x)
    (hqm : ∀ i ∈ sl Z.ql, ∀ x ∈ a.q (.w i), x ∈ sl Z.tl) (hrm : ∀ p, p < 8 → ∀ x ∈ a.q (.r p), x ∈ sl Z.tl) (hcu : a.cur = -1 ∨ ∃ x ∈ sl Z.tl, a.cur = (x : Int)) : MD0 mb { Z with ky := ky } R a C w := by
  have hkq : ∀ i ∈ sl Z.ql, kys { Z with ky := ky } (a.q (.w i)) = kys Z (a.q (.w i)) := fun i hi => List.map_congr_left (fun x hx => ht x (hqm i hi x hx))
  have hkr : ∀ p, p < 8 → kys { Z with ky := ky } (a.q (.r p)) = kys Z (a.q (.r p)) := fun p hp => List.map_congr_left (fun x hx => ht x (hrm p hp x hx))
  have hcr : curR { Z with ky := ky } a = curR Z a := by
    unfold curR
    rcases hcu with e | ⟨x, h1, e⟩
    · rw [if_pos e, if_pos e]
    · rw [if_neg (by omega), if_neg (by omega), e, Int.toNat_natCast]; exact ht x h1
  refine ⟨⟨h.k.tn, h.k.qn, h.k.wn, h.k.bq, h.k.tc, h.k.qc, h.k.tx, h.k.qx, h.k.wx, hx, hg, h.k.wq⟩, ?_, ?_, h.th, ?_, fun i hi hho => ?_, ?_, fun p hp hho => ?_, ?_, h.cp, ?_, h.w0⟩
  · rw [h.m]
    have e1 : mdC { Z with ky := ky } R a = mdC Z R a := by
      unfold mdC mdU
      rw [hcr]
      rw [arr_ext (f := slV { Z with ky := ky } R a) (g := slV Z R a) (fun p hp => by unfold slV; rw [hkr p hp])]
      rfl
    rw [e1]
  · rw [h.t]
    have e1 : Z.tl.map (tE { Z with ky := ky }) = Z.tl.map (tE Z) := List.map_congr_left (fun e he => by unfold tE; dsimp only; rw [ht e.1 (List.mem_map.2 ⟨e, he, rfl⟩)])
    show _ = some (mapO (Z.tl.map (tE { Z with ky := ky })) Z.tc)
    rw [e1]
  · rw [h.q]
    have e1 : Z.ql.map (qE { Z with ky := ky } R a) = Z.ql.map (qE Z R a) := List.map_congr_left (fun e he => by
      have hm : e.1 ∈ sl Z.ql := List.mem_map.2 ⟨e, he, rfl⟩
      unfold qE; rw [hkq e.1 hm]; dsimp only; rw [hq e.1 hm])
    show _ = some (mapO (Z.ql.map (qE { Z with ky := ky } R a)) Z.qc)
    rw [e1]
  · have := h.qr i hi hho
    unfold rowQ at this ⊢
    rw [hkq i hi]; exact this
  · rw [h.wm]
    have e1 : R.wl.map (wE { Z with ky := ky } a) = R.wl.map (wE Z a) := List.map_congr_left (fun e he => by unfold wE; dsimp only; rw [hw e.1 (List.mem_map.2 ⟨e, he, rfl⟩)])
    rw [e1]
  · have := h.rr p hp hho
    unfold rowR at this ⊢
    rw [hkr p hp]; exact this
  · intro l hl
    have := h.hh l hl
    cases l <;> exact this
  · intro l l' hl hl' hne c hc hc'
    have e : ∀ l, locF mb { Z with ky := ky } R C l = locF mb Z R C l := fun l => by cases l <;> rfl
    rw [e] at hc hc'
    exact h.dj l l' (by cases l <;> exact hl) (by cases l' <;> exact hl') hne c hc hc'
end
end Go.Kn
