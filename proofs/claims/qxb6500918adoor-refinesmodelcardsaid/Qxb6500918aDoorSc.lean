/-
  The model in memory: looks, and what each write leaves.
-/
import Derived.Test.Qxb6500918aDoorSb
namespace Go.Kn
open Go.Sx Go.Proofs.Qxb6500918aDoor

theorem sl_split {l : List (Nat × Nat)} {x : Nat} (hn : (sl l).Nodup) (hx : x ∈ sl l) : ∃ pre b post, l = pre ++ (x, b) :: post ∧ x ∉ sl pre ∧ x ∉ sl post := by
  obtain ⟨⟨x', b⟩, he, rfl⟩ := List.mem_map.1 hx
  obtain ⟨pre, post, rfl⟩ := List.append_of_mem he
  refine ⟨pre, b, post, rfl, ?_, ?_⟩
  · intro hq
    unfold sl at hn
    rw [List.map_append, List.nodup_append] at hn
    exact hn.2.2 x' hq x' (by simp) rfl
  · intro hq
    unfold sl at hn
    rw [List.map_append, List.nodup_append] at hn
    have := hn.2.1
    rw [List.map_cons, List.nodup_cons] at this
    exact this.1 hq

section
variable {mb : Nat} {Z : MZ} {R : MR} {a : AK} {C : CP} {w w' : World}

theorem MK.inj (h : MK Z R) {x y : Nat} (hx : x < 256) (hy : y < 256) (he : Z.ky x = Z.ky y) : x = y := by
  have h1 := h.kx x hx
  have h2 := h.kx y hy
  rw [he] at h1
  omega

theorem MK.ne0 (h : MK Z R) {x : Nat} (hx : x < 256) : Z.ky x ≠ ⟨0, 0⟩ := fun he => by
  have := h.kg x hx
  rw [he] at this
  exact absurd this (by decide)

theorem get_at (hk : MK Z R) {l : List (Nat × Nat)} {f : Nat × Nat → Mn} (hf : ∀ e, (f e).k = Z.ky e.1) (hn : (sl l).Nodup) (hl : ∀ x ∈ sl l, x < 256) {x : Nat} (hx : x ∈ sl l) :
    ∃ pre b post, l = pre ++ (x, b) :: post ∧ (∀ y ∈ pre.map f, y.k ≠ Z.ky x) ∧ x ∉ sl pre ∧ x ∉ sl post ∧ ∀ z, getV (l.map f) (Z.ky x) z = (f (x, b)).v ∧ (fnd (Z.ky x) (l.map f) 0).isSome = true := by
  obtain ⟨pre, b, post, e, h1, h2⟩ := sl_split hn hx
  have hp : ∀ y ∈ pre.map f, y.k ≠ Z.ky x := fun y hy hq => by
    obtain ⟨e', he', rfl⟩ := List.mem_map.1 hy
    rw [hf] at hq
    have hm : e'.1 ∈ sl pre := List.mem_map.2 ⟨e', he', rfl⟩
    have : e'.1 = x := hk.inj (hl _ (by rw [e]; exact List.mem_map.2 ⟨e', List.mem_append_left _ he', rfl⟩)) (hl x hx) hq
    exact h1 (by rw [← this]; exact hm)
  refine ⟨pre, b, post, e, hp, h1, h2, fun z => ?_⟩
  unfold getV
  rw [e, List.map_append, List.map_cons, fnd_mid (k := Z.ky x) hp (hf (x, b))]
  exact ⟨rfl, rfl⟩

theorem get_no {l : List (Nat × Nat)} {f : Nat × Nat → Mn} (hf : ∀ e, (f e).k = Z.ky e.1) {k : Rf} (hn : ∀ x ∈ sl l, Z.ky x ≠ k) : ∀ z, getV (l.map f) k z = z ∧ (fnd k (l.map f) 0).isSome = false := fun z => by
  have : fnd k (l.map f) 0 = none := fnd_none (fun y hy => by
    obtain ⟨e, he, rfl⟩ := List.mem_map.1 hy
    rw [hf]
    exact hn e.1 (List.mem_map.2 ⟨e, he, rfl⟩))
  unfold getV
  rw [this]
  exact ⟨rfl, rfl⟩

theorem getT (hk : MK Z R) {x : Nat} (hx : x ∈ sl Z.tl) (z : Value) : getV (Z.tl.map (tE Z)) (Z.ky x) z = .pointer (some ⟨Z.tp x, 0, none⟩) ∧ (fnd (Z.ky x) (Z.tl.map (tE Z)) 0).isSome = true := by
  obtain ⟨_, b, _, _, _, _, _, h⟩ := get_at hk (f := tE Z) (fun _ => rfl) hk.tn hk.tx hx
  exact h z
theorem getTn {k : Rf} (hn : ∀ x ∈ sl Z.tl, Z.ky x ≠ k) (z : Value) : getV (Z.tl.map (tE Z)) k z = z ∧ (fnd k (Z.tl.map (tE Z)) 0).isSome = false := get_no (fun _ => rfl) hn z
theorem getQ (hk : MK Z R) {i : Nat} (hi : i ∈ sl Z.ql) (z : Value) : getV (Z.ql.map (qE Z R a)) (Z.ky i) z = .slice (R.qo i) (kys Z (a.q (.w i))).length (R.qk i) ∧ (fnd (Z.ky i) (Z.ql.map (qE Z R a)) 0).isSome = true := by
  obtain ⟨_, b, _, _, _, _, _, h⟩ := get_at hk (f := qE Z R a) (fun _ => rfl) hk.qn hk.qx hi
  exact h z
theorem getQn {k : Rf} (hn : ∀ x ∈ sl Z.ql, Z.ky x ≠ k) (z : Value) : getV (Z.ql.map (qE Z R a)) k z = z ∧ (fnd k (Z.ql.map (qE Z R a)) 0).isSome = false := get_no (fun _ => rfl) hn z
theorem getW (h : MD0 mb Z R a C w) {i : Nat} (hi : i ∈ sl Z.ql) : getV (R.wl.map (wE Z a)) (Z.ky i) (.int .u64 0) = .int .u64 (a.word i) := by
  by_cases hw : i ∈ sl R.wl
  · obtain ⟨_, b, _, _, _, _, _, hh⟩ := get_at h.k (f := wE Z a) (fun _ => rfl) h.k.wn (fun x hx => h.k.wx x hx) hw
    exact (hh _).1
  · rw [h.w0 i hi hw]
    exact (get_no (fun _ => rfl) (fun x hx hq => hw (by rw [← h.k.inj (h.k.wx x hx) (h.k.qx i hi) hq]; exact hx)) _).1

/-! Writes -/

theorem MD0.m1 (h : MD0 mb Z R a C w) {a' : AK} (hb : w'.heap[mb]? = some (Blk.obj ⟨mdC Z R a', 104, false⟩)) (hf : Fr [mb] w w') (h1 : a'.th = a.th) (h2 : a'.q = a.q) (h3 : a'.word = a.word) : MD0 mb Z R a' C w' := by
  have kp : ∀ {l : MLoc}, l.ok Z → l ≠ .m → ∀ b ∈ locF mb Z R C l, w'.heap[b]? = w.heap[b]? := fun hl hne => h.keep (l0 := .m) trivial hl hne (fun b hb => hb) hf
  have eq1 : qE Z R a' = qE Z R a := by funext e; unfold qE; rw [h2]
  have eq2 : wE Z a' = wE Z a := by funext e; unfold wE; rw [h3]
  refine ⟨h.k, hb, ?_, fun x hx => ?_, ?_, fun i hi hho => ?_, ?_, fun p hp hho => ?_, h.hh, ?_, h.dj, ?_⟩
  · rw [kp (l := .t) trivial (by simp) Z.tb (by simp [locF])]; exact h.t
  · rw [kp (l := .th x) hx (by simp) (Z.tp x) (by simp [locF]), h1]; exact h.th x hx
  · rw [kp (l := .q) trivial (by simp) Z.qb (by simp [locF]), eq1]; exact h.q
  · have := Row.stable w w' (fun b hq => kp (l := .qr i) hi (by simp) b hq) (h.qr i hi hho)
    unfold rowQ; rw [h2]; exact this
  · rw [kp (l := .w) trivial (by simp) Z.wb (by simp [locF]), eq2]; exact h.wm
  · have := Row.stable w w' (fun b hq => kp (l := .rr p) hp (by simp) b hq) (h.rr p hp hho)
    unfold rowR; rw [h2]; exact this
  · exact CapAt.stable w w' (fun b hq => kp (l := .cp) trivial (by simp) b hq) h.cp
  · rw [h3]; exact h.w0

theorem MD0.setTh (h : MD0 mb Z R a C w) {x : Nat} (hx : x ∈ sl Z.tl) {y : Tcb} (hb : w'.heap[Z.tp x]? = some (Blk.obj ⟨thC y, 59, false⟩)) (hf : Fr [Z.tp x] w w') : MD0 mb Z R (a.setT x y) C w' := by
  have kp : ∀ {l : MLoc}, l.ok Z → l ≠ .th x → ∀ b ∈ locF mb Z R C l, w'.heap[b]? = w.heap[b]? := fun hl hne => h.keep (l0 := .th x) hx hl hne (fun b hb => hb) hf
  refine ⟨h.k, ?_, ?_, fun x' hx' => ?_, ?_, fun i hi hho => ?_, ?_, fun p hp hho => ?_, h.hh, ?_, h.dj, h.w0⟩
  · rw [kp (l := .m) trivial (by simp) mb (by simp [locF])]; exact h.m
  · rw [kp (l := .t) trivial (by simp) Z.tb (by simp [locF])]; exact h.t
  · by_cases e : x' = x
    · subst e
      rw [hb]
      show some (Blk.obj ⟨thC y, 59, false⟩) = some (Blk.obj ⟨thC (upd a.th x' y x'), 59, false⟩)
      rw [upd_same]
    · rw [kp (l := .th x') hx' (by simp [e]) (Z.tp x') (by simp [locF]), h.th x' hx']
      show some (Blk.obj ⟨thC (a.th x'), 59, false⟩) = some (Blk.obj ⟨thC (upd a.th x y x'), 59, false⟩)
      rw [upd_other _ _ e]
  · rw [kp (l := .q) trivial (by simp) Z.qb (by simp [locF])]; exact h.q
  · exact Row.stable w w' (fun b hq => kp (l := .qr i) hi (by simp) b hq) (h.qr i hi hho)
  · rw [kp (l := .w) trivial (by simp) Z.wb (by simp [locF])]; exact h.wm
  · exact Row.stable w w' (fun b hq => kp (l := .rr p) hp (by simp) b hq) (h.rr p hp hho)
  · exact CapAt.stable w w' (fun b hq => kp (l := .cp) trivial (by simp) b hq) h.cp

def MR.setR (R : MR) (p : Nat) (o : Option Addr) (c : Nat) (F : List Nat) : MR := { R with ro := upd R.ro p o, rk := upd R.rk p c, rF := upd R.rF p F, ho := none }
def MR.setQ (R : MR) (i : Nat) (o : Option Addr) (c : Nat) (F : List Nat) : MR := { R with qo := upd R.qo i o, qk := upd R.qk i c, qF := upd R.qF i F, ho := none }
def MR.hole (R : MR) : MLoc → MR
  | .rr p => { R with rF := upd R.rF p [], ho := some (.rr p) }
  | .qr i => { R with qF := upd R.qF i [], ho := some (.qr i) }
  | _ => R

theorem aq_same (a : AK) (L : QL) (xs : List Nat) : (a.setQ L xs).q L = xs := if_pos rfl
theorem aq_other (a : AK) {L L' : QL} (xs : List Nat) (h : L' ≠ L) : (a.setQ L xs).q L' = a.q L' := if_neg h

theorem locF_setR {p : Nat} {o : Option Addr} {c : Nat} {F : List Nat} {l : MLoc} (h : l ≠ .rr p) : locF mb Z (R.setR p o c F) C l = locF mb Z R C l := by
  cases l <;> try rfl
  rename_i p'
  show upd R.rF p F p' = R.rF p'
  exact upd_other _ _ (fun e => h (by rw [e]))
theorem locF_setR_same {p : Nat} {o : Option Addr} {c : Nat} {F : List Nat} : locF mb Z (R.setR p o c F) C (.rr p) = F := upd_same _ _ _
theorem locF_setQ {i : Nat} {o : Option Addr} {c : Nat} {F : List Nat} {l : MLoc} (h : l ≠ .qr i) : locF mb Z (R.setQ i o c F) C l = locF mb Z R C l := by
  cases l <;> try rfl
  rename_i i'
  show upd R.qF i F i' = R.qF i'
  exact upd_other _ _ (fun e => h (by rw [e]))
theorem locF_setQ_same {i : Nat} {o : Option Addr} {c : Nat} {F : List Nat} : locF mb Z (R.setQ i o c F) C (.qr i) = F := upd_same _ _ _

/-- Disjoint places, one of them with other blocks. -/
theorem dj_upd {L1 L2 : MLoc → List Nat} {ok : MLoc → Prop} (h : ∀ l l', ok l → ok l' → l ≠ l' → ∀ b ∈ L1 l, b ∉ L1 l') {l0 : MLoc} (hs : ∀ l, l ≠ l0 → L2 l = L1 l) (hd : ∀ l, ok l → l ≠ l0 → ∀ b ∈ L1 l, b ∉ L2 l0) : ∀ l l', ok l → ok l' → l ≠ l' → ∀ b ∈ L2 l, b ∉ L2 l' := by
  intro l l' hl hl' hne b hb hb'
  by_cases e : l = l0
  · subst e
    have e' : l' ≠ l := fun q => hne q.symm
    rw [hs l' e'] at hb'
    exact hd l' hl' e' b hb' hb
  · by_cases e' : l' = l0
    · subst e'
      rw [hs l e] at hb
      exact hd l hl e b hb hb'
    · rw [hs l e] at hb
      rw [hs l' e'] at hb'
      exact h l l' hl hl' hne b hb hb'

theorem MD0.setR (h : MD0 mb Z R a C w) {p : Nat} (hp : p < 8) (hho : R.ho = none ∨ R.ho = some (.rr p)) {o : Option Addr} {c : Nat} {F ys : List Nat} (hr : (rl rfC 39 2 (kys Z ys) o c F).at w) (hd : ∀ l : MLoc, l.ok Z → l ≠ .rr p → ∀ b ∈ locF mb Z R C l, b ∉ F)
    (hb : w'.heap[mb]? = some (Blk.obj ⟨mdC Z (R.setR p o c F) (a.setQ (.r p) ys), 104, false⟩)) (hf : Fr [mb] w w') : MD0 mb Z (R.setR p o c F) (a.setQ (.r p) ys) C w' := by
  have kp : ∀ {l : MLoc}, l.ok Z → l ≠ .m → ∀ b ∈ locF mb Z R C l, w'.heap[b]? = w.heap[b]? := fun hl hne => h.keep (l0 := .m) trivial hl hne (fun b hb => hb) hf
  have hor : ∀ l, l ≠ .rr p → R.ho ≠ some l := fun l hl hq => by
    rcases hho with h1 | h1
    · rw [h1] at hq; cases hq
    · rw [h1] at hq; simp at hq; exact hl hq.symm
  have eq1 : qE Z (R.setR p o c F) (a.setQ (.r p) ys) = qE Z R a := by
    funext e; unfold qE; rw [aq_other _ _ (by simp)]; rfl
  refine ⟨⟨h.k.tn, h.k.qn, h.k.wn, h.k.bq, h.k.tc, h.k.qc, h.k.tx, h.k.qx, h.k.wx, h.k.kx, h.k.kg, fun x hx => (h.k.wq x hx).imp id (fun hq => absurd hq (hor _ (by simp)))⟩, hb, ?_, fun x hx => ?_, ?_, fun i hi _ => ?_, ?_, fun p' hp' _ => ?_, (fun l hl => by cases hl), ?_, ?_, h.w0⟩
  · rw [kp (l := .t) trivial (by simp) Z.tb (by simp [locF])]; exact h.t
  · rw [kp (l := .th x) hx (by simp) (Z.tp x) (by simp [locF])]; exact h.th x hx
  · rw [kp (l := .q) trivial (by simp) Z.qb (by simp [locF]), eq1]; exact h.q
  · have := Row.stable w w' (fun b hq => kp (l := .qr i) hi (by simp) b hq) (h.qr i hi (hor _ (by simp)))
    unfold rowQ; rw [aq_other _ _ (by simp)]; exact this
  · rw [kp (l := .w) trivial (by simp) Z.wb (by simp [locF])]; exact h.wm
  · by_cases e : p' = p
    · subst e
      have h1 : (rl rfC 39 2 (kys Z ys) o c F).at w' := Row.fr hr hf (fun b hb hq => by
        simp at hq
        exact hd .m trivial (by simp) mb (by simp [locF]) (by rw [← hq]; exact hb))
      unfold rowR MR.setR
      rw [aq_same]
      dsimp only
      rw [upd_same, upd_same, upd_same]
      exact h1
    · have := Row.stable w w' (fun b hq => kp (l := .rr p') hp' (by simp) b hq) (h.rr p' hp' (hor _ (by simp [e])))
      unfold rowR MR.setR
      rw [aq_other _ _ (by simp [e])]
      dsimp only
      rw [upd_other _ _ e, upd_other _ _ e, upd_other _ _ e]
      exact this
  · exact CapAt.stable w w' (fun b hq => kp (l := .cp) trivial (by simp) b hq) h.cp
  · exact dj_upd (l0 := .rr p) h.dj (fun l hl => locF_setR hl) (fun l hl hne b hb => by rw [locF_setR_same]; exact hd l hl hne b hb)

theorem MD0.hole (h : MD0 mb Z R a C w) {l0 : MLoc} (hl0 : l0.ok Z) (hk : (∃ p, l0 = .rr p) ∨ ∃ i, l0 = .qr i) (hn : R.ho = none) (hf : Fr (locF mb Z R C l0) w w') : MD0 mb Z (R.hole l0) a C w' := by
  have kp : ∀ {l : MLoc}, l.ok Z → l ≠ l0 → ∀ b ∈ locF mb Z R C l, w'.heap[b]? = w.heap[b]? := fun hl hne => h.keep hl0 hl hne (fun b hb => hb) hf
  rcases hk with ⟨p, rfl⟩ | ⟨i0, rfl⟩
  · have hs : ∀ l, l ≠ .rr p → locF mb Z (R.hole (.rr p)) C l = locF mb Z R C l := fun l hl => by
      cases l <;> try rfl
      rename_i p'
      show upd R.rF p [] p' = R.rF p'
      exact upd_other _ _ (fun e => hl (by rw [e]))
    have hz : locF mb Z (R.hole (.rr p)) C (.rr p) = [] := upd_same _ _ _
    refine ⟨⟨h.k.tn, h.k.qn, h.k.wn, h.k.bq, h.k.tc, h.k.qc, h.k.tx, h.k.qx, h.k.wx, h.k.kx, h.k.kg, fun x hx => (h.k.wq x hx).imp id (fun hq => by rw [hn] at hq; cases hq)⟩, ?_, ?_, fun x hx => ?_, ?_, fun i hi _ => ?_, ?_, fun p' hp' hho => ?_, (fun l hl => ?_), ?_, ?_, h.w0⟩
    · rw [kp (l := .m) trivial (by simp) mb (by simp [locF])]; exact h.m
    · rw [kp (l := .t) trivial (by simp) Z.tb (by simp [locF])]; exact h.t
    · rw [kp (l := .th x) hx (by simp) (Z.tp x) (by simp [locF])]; exact h.th x hx
    · rw [kp (l := .q) trivial (by simp) Z.qb (by simp [locF])]; exact h.q
    · exact Row.stable w w' (fun b hq => kp (l := .qr i) hi (by simp) b hq) (h.qr i hi (by rw [hn]; simp))
    · rw [kp (l := .w) trivial (by simp) Z.wb (by simp [locF])]; exact h.wm
    · have e : p' ≠ p := fun e => hho (by rw [e]; rfl)
      have := Row.stable w w' (fun b hq => kp (l := .rr p') hp' (by simp [e]) b hq) (h.rr p' hp' (by rw [hn]; simp))
      unfold rowR MR.hole
      dsimp only
      rw [upd_other _ _ e]
      exact this
    · have e : MLoc.rr p = l := by
        have hl' : some (MLoc.rr p) = some l := hl
        simpa using hl'
      subst e; exact hz
    · exact CapAt.stable w w' (fun b hq => kp (l := .cp) trivial (by simp) b hq) h.cp
    · exact dj_upd (l0 := .rr p) h.dj hs (fun l hl hne b hb => by rw [hz]; simp)
  · have hs : ∀ l, l ≠ .qr i0 → locF mb Z (R.hole (.qr i0)) C l = locF mb Z R C l := fun l hl => by
      cases l <;> try rfl
      rename_i p'
      show upd R.qF i0 [] p' = R.qF p'
      exact upd_other _ _ (fun e => hl (by rw [e]))
    have hz : locF mb Z (R.hole (.qr i0)) C (.qr i0) = [] := upd_same _ _ _
    refine ⟨⟨h.k.tn, h.k.qn, h.k.wn, h.k.bq, h.k.tc, h.k.qc, h.k.tx, h.k.qx, h.k.wx, h.k.kx, h.k.kg, fun x hx => (h.k.wq x hx).imp id (fun hq => by rw [hn] at hq; cases hq)⟩, ?_, ?_, fun x hx => ?_, ?_, fun i hi hho => ?_, ?_, fun p' hp' _ => ?_, (fun l hl => ?_), ?_, ?_, h.w0⟩
    · rw [kp (l := .m) trivial (by simp) mb (by simp [locF])]; exact h.m
    · rw [kp (l := .t) trivial (by simp) Z.tb (by simp [locF])]; exact h.t
    · rw [kp (l := .th x) hx (by simp) (Z.tp x) (by simp [locF])]; exact h.th x hx
    · rw [kp (l := .q) trivial (by simp) Z.qb (by simp [locF])]; exact h.q
    · have e : i ≠ i0 := fun e => hho (by rw [e]; rfl)
      have := Row.stable w w' (fun b hq => kp (l := .qr i) hi (by simp [e]) b hq) (h.qr i hi (by rw [hn]; simp))
      unfold rowQ MR.hole
      dsimp only
      rw [upd_other _ _ e]
      exact this
    · rw [kp (l := .w) trivial (by simp) Z.wb (by simp [locF])]; exact h.wm
    · exact Row.stable w w' (fun b hq => kp (l := .rr p') hp' (by simp) b hq) (h.rr p' hp' (by rw [hn]; simp))
    · have e : MLoc.qr i0 = l := by
        have hl' : some (MLoc.qr i0) = some l := hl
        simpa using hl'
      subst e; exact hz
    · exact CapAt.stable w w' (fun b hq => kp (l := .cp) trivial (by simp) b hq) h.cp
    · exact dj_upd (l0 := .qr i0) h.dj hs (fun l hl hne b hb => by rw [hz]; simp)

theorem qE_upd {i b : Nat} {pre post : List (Nat × Nat)} {o : Option Addr} {c : Nat} {F ys : List Nat} (h1 : i ∉ sl pre) (h2 : i ∉ sl post) : (pre ++ (i, b) :: post).map (qE Z (R.setQ i o c F) (a.setQ (.w i) ys)) = pre.map (qE Z R a) ++ ⟨Z.ky i, .slice o (kys Z ys).length c, b⟩ :: post.map (qE Z R a) := by
  have key : ∀ l : List (Nat × Nat), i ∉ sl l → l.map (qE Z (R.setQ i o c F) (a.setQ (.w i) ys)) = l.map (qE Z R a) := fun l hl => List.map_congr_left (fun e he => by
    have hne : e.1 ≠ i := fun q => hl (by rw [← q]; exact List.mem_map.2 ⟨e, he, rfl⟩)
    unfold qE MR.setQ
    rw [aq_other _ _ (by simp [hne])]
    dsimp only
    rw [upd_other _ _ hne, upd_other _ _ hne])
  rw [List.map_append, List.map_cons, key pre h1, key post h2]
  congr 2
  unfold qE MR.setQ
  dsimp only
  rw [aq_same, upd_same, upd_same]

theorem MD0.setQ (h : MD0 mb Z R a C w) {i : Nat} (hi : i ∈ sl Z.ql) (hho : R.ho = none ∨ R.ho = some (.qr i)) {o : Option Addr} {c : Nat} {F ys : List Nat} (hr : (rl rfC 39 2 (kys Z ys) o c F).at w) (hd : ∀ l : MLoc, l.ok Z → l ≠ .qr i → ∀ b ∈ locF mb Z R C l, b ∉ F)
    (hb : w'.heap[Z.qb]? = some (mapO (Z.ql.map (qE Z (R.setQ i o c F) (a.setQ (.w i) ys))) Z.qc)) (hf : Fr [Z.qb] w w') : MD0 mb Z (R.setQ i o c F) (a.setQ (.w i) ys) C w' := by
  have kp : ∀ {l : MLoc}, l.ok Z → l ≠ .q → ∀ b ∈ locF mb Z R C l, w'.heap[b]? = w.heap[b]? := fun hl hne => h.keep (l0 := .q) trivial hl hne (fun b hb => hb) hf
  have hor : ∀ l, l ≠ .qr i → R.ho ≠ some l := fun l hl hq => by
    rcases hho with h1 | h1
    · rw [h1] at hq; cases hq
    · rw [h1] at hq; simp at hq; exact hl hq.symm
  have em : mdC Z (R.setQ i o c F) (a.setQ (.w i) ys) = mdC Z R a := by
    have e1 : slV Z (R.setQ i o c F) (a.setQ (.w i) ys) = slV Z R a := by
      funext p; unfold slV; rw [aq_other _ _ (by simp)]; rfl
    unfold mdC; rw [e1]; rfl
  refine ⟨⟨h.k.tn, h.k.qn, h.k.wn, h.k.bq, h.k.tc, h.k.qc, h.k.tx, h.k.qx, h.k.wx, h.k.kx, h.k.kg, fun x hx => (h.k.wq x hx).elim .inl (fun hq => .inl (by by_cases e : x = i; (rw [e]; exact hi); exact absurd hq (hor _ (fun q => e (by simpa using q)))))⟩, ?_, ?_, fun x hx => ?_, hb, fun i' hi' _ => ?_, ?_, fun p' hp' _ => ?_, (fun l hl => by cases hl), ?_, ?_, h.w0⟩
  · rw [kp (l := .m) trivial (by simp) mb (by simp [locF]), em]; exact h.m
  · rw [kp (l := .t) trivial (by simp) Z.tb (by simp [locF])]; exact h.t
  · rw [kp (l := .th x) hx (by simp) (Z.tp x) (by simp [locF])]; exact h.th x hx
  · by_cases e : i' = i
    · subst e
      have h1 : (rl rfC 39 2 (kys Z ys) o c F).at w' := Row.fr hr hf (fun b hb hq => by
        simp at hq
        exact hd .q trivial (by simp) Z.qb (by simp [locF]) (by rw [← hq]; exact hb))
      unfold rowQ MR.setQ
      rw [aq_same]
      dsimp only
      rw [upd_same, upd_same, upd_same]
      exact h1
    · have := Row.stable w w' (fun b hq => kp (l := .qr i') hi' (by simp) b hq) (h.qr i' hi' (hor _ (by simp [e])))
      unfold rowQ MR.setQ
      rw [aq_other _ _ (by simp [e])]
      dsimp only
      rw [upd_other _ _ e, upd_other _ _ e, upd_other _ _ e]
      exact this
  · rw [kp (l := .w) trivial (by simp) Z.wb (by simp [locF])]; exact h.wm
  · have := Row.stable w w' (fun b hq => kp (l := .rr p') hp' (by simp) b hq) (h.rr p' hp' (hor _ (by simp)))
    unfold rowR; rw [aq_other _ _ (by simp)]; exact this
  · exact CapAt.stable w w' (fun b hq => kp (l := .cp) trivial (by simp) b hq) h.cp
  · exact dj_upd (l0 := .qr i) h.dj (fun l hl => locF_setQ hl) (fun l hl hne b hb => by rw [locF_setQ_same]; exact hd l hl hne b hb)

/-- A word's entry, as it was or new. -/
def MR.putW (R : MR) (i : Nat) : MR := if i ∈ sl R.wl then R else { R with wl := R.wl ++ [(i, R.wc)], wc := R.wc + 1 }

theorem MD0.setW (h : MD0 mb Z R a C w) {i : Nat} (hi : i ∈ sl Z.ql) {v : Int} (hb : w'.heap[Z.wb]? = some (mapO ((R.putW i).wl.map (wE Z (a.setW i v))) (R.putW i).wc)) (hf : Fr [Z.wb] w w') : MD0 mb Z (R.putW i) (a.setW i v) C w' := by
  have kp : ∀ {l : MLoc}, l.ok Z → l ≠ .w → ∀ b ∈ locF mb Z R C l, w'.heap[b]? = w.heap[b]? := fun hl hne => h.keep (l0 := .w) trivial hl hne (fun b hb => hb) hf
  have e1 : (R.putW i).qo = R.qo ∧ (R.putW i).qk = R.qk ∧ (R.putW i).qF = R.qF ∧ (R.putW i).ro = R.ro ∧ (R.putW i).rk = R.rk ∧ (R.putW i).rF = R.rF ∧ (R.putW i).ho = R.ho := by
    unfold MR.putW; split <;> exact ⟨rfl, rfl, rfl, rfl, rfl, rfl, rfl⟩
  obtain ⟨q1, q2, q3, q4, q5, q6, q7⟩ := e1
  have hlF : ∀ l, locF mb Z (R.putW i) C l = locF mb Z R C l := fun l => by
    cases l <;> simp only [locF, q3, q6]
  have hwl : ∀ x, x ∈ sl (R.putW i).wl ↔ x ∈ sl R.wl ∨ x = i := fun x => by
    unfold MR.putW
    split
    · rename_i hm
      constructor
      · exact .inl
      · rintro (hq | hq)
        · exact hq
        · rw [hq]; exact hm
    · simp [sl]
  have hwn : (sl (R.putW i).wl).Nodup := by
    unfold MR.putW
    split
    · exact h.k.wn
    · rename_i hm
      show (List.map (·.1) (R.wl ++ [(i, R.wc)])).Nodup
      rw [List.map_append, List.nodup_append]
      refine ⟨h.k.wn, by simp, fun x hx y hy e => ?_⟩
      simp at hy
      exact hm (by rw [← hy, ← e]; exact hx)
  have em : mdC Z (R.putW i) (a.setW i v) = mdC Z R a := by
    have e1 : slV Z (R.putW i) (a.setW i v) = slV Z R a := by
      funext p; unfold slV; rw [q4, q5]; rfl
    unfold mdC; rw [e1]; rfl
  have eq : qE Z (R.putW i) (a.setW i v) = qE Z R a := by funext e; unfold qE; rw [q1, q2]; rfl
  refine ⟨⟨h.k.tn, h.k.qn, hwn, h.k.bq, h.k.tc, h.k.qc, h.k.tx, h.k.qx, ?_, h.k.kx, h.k.kg, fun x hx => ((hwl x).1 hx).elim (fun hq => by rw [q7]; exact h.k.wq x hq) (fun hq => .inl (by rw [hq]; exact hi))⟩, ?_, ?_, fun x hx => ?_, ?_, fun i' hi' hho => ?_, hb, fun p' hp' hho => ?_, (fun l hl => ?_), ?_, ?_, ?_⟩
  · intro x hx
    rcases (hwl x).1 hx with hq | hq
    · exact h.k.wx x hq
    · rw [hq]; exact h.k.qx i hi
  · rw [kp (l := .m) trivial (by simp) mb (by simp [locF]), em]; exact h.m
  · rw [kp (l := .t) trivial (by simp) Z.tb (by simp [locF])]; exact h.t
  · rw [kp (l := .th x) hx (by simp) (Z.tp x) (by simp [locF])]; exact h.th x hx
  · rw [kp (l := .q) trivial (by simp) Z.qb (by simp [locF]), eq]; exact h.q
  · rw [q7] at hho
    have := Row.stable w w' (fun b hq => kp (l := .qr i') hi' (by simp) b hq) (h.qr i' hi' hho)
    unfold rowQ; rw [q1, q2, q3]; exact this
  · rw [q7] at hho
    have := Row.stable w w' (fun b hq => kp (l := .rr p') hp' (by simp) b hq) (h.rr p' hp' hho)
    unfold rowR; rw [q4, q5, q6]; exact this
  · rw [q7] at hl; rw [hlF]; exact h.hh l hl
  · exact CapAt.stable w w' (fun b hq => kp (l := .cp) trivial (by simp) b hq) h.cp
  · intro l l' hl hl' hne b hb hb'
    rw [hlF] at hb hb'
    exact h.dj l l' hl hl' hne b hb hb'
  · intro x hx hnx
    have hne : x ≠ i := fun e => hnx ((hwl x).2 (.inr e))
    show upd a.word i v x = 0
    rw [upd_other _ _ hne]
    exact h.w0 x hx (fun hq => hnx ((hwl x).2 (.inl hq)))

theorem MD0.setC (h : MD0 mb Z R a C w) {C' : CP} (hc : CapAt w' Z.mo Z.mc Z.nd C') (hf : Fr (capF Z.mo Z.mc Z.nd C) w w') (hs : ∀ b ∈ capF Z.mo Z.mc Z.nd C', b ∈ capF Z.mo Z.mc Z.nd C ∨ w.heap.size ≤ b) : MD0 mb Z R a C' w' := by
  have kp : ∀ {l : MLoc}, l.ok Z → l ≠ .cp → ∀ b ∈ locF mb Z R C l, w'.heap[b]? = w.heap[b]? := fun hl hne => h.keep (l0 := .cp) trivial hl hne (fun b hb => hb) hf
  have hl : ∀ l, l ≠ .cp → locF mb Z R C' l = locF mb Z R C l := fun l hl => by
    cases l <;> first | rfl | exact absurd rfl hl
  refine ⟨h.k, ?_, ?_, fun x hx => ?_, ?_, fun i hi hho => ?_, ?_, fun p hp hho => ?_, fun l hq => ?_, hc, ?_, h.w0⟩
  · rw [kp (l := .m) trivial (by simp) mb (by simp [locF])]; exact h.m
  · rw [kp (l := .t) trivial (by simp) Z.tb (by simp [locF])]; exact h.t
  · rw [kp (l := .th x) hx (by simp) (Z.tp x) (by simp [locF])]; exact h.th x hx
  · rw [kp (l := .q) trivial (by simp) Z.qb (by simp [locF])]; exact h.q
  · exact Row.stable w w' (fun b hq => kp (l := .qr i) hi (by simp) b hq) (h.qr i hi hho)
  · rw [kp (l := .w) trivial (by simp) Z.wb (by simp [locF])]; exact h.wm
  · exact Row.stable w w' (fun b hq => kp (l := .rr p) hp (by simp) b hq) (h.rr p hp hho)
  · have hne : l ≠ .cp := fun e => by
      subst e
      have : capF Z.mo Z.mc Z.nd C = [] := h.hh .cp hq
      simp [capF] at this
    rw [hl l hne]; exact h.hh l hq
  · exact dj_upd (l0 := .cp) h.dj hl (fun l hok hne b hb => h.apart (l0 := .cp) trivial (Nat.le_refl _) hs hok hne b hb)

end

/-! The model carried through a walk -/

def MD (K : List Nat) (n0 mb : Nat) (Z : MZ) (R : MR) (a : AK) (C : CP) (w : World) : Prop := MD0 mb Z R a C w ∧ (∀ b ∈ mdF mb Z R C, (b ∈ K ∨ n0 ≤ b) ∧ b ≠ 3) ∧ 3 < n0

theorem MD.stable {K : List Nat} {n0 mb : Nat} {Z : MZ} {R : MR} {a : AK} {C : CP} : Stable (MD K n0 mb Z R a C) (mdF mb Z R C) := fun w w' hs h => ⟨MD0.stable w w' hs h.1, h.2⟩

abbrev MCx (n : Nat) (K : List Nat) (w0 : World) (mb : Nat) (Z : MZ) (R : MR) (a : AK) (C : CP) : Ctx := ⟨n, K, w0, MD K w0.heap.size mb Z R a C, mdF mb Z R C⟩

section
variable {n : Nat} {K : List Nat} {w0 : World} {mb : Nat} {Z : MZ} {R : MR} {a : AK} {C : CP} {w w' : World} {T : Slots} {L : Mem} {act : Act}

theorem _root_.Go.Sx.St.md (hst : St (MCx n K w0 mb Z R a C) T L act w) {Z' : MZ} {R' : MR} {a' : AK} {C' : CP} (h : MD0 mb Z' R' a' C' w') {M : List Nat} (hf : Fr M w w') (hM : ∀ b ∈ M, b ∈ mdF mb Z R C) (hF : ∀ b ∈ mdF mb Z' R' C', b ∈ mdF mb Z R C ∨ w.heap.size ≤ b) (hL : ∀ kb ∈ L, kb.2.ro = true → kb.1 = 3) :
    St (MCx n K w0 mb Z' R' a' C') T L act w' := by
  have hz := hst.frame.size
  have hz' : w0.heap.size ≤ w.heap.size := hz
  have h3 := hst.inv.2.2
  have h3' : 3 < w0.heap.size := h3
  have h2 : ∀ b ∈ mdF mb Z' R' C', (b ∈ K ∨ w0.heap.size ≤ b) ∧ b ≠ 3 := fun b hb => by
    rcases hF b hb with hq | hq
    · exact hst.inv.2.1 b hq
    · exact ⟨.inr (by omega), by omega⟩
  exact hst.callF hf hM (fun b hb => (hst.inv.2.1 b (hM b hb)).1) (fun kb hkb hro hq => (hst.inv.2.1 kb.1 (hM _ hq)).2 (hL kb hkb hro)) ⟨h, h2, h3⟩ MD.stable h.low hF

theorem mdF_sub1 {l0 : MLoc} (h0 : l0.ok Z) {M : List Nat} (hM : ∀ b ∈ M, b ∈ locF mb Z R C l0) : ∀ b ∈ M, b ∈ mdF mb Z R C := fun b hb => mem_mdF.2 ⟨l0, h0, hM b hb⟩

/-- The same places but one. -/
theorem mdF_upd {R' : MR} {C' : CP} {l0 : MLoc} {n : Nat} (hs : ∀ l, l ≠ l0 → locF mb Z R' C' l = locF mb Z R C l) (h0 : ∀ b ∈ locF mb Z R' C' l0, (b ∈ mdF mb Z R C) ∨ n ≤ b) : ∀ b ∈ mdF mb Z R' C', b ∈ mdF mb Z R C ∨ n ≤ b := fun b hb => by
  obtain ⟨l, hl, hb⟩ := mem_mdF.1 hb
  by_cases e : l = l0
  · subst e; exact h0 b hb
  · rw [hs l e] at hb
    exact .inl (mem_mdF.2 ⟨l, hl, hb⟩)

end
end Go.Kn
