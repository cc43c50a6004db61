/-
  The dead are buried: the model's way and the kernel's lead to the same state.
-/
import Derived.Test.Qxb6500918aDoorWb
import Derived.Test.Qxb6500918aDoorWc
import Derived.Test.Qxb6500918aDoorUy
namespace Go.Proofs.Qxb6500918aDoor
open Go.Sx Go.Kn

section

noncomputable def nW (W : Nat → Prop) (x : Nat) : Bool := @decide (¬ W x) (Classical.propDecidable _)
theorem nW_iff {W : Nat → Prop} {x : Nat} : nW W x = true ↔ ¬ W x := by
  unfold nW
  exact @decide_eq_true_iff _ (Classical.propDecidable _)
theorem nW_eq {W W' : Nat → Prop} {x y : Nat} (h : W x ↔ W' y) : nW W x = nW W' y := by
  rw [Bool.eq_iff_iff, nW_iff, nW_iff, h]
theorem nW_no {W : Nat → Prop} {x : Nat} (h : W x) : nW W x = false := by
  cases hq : nW W x with
  | false => rfl
  | true => exact absurd h (nW_iff.1 hq)

theorem erase_filterK {l : List Nat} {x : Nat} {p : Nat → Bool} (h : p x = true) : (l.erase x).filter p = (l.filter p).erase x := by
  induction l with
  | nil => rfl
  | cons y r ih =>
    by_cases e : y = x
    · subst e; simp [h]
    · have e' : (y == x) = false := by simp [e]
      rw [List.erase_cons_tail (by simpa using e)]
      by_cases hp : p y = true
      · rw [List.filter_cons_of_pos hp, List.filter_cons_of_pos hp, List.erase_cons_tail (by simpa using e), ih]
      · rw [List.filter_cons_of_neg hp, List.filter_cons_of_neg hp, ih]

/-- Not touched by the model's waking: W. Dead and not yet buried: U. -/
structure RelK (U W : Nat → Prop) (a m : AK) : Prop where
  ab : ∃ S, Abs S a
  wu : ∀ x, W x → U x
  wx : ∀ x, W x → x < 256
  wd : m.word = a.word
  cu : m.cur = a.cur
  ir : m.irq = a.irq
  nw : m.now = a.now
  t0 : ∀ x, ¬ W x → m.th x = a.th x
  t1 : ∀ x, W x → (m.th x).st = 6 ∧ a.th x = { m.th x with st := 1, wait := ⟨0, 0⟩ }
  q0 : ∀ L : QL, L.ok → m.q L = (a.q L).filter (nW W)
  q1 : ∀ L : QL, ¬ L.ok → m.q L = a.q L

section
variable {U W : Nat → Prop} {a m : AK} {S : KP}

theorem abs_pl (h : Abs S a) {x : Nat} (hx : x < 256) : place (a.th x) = place (S.tcb x) := by rw [h.th x hx]; rfl
theorem abs_mem (h : Abs S a) {x : Nat} (hx : x < 256) {L : QL} (hL : L.ok) : x ∈ a.q L ↔ place (a.th x) = some L := by
  rw [abs_pl h hx]; exact h.li.lx.mem hL x hx
theorem abs_pok (h : Abs S a) {x : Nat} (hx : x < 256) {L : QL} (hp : place (a.th x) = some L) : L.ok := by
  rw [abs_pl h hx] at hp; exact place_ok h.ri hx hp
theorem abs_pr (h : Abs S a) {x : Nat} (hx : x < 256) : (QL.r (a.th x).prio.toNat).ok := by
  have := (h.ri.t hx).pr
  rw [h.th x hx]
  show (S.tcb x).prio.toNat < 8
  omega

theorem RelK.start (h : Abs S a) (U : Nat → Prop) : RelK U (fun _ => False) a a :=
  ⟨⟨S, h⟩, fun _ h => h.elim, fun _ h => h.elim, rfl, rfl, rfl, rfl, fun _ _ => rfl, fun _ h => h.elim, fun _ _ => (List.filter_eq_self.2 (fun _ _ => nW_iff.2 id)).symm, fun _ _ => rfl⟩

theorem RelK.done (h : RelK U W a m) (hU : ∀ x, ¬ U x) : m = a := by
  have hW : ∀ x, ¬ W x := fun x hx => hU x (h.wu x hx)
  have e1 : m.th = a.th := funext fun x => h.t0 x (hW x)
  have e2 : m.q = a.q := funext fun L => by
    by_cases hL : L.ok
    · rw [h.q0 L hL, List.filter_eq_self]
      intro x _
      exact nW_iff.2 (hW x)
    · exact h.q1 L hL
  have e3 := h.wd
  have e4 := h.cu
  have e5 := h.ir
  have e6 := h.nw
  cases m; cases a
  simp only at e1 e2 e3 e4 e5 e6
  subst e1 e2 e3 e4 e5 e6
  rfl

theorem qcut_no {Q : QL → List Nat} {pl : Option QL} {x : Nat} {L : QL} (h : pl ≠ some L) : qCut Q pl x L = Q L := if_neg h
theorem qcut_yes {Q : QL → List Nat} {x : Nat} {L : QL} : qCut Q (some L) x L = (Q L).erase x := if_pos rfl

theorem RelK.cut (h : RelK U W a m) {x : Nat} (hW : ¬ W x) (pl : Option QL) : ∀ L : QL, L.ok → qCut m.q pl x L = (qCut a.q pl x L).filter (nW W) := fun L hL => by
  unfold qCut
  split
  · rw [h.q0 L hL, erase_filterK]
    exact nW_iff.2 hW
  · exact h.q0 L hL

/-- Both wake a thread that they hold alike. -/
theorem RelK.wake (h : RelK U W a m) {x : Nat} (hx : x < 256) (hW : ¬ W x) : RelK U W (wakeA a x) (wakeA m x) := by
  obtain ⟨S, ab⟩ := h.ab
  have e := h.t0 x hW
  have hpr := abs_pr ab hx
  refine ⟨⟨_, by have := ab.wake (t := (x : Int)) ⟨by omega, by omega⟩; rw [Int.toNat_natCast] at this; exact this⟩, h.wu, h.wx, h.wd, ?_, h.ir, h.nw, fun y hy => ?_, fun y hy => ?_, fun L hL => ?_, fun L hL => ?_⟩
  · show (if (m.th x).st = 2 then -1 else m.cur) = if (a.th x).st = 2 then -1 else a.cur
    rw [e, h.cu]
  · show upd m.th x _ y = upd a.th x _ y
    by_cases e2 : y = x
    · subst e2; rw [upd_same, upd_same, e]
    · rw [upd_other _ _ e2, upd_other _ _ e2]; exact h.t0 y hy
  · have e2 : y ≠ x := fun q => hW (by rw [← q]; exact hy)
    show (upd m.th x _ y).st = 6 ∧ upd a.th x _ y = { upd m.th x _ y with st := 1, wait := ⟨0, 0⟩ }
    rw [upd_other _ _ e2, upd_other _ _ e2]; exact h.t1 y hy
  · show qPush (qCut m.q (place (m.th x)) x) (.r (m.th x).prio.toNat) x L = (qPush (qCut a.q (place (a.th x)) x) (.r (a.th x).prio.toNat) x L).filter _
    rw [e]
    unfold qPush
    split
    · rw [List.filter_append, h.cut hW _ L hL, List.filter_cons_of_pos (nW_iff.2 hW), List.filter_nil]
    · exact h.cut hW _ L hL
  · show qPush (qCut m.q (place (m.th x)) x) (.r (m.th x).prio.toNat) x L = qPush (qCut a.q (place (a.th x)) x) (.r (a.th x).prio.toNat) x L
    rw [e]
    unfold qPush
    rw [if_neg (fun q => hL (by rw [q]; exact hpr)), if_neg (fun q => hL (by rw [q]; exact hpr)), qcut_no (fun q => hL (abs_pok ab hx q)), qcut_no (fun q => hL (abs_pok ab hx q))]
    exact h.q1 L hL

theorem place_6 {t : Tcb} (h : t.st = 6) : place t = none := by unfold place; rw [h]; simp

/-- Only the kernel wakes a dead thread. -/
theorem RelK.wakeU (h : RelK U W a m) {x : Nat} (hx : x < 256) (hU : U x) (hW : ¬ W x) (h6 : (a.th x).st = 6) : RelK U (fun y => W y ∨ y = x) (wakeA a x) m := by
  obtain ⟨S, ab⟩ := h.ab
  have e := h.t0 x hW
  have hpl := place_6 h6
  refine ⟨⟨_, by have := ab.wake (t := (x : Int)) ⟨by omega, by omega⟩; rw [Int.toNat_natCast] at this; exact this⟩, fun y hy => ?_, fun y hy => ?_, h.wd, ?_, h.ir, h.nw, fun y hy => ?_, fun y hy => ?_, fun L hL => ?_, fun L hL => ?_⟩
  · rcases hy with hy | hy
    · exact h.wu y hy
    · rw [hy]; exact hU
  · rcases hy with hy | hy
    · exact h.wx y hy
    · rw [hy]; exact hx
  · show m.cur = if (a.th x).st = 2 then -1 else a.cur
    rw [h6, if_neg (by decide), h.cu]
  · show m.th y = upd a.th x _ y
    rw [upd_other _ _ (fun q => hy (.inr q))]
    exact h.t0 y (fun q => hy (.inl q))
  · by_cases e2 : y = x
    · subst e2
      refine ⟨by rw [e]; exact h6, ?_⟩
      show upd a.th y _ y = _
      rw [upd_same, e]
    · show (m.th y).st = 6 ∧ upd a.th x _ y = _
      rw [upd_other _ _ e2]
      exact h.t1 y (hy.resolve_right e2)
  · have hnm : x ∉ a.q L := fun q => by
      have := (abs_mem ab hx hL).1 q
      rw [hpl] at this; cases this
    have hfl : (a.q L).filter (nW (fun y => W y ∨ y = x)) = (a.q L).filter (nW W) := by
      apply List.filter_congr
      intro y hy
      have : y ≠ x := fun q => hnm (by rw [← q]; exact hy)
      exact nW_eq ⟨fun q => q.resolve_right this, .inl⟩
    show m.q L = (qPush (qCut a.q (place (a.th x)) x) (.r (a.th x).prio.toNat) x L).filter _
    rw [hpl, h.q0 L hL]
    unfold qPush
    rw [qcut_no (by simp)]
    split
    · rw [List.filter_append, hfl, List.filter_cons_of_neg (by rw [nW_no (W := fun y => W y ∨ y = x) (x := x) (.inr rfl)]; simp), List.filter_nil, List.append_nil]
    · rw [hfl]
  · show m.q L = qPush (qCut a.q (place (a.th x)) x) (.r (a.th x).prio.toNat) x L
    rw [hpl]
    unfold qPush
    rw [if_neg (fun q => hL (by rw [q]; exact abs_pr ab hx)), qcut_no (by simp)]
    exact h.q1 L hL

/-- A dead thread is taken away. -/
theorem RelK.reset (h : RelK U W a m) {x : Nat} (hx : x < 256) : RelK (fun y => U y ∧ y ≠ x) (fun y => W y ∧ y ≠ x) ((leaveA a x).setT x (unl noT)) ((leaveA m x).setT x (unl noT)) := by
  obtain ⟨S, ab⟩ := h.ab
  have hst : (m.th x).st = 2 ↔ (a.th x).st = 2 := by
    by_cases hW : W x
    · obtain ⟨h1, h2⟩ := h.t1 x hW
      rw [h2, h1]
      show (6 : Int) = 2 ↔ (1 : Int) = 2
      decide
    · rw [h.t0 x hW]
  refine ⟨⟨_, by have := ab.reset (i := (x : Int)) ⟨by omega, by omega⟩; rw [Int.toNat_natCast] at this; exact this⟩, fun y hy => ⟨h.wu y hy.1, hy.2⟩, fun y hy => h.wx y hy.1, h.wd, ?_, h.ir, h.nw, fun y hy => ?_, fun y hy => ?_, fun L hL => ?_, fun L hL => ?_⟩
  · show (if (m.th x).st = 2 then -1 else m.cur) = if (a.th x).st = 2 then -1 else a.cur
    rw [h.cu]
    by_cases e : (a.th x).st = 2
    · rw [if_pos e, if_pos (hst.2 e)]
    · rw [if_neg e, if_neg (fun q => e (hst.1 q))]
  · show upd (upd m.th x _) x _ y = upd (upd a.th x _) x _ y
    by_cases e2 : y = x
    · subst e2; rw [upd_same, upd_same]
    · rw [upd_other _ _ e2, upd_other _ _ e2, upd_other _ _ e2, upd_other _ _ e2]
      exact h.t0 y (fun q => hy ⟨q, e2⟩)
  · show (upd (upd m.th x _) x _ y).st = 6 ∧ upd (upd a.th x _) x _ y = { upd (upd m.th x _) x _ y with st := 1, wait := ⟨0, 0⟩ }
    rw [upd_other _ _ hy.2, upd_other _ _ hy.2, upd_other _ _ hy.2, upd_other _ _ hy.2]
    exact h.t1 y hy.1
  · show qCut m.q (place (m.th x)) x L = (qCut a.q (place (a.th x)) x L).filter _
    by_cases hW : W x
    · obtain ⟨h1, h2⟩ := h.t1 x hW
      rw [place_6 h1, qcut_no (by simp), h.q0 L hL]
      have hp1 : place (a.th x) = some (.r (a.th x).prio.toNat) := by
        rw [h2]; unfold place; simp
      rw [hp1]
      unfold qCut
      split
      · have hnd : (a.q L).Nodup := (ab.li.lx.ch hL).nd
        rw [List.Nodup.erase_eq_filter hnd, List.filter_filter]
        apply List.filter_congr
        intro y _
        by_cases e2 : y = x
        · subst e2
          rw [nW_no hW]
          simp
        · rw [nW_eq (W := fun y => W y ∧ y ≠ x) (W' := W) (x := y) (y := y) ⟨fun q => q.1, fun q => ⟨q, e2⟩⟩]
          simp [e2]
      · rename_i hne
        apply List.filter_congr
        intro y hy
        have : y ≠ x := fun q => hne (by rw [← hp1]; exact (abs_mem ab hx hL).1 (by rw [← q]; exact hy))
        exact (nW_eq (W := fun y => W y ∧ y ≠ x) (W' := W) (x := y) (y := y) ⟨fun q => q.1, fun q => ⟨q, this⟩⟩).symm
    · have e3 : nW (fun y => W y ∧ y ≠ x) = nW W := by
        funext y
        exact nW_eq ⟨fun q => q.1, fun q => ⟨q, fun e => hW (by rw [← e]; exact q)⟩⟩
      rw [e3, h.t0 x hW]
      exact h.cut hW _ L hL
  · show qCut m.q (place (m.th x)) x L = qCut a.q (place (a.th x)) x L
    rw [qcut_no (pl := place (a.th x)) (fun q => hL (abs_pok ab hx q)), qcut_no]
    · exact h.q1 L hL
    · intro q
      by_cases hW : W x
      · rw [place_6 (h.t1 x hW).1] at q; cases q
      · rw [h.t0 x hW] at q; exact hL (abs_pok ab hx q)

theorem RelK.setW (h : RelK U W a m) {i : Nat} (v : Int) : RelK U W (a.setW i v) (m.setW i v) := by
  obtain ⟨S, ab⟩ := h.ab
  exact ⟨⟨_, ab.setWord v⟩, h.wu, h.wx, by show upd m.word i v = upd a.word i v; rw [h.wd], h.cu, h.ir, h.nw, h.t0, h.t1, h.q0, h.q1⟩

/-- The live, and the dead, as the model tells them. -/
structure DZK (Z : MZ) (E : Nat → Ent) (U : Nat → Prop) (a : AK) : Prop where
  liv : ∀ n : Nat, n < 256 → ¬ U n → (a.th n).st ≠ 0 → n ∈ sl Z.tl ∧ Z.ky n = refAtP E (n : Int)
  ded : ∀ n, U n → Z.ky n ≠ refAtP E (n : Int)

variable {Z : MZ} {E : Nat → Ent}

theorem DZK.wake (h : DZK Z E U a) {x : Nat} (hs : (a.th x).st ≠ 0) : DZK Z E U (wakeA a x) := by
  refine ⟨fun n hn hU hq => h.liv n hn hU ?_, h.ded⟩
  by_cases e : n = x
  · rw [e]; exact hs
  · rwa [wake_tho' e] at hq

theorem wakeRep_rel {o : Rf} (hR : RelK U W a m) (hD : DZK Z E U a) : ∀ n, n ≤ 256 → ∃ W', RelK U W' (wakeRepA a o n) (wakeM Z E m o n) ∧ DZK Z E U (wakeRepA a o n)
  | 0, _ => ⟨W, hR, hD⟩
  | n + 1, hn => by
    obtain ⟨W', h1, h2⟩ := wakeRep_rel (o := o) hR hD n (by omega)
    have hn' : n < 256 := by omega
    rw [wakeRepA, wakeM]
    generalize wakeRepA a o n = a1 at h1 h2
    generalize wakeM Z E m o n = m1 at h1
    by_cases hk : (a1.th n).st = 6 ∧ (a1.th n).wait = o
    · rw [if_pos hk]
      have hW : ¬ W' n := fun q => by
        have := (h1.t1 n q).2
        rw [this] at hk
        exact absurd hk.1 (by show (1 : Int) ≠ 6; decide)
      have h0 : (a1.th n).st ≠ 0 := by rw [hk.1]; decide
      by_cases hU : U n
      · rw [if_neg (fun q => h2.ded n hU q.2.1)]
        exact ⟨_, h1.wakeU hn' hU hW hk.1, h2.wake h0⟩
      · have h3 := h2.liv n hn' hU h0
        rw [if_pos ⟨h3.1, h3.2, by rw [h1.t0 n hW]; exact hk.1, by rw [h1.t0 n hW]; exact hk.2⟩]
        exact ⟨_, h1.wake hn' hW, h2.wake h0⟩
    · rw [if_neg hk, if_neg]
      · exact ⟨_, h1, h2⟩
      · rintro ⟨q1, q2, q3, q4⟩
        by_cases hW : W' n
        · exact h2.ded n (h1.wu n hW) q2
        · rw [h1.t0 n hW] at q3 q4
          exact hk ⟨q3, q4⟩

theorem wakes_rel : ∀ (xs : List Nat) {a m : AK}, RelK U W a m → DZK Z E U a → (∀ x ∈ xs, x < 256 ∧ ¬ W x ∧ (a.th x).st ≠ 0) → RelK U W (xs.foldl wakeA a) (xs.foldl wakeA m) ∧ DZK Z E U (xs.foldl wakeA a)
  | [], _, _, h1, h2, _ => ⟨h1, h2⟩
  | x :: r, a, m, h1, h2, h3 => by
    have hx := h3 x (by simp)
    refine wakes_rel r (h1.wake hx.1 hx.2.1) (h2.wake hx.2.2) (fun y hy => ?_)
    have hy' := h3 y (List.mem_cons_of_mem _ hy)
    refine ⟨hy'.1, hy'.2.1, ?_⟩
    by_cases e : y = x
    · subst e; rw [wake_tht]; show (1 : Int) ≠ 0; decide
    · rw [wake_tho' e]; exact hy'.2.2

/-- One of the dead is buried. -/
theorem bury_rel (hR : RelK U W a m) (hD : DZK Z E U a) {c : Cp} (hc : 2 ≤ c.ty ∧ c.ty < 6 ∧ 0 ≤ c.obj.idx ∧ c.obj.idx < 256) :
    ∃ W', RelK (fun y => U y ∧ (c.ty = 3 → y ≠ c.obj.idx.toNat)) W' (buryA a c) (forgetM E (Z, m) c).2 ∧ DZK (forgetM E (Z, m) c).1 E (fun y => U y ∧ (c.ty = 3 → y ≠ c.obj.idx.toNat)) (buryA a c) := by
  have hi : c.obj.idx.toNat < 256 := by omega
  unfold buryA forgetM
  dsimp only
  by_cases h3 : c.ty = 3
  · rw [if_pos h3, if_pos h3]
    have eU : (fun y => U y ∧ (c.ty = 3 → y ≠ c.obj.idx.toNat)) = (fun y => U y ∧ y ≠ c.obj.idx.toNat) := by
      funext y; simp [h3]
    rw [eU]
    refine wakeRep_rel (Z := Z.delT c.obj.idx.toNat) (E := E) (o := c.obj) (hR.reset hi) ⟨fun n hn hU hq => ?_, fun n hn => hD.ded n hn.1⟩ 256 (Nat.le_refl _)
    by_cases e : n = c.obj.idx.toNat
    · exfalso
      apply hq
      show (upd (upd a.th c.obj.idx.toNat _) c.obj.idx.toNat (unl noT) n).st = 0
      rw [e, upd_same]; rfl
    · have hq' : (a.th n).st ≠ 0 := by
        have hq2 : (upd (upd a.th c.obj.idx.toNat { a.th c.obj.idx.toNat with st := 0, wait := ⟨0, 0⟩ }) c.obj.idx.toNat (unl noT) n).st ≠ 0 := hq
        rwa [upd_other _ _ e, upd_other _ _ e] at hq2
      have h1 := hD.liv n hn (fun q => hU ⟨q, e⟩) hq'
      exact ⟨sl_del.2 ⟨h1.1, e⟩, h1.2⟩
  · have eU : (fun y => U y ∧ (c.ty = 3 → y ≠ c.obj.idx.toNat)) = U := by
      funext y; simp [h3]
    rw [eU, if_neg h3, if_neg h3]
    by_cases h4 : c.ty = 4 ∨ c.ty = 5
    · rw [if_pos h4, if_pos h4]
      obtain ⟨S, ab⟩ := hR.ab
      have hok : (QL.w c.obj.idx.toNat).ok := hi
      have hpx : ∀ x ∈ a.q (.w c.obj.idx.toNat), x < 256 ∧ ¬ W x ∧ (a.th x).st ≠ 0 := fun x hx => by
        have hx2 := (ab.li.lx.ch hok).lt x hx
        have hp := (abs_mem ab hx2 hok).1 hx
        refine ⟨hx2, fun q => ?_, fun q => ?_⟩
        · rw [(hR.t1 x q).2] at hp
          unfold place at hp
          simp at hp
        · unfold place at hp
          rw [q] at hp
          simp at hp
      have eq : m.q (.w c.obj.idx.toNat) = a.q (.w c.obj.idx.toNat) := by
        rw [hR.q0 _ hok, List.filter_eq_self]
        intro x hx
        exact nW_iff.2 (hpx x hx).2.1
      rw [eq]
      have h1 := wakes_rel _ hR hD hpx
      exact ⟨W, h1.1.setW 0, ⟨h1.2.liv, h1.2.ded⟩⟩
    · rw [if_neg h4, if_neg h4]
      exact ⟨W, hR, hD⟩

theorem buryAll_rel : ∀ (l : List Cp) {U W : Nat → Prop} {a m : AK} {Z : MZ}, RelK U W a m → DZK Z E U a → (∀ c ∈ l, 2 ≤ c.ty ∧ c.ty < 6 ∧ 0 ≤ c.obj.idx ∧ c.obj.idx < 256) → (∀ x, U x → ∃ c ∈ l, c.ty = 3 ∧ c.obj.idx.toNat = x) → (l.foldl (forgetM E) (Z, m)).2 = buryAllA a l
  | [], U, W, a, m, Z, hR, _, _, hU => hR.done (fun x hx => by obtain ⟨c, hc, _⟩ := hU x hx; cases hc)
  | c :: r, U, W, a, m, Z, hR, hD, hc, hU => by
    obtain ⟨W', h1, h2⟩ := bury_rel hR hD (hc c (by simp))
    have := buryAll_rel r (Z := (forgetM E (Z, m) c).1) h1 h2 (fun d hd => hc d (List.mem_cons_of_mem _ hd)) (fun x hx => by
      obtain ⟨d, hd, h3, h4⟩ := hU x hx.1
      rcases List.mem_cons.1 hd with e | hd
      · subst e; exact absurd h4.symm (hx.2 h3)
      · exact ⟨d, hd, h3, h4⟩)
    rw [List.foldl_cons]
    exact this
end
end
end Go.Proofs.Qxb6500918aDoor
