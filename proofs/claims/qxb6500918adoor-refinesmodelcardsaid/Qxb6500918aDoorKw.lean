/-
  The queues as doubly linked lists.
-/
import Derived.Test.Qxb6500918aDoorKq
namespace Go.Kn
open Go.Sx

def hdI (xs : List Nat) (e : Int) : Int := match xs with | [] => e | x :: _ => (x : Int)
def lstI (p : Int) : List Nat → Int
  | [] => p
  | x :: r => lstI (x : Int) r

/-- The threads xs are linked in this order: before the first stands p, behind the last e. -/
def Dll (S : KP) (p : Int) (xs : List Nat) (e : Int) : Prop :=
  match xs with
  | [] => True
  | x :: r => (S.tcb x).prev = p ∧ (S.tcb x).next = hdI r e ∧ Dll S (x : Int) r e

theorem hdI_app (as bs : List Nat) (e : Int) : hdI (as ++ bs) e = hdI as (hdI bs e) := by cases as <;> rfl

theorem lstI_app : ∀ (p : Int) (as bs : List Nat), lstI p (as ++ bs) = lstI (lstI p as) bs
  | _, [], _ => rfl
  | _, x :: as, bs => lstI_app (x : Int) as bs

theorem dll_app (S : KP) : ∀ (p : Int) (as bs : List Nat) (e : Int), Dll S p (as ++ bs) e ↔ Dll S p as (hdI bs e) ∧ Dll S (lstI p as) bs e
  | p, [], bs, e => by simp [Dll, lstI]
  | p, x :: as, bs, e => by
    show ((S.tcb x).prev = p ∧ (S.tcb x).next = hdI (as ++ bs) e ∧ Dll S (x : Int) (as ++ bs) e) ↔ ((S.tcb x).prev = p ∧ (S.tcb x).next = hdI as (hdI bs e) ∧ Dll S (x : Int) as (hdI bs e)) ∧ Dll S (lstI (x : Int) as) bs e
    rw [dll_app S (x : Int) as bs e, hdI_app]
    constructor
    · rintro ⟨h1, h2, h3, h4⟩; exact ⟨⟨h1, h2, h3⟩, h4⟩
    · rintro ⟨⟨h1, h2, h3⟩, h4⟩; exact ⟨h1, h2, h3, h4⟩

theorem dll_congr {S S' : KP} : ∀ {p : Int} {xs : List Nat} {e : Int}, (∀ x ∈ xs, (S'.tcb x).next = (S.tcb x).next ∧ (S'.tcb x).prev = (S.tcb x).prev) → Dll S p xs e → Dll S' p xs e
  | _, [], _, _, _ => trivial
  | p, x :: r, e, h, hd => by
    have hx := h x (List.mem_cons_self ..)
    exact ⟨hx.2.trans hd.1, hx.1.trans hd.2.1, dll_congr (fun y hy => h y (List.mem_cons_of_mem _ hy)) hd.2.2⟩

/-- Another end: only the last thread's link turns. -/
theorem dll_end {S S' : KP} {p e e' : Int} {xs : List Nat} (hn : xs.Nodup) (h : ∀ x ∈ xs, (S'.tcb x).prev = (S.tcb x).prev ∧ (S'.tcb x).next = if lstI p xs = (x : Int) then e' else (S.tcb x).next) (hd : Dll S p xs e) : Dll S' p xs e' := by
  rcases List.eq_nil_or_concat xs with rfl | ⟨ys, z, rfl⟩
  · trivial
  · rw [List.concat_eq_append] at *
    have hl : lstI p (ys ++ [z]) = (z : Int) := by rw [lstI_app]; rfl
    rw [dll_app] at hd ⊢
    rw [hl] at h
    have hz : ∀ y ∈ ys, y ≠ z := by
      intro y hy he; subst he
      rw [List.nodup_append] at hn
      exact hn.2.2 y hy y (by simp) rfl
    refine ⟨dll_congr (fun y hy => ?_) hd.1, ?_⟩
    · have := h y (List.mem_append_left _ hy)
      rw [if_neg (by have := hz y hy; omega)] at this
      exact ⟨this.2, this.1⟩
    · have := h z (by simp)
      rw [if_pos rfl] at this
      exact ⟨this.1.trans hd.2.1, this.2, trivial⟩

/-- Another start: only the first thread's link turns. -/
theorem dll_start {S S' : KP} {p p' e : Int} {xs : List Nat} (hn : xs.Nodup) (h : ∀ x ∈ xs, (S'.tcb x).next = (S.tcb x).next ∧ (S'.tcb x).prev = if hdI xs (-1) = (x : Int) then p' else (S.tcb x).prev) (hd : Dll S p xs e) : Dll S' p' xs e := by
  cases xs with
  | nil => trivial
  | cons x r =>
    have hx := h x (List.mem_cons_self ..)
    rw [show hdI (x :: r) (-1) = (x : Int) from rfl] at h
    refine ⟨?_, hx.1.trans hd.2.1, dll_congr (fun y hy => ?_) hd.2.2⟩
    · rw [hx.2, if_pos (show hdI (x :: r) (-1) = (x : Int) from rfl)]
    · have := h y (List.mem_cons_of_mem _ hy)
      rw [List.nodup_cons] at hn
      rw [if_neg (by intro he; have : x = y := by omega
                     subst this; exact hn.1 hy)] at this
      exact this

structure Chain (S : KP) (L : QL) (xs : List Nat) : Prop where
  hd : (S.q L).head = hdI xs (-1)
  tl : (S.q L).tail = lstI (-1) xs
  n : (S.q L).n = (xs.length : Int)
  lt : ∀ x ∈ xs, x < 256
  nd : xs.Nodup
  dl : Dll S (-1) xs (-1)

theorem lstI_mem : ∀ {p : Int} {xs : List Nat}, xs ≠ [] → ∃ z ∈ xs, lstI p xs = (z : Int)
  | _, [], h => absurd rfl h
  | p, [x], _ => ⟨x, by simp, rfl⟩
  | p, x :: y :: r, _ => by
    obtain ⟨z, hz, e⟩ := lstI_mem (p := (x : Int)) (xs := y :: r) (by simp)
    exact ⟨z, List.mem_cons_of_mem _ hz, e⟩

theorem lstI_neg {xs : List Nat} (h : lstI (-1) xs = -1) : xs = [] := by
  cases xs with
  | nil => rfl
  | cons x r => obtain ⟨z, _, e⟩ := lstI_mem (p := -1) (xs := x :: r) (by simp); omega

theorem hdI_neg {xs : List Nat} (h : hdI xs (-1) = -1) : xs = [] := by
  cases xs with
  | nil => rfl
  | cons x r => simp [hdI] at h

/-! What push and unlink turn -/

theorem push_tcb (S : KP) (L : QL) (t : Int) (x : Nat) : (pushP S L t).tcb x = { S.tcb x with
    next := if (S.q L).tail ≠ -1 ∧ x = (S.q L).tail.toNat then t else if x = t.toNat then -1 else (S.tcb x).next,
    prev := if x = t.toNat then (S.q L).tail else (S.tcb x).prev } := by
  unfold pushP
  dsimp only
  simp only [setQ_tcb, setT_q]
  by_cases h : (S.q L).tail = -1
  · rw [if_pos h]
    simp only [setQ_tcb, h, ne_eq, not_true_eq_false, false_and, if_false]
    by_cases e : x = t.toNat
    · subst e; simp only [setT_same, if_true]
    · simp only [setT_other _ _ e, if_neg e]
  · rw [if_neg h]
    by_cases e2 : x = (S.q L).tail.toNat
    · subst e2
      simp only [setT_same, h, ne_eq, not_false_eq_true, true_and, if_true]
      by_cases e : (S.q L).tail.toNat = t.toNat
      · simp only [e, setT_same, if_true]
      · simp only [setT_other _ _ e, if_neg e]
    · simp only [setT_other _ _ e2, e2, and_false, if_false]
      by_cases e : x = t.toNat
      · subst e; simp only [setT_same, if_true]
      · simp only [setT_other _ _ e, if_neg e]

theorem push_q (S : KP) (L : QL) (t : Int) : (pushP S L t).q L = ⟨if (S.q L).tail = -1 then t else (S.q L).head, t, IntKind.wrap .u32 ((S.q L).n + 1)⟩ := by
  unfold pushP
  dsimp only
  simp only [setQ_same, setT_q]
  split <;> simp only [setQ_same, setT_q]

theorem push_qo (S : KP) {L L' : QL} (t : Int) (h : L' ≠ L) : (pushP S L t).q L' = S.q L' := by
  unfold pushP
  dsimp only
  simp only [setQ_other _ _ h]
  split <;> simp only [setQ_other _ _ h, setT_q]

theorem unlink_tcb (S : KP) (L : QL) (t : Int) (x : Nat) : (unlinkP S L t).tcb x = { S.tcb x with
    next := if (S.tcb t.toNat).prev ≠ -1 ∧ x = (S.tcb t.toNat).prev.toNat then (S.tcb t.toNat).next else (S.tcb x).next,
    prev := if (S.tcb t.toNat).next ≠ -1 ∧ x = (S.tcb t.toNat).next.toNat then (S.tcb t.toNat).prev else (S.tcb x).prev } := by
  unfold unlinkP
  dsimp only
  simp only [setQ_tcb]
  generalize (S.tcb t.toNat).prev = pv
  generalize (S.tcb t.toNat).next = nxx
  by_cases h1 : pv = -1 <;> by_cases h2 : nxx = -1
  · simp [h1, h2, setQ_tcb]
  · simp only [h1, if_true, if_neg h2, setQ_tcb, ne_eq, not_true_eq_false, false_and, if_false]
    by_cases e : x = nxx.toNat
    · subst e; simp [setT_same, h2]
    · simp [setT_other _ _ e, e, setQ_tcb]
  · simp only [h2, if_true, if_neg h1, setQ_tcb, ne_eq, not_true_eq_false, false_and, if_false]
    by_cases e : x = pv.toNat
    · subst e; simp [setT_same, h1]
    · simp [setT_other _ _ e, e]
  · simp only [if_neg h1, if_neg h2, ne_eq]
    by_cases e : x = nxx.toNat
    · subst e
      rw [setT_same]
      by_cases e2 : nxx.toNat = pv.toNat
      · simp [e2, setT_same, h1, h2]
      · simp [setT_other _ _ e2, h2, e2]
    · rw [setT_other _ _ e]
      by_cases e2 : x = pv.toNat
      · subst e2; simp [setT_same, h1, e]
      · simp [setT_other _ _ e2, e, e2]

theorem unlink_q (S : KP) (L : QL) (t : Int) : (unlinkP S L t).q L = ⟨if (S.tcb t.toNat).prev = -1 then (S.tcb t.toNat).next else (S.q L).head, if (S.tcb t.toNat).next = -1 then (S.tcb t.toNat).prev else (S.q L).tail, IntKind.wrap .u32 ((S.q L).n - 1)⟩ := by
  unfold unlinkP
  dsimp only
  simp only [setQ_same]
  split <;> split <;> simp only [setQ_same, setT_q]

theorem unlink_qo (S : KP) {L L' : QL} (t : Int) (h : L' ≠ L) : (unlinkP S L t).q L' = S.q L' := by
  unfold unlinkP
  dsimp only
  simp only [setQ_other _ _ h]
  split <;> split <;> simp only [setQ_other _ _ h, setT_q]

theorem wrapn {n : Int} (h0 : 0 ≤ n) (h1 : n < 4294967296) : IntKind.wrap .u32 n = n := by
  simp [IntKind.wrap, IntKind.bits, IntKind.signed]; omega

theorem nodup_len' : ∀ (n : Nat) {xs : List Nat}, xs.Nodup → (∀ x ∈ xs, x < n) → xs.length ≤ n
  | 0, xs, _, hl => by
    cases xs with
    | nil => simp
    | cons x r => exact absurd (hl x (by simp)) (by omega)
  | n + 1, xs, hn, hl => by
    by_cases h : n ∈ xs
    · have h1 := nodup_len' n (xs := xs.erase n) (hn.erase n) (fun x hx => by
        have h2 := (hn.mem_erase_iff).1 hx
        have := hl x h2.2
        have := h2.1
        omega)
      rw [List.length_erase_of_mem h] at h1
      omega
    · have := nodup_len' n hn (fun x hx => by
        have := hl x hx
        have : x ≠ n := fun e => h (e ▸ hx)
        omega)
      omega

theorem nodup_len {xs : List Nat} (hn : xs.Nodup) (hl : ∀ x ∈ xs, x < 256) : xs.length ≤ 256 := nodup_len' 256 hn hl

theorem chain_push {S : KP} {L : QL} {xs : List Nat} (h : Chain S L xs) {t : Nat} (ht : t < 256) (hnm : t ∉ xs) : Chain (pushP S L (t : Int)) L (xs ++ [t]) := by
  have htl := h.tl
  have hlen : (xs ++ [t]).length ≤ 256 := nodup_len (by rw [List.nodup_append]; exact ⟨h.nd, by simp, fun a ha b hb he => by simp at hb; subst hb; subst he; exact hnm ha⟩) (fun x hx => by
    rcases List.mem_append.1 hx with hx | hx
    · exact h.lt x hx
    · simp at hx; omega)
  refine ⟨?_, ?_, ?_, ?_, ?_, ?_⟩
  · rw [push_q, htl, hdI_app]
    dsimp only
    cases xs with
    | nil => rfl
    | cons x r =>
      rw [if_neg (fun hq => by have := lstI_neg hq; cases this), h.hd]; rfl
  · rw [push_q, lstI_app]; rfl
  · rw [push_q]; dsimp only
    rw [h.n, wrapn (by omega) (by simp at hlen; omega)]; simp
  · intro x hx
    rcases List.mem_append.1 hx with hx | hx
    · exact h.lt x hx
    · simp at hx; omega
  · rw [List.nodup_append]
    exact ⟨h.nd, by simp, fun a ha b hb he => by simp at hb; subst hb; subst he; exact hnm ha⟩
  · rw [dll_app]
    refine ⟨?_, ?_, ?_, trivial⟩
    · show Dll _ (-1) xs (t : Int)
      refine dll_end h.nd (fun x hx => ?_) h.dl
      have hxt : x ≠ (t : Int).toNat := by
        intro he; have : x = t := by omega
        subst this; exact hnm hx
      rw [push_tcb]; dsimp only
      rw [if_neg hxt, if_neg hxt, htl]
      refine ⟨rfl, ?_⟩
      by_cases e : lstI (-1) xs = (x : Int)
      · rw [if_pos e, if_pos ⟨by omega, by omega⟩]
      · obtain ⟨z, hz, ez⟩ := lstI_mem (p := -1) (xs := xs) (fun hq => by subst hq; cases hx)
        rw [if_neg e, if_neg (by rintro ⟨_, hq⟩; omega)]
    · rw [push_tcb]; dsimp only
      rw [if_pos (by omega)]; exact htl
    · rw [push_tcb]; dsimp only
      rw [if_neg, if_pos (by omega)]; rfl
      rintro ⟨hq, he⟩
      rw [htl] at hq he
      obtain ⟨z, hz, ez⟩ := lstI_mem (p := -1) (xs := xs) (fun hn => by subst hn; exact hq rfl)
      rw [ez] at he
      have : t = z := by omega
      subst this; exact hnm hz

theorem chain_unlink {S : KP} {L : QL} {as bs : List Nat} {t : Nat} (h : Chain S L (as ++ t :: bs)) : Chain (unlinkP S L (t : Int)) L (as ++ bs) := by
  have hd := h.dl
  rw [dll_app] at hd
  obtain ⟨hda, hpt, hnt, hdb⟩ := hd
  have hnd := h.nd
  rw [List.nodup_append, List.nodup_cons] at hnd
  obtain ⟨na, ⟨ntb, nb⟩, nab⟩ := hnd
  have nta : t ∉ as := fun hq => nab t hq t (by simp) rfl
  have hla : lstI (-1) as = -1 ∨ ∃ z ∈ as, lstI (-1) as = (z : Int) := by
    cases as with
    | nil => exact .inl rfl
    | cons x r => exact .inr (lstI_mem (by simp))
  have hhb : hdI bs (-1) = -1 ∨ ∃ z ∈ bs, hdI bs (-1) = (z : Int) := by
    cases bs with
    | nil => exact .inl rfl
    | cons x r => exact .inr ⟨x, by simp, rfl⟩
  have e1 : (S.tcb (t : Int).toNat).prev = lstI (-1) as := by rw [Int.toNat_natCast]; exact hpt
  have e2 : (S.tcb (t : Int).toNat).next = hdI bs (-1) := by rw [Int.toNat_natCast]; exact hnt
  have hlen := nodup_len h.nd h.lt
  refine ⟨?_, ?_, ?_, ?_, ?_, ?_⟩
  · rw [unlink_q, e1, e2, h.hd, hdI_app, hdI_app]
    dsimp only
    rcases hla with e | ⟨z, hz, e⟩
    · rw [if_pos e, lstI_neg e]; rfl
    · rw [if_neg (by omega)]
      cases as with
      | nil => cases hz
      | cons x r => rfl
  · rw [unlink_q, e1, e2, h.tl, lstI_app, lstI_app]
    dsimp only
    rcases hhb with e | ⟨z, hz, e⟩
    · rw [if_pos e, hdI_neg e]; rfl
    · rw [if_neg (by omega)]
      cases bs with
      | nil => cases hz
      | cons x r => rfl
  · rw [unlink_q]; dsimp only
    rw [h.n, wrapn (by simp at hlen ⊢; omega) (by simp at hlen ⊢; omega)]
    simp; omega
  · intro x hx
    refine h.lt x ?_
    rcases List.mem_append.1 hx with hx | hx
    · exact List.mem_append_left _ hx
    · exact List.mem_append_right _ (List.mem_cons_of_mem _ hx)
  · rw [List.nodup_append]
    exact ⟨na, nb, fun a ha b hb => nab a ha b (List.mem_cons_of_mem _ hb)⟩
  · rw [dll_app]
    constructor
    · refine dll_end na (fun x hx => ?_) hda
      rw [unlink_tcb, e1, e2]; dsimp only
      have hxb : ¬ (hdI bs (-1) ≠ -1 ∧ x = (hdI bs (-1)).toNat) := by
        rintro ⟨hq, he⟩
        rcases hhb with e | ⟨z, hz, e⟩
        · exact hq e
        · rw [e] at he; have : x = z := by omega
          subst this; exact nab x hx x (List.mem_cons_of_mem _ hz) rfl
      rw [if_neg hxb]
      refine ⟨rfl, ?_⟩
      by_cases e : lstI (-1) as = (x : Int)
      · rw [if_pos e, if_pos ⟨by omega, by omega⟩]
      · rw [if_neg e, if_neg]
        rintro ⟨hq, he⟩
        rcases hla with e3 | ⟨z, hz, e3⟩
        · exact hq e3
        · omega
    · refine dll_start nb (fun x hx => ?_) hdb
      rw [unlink_tcb, e1, e2]; dsimp only
      have hxa : ¬ (lstI (-1) as ≠ -1 ∧ x = (lstI (-1) as).toNat) := by
        rintro ⟨hq, he⟩
        rcases hla with e | ⟨z, hz, e⟩
        · exact hq e
        · rw [e] at he; have : x = z := by omega
          subst this; exact nab x hz x (List.mem_cons_of_mem _ hx) rfl
      rw [if_neg hxa]
      refine ⟨rfl, ?_⟩
      by_cases e : hdI bs (-1) = (x : Int)
      · rw [if_pos e, if_pos ⟨by omega, by omega⟩]
      · rw [if_neg e, if_neg]
        rintro ⟨hq, he⟩
        rcases hhb with e3 | ⟨z, hz, e3⟩
        · exact hq e3
        · omega

end Go.Kn
