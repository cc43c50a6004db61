/-
  Every thread in one place: the last pass over the live threads.
-/
import Derived.Test.Qxb6500918aDoorOl
import Derived.Test.Qxb6500918aDoorPF
namespace Go.Kn
open Go.Sx Go.Proofs.Qxb6500918aDoor

theorem first_split {α : Type} (P : α → Prop) : ∀ (l : List α), (∃ e ∈ l, P e) → ∃ pre e post, l = pre ++ e :: post ∧ P e ∧ ∀ y ∈ pre, ¬ P y
  | [], h => by obtain ⟨e, h, _⟩ := h; cases h
  | a :: l, h => by
    by_cases hp : P a
    · exact ⟨[], a, l, rfl, hp, fun _ h => by cases h⟩
    · have : ∃ e ∈ l, P e := by
        obtain ⟨e, he, hq⟩ := h
        rcases List.mem_cons.1 he with e1 | he
        · subst e1; exact absurd hq hp
        · exact ⟨e, he, hq⟩
      obtain ⟨pre, e, post, e1, e2, e3⟩ := first_split P l this
      refine ⟨a :: pre, e, post, by rw [e1]; rfl, e2, fun y hy => ?_⟩
      rcases List.mem_cons.1 hy with h1 | h1
      · rw [h1]; exact hp
      · exact e3 y h1

def ids3 (E : Nat → Ent) : List Nat := (List.range 256).filter (fun i => decide ((E i).ty = 3))

theorem ids3_live (E : Nat → Ent) : liveP E 3 256 = (ids3 E).map (fun (i : Nat) => refP E (i : Int)) := by
  unfold liveP ids3
  refine List.map_congr_left (fun i _ => ref_at)
theorem ids3_mem {E : Nat → Ent} {i : Nat} : i ∈ ids3 E ↔ i < 256 ∧ (E i).ty = 3 := by
  unfold ids3
  rw [List.mem_filter, List.mem_range]
  simp only [decide_eq_true_eq]
theorem ids3_nodup (E : Nat → Ent) : (ids3 E).Nodup := List.nodup_range.filter _
theorem ids3_len (E : Nat → Ent) : (ids3 E).length ≤ 256 := by
  have h1 := List.length_filter_le (fun i => decide ((E i).ty = 3)) (List.range 256)
  rw [List.length_range] at h1
  exact h1

theorem mem_take_succ {α : Type} {l : List α} {j : Nat} {x y : α} (hx : l[j]? = some x) : y ∈ l.take (j + 1) ↔ y ∈ l.take j ∨ y = x := by
  rw [List.take_add_one, hx, Option.toList, List.mem_append]; simp

theorem not_mem_take {l : List Nat} (hn : l.Nodup) {j x : Nat} (hx : l[j]? = some x) : x ∉ l.take j := fun h => by
  obtain ⟨k, hk⟩ := List.getElem?_of_mem h
  rw [List.getElem?_take] at hk
  split at hk
  · rename_i hkj; exact nodup_ne hn hx hk hkj rfl
  · cases hk

/-- What is left of the map when the first j live threads are done. -/
structure P3 (Q : QL → List Nat) (E : Nat → Ent) (ps : List Pe) (j : Nat) : Prop where
  a : ∀ e ∈ ps, e.x < 256 ∧ (e.x, e.at_) ∈ absAll Q E ∧ e.x ∉ (ids3 E).take j
  b : ∀ q ∈ absAll Q E, q.1 ∉ (ids3 E).take j → ∃ e ∈ ps, e.x = q.1 ∧ e.at_ = q.2
  n : (ps.map (·.x)).Nodup

section
variable {S : KP} {Q : QL → List Nat} {E : Nat → Ent} {ps : List Pe} {j x : Nat}

theorem P3.start (hQ : LIQ S Q) (h : ps.map (fun e => (e.x, e.at_)) = absAll Q E) (hn : (ps.map (·.x)).Nodup) : P3 Q E ps 0 where
  a e he := by
    have h1 : (e.x, e.at_) ∈ absAll Q E := by rw [← h]; exact List.mem_map.2 ⟨e, he, rfl⟩
    exact ⟨(all_mem hQ h1).1, h1, by rw [List.take_zero]; simp⟩
  b q hq _ := by
    rw [← h] at hq
    obtain ⟨e, he, rfl⟩ := List.mem_map.1 hq
    exact ⟨e, he, rfl, rfl⟩
  n := hn

theorem P3.inn (h : P3 Q E ps j) (hx : (ids3 E)[j]? = some x) {r : Rf} (hr : (x, r) ∈ absAll Q E) :
    ∃ pre o cp F b post, ps = pre ++ (⟨x, r, o, cp, F, b⟩ : Pe) :: post ∧ (∀ y ∈ pre, y.x < 256 ∧ y.x ≠ x) ∧ P3 Q E (pre ++ post) (j + 1) := by
  have hnt := not_mem_take (ids3_nodup E) hx
  obtain ⟨pre, e, post, e1, e2, _⟩ := first_split (fun e => e.x = x ∧ e.at_ = r) ps (by obtain ⟨e, he, h1, h2⟩ := h.b _ hr hnt; exact ⟨e, he, h1, h2⟩)
  have hn := h.n
  rw [e1, List.map_append, List.map_cons, List.nodup_append] at hn
  obtain ⟨n1, n2, n3⟩ := hn
  rw [List.nodup_cons] at n2
  have hpre : ∀ y ∈ pre, y.x ≠ x := fun y hy hq => n3 y.x (List.mem_map.2 ⟨y, hy, rfl⟩) e.x (List.mem_cons_self ..) (by rw [hq, e2.1])
  have hpost : ∀ y ∈ post, y.x ≠ x := fun y hy hq => n2.1 (by rw [e2.1, ← hq]; exact List.mem_map.2 ⟨y, hy, rfl⟩)
  have hall : ∀ y ∈ pre ++ post, y.x ≠ x ∧ y ∈ ps := fun y hy => by
    rw [e1]
    rcases List.mem_append.1 hy with hy | hy
    · exact ⟨hpre y hy, List.mem_append_left _ hy⟩
    · exact ⟨hpost y hy, List.mem_append_right _ (List.mem_cons_of_mem _ hy)⟩
  obtain ⟨ex, ea, eo, ecp, eF, eb⟩ := e
  obtain ⟨h1, h2⟩ := e2
  simp only at h1 h2
  subst h1 h2
  refine ⟨pre, eo, ecp, eF, eb, post, e1, fun y hy => ⟨(h.a y (by rw [e1]; exact List.mem_append_left _ hy)).1, hpre y hy⟩, fun y hy => ?_, fun q hq hqn => ?_, ?_⟩
  · have h1 := hall y hy
    have h2 := h.a y h1.2
    refine ⟨h2.1, h2.2.1, fun hq => ?_⟩
    rcases (mem_take_succ hx).1 hq with h3 | h3
    · exact h2.2.2 h3
    · exact h1.1 h3
  · have h3 : q.1 ∉ (ids3 E).take j := fun hc => hqn ((mem_take_succ hx).2 (.inl hc))
    have h4 : q.1 ≠ ex := fun hc => hqn ((mem_take_succ hx).2 (.inr hc))
    obtain ⟨e, he, h5, h6⟩ := h.b q hq h3
    rw [e1] at he
    rcases List.mem_append.1 he with he | he
    · exact ⟨e, List.mem_append_left _ he, h5, h6⟩
    · rcases List.mem_cons.1 he with he | he
      · subst he; exact absurd h5.symm h4
      · exact ⟨e, List.mem_append_right _ he, h5, h6⟩
  · rw [List.map_append, List.nodup_append]
    exact ⟨n1, n2.2, fun a ha b hb => n3 a ha b (List.mem_cons_of_mem _ hb)⟩

theorem P3.out (h : P3 Q E ps j) (hx : (ids3 E)[j]? = some x) (hr : ∀ r, (x, r) ∉ absAll Q E) : (∀ e ∈ ps, e.x < 256 ∧ e.x ≠ x) ∧ P3 Q E ps (j + 1) := by
  have hne : ∀ e ∈ ps, e.x ≠ x := fun e he hq => hr e.at_ (by rw [← hq]; exact (h.a e he).2.1)
  refine ⟨fun e he => ⟨(h.a e he).1, hne e he⟩, fun e he => ⟨(h.a e he).1, (h.a e he).2.1, fun hq => ?_⟩, fun q hq hqn => h.b q hq (fun hc => hqn ((mem_take_succ hx).2 (.inl hc))), h.n⟩
  rcases (mem_take_succ hx).1 hq with h3 | h3
  · exact (h.a e he).2.2 h3
  · exact hne e he h3

theorem P3.done (h : P3 Q E ps j) (hQ : LIQ S Q) (hX : XI S E) (hj : (ids3 E).length ≤ j) : ps = [] := by
  cases ps with
  | nil => rfl
  | cons e l =>
    exfalso
    obtain ⟨h1, h2, h3⟩ := h.a e (List.mem_cons_self ..)
    rw [List.take_of_length_le hj] at h3
    have h4 := (all_mem hQ h2).2
    refine h3 (ids3_mem.2 ⟨h1, (hX e.x h1).live (fun h0 => ?_)⟩)
    have h0' : (S.tcb e.x).st = 0 := h0
    have hp : place (S.tcb e.x) = none := by unfold place; rw [if_neg (by omega), if_neg (by omega)]
    rw [hp] at h4
    rcases h4 with ⟨_, _, h5, _⟩ | ⟨_, _, _, h5, _⟩ <;> cases h5

/-! The states -/

theorem place_none {S : KP} (h : (S.tcb x).st = 0 ∨ (S.tcb x).st = 2 ∨ (S.tcb x).st = 6) (hQ : LIQ S Q) : ∀ r, (x, r) ∉ absAll Q E := fun r hr => by
  have hp : place (S.tcb x) = none := by unfold place; rw [if_neg (by omega), if_neg (by omega)]
  have h4 := (all_mem hQ hr).2
  rw [hp] at h4
  rcases h4 with ⟨_, _, h5, _⟩ | ⟨_, _, _, h5, _⟩ <;> cases h5

theorem in_ready (hQ : LIQ S Q) (hR : RI S) (hx : x < 256) (h : (S.tcb x).st = 1) : (x, zRf) ∈ absAll Q E :=
  mem_all_r hQ hx (p := (S.tcb x).prio.toNat) (by have := (hR.t hx).pr; omega) (by unfold place; rw [if_pos h])

theorem ref_of_type {r : Rf} (hr : 0 ≤ r.idx ∧ r.idx < 256) {k : Int} (hk : k ≠ 0) (h : typeOfP E r = k) : refAtP E ((r.idx.toNat : Nat) : Int) = r ∧ (E r.idx.toNat).ty = k := by
  refine ⟨?_, typeOf_ty hk h⟩
  unfold typeOfP at h
  rw [if_neg (by omega)] at h
  split at h
  · exact absurd h.symm hk
  · rename_i hg
    have h1 := refAt_idx (E := E) (i := ((r.idx.toNat : Nat) : Int)) ⟨by omega, by omega⟩
    have h2 : (refAtP E ((r.idx.toNat : Nat) : Int)).gen = r.gen := by
      unfold refAtP
      simp only [Int.toNat_natCast]
      exact Classical.byContradiction hg
    cases r with
    | mk a b =>
      have hr0 : 0 ≤ a := hr.1
      simp only at h1 h2
      cases hq : refAtP E ((a.toNat : Nat) : Int) with
      | mk c d => rw [hq] at h1 h2; simp only at h1 h2; simp only [Rf.mk.injEq]; exact ⟨by omega, h2⟩

theorem in_wait (hQ : LIQ S Q) (hR : RI S) (hX : XI S E) (hx : x < 256) {k : Int} (h : ((S.tcb x).st = 3 ∨ (S.tcb x).st = 4) ∧ k = 4 ∨ (S.tcb x).st = 5 ∧ k = 5) : (x, (S.tcb x).wait) ∈ absAll Q E ∧ typeOfP E (S.tcb x).wait = k := by
  have xt := hX x hx
  have ht : typeOfP E (S.tcb x).wait = k := by
    rcases h with ⟨h1, h2⟩ | ⟨h1, h2⟩
    · rw [h2]; exact xt.w4 h1
    · rw [h2]; exact (xt.w5 h1).1
  have hw := (hR.t hx).wi
  have hr := ref_of_type hw (by omega) ht
  refine ⟨?_, ht⟩
  have := mem_all_w (E := E) hQ hx (i := (S.tcb x).wait.idx.toNat) (by omega) (by rw [hr.2]; omega) (by unfold place; rw [if_neg (by omega), if_pos (by omega)])
  rw [hr.1] at this
  exact this

theorem prio_at (hQ : LIQ S Q) (hR : RI S) {qs : List Qe} (hq : qs.map (fun e => (e.x, e.p)) = absR Q (fun p => (p : Int)) 8 0) (hx : x < 256) (h : (S.tcb x).st = 1) :
    ∃ pre b post, qs = pre ++ (⟨x, (S.tcb x).prio, b⟩ : Qe) :: post ∧ ∀ y ∈ pre, y.x < 256 ∧ y.x ≠ x := by
  have hp8 : (S.tcb x).prio.toNat < 8 := by have := (hR.t hx).pr; omega
  have hpl : place (S.tcb x) = some (.r (S.tcb x).prio.toNat) := by unfold place; rw [if_pos h]
  have hm : x ∈ Q (.r (S.tcb x).prio.toNat) := (hQ.lx.mem (L := .r _) hp8 x hx).2 hpl
  have hmem : ∀ e ∈ qs, ∃ p, p < 8 ∧ e.x ∈ Q (.r p) ∧ e.p = (p : Int) := fun e he => by
    have h1 : (e.x, e.p) ∈ absR Q (fun p => (p : Int)) 8 0 := by rw [← hq]; exact List.mem_map.2 ⟨e, he, rfl⟩
    rcases absR_mem h1 with h2 | ⟨k, h2, _⟩
    · exact h2
    · omega
  obtain ⟨pre, e, post, e1, e2, e3⟩ := first_split (fun e => e.x = x) qs (by
    have h1 : (x, ((S.tcb x).prio.toNat : Int)) ∈ absR Q (fun p => (p : Int)) 8 0 := by
      unfold absR
      exact List.mem_append_left _ (List.mem_flatMap.2 ⟨_, List.mem_range.2 hp8, List.mem_map.2 ⟨x, hm, rfl⟩⟩)
    rw [← hq] at h1
    obtain ⟨e, he, h2⟩ := List.mem_map.1 h1
    exact ⟨e, he, congrArg Prod.fst h2⟩)
  obtain ⟨ex, ep, eb⟩ := e
  simp only at e2
  subst e2
  obtain ⟨p, hp, h2, h3⟩ := hmem ⟨ex, ep, eb⟩ (by rw [e1]; exact List.mem_append_right _ (List.mem_cons_self ..))
  simp only at h2 h3
  have h4 := one_queue hQ (L := .r p) (L' := .r (S.tcb ex).prio.toNat) hp hp8 h2 hm
  simp only [QL.r.injEq] at h4
  have h5 : ep = (S.tcb ex).prio := by have := (hR.t hx).pr; omega
  subst h5
  refine ⟨pre, eb, post, e1, fun y hy => ⟨?_, e3 y hy⟩⟩
  obtain ⟨p', hp', h6, _⟩ := hmem y (by rw [e1]; exact List.mem_append_left _ hy)
  exact (hQ.lx.ch (L := .r p') hp').lt _ h6

/-- The count of running threads. -/
def Rn (S : KP) (E : Nat → Ent) (j : Nat) (n : Int) : Prop := n = 0 ∧ (∀ y ∈ (ids3 E).take j, S.cur ≠ (y : Int)) ∨ n = 1 ∧ ∃ y ∈ (ids3 E).take j, S.cur = (y : Int)

theorem Rn.skip {n : Int} (h : Rn S E j n) (hQ : LIQ S Q) (hx : (ids3 E)[j]? = some x) (hs : (S.tcb x).st ≠ 2) : Rn S E (j + 1) n := by
  have hx2 := (ids3_mem.1 (List.mem_of_getElem? hx)).1
  have hc := hQ.cu x hx2
  rcases h with ⟨h1, h2⟩ | ⟨h1, y, h2, h3⟩
  · refine .inl ⟨h1, fun y hy => ?_⟩
    rcases (mem_take_succ hx).1 hy with h3 | h3
    · exact h2 y h3
    · rw [h3]; exact fun hq => hs (hc.2 hq)
  · exact .inr ⟨h1, y, (mem_take_succ hx).2 (.inl h2), h3⟩

theorem Rn.hit {n : Int} (h : Rn S E j n) (hQ : LIQ S Q) (hx : (ids3 E)[j]? = some x) (hs : (S.tcb x).st = 2) : n = 0 ∧ S.cur = (x : Int) ∧ Rn S E (j + 1) 1 := by
  have hx2 := (ids3_mem.1 (List.mem_of_getElem? hx)).1
  have hc := (hQ.cu x hx2).1 hs
  have hnt := not_mem_take (ids3_nodup E) hx
  refine ⟨?_, hc, .inr ⟨rfl, x, (mem_take_succ hx).2 (.inr rfl), hc⟩⟩
  rcases h with ⟨h1, _⟩ | ⟨_, y, h2, h3⟩
  · exact h1
  · have : y = x := by omega
    rw [this] at h2; exact absurd h2 hnt

theorem Rn.end_ {n : Int} (h : Rn S E j n) (hQ : LIQ S Q) (hR : RI S) (hX : XI S E) (hj : (ids3 E).length ≤ j) : S.cur = -1 ∧ n = 0 ∨ (0 ≤ S.cur ∧ S.cur < 256) ∧ n = 1 := by
  unfold Rn at h
  rw [List.take_of_length_le hj] at h
  rcases hR.cur with hc | hc
  · refine .inl ⟨hc, ?_⟩
    rcases h with ⟨h1, _⟩ | ⟨_, y, _, h3⟩
    · exact h1
    · omega
  · refine .inr ⟨hc, ?_⟩
    rcases h with ⟨_, h2⟩ | ⟨h1, _⟩
    · exfalso
      have hst := (hQ.cu S.cur.toNat (by omega)).2 (by omega)
      have hl : (E S.cur.toNat).ty = 3 := (hX S.cur.toNat (by omega)).live (show (S.tcb _).st ≠ 0 by omega)
      exact h2 S.cur.toNat (ids3_mem.2 ⟨by omega, hl⟩) (by omega)
    · exact h1

theorem word_zero (hQ : LIQ S Q) (hR : RI S) (hX : XI S E) (hW : WI S E) {i : Nat} (hi : i < 256) (h : Q (.w i) ≠ []) : S.word i = 0 := by
  obtain ⟨x, l, e⟩ := List.exists_cons_of_ne_nil h
  have := hX.waits hQ hR hi (x := x) (by rw [e]; exact List.mem_cons_self ..)
  rcases this.2.2 with ⟨_, h4⟩ | ⟨_, _, h5⟩
  · exact hW i hi (by omega)
  · exact h5

theorem ref_live_none {n : Int} (hG : GI E n) {t : Int} (ht : 0 ≤ t ∧ t < 256) : refP E t ≠ ⟨0, 0⟩ := fun h => by
  unfold refP at h
  rw [if_neg (by omega)] at h
  have h1 : (refAtP E t).gen = 0 := by rw [h]
  have := (hG t.toNat).1
  unfold refAtP at h1
  simp only at h1
  omega

theorem obj_wait {i : Nat} (hi : i < 256 ∧ ((E i).ty = 4 ∨ (E i).ty = 5)) : waitersP S Q E (refAtP E (i : Int)) = (refsP E (Q (.w i)), S.word i) := by
  have h1 := refAt_idx (E := E) (i := (i : Int)) ⟨by omega, by omega⟩
  have h2 : typeOfP E (refAtP E (i : Int)) = (E i).ty := by
    rw [ref_at, typeOf_ref ⟨by omega, by omega⟩, Int.toNat_natCast]
  unfold waitersP
  rw [h2, if_pos hi.2, h1, Int.toNat_natCast]

end
end Go.Kn
