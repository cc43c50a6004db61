/-
  The scheduler's plain facts.
-/
import Derived.Test.Qxb6500918aDoorKz
namespace Go.Kn
open Go.Sx

def chkTop : Bool := (List.range 256).all fun b => decide (-1 ≤ topP (b : Int)) && (decide (topP (b : Int) < 8) && ((decide (topP (b : Int) < 0) || b.testBit (topP (b : Int)).toNat) && (List.range 8).all fun p => !b.testBit p || decide ((p : Int) ≤ topP (b : Int))))

theorem chkTop_ok : chkTop = true := by kernel_rfl

theorem top_all {b : Int} (hb : 0 ≤ b ∧ b < 256) : -1 ≤ topP b ∧ topP b < 8 ∧ (0 ≤ topP b → b.toNat.testBit (topP b).toNat = true) ∧ ∀ p, p < 8 → b.toNat.testBit p = true → (p : Int) ≤ topP b := by
  have h := chkTop_ok
  unfold chkTop at h
  rw [List.all_eq_true] at h
  have h1 := h b.toNat (List.mem_range.2 (by omega))
  rw [show ((b.toNat : Nat) : Int) = b by omega] at h1
  simp only [Bool.and_eq_true, decide_eq_true_eq, List.all_eq_true, Bool.or_eq_true, Bool.not_eq_true'] at h1
  obtain ⟨a1, a2, a3, a4⟩ := h1
  refine ⟨a1, a2, fun h0 => a3.resolve_left (by omega), fun p hp hq => ?_⟩
  rcases a4 p (List.mem_range.2 hp) with h2 | h2
  · rw [hq] at h2; cases h2
  · exact h2

theorem chain_next {S : KP} {L : QL} {xs : List Nat} (h : Chain S L xs) {m x y : Nat} (hx : xs[m]? = some x) (hy : xs[m + 1]? = some y) : (S.tcb x).next = (y : Int) := by
  have hm : m < xs.length := (List.getElem?_eq_some_iff.1 hx).1
  have hsp : xs = xs.take m ++ x :: xs.drop (m + 1) := by
    conv => lhs; rw [← List.take_append_drop m xs]
    rw [List.drop_eq_getElem_cons hm]
    congr 2
    rw [List.getElem?_eq_getElem hm] at hx; simpa using hx
  have hd := h.dl
  rw [hsp, dll_app] at hd
  rw [hd.2.2.1]
  have : xs.drop (m + 1) = y :: xs.drop (m + 2) := by
    have hm2 : m + 1 < xs.length := (List.getElem?_eq_some_iff.1 hy).1
    rw [List.drop_eq_getElem_cons hm2]
    congr 1
    rw [List.getElem?_eq_getElem hm2] at hy; simpa using hy
  rw [this]; rfl

theorem walk_ok {S : KP} {L : QL} {xs : List Nat} (h : Chain S L xs) : ∀ (k m : Nat) {x y : Nat}, xs[m]? = some x → xs[m + k]? = some y → walkP S k (x : Int) = (y : Int)
  | 0, m, x, y, hx, hy => by rw [Nat.add_zero] at hy; rw [hx] at hy; simp at hy; subst hy; rfl
  | k + 1, m, x, y, hx, hy => by
    have hlt : m + (k + 1) < xs.length := (List.getElem?_eq_some_iff.1 hy).1
    obtain ⟨z, hz⟩ : ∃ z, xs[m + 1]? = some z := ⟨xs[m + 1]'(by omega), by simp⟩
    rw [walkP, Int.toNat_natCast, chain_next h hx hz]
    exact walk_ok h k (m + 1) hz (by rw [show m + 1 + k = m + (k + 1) by omega]; exact hy)

/-- The ready queue that a choice is made from. -/
structure Avail (S : KP) (top : Int) (xs : List Nat) : Prop where
  ch : Chain S (.r top.toNat) xs
  ne : xs ≠ []

theorem Avail.n {S : KP} {top : Int} {xs : List Nat} (h : Avail S top xs) : 0 < (S.rdy top.toNat).n ∧ (S.rdy top.toNat).n = (xs.length : Int) := by
  have h1 : (S.rdy top.toNat).n = (xs.length : Int) := h.ch.n
  have h2 := List.length_pos_iff.2 h.ne
  exact ⟨by omega, h1⟩

theorem pick_at {S : KP} {top pick : Int} {xs : List Nat} (h : Avail S top xs) (_hp : 0 ≤ pick) : ∃ y, xs[(pick % (S.rdy top.toNat).n).toNat]? = some y ∧ y < 256 ∧ walkP S (pick % (S.rdy top.toNat).n).toNat (S.rdy top.toNat).head = (y : Int) := by
  have hn := h.n
  have h1 : 0 ≤ pick % (S.rdy top.toNat).n := Int.emod_nonneg _ (by omega)
  have h2 : pick % (S.rdy top.toNat).n < (S.rdy top.toNat).n := Int.emod_lt_of_pos _ hn.1
  have hlt : (pick % (S.rdy top.toNat).n).toNat < xs.length := by omega
  have hhd : (S.rdy top.toNat).head = hdI xs (-1) := h.ch.hd
  refine ⟨xs[(pick % (S.rdy top.toNat).n).toNat], by simp, h.ch.lt _ (List.getElem_mem _), ?_⟩
  obtain ⟨a, r, hx⟩ : ∃ a r, xs = a :: r := by
    cases xs with
    | nil => exact absurd rfl h.ne
    | cons a r => exact ⟨a, r, rfl⟩
  have h0 : xs[0]? = some a := by rw [hx]; rfl
  have hh : hdI xs (-1) = (a : Int) := by rw [hx]; rfl
  rw [hhd, hh]
  refine walk_ok h.ch _ 0 h0 ?_
  rw [Nat.zero_add]
  simp

theorem pick_RI {S : KP} {top pick : Int} {xs : List Nat} (hR : RI S) (h : Avail S top xs) (hp : 0 ≤ pick) : RI (pickP S top pick) := by
  obtain ⟨y, _, hy, e⟩ := pick_at h hp
  unfold pickP
  dsimp only
  rw [e]
  have h1 := leave_RI hR (t := (y : Int)) ⟨by omega, by omega⟩
  rw [Int.toNat_natCast]
  refine RI.setCur ?_ (.inr ⟨by omega, by omega⟩)
  exact h1.setT ⟨(h1.t hy).nx, (h1.t hy).pv, (h1.t hy).pr, (h1.t hy).wi, (h1.t hy).ci, (h1.t hy).ri, (h1.t hy).ds⟩

/-- A thread that is nowhere goes on the free processor. -/
theorem LIN.run {S : KP} {Q : QL → List Nat} {t : Nat} (h : LIN S Q t) (ht : t < 256) (hc : S.cur = -1) (hp : place (S.tcb t) = none) (hs : (S.tcb t).st = 2) : LIQ { S with cur := (t : Int) } Q where
  lx := h.lx.congr (fun L => by cases L <;> rfl) (fun x => ⟨rfl, rfl⟩) (fun x _ => by
    unfold upd; split
    · rename_i e; subst e; exact hp
    · rfl)
  by_ := h.by_
  bz := h.bz
  cu x hx := by
    dsimp only
    by_cases e : x = t
    · subst e; exact ⟨fun _ => rfl, fun _ => hs⟩
    · have := h.cu x hx e
      rw [hc] at this
      constructor
      · intro hq; have := this.1 hq; omega
      · intro hq; omega

theorem leave_curE (S : KP) (t : Int) : (leaveP S t).cur = if (S.tcb t.toNat).st = 2 then -1 else S.cur := by
  by_cases h : (S.tcb t.toNat).st = 2
  · rw [if_pos h]; unfold leaveP leave1; dsimp only; rw [if_pos h]; rfl
  · rw [if_neg h]; exact leave_cur h

theorem pick_LIQ {S : KP} {Q : QL → List Nat} {top pick : Int} (hR : RI S) (hQ : LIQ S Q) (ht : 0 ≤ top ∧ top < 8) (hne : Q (.r top.toNat) ≠ []) (hp : 0 ≤ pick) (hc : S.cur = -1) :
    ∃ y, (Q (.r top.toNat))[(pick % (S.rdy top.toNat).n).toNat]? = some y ∧ y < 256 ∧ LIQ (pickP S top pick) (qCut Q (some (.r top.toNat)) y) := by
  have hav : Avail S top (Q (.r top.toNat)) := ⟨hQ.lx.ch (show _ < 8 by omega), hne⟩
  obtain ⟨y, h1, hy, e⟩ := pick_at hav hp
  refine ⟨y, h1, hy, ?_⟩
  have hpl : place (S.tcb y) = some (.r top.toNat) := (hQ.lx.mem (show _ < 8 by omega) y hy).1 (List.mem_of_getElem? h1)
  have hln := leave_LIN hR hQ hy
  rw [hpl] at hln
  unfold pickP
  dsimp only
  rw [e, Int.toNat_natCast]
  have h2 := hln.setT (a := { (leaveP S (y : Int)).tcb y with st := 2 }) ⟨rfl, rfl⟩
  refine h2.run hy ?_ ?_ ?_
  · show (leaveP S (y : Int)).cur = -1
    rw [leave_curE, hc]; split <;> rfl
  · rw [setT_same]; unfold place; dsimp only; rw [if_neg (by decide), if_neg (by decide)]
  · rw [setT_same]

theorem sched_ok {S : KP} (hR : RI S) (h : LI S) {pick : Int} (hp : 0 ≤ pick) : RI (schedP S pick) ∧ LI (schedP S pick) := by
  obtain ⟨Q, hQ⟩ := h
  have ht := top_all hQ.by_
  unfold schedP
  split
  · rename_i hc
    have hcur := lk_nat hR.cur hc
    split
    · exact ⟨hR, Q, hQ⟩
    · rename_i hlt
      have hst : (S.tcb S.cur.toNat).st = 2 := (hQ.cu S.cur.toNat (by omega)).2 (by omega)
      have hpl : place (S.tcb S.cur.toNat) = none := by unfold place; rw [hst]; rfl
      have hw := wake_LIQ hR hQ (t := S.cur.toNat) (by omega)
      have hwR := wake_RI hR hcur
      rw [show ((S.cur.toNat : Nat) : Int) = S.cur by omega, hpl] at hw
      have hpr := (hR.t (i := S.cur.toNat) (by omega)).pr
      split
      · exact ⟨hwR, _, hw⟩
      · have hne : qPush (qCut Q none S.cur.toNat) (.r (S.tcb S.cur.toNat).prio.toNat) S.cur.toNat (.r (topP S.busy).toNat) ≠ [] := by
          unfold qPush qCut
          rw [if_neg (by intro hq; simp at hq; omega), if_neg (by intro hq; cases hq)]
          exact (hQ.bz _ (by omega)).1 (ht.2.2.1 (by omega))
        have hwc : (wakeP S S.cur).cur = -1 := by
          unfold wakeP; dsimp only; rw [push_cur, setT_cur, leave_curE, if_pos hst]
        obtain ⟨y, _, _, hl⟩ := pick_LIQ hwR hw (top := topP S.busy) (pick := pick) ⟨by omega, ht.2.1⟩ hne hp hwc
        exact ⟨pick_RI hwR ⟨hw.lx.ch (show _ < 8 by omega), hne⟩ hp, _, hl⟩
  · rename_i hc
    have hc' : S.cur = -1 := Classical.byContradiction hc
    split
    · exact ⟨hR, Q, hQ⟩
    · have hne : Q (.r (topP S.busy).toNat) ≠ [] := (hQ.bz _ (by omega)).1 (ht.2.2.1 (by omega))
      obtain ⟨y, _, _, hl⟩ := pick_LIQ hR hQ (top := topP S.busy) (pick := pick) ⟨by omega, ht.2.1⟩ hne hp hc'
      exact ⟨pick_RI hR ⟨hQ.lx.ch (show _ < 8 by omega), hne⟩ hp, _, hl⟩

end Go.Kn
