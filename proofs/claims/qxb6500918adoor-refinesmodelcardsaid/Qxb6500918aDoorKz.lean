/-
  Burying, dropping, scheduling as plain functions; what they keep.
-/
import Derived.Test.Qxb6500918aDoorKy
import Derived.Test.Qxb6500918aDoorKv
namespace Go.Kn
open Go.Sx

def LI (S : KP) : Prop := ∃ Q, LIQ S Q

def noT : Tcb := ⟨0, 0, ⟨0, 0⟩, ⟨0, 0⟩, ⟨0, 0⟩, 0, 0, 0, 0, 0, 0, 0, 0, 0, false, false, -1, -1⟩

theorem noT_ok : TOk noT := ⟨.inl rfl, .inl rfl, by decide, by decide, by decide, by decide, by decide⟩

def wakeRep (S : KP) (o : Rf) : Nat → KP
  | 0 => S
  | n + 1 => if ((wakeRep S o n).tcb n).st = 6 ∧ ((wakeRep S o n).tcb n).wait = o then wakeP (wakeRep S o n) (n : Int) else wakeRep S o n

def drainP : Nat → KP → Nat → KP
  | 0, S, _ => S
  | f + 1, S, i => if (S.wq i).head = -1 then S else drainP f (wakeP S (S.wq i).head) i

def buryP (S : KP) (c : Cp) : KP :=
  if c.ty = 3 then wakeRep ((leaveP S c.obj.idx).setT c.obj.idx.toNat noT) c.obj 256
  else if c.ty = 4 ∨ c.ty = 5 then { drainP 257 S c.obj.idx.toNat with word := upd (drainP 257 S c.obj.idx.toNat).word c.obj.idx.toNat 0 }
  else S

theorem wakeRep_RI {S : KP} (h : RI S) (o : Rf) : ∀ n, n ≤ 256 → RI (wakeRep S o n)
  | 0, _ => h
  | n + 1, hn => by
    rw [wakeRep]; split
    · exact wake_RI (wakeRep_RI h o n (by omega)) ⟨by omega, by omega⟩
    · exact wakeRep_RI h o n (by omega)

theorem wakeRep_LI {S : KP} (hR : RI S) (h : LI S) (o : Rf) : ∀ n, n ≤ 256 → LI (wakeRep S o n)
  | 0, _ => h
  | n + 1, hn => by
    rw [wakeRep]; split
    · obtain ⟨Q, hQ⟩ := wakeRep_LI hR h o n (by omega)
      exact ⟨_, wake_LIQ (wakeRep_RI hR o n (by omega)) hQ (by omega)⟩
    · exact wakeRep_LI hR h o n (by omega)

theorem LIQ.head {S : KP} {Q : QL → List Nat} (h : LIQ S Q) {i : Nat} (hi : i < 256) : (S.wq i).head = hdI (Q (.w i)) (-1) := (h.lx.ch (L := .w i) hi).hd

/-- The first of a queue of waiters, woken: what is left in the queue. -/
theorem wake_head {S : KP} {Q : QL → List Nat} (hR : RI S) (h : LIQ S Q) {i : Nat} (hi : i < 256) {x : Nat} {r : List Nat} (hq : Q (.w i) = x :: r) :
    x < 256 ∧ ∃ Q', LIQ (wakeP S (x : Int)) Q' ∧ Q' (.w i) = r := by
  have hc := h.lx.ch (L := .w i) hi
  rw [hq] at hc
  have hx : x < 256 := hc.lt x (by simp)
  have hp : place (S.tcb x) = some (.w i) := (h.lx.mem (L := .w i) hi x hx).1 (by rw [hq]; simp)
  refine ⟨hx, _, wake_LIQ hR h hx, ?_⟩
  unfold qPush qCut
  rw [if_neg (by intro hz; cases hz), hp, if_pos rfl, hq]
  simp

theorem drain_ok : ∀ (f : Nat) {S : KP}, RI S → ∀ {Q : QL → List Nat}, LIQ S Q → ∀ {i : Nat}, i < 256 → (Q (.w i)).length < f → RI (drainP f S i) ∧ LI (drainP f S i) ∧ ((drainP f S i).wq i).head = -1
  | 0, _, _, _, _, _, _, hl => by omega
  | f + 1, S, hR, Q, h, i, hi, hl => by
    have hd := h.head hi
    rw [drainP]
    split
    · rename_i e; exact ⟨hR, ⟨Q, h⟩, e⟩
    · rename_i e
      cases hq : Q (.w i) with
      | nil => rw [hq] at hd; exact absurd hd e
      | cons x r =>
        obtain ⟨hx, Q', h1, h2⟩ := wake_head hR h hi hq
        have : (S.wq i).head = (x : Int) := by rw [hd, hq]; rfl
        rw [this]
        exact drain_ok f (wake_RI hR ⟨by omega, by omega⟩) h1 hi (by rw [h2]; rw [hq] at hl; simp at hl; omega)

/-- The block of a thread that is nowhere may turn, its links too. -/
theorem LIN.setAny {S : KP} {Q : QL → List Nat} {t : Nat} (h : LIN S Q t) (ht : t < 256) (a : Tcb) : LIN (S.setT t a) Q t where
  lx := by
    have hnm : ∀ {L : QL}, L.ok → t ∉ Q L := fun hL hq => by have := (h.lx.mem hL t ht).1 hq; rw [upd_same] at this; cases this
    refine ⟨fun {L} hL => ?_, fun {L} hL x hx => ?_⟩
    · have c := h.lx.ch hL
      refine ⟨by rw [setT_q]; exact c.hd, by rw [setT_q]; exact c.tl, by rw [setT_q]; exact c.n, c.lt, c.nd, dll_congr (fun x hx => ?_) c.dl⟩
      rw [setT_other _ _ (fun e : x = t => hnm hL (by rw [← e]; exact hx))]; exact ⟨rfl, rfl⟩
    · rw [h.lx.mem hL x hx]
      unfold upd; split
      · rfl
      · rename_i e; dsimp only; rw [setT_other _ _ e]
  by_ := h.by_
  bz := h.bz
  cu x hx hne := by rw [setT_other _ _ hne]; exact h.cu x hx hne
  ct := h.ct

theorem reset_LI {S : KP} (hR : RI S) {Q : QL → List Nat} (h : LIQ S Q) {i : Int} (hi : 0 ≤ i ∧ i < 256) : LI ((leaveP S i).setT i.toNat noT) := by
  have h1 := leave_LIN hR h (t := i.toNat) (by omega)
  rw [show ((i.toNat : Nat) : Int) = i by omega] at h1
  have h2 := h1.setAny (by omega) noT
  refine ⟨_, h2.rest ?_ ?_⟩
  · rw [setT_same]; rfl
  · rw [setT_same]; show (0 : Int) ≠ 2; decide

theorem reset_RI {S : KP} (hR : RI S) {i : Int} (hi : 0 ≤ i ∧ i < 256) : RI ((leaveP S i).setT i.toNat noT) := (leave_RI hR hi).setT noT_ok

theorem bury_ok {S : KP} (hR : RI S) (h : LI S) {c : Cp} (hc : 0 ≤ c.obj.idx ∧ c.obj.idx < 256) : RI (buryP S c) ∧ LI (buryP S c) := by
  obtain ⟨Q, hQ⟩ := h
  unfold buryP
  split
  · have r1 := reset_RI hR hc
    have l1 := reset_LI hR hQ hc
    exact ⟨wakeRep_RI r1 _ 256 (by omega), wakeRep_LI r1 l1 _ 256 (by omega)⟩
  · split
    · have hl := nodup_len (hQ.lx.ch (L := .w c.obj.idx.toNat) (show _ < 256 by omega)).nd (hQ.lx.ch (L := .w c.obj.idx.toNat) (show _ < 256 by omega)).lt
      obtain ⟨r1, ⟨Q1, l1⟩, _⟩ := drain_ok 257 hR hQ (i := c.obj.idx.toNat) (by omega) (by omega)
      exact ⟨r1.setWord _, Q1, l1.same rfl (fun L => by cases L <;> rfl) rfl rfl⟩
    · exact ⟨hR, Q, hQ⟩

def buryAll (S : KP) (l : List Cp) : KP := l.foldl buryP S

theorem buryAll_ok : ∀ (l : List Cp) {S : KP}, RI S → LI S → (∀ c ∈ l, 2 ≤ c.ty ∧ c.ty < 6 ∧ 0 ≤ c.obj.idx ∧ c.obj.idx < 256) → RI (buryAll S l) ∧ LI (buryAll S l)
  | [], _, hR, h, _ => ⟨hR, h⟩
  | c :: l, S, hR, h, hc => by
    have h1 := bury_ok hR h (c := c) (hc c (by simp)).2.2
    exact buryAll_ok l h1.1 h1.2 (fun x hx => hc x (List.mem_cons_of_mem _ hx))

noncomputable def dropP (S : KP) (C : CP) (ev : Ev) : KP × CP × Int :=
  let a := lookP C.ent (S.tcb S.cur.toNat).cs ev.addr
  if a.2 ≠ 0 then (S, C, a.2) else
  if (C.cel a.1.toNat).cap.ty = 0 then (S, C, 3) else
  if ev.kind = 13 then (buryAll S (revokeP 4097 C a.1 []).2, (revokeP 4097 C a.1 []).1, 0)
  else (buryAll S (deleteP 4097 C a.1.toNat).2, (deleteP 4097 C a.1.toNat).1, 0)

/-- The highest bit of a byte, -1 if there is none. -/
def topP (b : Int) : Int := if b.toNat = 0 then -1 else (Nat.log2 b.toNat : Int)

def walkP (S : KP) : Nat → Int → Int
  | 0, t => t
  | n + 1, t => walkP S n (S.tcb t.toNat).next

def pickP (S : KP) (top pick : Int) : KP :=
  let t := walkP S (pick % (S.rdy top.toNat).n).toNat (S.rdy top.toNat).head
  let S1 := leaveP S t
  let S2 := S1.setT t.toNat { S1.tcb t.toNat with st := 2 }
  { S2 with cur := t }

def schedP (S : KP) (pick : Int) : KP :=
  if S.cur ≠ -1 then
    if topP S.busy ≤ (S.tcb S.cur.toNat).prio then S
    else if topP S.busy < 0 then wakeP S S.cur else pickP (wakeP S S.cur) (topP S.busy) pick
  else if topP S.busy < 0 then S else pickP S (topP S.busy) pick

end Go.Kn
