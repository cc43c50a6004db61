/-
  What the plain operations leave alone: the running thread, the states.
-/
import Derived.Test.Qxb6500918aDoorKp
namespace Go.Kn
open Go.Sx

theorem setT_cur (S : KP) (i : Nat) (a : Tcb) : (S.setT i a).cur = S.cur := rfl

theorem push_cur (S : KP) (L : QL) (t : Int) : (pushP S L t).cur = S.cur := by
  unfold pushP; dsimp only; split <;> simp only [setQ_cur, setT_cur]

theorem unlink_cur (S : KP) (L : QL) (t : Int) : (unlinkP S L t).cur = S.cur := by
  unfold unlinkP; dsimp only; split <;> split <;> simp only [setQ_cur, setT_cur]

theorem leave_cur {S : KP} {t : Int} (h : (S.tcb t.toNat).st ≠ 2) : (leaveP S t).cur = S.cur := by
  unfold leaveP leave1; dsimp only
  rw [if_neg h]
  simp only [setT_cur]
  split
  · split
    · simp only [unlink_cur]
    · exact unlink_cur _ _ _
  · split
    · exact unlink_cur _ _ _
    · rfl

theorem wake_cur {S : KP} {t : Int} (h : (S.tcb t.toNat).st ≠ 2) : (wakeP S t).cur = S.cur := by
  unfold wakeP; dsimp only
  rw [push_cur, setT_cur]; exact leave_cur h

theorem block_cur {S : KP} {t s : Int} {o : Rf} (h : (S.tcb t.toNat).st ≠ 2) : (blockP S t s o).cur = S.cur := by
  unfold blockP; dsimp only
  split
  · simp only [setT_cur]; exact leave_cur h
  · rw [push_cur]; simp only [setT_cur]; exact leave_cur h

theorem settle_cur {S : KP} {E : Nat → Ent} {f t : Int} (h : (S.tcb f.toNat).st ≠ 2) : (settleP S E f t).cur = S.cur := by
  unfold settleP; dsimp only
  split
  · rw [setT_cur]; exact block_cur h
  · split
    · exact wake_cur h
    · rfl

theorem setT_st {S : KP} {i : Nat} {a : Tcb} (h : a.st = (S.tcb i).st) (j : Nat) : ((S.setT i a).tcb j).st = (S.tcb j).st := by
  by_cases e : j = i
  · subst e; rw [setT_same, h]
  · rw [setT_other _ _ e]

theorem deliver0_st {S : KP} {f t : Int} (i : Nat) : ((deliver0 S f t).tcb i).st = (S.tcb i).st := by
  unfold deliver0; dsimp only
  rw [setT_st, setT_st, setT_st, setT_st] <;> rfl

theorem deliver_st {S : KP} {C : CP} {f t : Int} (i : Nat) : ((deliverP S C f t).1.tcb i).st = (S.tcb i).st := by
  unfold deliverP; dsimp only
  split
  · exact deliver0_st i
  · split
    · split
      · rw [setT_st (a := { (deliver0 S f t).tcb t.toNat with got := 1 }) rfl]; exact deliver0_st i
      · exact deliver0_st i
    · exact deliver0_st i

theorem deliver_cur {S : KP} {C : CP} {f t : Int} : (deliverP S C f t).1.cur = S.cur := by
  have h0 : (deliver0 S f t).cur = S.cur := rfl
  unfold deliverP; dsimp only
  split
  · exact h0
  · split
    · split
      · exact h0
      · exact h0
    · exact h0

theorem oldest_st {S : KP} {o : Rf} {s : Int} (h : oldestP S o s ≠ -1) : (S.tcb (oldestP S o s).toNat).st = s := by
  unfold oldestP at h ⊢
  split
  · rename_i hq; exact hq.2
  · rename_i hq; rw [if_neg hq] at h; exact absurd rfl h

end Go.Kn
