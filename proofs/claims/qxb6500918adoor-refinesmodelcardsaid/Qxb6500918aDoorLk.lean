/-
  A refused step leaves the machine as it was.
-/
import Derived.Test.Qxb6500918aDoorLd
namespace Go.Kn
open Go.Sx

section
variable {S : KP} {C : CP} {ev : Ev}

theorem derive_ref {cel : Nat → Cel} {d s : Nat} {m b : Int} (h : (deriveP cel d s m b).2 ≠ 0) : (deriveP cel d s m b).1 = cel := by
  unfold deriveP at h ⊢
  split at h
  · rename_i k; rw [if_pos k]
  · rename_i k; rw [if_neg k]
    split at h
    · rename_i k2; rw [if_pos k2]
    · rename_i k2; rw [if_neg k2]
      split at h
      · rename_i k3; rw [if_pos k3]
      · split at h <;> exact absurd rfl h

theorem ite3 {p : Prop} [Decidable p] {x y : KP × CP × Int} (hx : x.2.2 = 0) (hy : y.2.2 = 0) : (if p then x else y).2.2 = 0 := by split <;> assumption
theorem ite4 {p : Prop} [Decidable p] {x y : KP × CP × Outp × Int} (hx : x.2.2.2 = 0) (hy : y.2.2.2 = 0) : (if p then x else y).2.2.2 = 0 := by split <;> assumption

theorem send_ref (h : (sendP S C ev).2.2 ≠ 0) : (sendP S C ev).1 = S ∧ (sendP S C ev).2.1 = C := by
  unfold sendP at h ⊢
  by_cases k1 : (findP S C ev.addr 4 2).2.2 ≠ 0
  · rw [if_pos k1]; exact ⟨rfl, rfl⟩
  rw [if_neg k1] at h ⊢
  by_cases k2 : (ev.ws.length : Int) > 4
  · rw [if_pos k2]; exact ⟨rfl, rfl⟩
  rw [if_neg k2] at h
  exact absurd (ite3 rfl rfl) h

theorem recv_ref {ou : Outp} (h : (recvP S C ev ou).2.2.2 ≠ 0) : (recvP S C ev ou).1 = S ∧ (recvP S C ev ou).2.1 = C := by
  unfold recvP at h ⊢
  by_cases k1 : (findP S C ev.addr 4 1).2.2 ≠ 0
  · rw [if_pos k1]; exact ⟨rfl, rfl⟩
  rw [if_neg k1] at h
  exact absurd (ite4 rfl rfl) h

theorem reply_ref (h : (replyP S C ev).2 ≠ 0) : (replyP S C ev).1 = S := by
  unfold replyP at h ⊢
  dsimp only at h ⊢
  by_cases k1 : (S.tcb S.cur.toNat).rep = ⟨0, 0⟩
  · rw [if_pos k1]
  rw [if_neg k1] at h ⊢
  by_cases k2 : (ev.ws.length : Int) > 4
  · rw [if_pos k2]
  rw [if_neg k2] at h ⊢
  split at h
  · rename_i k3; rw [if_pos k3]
  · exact absurd rfl h

theorem wait_ref {ou : Outp} (h : (waitP S C ev ou).2.2 ≠ 0) : (waitP S C ev ou).1 = S := by
  unfold waitP at h ⊢
  dsimp only at h ⊢
  by_cases k1 : (findP S C ev.addr 5 1).2.2 ≠ 0
  · rw [if_pos k1]
  rw [if_neg k1] at h
  split at h <;> exact absurd rfl h

theorem int_ref {l : Int} (h : (interruptP S C l).2 ≠ 0) : (interruptP S C l).1 = S := by
  unfold interruptP at h ⊢
  dsimp only at h ⊢
  split at h
  · rename_i k; rw [if_pos k]
  · rename_i k; rw [if_neg k]
    split at h
    · rename_i k2; rw [if_pos k2]
    · rename_i k2; rw [if_neg k2]
      split at h
      · rename_i k3; rw [if_pos k3]
      · exact absurd rfl h

theorem line_ref (h : (lineP S C ev).2 ≠ 0) : (lineP S C ev).1 = S := by
  unfold lineP at h ⊢
  dsimp only at h ⊢
  split at h
  · rename_i k; rw [if_pos k]
  · rename_i k; rw [if_neg k]
    split at h
    · rename_i k2; rw [if_pos k2]
      split at h
      · rename_i k3; exact absurd k3 h
      · rename_i k3; rw [if_neg k3]
    · rename_i k2; rw [if_neg k2]
      split at h
      · rename_i k3; rw [if_pos k3]
      · rename_i k3; rw [if_neg k3]
        split at h
        · rename_i k4; rw [if_pos k4]
        · exact absurd rfl h

theorem control_ref (h : (controlP S C ev).2 ≠ 0) : (controlP S C ev).1 = S := by
  unfold controlP at h ⊢
  dsimp only at h ⊢
  by_cases k1 : (findP S C ev.addr 3 2).2.2 ≠ 0
  · rw [if_pos k1]
  rw [if_neg k1] at h ⊢
  by_cases k2 : ev.kind = 14
  · rw [if_pos k2] at h ⊢
    by_cases k3 : (findP S C ev.node 2 1).2.2 ≠ 0
    · rw [if_pos k3]
    · rw [if_neg k3] at h; exact absurd rfl h
  rw [if_neg k2] at h ⊢
  by_cases k3 : ev.kind = 15
  · rw [if_pos k3] at h ⊢
    by_cases k4 : ev.arg ≥ 8
    · rw [if_pos k4]
    · rw [if_neg k4] at h
      split at h <;> exact absurd rfl h
  rw [if_neg k3] at h ⊢
  by_cases k5 : ev.kind = 16
  · rw [if_pos k5] at h ⊢
    split at h
    · rename_i k6; rw [if_pos k6]
    · exact absurd rfl h
  rw [if_neg k5] at h ⊢
  by_cases k7 : ev.kind = 17
  · rw [if_pos k7] at h ⊢
    split at h
    · rename_i k8; rw [if_pos k8]
    · exact absurd rfl h
  rw [if_neg k7] at h
  exact absurd rfl h

theorem sig_ref (h : (sigP S C ev).2 ≠ 0) : (sigP S C ev).1 = S := by
  unfold sigP at h ⊢
  dsimp only at h ⊢
  split at h
  · rename_i k; exact absurd k h
  · rename_i k; rw [if_neg k]

theorem drop_ref (h : (dropP S C ev).2.2 ≠ 0) : (dropP S C ev).1 = S ∧ (dropP S C ev).2.1 = C := by
  unfold dropP at h ⊢
  dsimp only at h ⊢
  by_cases k1 : (lookP C.ent (S.tcb S.cur.toNat).cs ev.addr).2 ≠ 0
  · rw [if_pos k1]; exact ⟨rfl, rfl⟩
  rw [if_neg k1] at h ⊢
  by_cases k2 : (C.cel (lookP C.ent (S.tcb S.cur.toNat).cs ev.addr).1.toNat).cap.ty = 0
  · rw [if_pos k2]; exact ⟨rfl, rfl⟩
  rw [if_neg k2] at h
  by_cases k3 : ev.kind = 13
  · rw [if_pos k3] at h; exact absurd rfl h
  · rw [if_neg k3] at h; exact absurd rfl h

theorem copy_ref (h : (copyCapP S C ev).2 ≠ 0) : (copyCapP S C ev).1 = C := by
  unfold copyCapP at h ⊢
  dsimp only at h ⊢
  by_cases k1 : (lookP C.ent (S.tcb S.cur.toNat).cs ev.addr).2 ≠ 0
  · rw [if_pos k1]
  rw [if_neg k1] at h ⊢
  by_cases k2 : (findP S C ev.node 2 2).2.2 ≠ 0
  · rw [if_pos k2]
  rw [if_neg k2] at h ⊢
  by_cases k3 : (lookP C.ent (findP S C ev.node 2 2).1.obj ev.dst).2 ≠ 0
  · rw [if_pos k3]
  rw [if_neg k3] at h ⊢
  dsimp only at h ⊢
  rw [derive_ref h]

theorem retype0_ref {E : Nat → Ent} {t : Int} (h : (retype0 E t).2.2 ≠ 0) : (retype0 E t).1 = E := by
  unfold retype0 at h ⊢
  dsimp only at h ⊢
  split at h
  · rename_i k; rw [if_pos k]
  · rename_i k; rw [if_neg k]
    split at h
    · rename_i k2; rw [if_pos k2]
    · exact absurd rfl h

theorem retype_ref (h : (retypeP S C ev).2 ≠ 0) : (retypeP S C ev).1 = C := by
  unfold retypeP at h ⊢
  dsimp only at h ⊢
  by_cases k1 : (findP S C ev.addr 1 2).2.2 ≠ 0
  · rw [if_pos k1]
  rw [if_neg k1] at h ⊢
  by_cases k2 : (lookP C.ent (S.tcb S.cur.toNat).cs ev.dst).2 ≠ 0
  · rw [if_pos k2]
  rw [if_neg k2] at h ⊢
  by_cases k3 : (C.cel (lookP C.ent (S.tcb S.cur.toNat).cs ev.dst).1.toNat).cap.ty ≠ 0
  · rw [if_pos k3]
  rw [if_neg k3] at h ⊢
  by_cases k4 : ev.ty < 2 ∨ ev.ty ≥ 6
  · rw [if_pos k4]
  rw [if_neg k4] at h ⊢
  by_cases k5 : (retype0 C.ent ev.ty).2.2 ≠ 0
  · rw [if_pos k5]; dsimp only; rw [retype0_ref k5]
  rw [if_neg k5] at h
  by_cases k6 : ev.ty = 2
  · rw [if_pos k6] at h; exact absurd rfl h
  · rw [if_neg k6] at h; exact absurd rfl h

theorem sys_ref {ou : Outp} (h : (sysP S C ev ou).2.2.2 ≠ 0) : (sysP S C ev ou).1 = S ∧ (sysP S C ev ou).2.1 = C := by
  unfold sysP at h ⊢
  by_cases k0 : ev.kind = 2
  · rw [if_pos k0] at h; exact absurd rfl h
  rw [if_neg k0] at h ⊢
  by_cases k1 : ev.kind = 3
  · rw [if_pos k1] at h; exact absurd rfl h
  rw [if_neg k1] at h ⊢
  by_cases k2 : ev.kind = 4 ∨ ev.kind = 5
  · rw [if_pos k2] at h ⊢; exact send_ref h
  rw [if_neg k2] at h ⊢
  by_cases k3 : ev.kind = 6
  · rw [if_pos k3] at h ⊢; exact recv_ref h
  rw [if_neg k3] at h ⊢
  by_cases k4 : ev.kind = 7
  · rw [if_pos k4] at h ⊢; exact ⟨reply_ref h, rfl⟩
  rw [if_neg k4] at h ⊢
  by_cases k5 : ev.kind = 8
  · rw [if_pos k5] at h ⊢; exact ⟨sig_ref h, rfl⟩
  rw [if_neg k5] at h ⊢
  by_cases k6 : ev.kind = 9
  · rw [if_pos k6] at h ⊢; exact ⟨wait_ref h, rfl⟩
  rw [if_neg k6] at h ⊢
  by_cases k7 : ev.kind = 10
  · rw [if_pos k7] at h ⊢; exact ⟨rfl, retype_ref h⟩
  rw [if_neg k7] at h ⊢
  by_cases k8 : ev.kind = 11
  · rw [if_pos k8] at h ⊢; exact ⟨rfl, copy_ref h⟩
  rw [if_neg k8] at h ⊢
  by_cases k9 : ev.kind = 12 ∨ ev.kind = 13
  · rw [if_pos k9] at h ⊢; exact drop_ref h
  rw [if_neg k9] at h ⊢
  by_cases k10 : ev.kind = 18 ∨ ev.kind = 19
  · rw [if_pos k10] at h ⊢; exact ⟨line_ref h, rfl⟩
  rw [if_neg k10] at h ⊢
  exact ⟨control_ref h, rfl⟩

theorem step0_ref (h : (step0 S C ev).2.2.code ≠ 0) : (step0 S C ev).1 = S ∧ (step0 S C ev).2.1 = C := by
  unfold step0 at h ⊢
  by_cases k0 : ev.kind = 0
  · rw [if_pos k0] at h; exact absurd rfl h
  rw [if_neg k0] at h ⊢
  by_cases k1 : ev.kind = 1
  · rw [if_pos k1] at h ⊢; exact ⟨int_ref h, rfl⟩
  rw [if_neg k1] at h ⊢
  by_cases k2 : ev.kind ≥ 20
  · rw [if_pos k2]; exact ⟨rfl, rfl⟩
  rw [if_neg k2] at h ⊢
  by_cases k3 : S.cur = -1
  · rw [if_pos k3]; exact ⟨rfl, rfl⟩
  rw [if_neg k3] at h ⊢
  exact sys_ref h

theorem step_ref (h : (stepP S C ev).2.2.code ≠ 0) : (stepP S C ev).1 = S ∧ (stepP S C ev).2.1 = C := by
  unfold stepP at h ⊢
  by_cases k : (step0 S C ev).2.2.code = 0
  · rw [if_pos k] at h; exact absurd k h
  · rw [if_neg k]; exact step0_ref k
end

end Go.Kn
