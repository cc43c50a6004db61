/-
  Every cell's capability: its number, its rights.
-/
import Derived.Test.Qxb6500918aDoorLd
import Derived.Test.Qxb6500918aDoorLf
namespace Go.Kn
open Go.Sx

def CapR (c : Cp) : Prop := (0 ≤ c.obj.idx ∧ c.obj.idx ≤ 65535) ∧ 0 ≤ c.rights ∧ c.rights < 8

def XC (C : CP) : Prop := ∀ s, CapR (C.cel s).cap

def chkAnd : Bool := (List.range 8).all fun r => (List.range 256).all fun m => decide (0 ≤ bitI .and .u8 (r : Int) (m : Int)) && decide (bitI .and .u8 (r : Int) (m : Int) < 8)
theorem chkAnd_ok : chkAnd = true := by kernel_rfl
theorem and_r {r m : Int} (hr : 0 ≤ r ∧ r < 8) (hm : 0 ≤ m ∧ m < 256) : 0 ≤ bitI .and .u8 r m ∧ bitI .and .u8 r m < 8 := by
  have h := chkAnd_ok
  unfold chkAnd at h
  rw [List.all_eq_true] at h
  have h1 := h r.toNat (List.mem_range.2 (by omega))
  rw [List.all_eq_true] at h1
  have h2 := h1 m.toNat (List.mem_range.2 (by omega))
  rw [show ((r.toNat : Nat) : Int) = r by omega, show ((m.toNat : Nat) : Int) = m by omega] at h2
  simpa using h2

def chk7 : Bool := (List.range 8).all fun r => decide (bitI .and .u8 (r : Int) 7 = (r : Int))
theorem chk7_ok : chk7 = true := by kernel_rfl
theorem and7 {r : Int} (hr : 0 ≤ r ∧ r < 8) : bitI .and .u8 r 7 = r := by
  have h := chk7_ok
  unfold chk7 at h
  rw [List.all_eq_true] at h
  have h1 := h r.toNat (List.mem_range.2 (by omega))
  rw [show ((r.toNat : Nat) : Int) = r by omega] at h1
  simpa using h1

theorem wrap8 (x : Int) : 0 ≤ IntKind.wrap .u8 x ∧ IntKind.wrap .u8 x < 256 := by
  simp [IntKind.wrap, IntKind.bits, IntKind.signed]; omega
theorem wrap16 (x : Int) : 0 ≤ IntKind.wrap .u16 x ∧ IntKind.wrap .u16 x ≤ 65535 := by
  simp [IntKind.wrap, IntKind.bits, IntKind.signed]; omega

theorem cp0_R : CapR cp0 := ⟨by decide, by decide, by decide⟩
theorem celE_R : CapR celE.cap := cp0_R

theorem XC.upd {C : CP} (h : XC C) {d : Nat} {c : Cel} (hc : CapR c.cap) : XC { C with cel := Kn.upd C.cel d c } := fun s => by
  dsimp only
  by_cases e : s = d
  · subst e; rw [upd_same]; exact hc
  · rw [upd_other _ _ e]; exact h s

theorem derive_XC {C : CP} (h : XC C) (d s : Nat) {m : Int} (hm : 0 ≤ m ∧ m < 256) (b : Int) : XC { C with cel := (deriveP C.cel d s m b).1 } := by
  unfold deriveP
  split
  · exact h
  split
  · exact h
  split
  · exact h
  split
  · exact h.upd ⟨(h s).1, and_r (h s).2 hm⟩
  · exact h.upd ⟨(h s).1, and_r (h s).2 hm⟩

theorem deliver_XC {S : KP} {C : CP} (h : XC C) (f t : Int) : XC (deliverP S C f t).2 := by
  unfold deliverP; dsimp only
  split
  · exact h
  split
  · have hd := derive_XC h (lookP C.ent ((Kn.deliver0 S f t).tcb t.toNat).cs ((Kn.deliver0 S f t).tcb t.toNat).dst).1.toNat (lookP C.ent ((Kn.deliver0 S f t).tcb f.toNat).cs (IntKind.wrap .u32 (((Kn.deliver0 S f t).tcb f.toNat).xfer - 1))).1.toNat (m := 7) (by decide) 0
    split
    · exact hd
    · exact hd
  · exact h

section
variable {S : KP} {C : CP} {ev : Ev}

theorem send_XC (h : XC C) : XC (sendP S C ev).2.1 := by
  unfold sendP
  extract_lets f t S1 x1 S2 x2 S3 x3 S4 x4 S5 d S7
  split
  · exact h
  split
  · exact h
  split
  · exact h
  · exact deliver_XC h _ _

theorem recv_XC (h : XC C) (ou : Outp) : XC (recvP S C ev ou).2.1 := by
  unfold recvP; dsimp only
  split
  · exact h
  split
  · exact h
  · exact deliver_XC h _ _

theorem copy_XC (h : XC C) : XC (copyCapP S C ev).1 := by
  unfold copyCapP; dsimp only
  split
  · exact h
  split
  · exact h
  split
  · exact h
  exact derive_XC h _ _ (wrap8 _) _

theorem cut_XC (h : XC C) (s : Nat) : XC (cutP C s) := fun x => by
  by_cases e : x = s
  · subst e; rw [cut_same]; exact celE_R
  · rw [cut_cap e]; exact h x

theorem del_XC : ∀ (f : Nat) {C : CP}, XC C → ∀ s, XC (deleteP f C s).1
  | 0, _, h, _ => h
  | f + 1, C, h, s => by
    rw [deleteP]
    split
    · exact h
    split
    · exact cut_XC h s
    split
    · have hr : XC ((List.range 16).foldl (fun (acc : CP × List Cp) j => ((deleteP f acc.1 ((C.cel s).cap.obj.idx.toNat * 16 + j)).1, acc.2 ++ (deleteP f acc.1 ((C.cel s).cap.obj.idx.toNat * 16 + j)).2)) (cutP C s, [(C.cel s).cap])).1 :=
        foldl_range (fun (acc : CP × List Cp) j => ((deleteP f acc.1 ((C.cel s).cap.obj.idx.toNat * 16 + j)).1, acc.2 ++ (deleteP f acc.1 ((C.cel s).cap.obj.idx.toNat * 16 + j)).2)) (fun _ r => XC r.1) (cutP C s, [(C.cel s).cap]) 16 (cut_XC h s) (fun j x _ hx => del_XC f hx _)
      exact hr
    · exact cut_XC h s

theorem rev_XC (s : Int) : ∀ (f : Nat) {C : CP} (acc : List Cp), XC C → XC (revokeP f C s acc).1
  | 0, _, _, h => h
  | f + 1, C, acc, h => by
    rw [revokeP]; split
    · exact h
    · exact rev_XC s f _ (del_XC 4097 h _)

theorem drop_XC (h : XC C) : XC (dropP S C ev).2.1 := by
  unfold dropP; dsimp only
  split
  · exact h
  split
  · exact h
  split
  · have hr := rev_XC (lookP C.ent (S.tcb S.cur.toNat).cs ev.addr).1 4097 [] h
    obtain ⟨rr, hrr⟩ : ∃ x, revokeP 4097 C (lookP C.ent (S.tcb S.cur.toNat).cs ev.addr).1 [] = x := ⟨_, rfl⟩
    rw [hrr] at hr ⊢
    exact hr
  · have hr := del_XC 4097 h (lookP C.ent (S.tcb S.cur.toNat).cs ev.addr).1.toNat
    obtain ⟨rr, hrr⟩ : ∃ x, deleteP 4097 C (lookP C.ent (S.tcb S.cur.toNat).cs ev.addr).1.toNat = x := ⟨_, rfl⟩
    rw [hrr] at hr ⊢
    exact hr

theorem retype0_R (E : Nat → Ent) (t : Int) : 0 ≤ (retype0 E t).2.1.idx ∧ (retype0 E t).2.1.idx ≤ 65535 := by
  unfold retype0; dsimp only
  split
  · exact ⟨Int.le_refl 0, by show (0 : Int) ≤ 65535; decide⟩
  · split
    · exact ⟨Int.le_refl 0, by show (0 : Int) ≤ 65535; decide⟩
    · exact wrap16 _

theorem retype_XC (h : XC C) : XC (retypeP S C ev).1 := by
  have h0 := retype0_R C.ent ev.ty
  unfold retypeP; dsimp only
  split
  · exact h
  split
  · exact h
  split
  · exact h
  split
  · exact h
  generalize retype0 C.ent ev.ty = o at h0 ⊢
  split
  · exact h
  split
  · have hn : XC (nodeP { C with ent := o.1 } o.2.1.idx.toNat) := fun s => by
      show CapR (if s / 16 = o.2.1.idx.toNat then celE else C.cel s).cap
      split
      · exact celE_R
      · exact h s
    exact hn.upd ⟨h0, by show (0 : Int) ≤ 7; decide, by show (7 : Int) < 8; decide⟩
  · exact XC.upd (C := { C with ent := o.1 }) h ⟨h0, by show (0 : Int) ≤ 7; decide, by show (7 : Int) < 8; decide⟩

theorem sys_XC (h : XC C) (ou : Outp) : XC (sysP S C ev ou).2.1 := by
  unfold sysP
  by_cases k0 : ev.kind = 2
  · rw [if_pos k0]; exact h
  rw [if_neg k0]
  by_cases k1 : ev.kind = 3
  · rw [if_pos k1]; exact h
  rw [if_neg k1]
  by_cases k2 : ev.kind = 4 ∨ ev.kind = 5
  · rw [if_pos k2]; exact send_XC h
  rw [if_neg k2]
  by_cases k3 : ev.kind = 6
  · rw [if_pos k3]; exact recv_XC h ou
  rw [if_neg k3]
  by_cases k4 : ev.kind = 7
  · rw [if_pos k4]; exact h
  rw [if_neg k4]
  by_cases k5 : ev.kind = 8
  · rw [if_pos k5]; exact h
  rw [if_neg k5]
  by_cases k6 : ev.kind = 9
  · rw [if_pos k6]; exact h
  rw [if_neg k6]
  by_cases k7 : ev.kind = 10
  · rw [if_pos k7]; exact retype_XC h
  rw [if_neg k7]
  by_cases k8 : ev.kind = 11
  · rw [if_pos k8]; exact copy_XC h
  rw [if_neg k8]
  by_cases k9 : ev.kind = 12 ∨ ev.kind = 13
  · rw [if_pos k9]; exact drop_XC h
  rw [if_neg k9]
  by_cases k10 : ev.kind = 18 ∨ ev.kind = 19
  · rw [if_pos k10]; exact h
  rw [if_neg k10]
  exact h

theorem step_XC (h : XC C) : XC (stepP S C ev).2.1 := by
  have h0 : XC (step0 S C ev).2.1 := by
    unfold step0
    by_cases k0 : ev.kind = 0
    · rw [if_pos k0]; exact h
    rw [if_neg k0]
    by_cases k1 : ev.kind = 1
    · rw [if_pos k1]; exact h
    rw [if_neg k1]
    by_cases k2 : ev.kind ≥ 20
    · rw [if_pos k2]; exact h
    rw [if_neg k2]
    by_cases k3 : S.cur = -1
    · rw [if_pos k3]; exact h
    rw [if_neg k3]
    exact sys_XC h out0
  unfold stepP
  extract_lets r
  have h1 : XC r.2.1 := h0
  clear_value r
  split <;> exact h1
end

end Go.Kn

namespace Go.Proofs.Qxb6500918aDoor
open Go.Sx Go.Kn

theorem boot_XC : XC bootC := fun s => by
  show CapR (upd (upd (upd (fun s => if s / 16 = 0 then celE else celZ) 2 _) 0 _) 1 _ s).cap
  unfold upd
  split
  · exact ⟨by decide, by decide, by decide⟩
  · split
    · exact ⟨by decide, by decide, by decide⟩
    · split
      · exact ⟨by decide, by decide, by decide⟩
      · dsimp only; split
        · exact celE_R
        · exact cp0_R

end Go.Proofs.Qxb6500918aDoor
