/-
  The machine as it boots.
-/
import Derived.Test.Qxb6500918aDoorKS
namespace Go.Kn
open Go.Sx

def bootK1 (n : Nat) : KP := { zK (-1) with tcb := fun i => if i < n then noT else zT, wq := fun i => if i < n then noQ else zQ }
def bootK2 (n : Nat) : KP := { bootK1 256 with rdy := fun i => if i < n then noQ else zQ }
def bootS : KP := { (bootK2 8).setT 1 ⟨2, 4, ⟨0, 0⟩, ⟨0, 1⟩, ⟨0, 0⟩, 0, 0, 0, 0, 0, 0, 0, 0, 0, false, false, -1, -1⟩ with cur := 1 }

theorem bootK1_step {i : Nat} : ((bootK1 i).setT i noT).setQ (.w i) noQ = bootK1 (i + 1) := by
  unfold bootK1 KP.setT KP.setQ zK
  dsimp only
  congr 1
  · funext j; unfold upd; by_cases e : j = i
    · subst e; simp
    · simp only [e, if_false]; by_cases e2 : j < i
      · rw [if_pos e2, if_pos (by omega)]
      · rw [if_neg e2, if_neg (by omega)]
  · funext j; unfold upd; by_cases e : j = i
    · subst e; simp
    · simp only [e, if_false]; by_cases e2 : j < i
      · rw [if_pos e2, if_pos (by omega)]
      · rw [if_neg e2, if_neg (by omega)]

theorem bootK2_step {i : Nat} : (bootK2 i).setQ (.r i) noQ = bootK2 (i + 1) := by
  unfold bootK2 KP.setQ
  dsimp only
  congr 1
  funext j; unfold upd; by_cases e : j = i
  · subst e; simp
  · simp only [e, if_false]; by_cases e2 : j < i
    · rw [if_pos e2, if_pos (by omega)]
    · rw [if_neg e2, if_neg (by omega)]

theorem bootK1_zero : bootK1 0 = zK (-1) := rfl
theorem bootK2_zero : bootK2 0 = bootK1 256 := rfl

theorem zT_ok : TOk zT := ⟨.inr (by decide), .inr (by decide), by decide, by decide, by decide, by decide, by decide⟩

theorem zK_RI : RI (zK (-1)) where
  t {_} _ := zT_ok
  q {L} _ := by cases L <;> exact (⟨.inr (by decide), .inr (by decide)⟩ : QOk zQ)
  cur := .inl rfl
  irq {_} _ := by show (0 : Int) ≤ 0 ∧ (0 : Int) < 256; decide

theorem boot_tcb (i : Nat) (hi : i < 256) : bootS.tcb i = if i = 1 then ⟨2, 4, ⟨0, 0⟩, ⟨0, 1⟩, ⟨0, 0⟩, 0, 0, 0, 0, 0, 0, 0, 0, 0, false, false, -1, -1⟩ else noT := by
  unfold bootS KP.setT bootK2 bootK1
  dsimp only
  unfold upd
  split
  · rfl
  · exact if_pos hi

theorem boot_q (L : QL) (hL : L.ok) : bootS.q L = noQ := by
  cases L with
  | w i => show (if i < 256 then noQ else zQ) = noQ; exact if_pos hL
  | r p => show (if p < 8 then noQ else zQ) = noQ; exact if_pos hL

theorem boot_RI : RI bootS where
  t {i} hi := by
    rw [boot_tcb i hi]; split
    · exact ⟨.inl rfl, .inl rfl, by decide, by decide, by decide, by decide, by decide⟩
    · exact noT_ok
  q {L} hL := by rw [boot_q L hL]; exact ⟨.inl rfl, .inl rfl⟩
  cur := .inr (by decide)
  irq {_} _ := by show (0 : Int) ≤ 0 ∧ (0 : Int) < 256; decide

theorem boot_LI : LI bootS := by
  refine ⟨fun _ => [], ⟨fun {L} hL => ?_, fun {L} hL t ht => ?_⟩, by decide, fun p hp => ?_, fun t ht => ?_⟩
  · exact ⟨by rw [boot_q L hL]; rfl, by rw [boot_q L hL]; rfl, by rw [boot_q L hL]; rfl, fun _ h => (by cases h), List.nodup_nil, trivial⟩
  · rw [boot_tcb t ht]
    split
    · simp [place]
    · simp [place, noT]
  · have : bootS.busy = 0 := rfl
    rw [this]; simp
  · rw [boot_tcb t ht]
    have hc : bootS.cur = 1 := rfl
    rw [hc]
    split
    · rename_i e; subst e; exact ⟨fun _ => rfl, fun _ => rfl⟩
    · rename_i e
      constructor
      · intro hq; exact absurd hq (by show (0 : Int) ≠ 2; decide)
      · intro hq; omega

end Go.Kn

namespace Go.Proofs.Qxb6500918aDoor
open Go.Sx Go.Kn
set_option maxRecDepth 100000

def bootE1 : Nat → Ent := upd bootE 0 ⟨2, 1, 0, 512⟩
def bootE2 : Nat → Ent := upd bootE1 1 ⟨3, 1, 1024, 1024⟩
theorem boot_r1 : retype0 bootE 2 = (bootE1, ⟨0, 1⟩, 0) := by kernel_rfl
theorem boot_r2 : retype0 bootE1 3 = (bootE2, ⟨1, 1⟩, 0) := by kernel_rfl
theorem boot_l : lookP bootE2 ⟨0, 1⟩ 0 = (0, 0) := by kernel_rfl
theorem boot_ref : refAtP bootE2 256 = ⟨256, 1⟩ := by kernel_rfl

def bootC0 : CP := ⟨bootE, fun _ => false, fun _ => celZ⟩
def bootC1 : CP := nodeP { bootC0 with ent := bootE2 } 0
def bootC2 : CP := { bootC1 with cel := upd bootC1.cel 2 ⟨⟨1, ⟨256, 1⟩, 7, 0⟩, -1⟩ }
def bootC3 : CP := { bootC2 with cel := upd bootC2.cel 0 ⟨⟨2, ⟨0, 1⟩, 7, 0⟩, 2⟩ }
def bootC : CP := { bootC3 with cel := upd bootC3.cel 1 ⟨⟨3, ⟨1, 1⟩, 7, 0⟩, 2⟩ }

theorem boot_pres (i : Nat) : bootC.pres i = decide (i = 0) := by
  show upd (fun _ => false) 0 true i = _
  unfold upd; by_cases e : i = 0 <;> simp [e]

theorem boot_ent (i : Nat) : bootC.ent i = if i = 1 then ⟨3, 1, 1024, 1024⟩ else if i = 0 then ⟨2, 1, 0, 512⟩ else if i = 256 then ⟨1, 1, 0, 8192⟩ else ⟨0, 1, 0, 0⟩ := by
  show bootE2 i = _
  unfold bootE2 bootE1 upd bootE; rfl

theorem boot_cel {s : Nat} (hs : s / 16 = 0) : bootC.cel s = if s = 1 then ⟨⟨3, ⟨1, 1⟩, 7, 0⟩, 2⟩ else if s = 0 then ⟨⟨2, ⟨0, 1⟩, 7, 0⟩, 2⟩ else if s = 2 then ⟨⟨1, ⟨256, 1⟩, 7, 0⟩, -1⟩ else celE := by
  show upd (upd (upd (fun s => if s / 16 = 0 then celE else celZ) 2 _) 0 _) 1 _ s = _
  unfold upd
  split
  · rfl
  · split
    · rfl
    · split
      · rfl
      · exact if_pos hs

theorem boot_full {s : Nat} : Full bootC s ↔ s = 0 ∨ s = 1 ∨ s = 2 := by
  constructor
  · rintro ⟨h1, h2, h3⟩
    rw [boot_pres, decide_eq_true_eq] at h2
    rw [boot_cel h2] at h3
    split at h3
    · omega
    · split at h3
      · omega
      · split at h3
        · omega
        · exact absurd rfl h3
  · rintro (rfl | rfl | rfl)
    · exact ⟨by decide, by rw [boot_pres]; rfl, by rw [boot_cel rfl]; decide⟩
    · exact ⟨by decide, by rw [boot_pres]; rfl, by rw [boot_cel rfl]; decide⟩
    · exact ⟨by decide, by rw [boot_pres]; rfl, by rw [boot_cel rfl]; decide⟩

theorem boot_CI : CI bootC where
  reg := by rw [boot_ent]; decide
  node {i} hi := by
    rw [boot_ent, boot_pres, decide_eq_true_eq]
    split
    · rename_i e; subst e; simp
    · split
      · rename_i e; subst e; simp
      · split
        · omega
        · rename_i e _; simp [e]
  cap {s} hs := by
    rcases boot_full.1 hs with rfl | rfl | rfl
    · rw [boot_cel rfl]; right; decide
    · rw [boot_cel rfl]; right; decide
    · rw [boot_cel rfl]; left; decide
  par {s} h1 h2 := by
    rw [boot_pres, decide_eq_true_eq] at h2
    rw [boot_cel h2]
    split
    · rename_i e; subst e; exact .inr ⟨2, rfl, boot_full.2 (by simp), boot_full.2 (by simp)⟩
    · split
      · rename_i e; subst e; exact .inr ⟨2, rfl, boot_full.2 (by simp), boot_full.2 (by simp)⟩
      · split
        · exact .inl rfl
        · exact .inl rfl
  acyc := ⟨fun s => if s = 2 then 0 else 1, fun {s p} h1 h2 h3 => by
    rw [boot_pres, decide_eq_true_eq] at h2
    rw [boot_cel h2] at h3
    split at h3
    · rename_i e; subst e
      have : p = 2 := by have h4 : (2 : Int) = (p : Int) := h3; omega
      subst this; decide
    · split at h3
      · rename_i e; subst e
        have : p = 2 := by have h4 : (2 : Int) = (p : Int) := h3; omega
        subst this; decide
      · split at h3
        · exact absurd h3 (by show (-1 : Int) ≠ _; omega)
        · exact absurd h3 (by show (-1 : Int) ≠ _; omega)⟩

end Go.Proofs.Qxb6500918aDoor
