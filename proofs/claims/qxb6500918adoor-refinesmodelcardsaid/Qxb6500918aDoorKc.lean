/-
  The object store and the capability space as plain data, and how they lie in cells.
-/
import Derived.Test.Qxb6500918aDoorKf
namespace Go.Kn
open Go.Sx

structure CP where
  ent : Nat → Ent
  pres : Nat → Bool
  cel : Nat → Cel

def one (v : Value) : List Value := [v]
theorem one_len (v : Value) : (one v).length = 1 := rfl
def npV (nd : Nat → Nat) (pr : Nat → Bool) (i : Nat) : Value := if pr i then .pointer (some ⟨nd i, 0, none⟩) else .pointer none
def stC (e : Nat → Ent) : List Value := [] ++ (arr 257 entC e ++ [])
def spC (bo : Nat) (nd : Nat → Nat) (pr : Nat → Bool) : List Value := [.pointer (some ⟨bo, 0, none⟩)] ++ (arr 256 one (npV nd pr) ++ [])
def ndC (cel : Nat → Cel) (i : Nat) : List Value := [] ++ (arr 16 celC (fun j => cel (i * 16 + j)) ++ [])

section
variable {e : Nat → Ent} {bo : Nat} {nd : Nat → Nat} {pr : Nat → Bool} {cel : Nat → Cel} {i j k o : Nat} {vs : List Value}

theorem st_len : (stC e).length = 1028 := by simp only [stC, List.length_append, arr_len entC_len]; rfl
theorem sp_len : (spC bo nd pr).length = 257 := by simp only [spC, List.length_append, arr_len one_len]; rfl
theorem nd_len : (ndC cel i).length = 96 := by simp only [ndC, List.length_append, arr_len celC_len]; rfl
theorem st_in (h : o ≤ 1028) : Nat.ble o (stC e).length = true := by rw [st_len]; exact Nat.ble_eq_true_of_le h
theorem sp_in (h : o ≤ 257) : Nat.ble o (spC bo nd pr).length = true := by rw [sp_len]; exact Nat.ble_eq_true_of_le h
theorem nd_in (h : o ≤ 96) : Nat.ble o (ndC cel i).length = true := by rw [nd_len]; exact Nat.ble_eq_true_of_le h

theorem st_read (hi : i < 257) (ho : o = i * 4 + k) (h : cellsAre (entC (e i)) k vs) : cellsAre (stC e) o vs := mid_read entC_len (pre := []) hi h (by simpa using ho)
theorem st_write {a' : Ent} (hi : i < 257) (hk : k + vs.length ≤ 4) (ho : o = i * 4 + k) (h : splice (entC (e i)) k vs = entC a') : splice (stC e) o vs = stC (upd e i a') :=
  mid_write entC_len (pre := []) hi hk h (by simpa using ho)
theorem sp_store : cellsAre (spC bo nd pr) 0 [.pointer (some ⟨bo, 0, none⟩)] := cellsAre_app_left (a := [.pointer (some ⟨bo, 0, none⟩)]) ⟨rfl, trivial⟩
theorem sp_read (hi : i < 256) (ho : o = 1 + i) (hp : pr i = true) : cellsAre (spC bo nd pr) o [.pointer (some ⟨nd i, 0, none⟩)] :=
  mid_read one_len (pre := [.pointer (some ⟨bo, 0, none⟩)]) (f := npV nd pr) (i := i) (k := 0) hi (by simp [one, npV, hp, cellsAre, nth]) (by simp; omega)
theorem sp_val (hi : i < 256) (ho : o = 1 + i) : cellsAre (spC bo nd pr) o [npV nd pr i] :=
  mid_read one_len (pre := [.pointer (some ⟨bo, 0, none⟩)]) (f := npV nd pr) (i := i) (k := 0) hi (by simp [one, cellsAre, nth]) (by simp; omega)
theorem npV_put (b : Nat) : upd (npV nd pr) i (.pointer (some ⟨b, 0, none⟩)) = npV (upd nd i b) (upd pr i true) := by
  funext j; unfold npV upd; split <;> simp_all
theorem npV_cut : upd (npV nd pr) i (.pointer none) = npV nd (upd pr i false) := by
  funext j; unfold npV upd; split <;> simp_all
theorem sp_put (b : Nat) (hi : i < 256) (ho : o = 1 + i) : splice (spC bo nd pr) o [.pointer (some ⟨b, 0, none⟩)] = spC bo (upd nd i b) (upd pr i true) := by
  unfold spC
  rw [mid_write one_len (pre := [.pointer (some ⟨bo, 0, none⟩)]) (f := npV nd pr) (i := i) (k := 0) (a' := .pointer (some ⟨b, 0, none⟩)) hi (Nat.le_refl _) rfl (by simp; omega), npV_put]
theorem sp_cut (hi : i < 256) (ho : o = 1 + i) : splice (spC bo nd pr) o [.pointer none] = spC bo nd (upd pr i false) := by
  unfold spC
  rw [mid_write one_len (pre := [.pointer (some ⟨bo, 0, none⟩)]) (f := npV nd pr) (i := i) (k := 0) (a' := .pointer none) hi (Nat.le_refl _) rfl (by simp; omega), npV_cut]

theorem nd_read (hj : j < 16) (ho : o = j * 6 + k) (h : cellsAre (celC (cel (i * 16 + j))) k vs) : cellsAre (ndC cel i) o vs := mid_read celC_len (pre := []) (f := fun j => cel (i * 16 + j)) hj h (by simpa using ho)
theorem nd_write {a' : Cel} (hj : j < 16) (hk : k + vs.length ≤ 6) (ho : o = j * 6 + k) (h : splice (celC (cel (i * 16 + j))) k vs = celC a') : splice (ndC cel i) o vs = ndC (upd cel (i * 16 + j) a') i := by
  have h1 := mid_write celC_len (pre := []) (post := []) (f := fun j => cel (i * 16 + j)) (a' := a') hj hk h (by simpa using ho)
  unfold ndC
  rw [h1]
  congr 2
  congr 1
  funext x
  unfold upd
  by_cases e : x = j
  · subst e; simp
  · rw [if_neg e, if_neg (by omega)]
theorem arr_ext {α : Type} {enc : α → List Value} : ∀ {n : Nat} {f g : Nat → α}, (∀ x, x < n → f x = g x) → arr n enc f = arr n enc g
  | 0, _, _, _ => rfl
  | n + 1, f, g, h => by rw [arr_succ, arr_succ, arr_ext (fun x hx => h x (by omega)), h n (by omega)]
theorem nd_ext {cel' : Nat → Cel} (h : ∀ x, x < 16 → cel' (i * 16 + x) = cel (i * 16 + x)) : ndC cel' i = ndC cel i := by
  unfold ndC; rw [arr_ext h]
theorem nd_other {s : Nat} {a' : Cel} (h : s / 16 ≠ i) : ndC (upd cel s a') i = ndC cel i :=
  nd_ext (fun x hx => upd_other _ _ (by intro e; omega))
end

/-- The store, the space and its nodes in memory. -/
structure CapAt (w : World) (bo bc : Nat) (nd : Nat → Nat) (C : CP) : Prop where
  st : w.heap[bo]? = some (Blk.obj ⟨stC C.ent, 131, false⟩)
  sp : w.heap[bc]? = some (Blk.obj ⟨spC bo nd C.pres, 142, false⟩)
  no : ∀ {i : Nat}, i < 256 → C.pres i = true → w.heap[nd i]? = some (Blk.obj ⟨ndC C.cel i, 146, false⟩)
  ap : bo ≠ bc
  n1 : ∀ {i : Nat}, i < 256 → C.pres i = true → nd i ≠ bo ∧ nd i ≠ bc
  n2 : ∀ {i j : Nat}, i < 256 → j < 256 → C.pres i = true → C.pres j = true → nd i = nd j → i = j

def capF (bo bc : Nat) (nd : Nat → Nat) (C : CP) : List Nat := bo :: bc :: ((List.range 256).filter C.pres).map nd

theorem mem_capF {bo bc : Nat} {nd : Nat → Nat} {C : CP} {b : Nat} : b ∈ capF bo bc nd C ↔ b = bo ∨ b = bc ∨ ∃ i, i < 256 ∧ C.pres i = true ∧ nd i = b := by
  simp [capF, and_assoc]

theorem CapAt.low {w : World} {bo bc : Nat} {nd : Nat → Nat} {C : CP} (h : CapAt w bo bc nd C) : ∀ b ∈ capF bo bc nd C, b < w.heap.size := by
  intro b hb
  rcases mem_capF.1 hb with rfl | rfl | ⟨i, hi, hp, rfl⟩
  · exact lt_of_heap h.st
  · exact lt_of_heap h.sp
  · exact lt_of_heap (h.no hi hp)

theorem CapAt.stable {bo bc : Nat} {nd : Nat → Nat} {C : CP} : Stable (fun w => CapAt w bo bc nd C) (capF bo bc nd C) := by
  intro w w' hs h
  refine ⟨?_, ?_, fun {i} hi hp => ?_, h.ap, h.n1, h.n2⟩
  · rw [hs bo (by simp [capF])]; exact h.st
  · rw [hs bc (by simp [capF])]; exact h.sp
  · rw [hs (nd i) (mem_capF.2 (.inr (.inr ⟨i, hi, hp, rfl⟩)))]; exact h.no hi hp

theorem CapAt.fr {w w' : World} {bo bc : Nat} {nd : Nat → Nat} {C : CP} (h : CapAt w bo bc nd C) {M : List Nat} (hf : Fr M w w') (hM : ∀ b ∈ capF bo bc nd C, b ∉ M) : CapAt w' bo bc nd C :=
  CapAt.stable w w' (fun b hb => hf.block b (h.low b hb) (hM b hb)) h

/-! Plain readings -/

def typeOfP (E : Nat → Ent) (r : Rf) : Int := if r.idx ≥ 257 then 0 else if (E r.idx.toNat).gen ≠ r.gen then 0 else (E r.idx.toNat).ty
def refAtP (E : Nat → Ent) (i : Int) : Rf := ⟨IntKind.wrap .u16 i, (E i.toNat).gen⟩
def refP (E : Nat → Ent) (t : Int) : Rf := if t = -1 then ⟨0, 0⟩ else refAtP E t
/-- Where an address leads: the cell and the code. -/
def lookP (E : Nat → Ent) (r : Rf) (a : Int) : Int × Int := if typeOfP E r ≠ 2 ∨ a ≥ 16 then (-1, 2) else (r.idx * 16 + a, 0)

def deriveP (cel : Nat → Cel) (dst src : Nat) (mask badge : Int) : (Nat → Cel) × Int :=
  if (cel src).cap.ty = 0 then (cel, 3) else
  if (cel dst).cap.ty ≠ 0 then (cel, 6) else
  if badge ≠ 0 ∧ (cel src).cap.badge ≠ 0 then (cel, 7) else
  if badge ≠ 0 then (upd cel dst ⟨⟨(cel src).cap.ty, (cel src).cap.obj, bitI .and .u8 (cel src).cap.rights mask, badge⟩, src⟩, 0)
  else (upd cel dst ⟨⟨(cel src).cap.ty, (cel src).cap.obj, bitI .and .u8 (cel src).cap.rights mask, (cel src).cap.badge⟩, src⟩, 0)

theorem refAt_idx {E : Nat → Ent} {i : Int} (h : 0 ≤ i ∧ i < 257) : (refAtP E i).idx = i := by
  simp [refAtP, IntKind.wrap, IntKind.bits, IntKind.signed]; omega

end Go.Kn
