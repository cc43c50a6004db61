/-
  A new node, a new entry: the store and the space in memory.
-/
import Derived.Test.Qxb6500918aDoorKr
namespace Go.Kn
open Go.Sx

def celE : Cel := ⟨cp0, -1⟩
def celZ : Cel := ⟨cp0, 0⟩

def nodeP (C : CP) (i : Nat) : CP := { C with pres := upd C.pres i true, cel := fun s => if s / 16 = i then celE else C.cel s }

theorem nd_shift {cel : Nat → Cel} {i : Nat} (h : ∀ s, s < 16 → cel s = celE) {cel' : Nat → Cel} (h' : ∀ s, s < 16 → cel' (i * 16 + s) = celE) : ndC cel 0 = ndC cel' i := by
  unfold ndC
  rw [arr_ext (f := fun j => cel (0 * 16 + j)) (g := fun j => cel' (i * 16 + j)) (fun x hx => by rw [h' x hx]; simpa using h x hx)]

theorem CapAt.addNode {w w' : World} {bo bc : Nat} {nd : Nat → Nat} {C : CP} (h : CapAt w bo bc nd C) {i : Nat} (hi : i < 256) {b : Nat} (hf : Fr [bc] w w') (hsp : w'.heap[bc]? = some (Blk.obj ⟨spC bo (upd nd i b) (upd C.pres i true), 142, false⟩))
    (hn : w'.heap[b]? = some (Blk.obj ⟨ndC (fun _ => celE) 0, 146, false⟩)) (hb : w.heap.size ≤ b) : CapAt w' bo bc (upd nd i b) (nodeP C i) := by
  have hlow := h.low
  have hbo : bo < w.heap.size := lt_of_heap h.st
  have hbc : bc < w.heap.size := lt_of_heap h.sp
  have hnd : ∀ {j : Nat}, j < 256 → C.pres j = true → nd j < w.heap.size := fun hj hp => lt_of_heap (h.no hj hp)
  refine ⟨?_, hsp, ?_, h.ap, ?_, ?_⟩
  · rw [hf.block bo hbo (by simp; exact h.ap)]; exact h.st
  · intro j hj hp
    by_cases e : j = i
    · subst e
      rw [upd_same, hn]
      rw [nd_shift (i := j) (cel' := (nodeP C j).cel) (fun _ _ => rfl) (fun s hs => by simp only [nodeP]; rw [if_pos (by omega)])]
    · rw [upd_other _ _ e]
      have hp' : C.pres j = true := by simpa [nodeP, upd_other _ _ e] using hp
      rw [hf.block (nd j) (hnd hj hp') (by simp; exact (h.n1 hj hp').2), h.no hj hp']
      rw [nd_ext (cel := C.cel) (cel' := (nodeP C i).cel) (i := j) (fun x hx => by simp only [nodeP]; rw [if_neg (by omega)])]
  · intro j hj hp
    by_cases e : j = i
    · subst e; rw [upd_same]; exact ⟨by omega, by omega⟩
    · rw [upd_other _ _ e]
      have hp' : C.pres j = true := by simpa [nodeP, upd_other _ _ e] using hp
      exact h.n1 hj hp'
  · intro j k hj hk hp hq he
    by_cases e : j = i
    · subst e
      by_cases e2 : k = j
      · exact e2.symm
      · rw [upd_same, upd_other _ _ e2] at he
        have hq' : C.pres k = true := by simpa [nodeP, upd_other _ _ e2] using hq
        have := hnd hk hq'; omega
    · have hp' : C.pres j = true := by simpa [nodeP, upd_other _ _ e] using hp
      by_cases e2 : k = i
      · subst e2
        rw [upd_same, upd_other _ _ e] at he
        have := hnd hj hp'; omega
      · have hq' : C.pres k = true := by simpa [nodeP, upd_other _ _ e2] using hq
        rw [upd_other _ _ e, upd_other _ _ e2] at he
        exact h.n2 hj hk hp' hq' he

theorem capF_node {w : World} {bo bc : Nat} {nd : Nat → Nat} {C : CP} {i b : Nat} (hb : w.heap.size ≤ b) : ∀ x ∈ capF bo bc (upd nd i b) (nodeP C i), x ∈ capF bo bc nd C ∨ w.heap.size ≤ x := by
  intro x hx
  rcases mem_capF.1 hx with h | h | ⟨j, hj, hp, he⟩
  · exact .inl (mem_capF.2 (.inl h))
  · exact .inl (mem_capF.2 (.inr (.inl h)))
  · by_cases e : j = i
    · subst e; rw [upd_same] at he; right; omega
    · rw [upd_other _ _ e] at he
      have hp' : C.pres j = true := by simpa [nodeP, upd_other _ _ e] using hp
      exact .inl (mem_capF.2 (.inr (.inr ⟨j, hj, hp', he⟩)))

theorem CapAt.setEnt {w w' : World} {bo bc : Nat} {nd : Nat → Nat} {C : CP} (h : CapAt w bo bc nd C) {E : Nat → Ent} (hf : Fr [bo] w w') (hst : w'.heap[bo]? = some (Blk.obj ⟨stC E, 131, false⟩)) : CapAt w' bo bc nd { C with ent := E } := by
  refine ⟨hst, ?_, ?_, h.ap, h.n1, h.n2⟩
  · rw [hf.block bc (lt_of_heap h.sp) (by simp; exact h.ap.symm)]; exact h.sp
  · intro j hj hp
    rw [hf.block (nd j) (lt_of_heap (h.no hj hp)) (by simp; exact (h.n1 hj hp).1)]; exact h.no hj hp

def retypeP (S : KP) (C : CP) (ev : Ev) : CP × Int :=
  let f := findP S C ev.addr 1 2
  if f.2.2 ≠ 0 then (C, f.2.2) else
  let b := lookP C.ent (S.tcb S.cur.toNat).cs ev.dst
  if b.2 ≠ 0 then (C, b.2) else
  if (C.cel b.1.toNat).cap.ty ≠ 0 then (C, 6) else
  if ev.ty < 2 ∨ ev.ty ≥ 6 then (C, 8) else
  let o := retype0 C.ent ev.ty
  if o.2.2 ≠ 0 then ({ C with ent := o.1 }, o.2.2) else
  if ev.ty = 2 then
    let C2 := nodeP { C with ent := o.1 } o.2.1.idx.toNat
    ({ C2 with cel := upd C2.cel b.1.toNat ⟨⟨ev.ty, o.2.1, 7, 0⟩, f.2.1⟩ }, 0)
  else
    ({ C with ent := o.1, cel := upd C.cel b.1.toNat ⟨⟨ev.ty, o.2.1, 7, 0⟩, f.2.1⟩ }, 0)

end Go.Kn
