/-
  A message passes: the plain side; calls of the space under the model.
-/
import Derived.Test.Qxb6500918aDoorUi
namespace Go.Proofs.Qxb6500918aDoor
open Go.Sx Go.Kn

section
variable {n : Nat} {K : List Nat} {w0 : World} {mb : Nat} {Z : MZ} {R : MR} {a : AK} {C C' : CP} {w w' : World} {T : Slots} {L : Mem} {act : Act}

theorem st_cap (hst : St (MCx n K w0 mb Z R a C) T L act w) (hc : CapAt w' Z.mo Z.mc Z.nd C') (hf : Fr (capF Z.mo Z.mc Z.nd C) w w') (hs : ∀ b ∈ capF Z.mo Z.mc Z.nd C', b ∈ capF Z.mo Z.mc Z.nd C ∨ w.heap.size ≤ b) (hL : ∀ kb ∈ L, kb.2.ro = true → kb.1 = 3) : St (MCx n K w0 mb Z R a C') T L act w' :=
  hst.md (hst.inv.1.setC hc hf hs) hf (mdF_sub1 (l0 := .cp) trivial (fun _ hb => hb)) (mdF_upd (l0 := .cp) (fun l hl => by cases l <;> first | rfl | exact absurd rfl hl) (fun b hb => (hs b hb).imp (fun h => mem_mdF.2 ⟨.cp, trivial, h⟩) id)) hL

theorem del0_o {f t : Nat} (h : f ≠ t) : (del0A a f t).th f = a.th f := upd_other _ _ h
theorem del0_t (a : AK) (f t : Nat) : (del0A a f t).th t = { a.th t with m0 := (a.th f).m0, m1 := (a.th f).m1, m2 := (a.th f).m2, m3 := (a.th f).m3, len := (a.th f).len, badge := (a.th f).badge, got := 0 } := upd_same _ _ _

theorem deliver_no {f t : Nat} (h : f ≠ t) (hg : (a.th f).grant = false ∨ (a.th f).xfer = 0) : deliverA a C f t = (del0A a f t, C) := by
  unfold deliverA
  rw [del0_o h, if_pos hg]

theorem deliver_bad {f t : Nat} (h : f ≠ t) (h1 : (a.th f).grant = true) (h2 : (a.th f).xfer ≠ 0) {s1 k1 s2 k2 : Int} (e1 : lookP C.ent (a.th f).cs (IntKind.wrap .u32 ((a.th f).xfer - 1)) = (s1, k1)) (e2 : lookP C.ent (a.th t).cs (a.th t).dst = (s2, k2)) (hk : ¬ (k1 = 0 ∧ k2 = 0)) : deliverA a C f t = (del0A a f t, C) := by
  unfold deliverA
  rw [del0_o h, del0_t, if_neg (by rw [h1]; simp [h2]), e1]
  dsimp only
  rw [e2, if_neg hk]

theorem deliver_yes {f t : Nat} (h : f ≠ t) (h1 : (a.th f).grant = true) (h2 : (a.th f).xfer ≠ 0) {s1 k1 s2 k2 : Int} (e1 : lookP C.ent (a.th f).cs (IntKind.wrap .u32 ((a.th f).xfer - 1)) = (s1, k1)) (e2 : lookP C.ent (a.th t).cs (a.th t).dst = (s2, k2)) (hk1 : k1 = 0) (hk2 : k2 = 0) {dc : Nat → Cel} {dk : Int} (ed : deriveP C.cel s2.toNat s1.toNat 7 0 = (dc, dk)) :
    deliverA a C f t = (if dk = 0 then a.setT t { a.th t with m0 := (a.th f).m0, m1 := (a.th f).m1, m2 := (a.th f).m2, m3 := (a.th f).m3, len := (a.th f).len, badge := (a.th f).badge, got := 1 } else del0A a f t, { C with cel := dc }) := by
  unfold deliverA
  rw [del0_o h, del0_t, if_neg (by rw [h1]; simp [h2]), e1]
  dsimp only
  rw [e2, if_pos ⟨hk1, hk2⟩, ed]
  dsimp only
  by_cases e : dk = 0
  · rw [if_pos e, if_pos e]
    unfold del0A
    rw [setT_setT]
  · rw [if_neg e, if_neg e]

/-- Behind the delivery: the sender of a call waits for the reply. -/
def passA (Z : MZ) (d : AK) (f t : Nat) : AK :=
  if (d.th f).call = true then (blockA d f 6 (Z.ky t)).setT t { (blockA d f 6 (Z.ky t)).th t with rep := Z.ky f } else d

theorem block6_eq {d : AK} {f : Nat} {ts : Tcb} (hs : d.th f = ts) (o : Rf) : ((leaveA d f).setT f { ts with st := 6, wait := ⟨0, 0⟩ }).setT f { ts with st := 6, wait := o } = blockA d f 6 o := by
  subst hs
  rw [setT_setT]
  unfold leaveA blockA AK.setT
  simp only [AK.mk.injEq, and_true]
  refine ⟨?_, rfl⟩
  funext j
  by_cases e : j = f
  · subst e; rw [upd_same, upd_same]
  · rw [upd_other _ _ e, upd_other _ _ e, upd_other _ _ e]

theorem passA_yes {d : AK} {f t : Nat} {ts tr : Tcb} (hs : d.th f = ts) (hr : d.th t = tr) (hne : t ≠ f) (hc : ts.call = true) : (((leaveA d f).setT f { ts with st := 6, wait := ⟨0, 0⟩ }).setT f { ts with st := 6, wait := Z.ky t }).setT t { tr with rep := Z.ky f } = passA Z d f t := by
  rw [block6_eq hs]
  unfold passA
  rw [hs, if_pos hc, block_tho hne, hr]

theorem passA_no {d : AK} {f t : Nat} {ts : Tcb} (hs : d.th f = ts) (hc : ts.call = false) : passA Z d f t = d := by
  unfold passA
  rw [hs, hc]; simp

end
end Go.Proofs.Qxb6500918aDoor
