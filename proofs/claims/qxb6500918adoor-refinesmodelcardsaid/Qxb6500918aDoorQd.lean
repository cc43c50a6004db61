/-
  The store and the space hold nothing that the bytes do not tell.
-/
import Derived.Test.Qxb6500918aDoorQc
namespace Go.Kn
open Go.Sx Go.Proofs.Qxb6500918aDoor

structure EI (C : CP) : Prop where
  cl : ∀ s, ¬ Full C s → C.cel s = celE
  en : ∀ i, 257 ≤ i → C.ent i = ⟨0, 1, 0, 0⟩
  pr : ∀ i, 256 ≤ i → C.pres i = false
  ty : ∀ i, 0 ≤ (C.ent i).ty ∧ (C.ent i).ty < 6

section
variable {S : KP} {C : CP} {ev : Ev}

theorem EI.ins (h : EI C) {d : Nat} {c : Cel} (hd : d < 4096) (hp : C.pres (d / 16) = true) (hc : c.cap.ty ≠ 0) : EI { C with cel := upd C.cel d c } where
  cl s hs := by
    show upd C.cel d c s = celE
    by_cases e : s = d
    · subst e
      exact absurd ⟨hd, hp, by show (upd C.cel s c s).cap.ty ≠ 0; rw [upd_same]; exact hc⟩ hs
    · rw [upd_other _ _ e]
      refine h.cl s (fun hf => hs ⟨hf.1, hf.2.1, ?_⟩)
      show (upd C.cel d c s).cap.ty ≠ 0
      rw [upd_other _ _ e]; exact hf.2.2
  en := h.en
  pr := h.pr
  ty := h.ty

theorem EI.derive (h : EI C) {d s : Nat} (hd : d < 4096) (hp : C.pres (d / 16) = true) (mask badge : Int) : EI { C with cel := (deriveP C.cel d s mask badge).1 } := by
  unfold deriveP
  split
  · exact h
  rename_i h1
  split
  · exact h
  split
  · exact h
  split
  · exact h.ins hd hp h1
  · exact h.ins hd hp h1

theorem EI.deliver (hS : RI S) (hC : CI C) (h : EI C) {f t : Int} (ht : 0 ≤ t ∧ t < 256) : EI (deliverP S C f t).2 := by
  have h0 := deliver0_RI hS (f := f) ht
  have c2 := (h0.t (i := t.toNat) (by omega)).ci
  have c3 := (h0.t (i := t.toNat) (by omega)).ds
  unfold deliverP
  dsimp only
  split
  · exact h
  split
  · rename_i hq
    have a2 := look_slot hC c2.1 c3.1 hq.2
    have := h.derive (s := (lookP C.ent ((deliver0 S f t).tcb f.toNat).cs (IntKind.wrap .u32 (((deliver0 S f t).tcb f.toNat).xfer - 1))).1.toNat) a2.1 a2.2 7 0
    split <;> exact this
  · exact h

theorem EI.send (h2 : Ok2 S) (hC : CI C) (h : EI C) (he : EvOk ev) (hcur : 0 ≤ S.cur ∧ S.cur < 256) : EI (sendP S C ev).2.1 := by
  rw [send_eq]
  have hf := find_cases h2.ri hC hcur (ad := ev.addr) (want := 4) (need := 2) he.addr.1 (by decide)
  split
  · exact h
  rename_i h0
  have hx := hf h0
  split
  · exact h
  have h5 := send5_ok2 (ev := ev) (c := (findP S C ev.addr 4 2).1) h2 hcur
  split
  · exact h
  · rename_i hne
    exact EI.deliver h5.ri hC h (lk_nat (oldest_lk h5.ri hx 4) hne)

theorem EI.recv (h2 : Ok2 S) (hC : CI C) (h : EI C) (he : EvOk ev) (hcur : 0 ≤ S.cur ∧ S.cur < 256) (ou : Outp) : EI (recvP S C ev ou).2.1 := by
  have hn : S.cur.toNat < 256 := by omega
  unfold recvP
  dsimp only
  split
  · exact h
  have ht0 := h2.ri.t hn
  have h1 : Ok2 (S.setT S.cur.toNat { S.tcb S.cur.toNat with dst := ev.dst }) := h2.setT ⟨ht0.nx, ht0.pv, ht0.pr, ht0.wi, ht0.ci, ht0.ri, he.dst⟩ ⟨rfl, rfl⟩ rfl rfl
  have hc1 : (S.setT S.cur.toNat { S.tcb S.cur.toNat with dst := ev.dst }).cur = S.cur := rfl
  generalize S.setT S.cur.toNat { S.tcb S.cur.toNat with dst := ev.dst } = S1 at h1 hc1 ⊢
  split
  · exact h
  · exact EI.deliver h1.ri hC h (by rw [hc1]; exact hcur)

theorem EI.copy (h2 : Ok2 S) (hC : CI C) (h : EI C) (he : EvOk ev) (hcur : 0 ≤ S.cur ∧ S.cur < 256) : EI (copyCapP S C ev).1 := by
  unfold copyCapP
  dsimp only
  split
  · exact h
  split
  · exact h
  rename_i h2'
  have hx := find_cases h2.ri hC hcur he.node.1 (by decide) h2'
  split
  · exact h
  rename_i h3
  have a2 := look_slot hC hx.1 he.dst.1 (Classical.byContradiction h3)
  exact h.derive a2.1 a2.2 _ _

theorem EI.setEnt (h : EI C) {E : Nat → Ent} (hE : ∀ i, 257 ≤ i → E i = ⟨0, 1, 0, 0⟩) (hT : ∀ i, 0 ≤ (E i).ty ∧ (E i).ty < 6) : EI { C with ent := E } := ⟨h.cl, hE, h.pr, hT⟩

theorem EI.node (h : EI C) {i : Nat} (hi : i < 256) : EI (nodeP C i) where
  cl s hs := by
    show (if s / 16 = i then celE else C.cel s) = celE
    by_cases e : s / 16 = i
    · rw [if_pos e]
    · rw [if_neg e]
      refine h.cl s (fun hf => hs ⟨hf.1, ?_, ?_⟩)
      · show upd C.pres i true (s / 16) = true
        rw [upd_other _ _ e]; exact hf.2.1
      · show (if s / 16 = i then celE else C.cel s).cap.ty ≠ 0
        rw [if_neg e]; exact hf.2.2
  en := h.en
  pr j hj := by
    show upd C.pres i true j = false
    rw [upd_other _ _ (by omega)]; exact h.pr j hj
  ty := h.ty

theorem ent_retype0 (h : EI C) {t : Int} (ht : 0 ≤ t ∧ t < 6) : (∀ i, 257 ≤ i → (retype0 C.ent t).1 i = ⟨0, 1, 0, 0⟩) ∧ (∀ i, 0 ≤ ((retype0 C.ent t).1 i).ty ∧ ((retype0 C.ent t).1 i).ty < 6) := by
  have hsc := scan_slot (E := C.ent) 256 0 (-1) (by decide) (by decide) (by decide) (by decide)
  unfold retype0
  dsimp only
  generalize scanP C.ent 256 0 (-1) = sc at hsc ⊢
  split
  · exact ⟨h.en, h.ty⟩
  split
  · exact ⟨h.en, h.ty⟩
  · dsimp only
    refine ⟨fun i hi => ?_, fun i => ?_⟩
    · rw [upd_other _ _ (by omega)]; exact h.en i hi
    · unfold upd; split
      · exact ht
      · exact h.ty i

theorem retype0_idx {E : Nat → Ent} {t : Int} (h : (retype0 E t).2.2 = 0) : 0 ≤ (retype0 E t).2.1.idx ∧ (retype0 E t).2.1.idx < 256 := by
  have hsc := scan_slot (E := E) 256 0 (-1) (by decide) (by decide) (by decide) (by decide)
  unfold retype0 at h ⊢
  dsimp only at h ⊢
  generalize scanP E 256 0 (-1) = sc at hsc h ⊢
  split
  · rename_i h1; rw [if_pos h1] at h; exact absurd h (show ¬ (9 : Int) = 0 by decide)
  split
  · rename_i h1 h2; rw [if_neg h1, if_pos h2] at h; exact absurd h (show ¬ (10 : Int) = 0 by decide)
  · dsimp only
    rw [refAt_idx ⟨by omega, by omega⟩]; omega

theorem EI.retype (h2 : Ok2 S) (hC : CI C) (h : EI C) (he : EvOk ev) (hcur : 0 ≤ S.cur ∧ S.cur < 256) : EI (retypeP S C ev).1 := by
  have hn : S.cur.toNat < 256 := by omega
  have ci := (h2.ri.t hn).ci
  unfold retypeP
  dsimp only
  split
  · exact h
  split
  · exact h
  rename_i hb
  have hs := look_slot hC ci.1 he.dst.1 (Classical.byContradiction hb)
  split
  · exact h
  split
  · exact h
  rename_i hty
  have hty' : 2 ≤ ev.ty ∧ ev.ty < 6 := by omega
  have h0 := ent_retype0 h (t := ev.ty) ⟨by omega, by omega⟩
  have hix := retype0_idx (E := C.ent) (t := ev.ty)
  generalize retype0 C.ent ev.ty = o at h0 hix ⊢
  have h1 : EI { C with ent := o.1 } := h.setEnt h0.1 h0.2
  split
  · exact h1
  rename_i hz
  have hi := hix (Classical.byContradiction hz)
  split
  · have h3 := h1.node (i := o.2.1.idx.toNat) (by omega)
    refine h3.ins hs.1 ?_ (by show ev.ty ≠ 0; omega)
    show upd C.pres o.2.1.idx.toNat true _ = true
    unfold upd; split
    · rfl
    · exact hs.2
  · exact h1.ins hs.1 hs.2 (by show ev.ty ≠ 0; omega)

theorem EI.cut (h : EI C) (s : Nat) : EI (cutP C s) where
  cl t ht := by
    by_cases e : t = s
    · subst e; exact cut_same C t
    · rw [cut_other e]
      have hf : ¬ Full C t := fun hf => ht (cut_full.2 ⟨e, hf⟩)
      have hc := h.cl t hf
      unfold reparP reparUp
      rw [if_neg, hc]
      rw [hc]
      rintro ⟨_, hq⟩
      have : (-1 : Int) = (s : Int) := hq
      omega
  en := h.en
  pr := h.pr
  ty := h.ty

theorem EI.free (h : EI C) (r : Rf) : EI { C with ent := freeP C.ent r } := by
  refine h.setEnt (fun i hi => ?_) (fun i => ?_)
  · unfold freeP
    split
    · rename_i ht
      have : ¬ r.idx ≥ 257 := fun hq => ht (by unfold typeOfP; rw [if_pos hq])
      rw [upd_other _ _ (by omega)]; exact h.en i hi
    · exact h.en i hi
  · unfold freeP
    split
    · unfold upd; split
      · exact ⟨show (0 : Int) ≤ 0 by decide, show (0 : Int) < 6 by decide⟩
      · exact h.ty i
    · exact h.ty i

theorem EI.del (f : Nat) : ∀ (C : CP) (s : Nat), CI C → cnt C < f → s < 4096 → C.pres (s / 16) = true → EI C → EI (deleteP f C s).1 := by
  induction f with
  | zero => intro C s _ hf; omega
  | succ f ih =>
    intro C s h hf hs hp hE
    rw [deleteP]
    by_cases h0 : (C.cel s).cap.ty = 0
    · rw [if_pos h0]; exact hE
    rw [if_neg h0]
    have hfull : Full C s := ⟨hs, hp, h0⟩
    have hcut := cut_CI h hfull
    have hcc := cut_cnt hfull
    have hEc := hE.cut s
    by_cases h1 : (C.cel s).cap.ty = 1 ∨ namedP (cutP C s) (C.cel s).cap.obj = true
    · rw [if_pos h1]; exact hEc
    rw [if_neg h1]
    by_cases h2 : (C.cel s).cap.ty = 2
    · rw [if_pos h2]
      have hok : 2 ≤ (C.cel s).cap.ty ∧ (C.cel s).cap.ty < 6 ∧ 0 ≤ (C.cel s).cap.obj.idx ∧ (C.cel s).cap.obj.idx < 256 ∧ (C.ent (C.cel s).cap.obj.idx.toNat).gen = (C.cel s).cap.obj.gen ∧ (C.ent (C.cel s).cap.obj.idx.toNat).ty = (C.cel s).cap.ty := by
        rcases h.cap hfull with hq | hq
        · exact absurd (.inl hq.1) h1
        · exact hq
      have hun := unnamed_idx hcut (c := (C.cel s).cap) hok (fun hq => h1 (.inr hq))
      have hN : (C.cel s).cap.obj.idx.toNat < 256 := by omega
      have hun' : ∀ t, Full (cutP C s) t → ((cutP C s).cel t).cap.obj.idx ≠ (((C.cel s).cap.obj.idx.toNat : Nat) : Int) := fun t ht => by
        have := hun t ht; omega
      have hpN : (cutP C s).pres (C.cel s).cap.obj.idx.toNat = true := (h.node hN).1 (by rw [hok.2.2.2.2.2, h2])
      have hrow := del_row (f := f) (ih := del_ok f) hcut hN hpN hun' (by omega) (C.cel s).cap ⟨hok.1, hok.2.1, hok.2.2.1, hok.2.2.2.1⟩ 16 (by omega)
      have hEr : EI ((List.range 16).foldl (fun (acc : CP × List Cp) j => ((deleteP f acc.1 ((C.cel s).cap.obj.idx.toNat * 16 + j)).1, acc.2 ++ (deleteP f acc.1 ((C.cel s).cap.obj.idx.toNat * 16 + j)).2)) (cutP C s, [(C.cel s).cap])).1 := by
        refine (foldl_range (fun (acc : CP × List Cp) j => ((deleteP f acc.1 ((C.cel s).cap.obj.idx.toNat * 16 + j)).1, acc.2 ++ (deleteP f acc.1 ((C.cel s).cap.obj.idx.toNat * 16 + j)).2))
          (fun _ r => CI r.1 ∧ Shr (cutP C s) r.1 ∧ EI r.1) (cutP C s, [(C.cel s).cap]) 16 ⟨hcut, Shr.refl _, hEc⟩ ?_).2.2
        rintro j ⟨Ck, l⟩ hj ⟨k1, k2, k3⟩
        dsimp only at k1 k2 k3 ⊢
        have hpk := (k2.stay _ hN hpN hun').1
        have hck : cnt Ck ≤ cnt (cutP C s) := cnt_mono (fun t ht => (k2.full ht).1)
        have hd : ((C.cel s).cap.obj.idx.toNat * 16 + j) / 16 = (C.cel s).cap.obj.idx.toNat := by omega
        have d := del_ok f Ck ((C.cel s).cap.obj.idx.toNat * 16 + j) k1 (by omega) (by omega) (by rw [hd]; exact hpk)
        exact ⟨d.ci, k2.trans d.shr, ih Ck _ k1 (by omega) (by omega) (by rw [hd]; exact hpk) k3⟩
      dsimp only at hrow ⊢
      generalize (List.range 16).foldl (fun (acc : CP × List Cp) j => ((deleteP f acc.1 ((C.cel s).cap.obj.idx.toNat * 16 + j)).1, acc.2 ++ (deleteP f acc.1 ((C.cel s).cap.obj.idx.toNat * 16 + j)).2)) (cutP C s, [(C.cel s).cap]) = r at hrow hEr ⊢
      have hfr := hEr.free (C.cel s).cap.obj
      refine ⟨fun t ht => ?_, hfr.en, fun i hi => ?_, hfr.ty⟩
      · refine hEr.cl t (fun hq => ht ⟨hq.1, ?_, hq.2.2⟩)
        have hne : t / 16 ≠ (C.cel s).cap.obj.idx.toNat := by
          intro he
          have := hrow.2.2.1 (t % 16) (by omega)
          rw [show (C.cel s).cap.obj.idx.toNat * 16 + t % 16 = t by omega] at this
          exact hq.2.2 this
        dsimp only
        rw [upd_other _ _ hne]; exact hq.2.1
      · dsimp only
        unfold upd; split
        · rfl
        · exact hEr.pr i hi
    · rw [if_neg h2]
      exact hEc.free _

theorem EI.rev (s : Int) : ∀ (f : Nat) (C : CP) (acc : List Cp), CI C → EI C → EI (revokeP f C s acc).1
  | 0, _, _, _, h => h
  | f + 1, C, acc, h, hE => by
    rw [revokeP]
    split
    · exact hE
    · rename_i hne
      rcases nextUp_full (C := C) (s := s) (n := 4096) (Nat.le_refl _) with hq | ⟨m, h1, h2, h3⟩
      · exact absurd hq hne
      · rw [h1, Int.toNat_natCast]
        have d := del_ok 4097 C m h (by have := cnt_le (C := C); omega) h3.1 h3.2.1
        exact EI.rev s f _ _ d.ci (EI.del 4097 C m h (by have := cnt_le (C := C); omega) h3.1 h3.2.1 hE)

theorem EI.drop (h2 : Ok2 S) (hC : CI C) (h : EI C) (he : EvOk ev) (hcur : 0 ≤ S.cur ∧ S.cur < 256) : EI (dropP S C ev).2.1 := by
  have hn : S.cur.toNat < 256 := by omega
  have hci := (h2.ri.t hn).ci
  unfold dropP
  dsimp only
  split
  · exact h
  rename_i e0
  split
  · exact h
  have hs := look_slot hC hci.1 he.addr.1 (Classical.byContradiction e0)
  split
  · have hr := EI.rev (lookP C.ent (S.tcb S.cur.toNat).cs ev.addr).1 4097 C [] hC h
    obtain ⟨x, hx⟩ : ∃ x, revokeP 4097 C (lookP C.ent (S.tcb S.cur.toNat).cs ev.addr).1 [] = x := ⟨_, rfl⟩
    rw [hx] at hr ⊢
    exact hr
  · have hr := EI.del 4097 C (lookP C.ent (S.tcb S.cur.toNat).cs ev.addr).1.toNat hC (by have := cnt_le (C := C); omega) hs.1 hs.2 h
    obtain ⟨x, hx⟩ : ∃ x, deleteP 4097 C (lookP C.ent (S.tcb S.cur.toNat).cs ev.addr).1.toNat = x := ⟨_, rfl⟩
    rw [hx] at hr ⊢
    exact hr

theorem EI.sys (h2 : Ok2 S) (hC : CI C) (h : EI C) (he : EvOk ev) (hcur : 0 ≤ S.cur ∧ S.cur < 256) (ou : Outp) : EI (sysP S C ev ou).2.1 := by
  unfold sysP
  by_cases k0 : ev.kind = 2
  · rw [if_pos k0]; exact h
  rw [if_neg k0]
  by_cases k1 : ev.kind = 3
  · rw [if_pos k1]; exact h
  rw [if_neg k1]
  by_cases k2 : ev.kind = 4 ∨ ev.kind = 5
  · rw [if_pos k2]; exact EI.send h2 hC h he hcur
  rw [if_neg k2]
  by_cases k3 : ev.kind = 6
  · rw [if_pos k3]; exact EI.recv h2 hC h he hcur ou
  rw [if_neg k3]
  by_cases k4 : ev.kind = 7
  · rw [if_pos k4]; exact h
  rw [if_neg k4]
  by_cases k5 : ev.kind = 8
  · rw [if_pos k5]; exact h
  rw [if_neg k5]
  by_cases k6 : ev.kind = 9
  · rw [if_pos k6]; exact h
  rw [if_neg k6]
  by_cases k7 : ev.kind = 10
  · rw [if_pos k7]; exact EI.retype h2 hC h he hcur
  rw [if_neg k7]
  by_cases k8 : ev.kind = 11
  · rw [if_pos k8]; exact EI.copy h2 hC h he hcur
  rw [if_neg k8]
  by_cases k9 : ev.kind = 12 ∨ ev.kind = 13
  · rw [if_pos k9]; exact EI.drop h2 hC h he hcur
  rw [if_neg k9]
  by_cases k10 : ev.kind = 18 ∨ ev.kind = 19
  · rw [if_pos k10]; exact h
  rw [if_neg k10]
  exact h

theorem EI.step (h2 : Ok2 S) (hC : CI C) (h : EI C) (he : EvOk ev) : EI (stepP S C ev).2.1 := by
  have h0 : EI (step0 S C ev).2.1 := by
    unfold step0
    by_cases k0 : ev.kind = 0
    · rw [if_pos k0]; exact h
    rw [if_neg k0]
    by_cases k1 : ev.kind = 1
    · rw [if_pos k1]; exact h
    rw [if_neg k1]
    by_cases k2 : ev.kind ≥ 20
    · rw [if_pos k2]; exact h
    rw [if_neg k2]
    by_cases k3 : S.cur = -1
    · rw [if_pos k3]; exact h
    rw [if_neg k3]
    exact EI.sys h2 hC h he (lk_nat h2.ri.cur k3) out0
  unfold stepP
  extract_lets r
  have h1 : EI r.2.1 := h0
  clear_value r
  split <;> exact h1

theorem EI.same {C' : CP} (h : EI C) (h' : EI C') (he : ∀ i, i < 257 → C.ent i = C'.ent i) (hp : ∀ i, i < 256 → C.pres i = C'.pres i) (hf : ∀ s, Full C s ↔ Full C' s) (hc : ∀ s, Full C s → C.cel s = C'.cel s) : C = C' := by
  have e1 : C.ent = C'.ent := funext fun i => by
    rcases Nat.lt_or_ge i 257 with hi | hi
    · exact he i hi
    · rw [h.en i hi, h'.en i hi]
  have e2 : C.pres = C'.pres := funext fun i => by
    rcases Nat.lt_or_ge i 256 with hi | hi
    · exact hp i hi
    · rw [h.pr i hi, h'.pr i hi]
  have e3 : C.cel = C'.cel := funext fun s => by
    by_cases hs : Full C s
    · exact hc s hs
    · rw [h.cl s hs, h'.cl s (fun hq => hs ((hf s).2 hq))]
  cases C; cases C'
  simp only [CP.mk.injEq] at *
  exact ⟨e1, e2, e3⟩

end

/-! The machine after boot, its unused cells as those of a node that is gone -/

def bootX : CP := { bootC with cel := fun s => if s / 16 = 0 then bootC.cel s else celE }

theorem bootX_pres (i : Nat) : bootX.pres i = decide (i = 0) := boot_pres i
theorem bootX_cel {s : Nat} (hs : s / 16 = 0) : bootX.cel s = bootC.cel s := if_pos hs

theorem bootX_full {s : Nat} : Full bootX s ↔ Full bootC s := by
  unfold Full
  rw [show bootX.pres = bootC.pres from rfl]
  constructor
  · rintro ⟨h1, h2, h3⟩
    have : s / 16 = 0 := by rw [boot_pres] at h2; simpa using h2
    rw [bootX_cel this] at h3
    exact ⟨h1, h2, h3⟩
  · rintro ⟨h1, h2, h3⟩
    have : s / 16 = 0 := by rw [boot_pres] at h2; simpa using h2
    rw [bootX_cel this]
    exact ⟨h1, h2, h3⟩

theorem bootX_EI : EI bootX where
  cl s hs := by
    by_cases e : s / 16 = 0
    · rw [bootX_cel e, boot_cel e]
      rw [bootX_full, boot_full] at hs
      rw [if_neg (fun hq => hs (by omega)), if_neg (fun hq => hs (by omega)), if_neg (fun hq => hs (by omega))]
    · exact if_neg e
  en i hi := by
    show bootC.ent i = _
    rw [boot_ent, if_neg (by omega), if_neg (by omega), if_neg (by omega)]
  pr i hi := by rw [bootX_pres]; simp; omega
  ty i := by
    show 0 ≤ (bootC.ent i).ty ∧ (bootC.ent i).ty < 6
    rw [boot_ent]
    split
    · decide
    split
    · decide
    split
    · decide
    · decide

theorem bootX_CI : CI bootX where
  reg := boot_CI.reg
  node hi := boot_CI.node hi
  cap {s} hs := by
    have h0 : s / 16 = 0 := by have := hs.2.1; rw [bootX_pres] at this; simpa using this
    rw [bootX_cel h0]; exact boot_CI.cap (bootX_full.1 hs)
  par {s} h1 h2 := by
    have h0 : s / 16 = 0 := by rw [bootX_pres] at h2; simpa using h2
    rw [bootX_cel h0]
    rcases boot_CI.par h1 h2 with h | ⟨p, h3, h4, h5⟩
    · exact .inl h
    · exact .inr ⟨p, h3, bootX_full.2 h4, bootX_full.2 h5⟩
  acyc := by
    obtain ⟨rk, h⟩ := boot_CI.acyc
    refine ⟨rk, fun {s p} h1 h2 h3 => ?_⟩
    have h0 : s / 16 = 0 := by rw [bootX_pres] at h2; simpa using h2
    rw [bootX_cel h0] at h3
    exact h h1 h2 h3

theorem bootX_at {w : World} {bo bc : Nat} {nd : Nat → Nat} (h : CapAt w bo bc nd bootC) : CapAt w bo bc nd bootX where
  st := h.st
  sp := h.sp
  no {i} hi hp := by
    have e : i = 0 := by rw [bootX_pres] at hp; simpa using hp
    rw [h.no hi hp]
    rw [nd_ext (cel := bootX.cel) (cel' := bootC.cel) (i := i) (fun x hx => (bootX_cel (by omega)).symm)]
  ap := h.ap
  n1 hi hp := h.n1 hi hp
  n2 hi hj hp hq := h.n2 hi hj hp hq

end Go.Kn
