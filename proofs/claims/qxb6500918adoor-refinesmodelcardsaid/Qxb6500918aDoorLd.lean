/-
  The capability space through copying and making; the step keeps all.
-/
import Derived.Test.Qxb6500918aDoorLc
namespace Go.Kn
open Go.Sx

theorem insert_CI {C : CP} (h : CI C) {d s : Nat} (hd : d < 4096) (hp : C.pres (d / 16) = true) (he : (C.cel d).cap.ty = 0) (hs : Full C s) {c : Cp} (hc : CapOk C.ent c) (hz : c.ty ≠ 0) : CI { C with cel := upd C.cel d ⟨c, (s : Int)⟩ } := by
  have hne : s ≠ d := fun e => by subst e; exact hs.2.2 he
  have full : ∀ t, Full { C with cel := upd C.cel d ⟨c, (s : Int)⟩ } t ↔ t = d ∨ Full C t := by
    intro t
    by_cases e : t = d
    · subst e
      constructor
      · intro _; exact .inl rfl
      · intro _; exact ⟨hd, hp, by show (upd C.cel t ⟨c, (s : Int)⟩ t).cap.ty ≠ 0; rw [upd_same]; exact hz⟩
    · constructor
      · rintro ⟨a1, a2, a3⟩
        dsimp only at a3
        rw [upd_other _ _ e] at a3
        exact .inr ⟨a1, a2, a3⟩
      · intro hq
        obtain ⟨a1, a2, a3⟩ := hq.resolve_left e
        exact ⟨a1, a2, by show (upd C.cel d ⟨c, (s : Int)⟩ t).cap.ty ≠ 0; rw [upd_other _ _ e]; exact a3⟩
  obtain ⟨rk, hrk⟩ := h.acyc
  refine ⟨h.reg, h.node, fun {t} ht => ?_, fun {t} h1 h2 => ?_, fun x => if x = d then rk s + 1 else rk x, fun {t p} h1 h2 h3 => ?_⟩
  · dsimp only
    by_cases e : t = d
    · subst e; rw [upd_same]; exact hc
    · rw [upd_other _ _ e]; exact h.cap (((full t).1 ht).resolve_left e)
  · dsimp only at h2 ⊢
    by_cases e : t = d
    · subst e
      rw [upd_same]
      exact .inr ⟨s, rfl, (full s).2 (.inr hs), (full t).2 (.inl rfl)⟩
    · rw [upd_other _ _ e]
      rcases h.par h1 h2 with hq | ⟨p, hq, hf, ht⟩
      · exact .inl hq
      · exact .inr ⟨p, hq, (full p).2 (.inr hf), (full t).2 (.inr ht)⟩
  · dsimp only at h2 h3 ⊢
    by_cases e : t = d
    · subst e
      rw [upd_same] at h3
      have : p = s := by have h4 : (s : Int) = (p : Int) := h3; omega
      subst this
      rw [if_neg hne, if_pos rfl]; omega
    · rw [upd_other _ _ e] at h3
      have hpf : Full C p := by
        rcases h.par h1 h2 with hq | ⟨q, hq, hf, _⟩
        · rw [hq] at h3; omega
        · have : q = p := by omega
          subst this; exact hf
      have hpd : p ≠ d := fun e2 => by subst e2; exact hpf.2.2 he
      rw [if_neg hpd, if_neg e]; exact hrk h1 h2 h3

theorem derive_CI {C : CP} (h : CI C) {d s : Nat} (hd : d < 4096) (hp : C.pres (d / 16) = true) (hs : s < 4096) (hq : C.pres (s / 16) = true) (mask badge : Int) : CI { C with cel := (deriveP C.cel d s mask badge).1 } := by
  unfold deriveP
  split
  · exact h
  rename_i h1
  split
  · exact h
  rename_i h2
  have he : (C.cel d).cap.ty = 0 := Classical.byContradiction h2
  have hf : Full C s := ⟨hs, hq, h1⟩
  have hc := h.cap hf
  split
  · exact h
  split
  · exact insert_CI h hd hp he hf (c := ⟨(C.cel s).cap.ty, (C.cel s).cap.obj, _, _⟩) hc h1
  · exact insert_CI h hd hp he hf (c := ⟨(C.cel s).cap.ty, (C.cel s).cap.obj, _, _⟩) hc h1

theorem look_slot {C : CP} (hC : CI C) {r : Rf} {a : Int} (hr : 0 ≤ r.idx) (ha : 0 ≤ a) (h : (lookP C.ent r a).2 = 0) : (lookP C.ent r a).1.toNat < 4096 ∧ C.pres ((lookP C.ent r a).1.toNat / 16) = true := by
  obtain ⟨i, j, h1, h2, h3, h4⟩ := look_fact hC hr ha (s := (lookP C.ent r a).1) (k := (lookP C.ent r a).2) rfl h
  rw [h4, Int.toNat_natCast, show (i * 16 + j) / 16 = i by omega]
  exact ⟨by omega, h3⟩

theorem deliver_CI {S : KP} {C : CP} (hS : RI S) (h : CI C) {f t : Int} (hf : 0 ≤ f ∧ f < 256) (ht : 0 ≤ t ∧ t < 256) : CI (deliverP S C f t).2 := by
  have h0 := deliver0_RI hS (f := f) ht
  have c1 := (h0.t (i := f.toNat) (by omega)).ci
  have c2 := (h0.t (i := t.toNat) (by omega)).ci
  have c3 := (h0.t (i := t.toNat) (by omega)).ds
  unfold deliverP
  dsimp only
  split
  · exact h
  split
  · rename_i hq
    have a1 := look_slot h c1.1 (wrap32 _).1 hq.1
    have a2 := look_slot h c2.1 c3.1 hq.2
    have := derive_CI h a2.1 a2.2 a1.1 a1.2 7 0
    split <;> exact this
  · exact h

section
variable {S : KP} {C : CP} {ev : Ev}

theorem send_CI (h : Ok2 S) (hC : CI C) (he : EvOk ev) (hcur : 0 ≤ S.cur ∧ S.cur < 256) : CI (sendP S C ev).2.1 := by
  have hn : S.cur.toNat < 256 := by omega
  have h1 := load_ok2 h hcur ev.ws
  unfold sendP
  extract_lets f t S1 x1 S2 x2 S3 x3 S4 x4 S5 d S7
  have g1 : Ok2 S1 := h1
  have g2 : Ok2 S2 := by refine Ok2.like (S := S1) (i := t.toNat) g1 hn ?_; exact ⟨rfl, rfl, rfl, rfl, rfl, rfl, rfl, rfl⟩
  have g3 : Ok2 S3 := by refine Ok2.like (S := S2) (i := t.toNat) g2 hn ?_; exact ⟨rfl, rfl, rfl, rfl, rfl, rfl, rfl, rfl⟩
  have g4 : Ok2 S4 := by refine Ok2.like (S := S3) (i := t.toNat) g3 hn ?_; exact ⟨rfl, rfl, rfl, rfl, rfl, rfl, rfl, rfl⟩
  have h6 : Ok2 S5 := by refine Ok2.like (S := S4) (i := t.toNat) g4 hn ?_; exact ⟨rfl, rfl, rfl, rfl, rfl, rfl, rfl, rfl⟩
  clear_value S5
  split
  · exact hC
  rename_i h0
  have hx : 0 ≤ f.1.obj.idx ∧ f.1.obj.idx < 256 := find_cases h.ri hC hcur he.addr.1 (by decide) h0
  split
  · exact hC
  split
  · exact hC
  · rename_i hne
    exact deliver_CI h6.ri hC hcur (lk_nat (oldest_lk h6.ri hx 4) hne)

theorem recv_CI (h : Ok2 S) (hC : CI C) (he : EvOk ev) (hcur : 0 ≤ S.cur ∧ S.cur < 256) (ou : Outp) : CI (recvP S C ev ou).2.1 := by
  have hn : S.cur.toNat < 256 := by omega
  unfold recvP
  dsimp only
  split
  · exact hC
  rename_i h0
  have hx := find_cases h.ri hC hcur he.addr.1 (by decide) h0
  generalize findP S C ev.addr 4 1 = fd at hx ⊢
  have ht0 := h.ri.t hn
  have h1 : Ok2 (S.setT S.cur.toNat { S.tcb S.cur.toNat with dst := ev.dst }) := h.setT ⟨ht0.nx, ht0.pv, ht0.pr, ht0.wi, ht0.ci, ht0.ri, he.dst⟩ ⟨rfl, rfl⟩ rfl rfl
  have hc1 : (S.setT S.cur.toNat { S.tcb S.cur.toNat with dst := ev.dst }).cur = S.cur := rfl
  generalize S.setT S.cur.toNat { S.tcb S.cur.toNat with dst := ev.dst } = S1 at h1 hc1 ⊢
  split
  · exact hC
  · rename_i hne
    exact deliver_CI h1.ri hC (lk_nat (oldest_lk h1.ri hx 3) hne) (by rw [hc1]; exact hcur)

theorem copy_CI (h : Ok2 S) (hC : CI C) (he : EvOk ev) (hcur : 0 ≤ S.cur ∧ S.cur < 256) : CI (copyCapP S C ev).1 := by
  have hn : S.cur.toNat < 256 := by omega
  have ci := (h.ri.t hn).ci
  unfold copyCapP
  dsimp only
  split
  · exact hC
  rename_i h1
  split
  · exact hC
  rename_i h2
  have hx := find_cases h.ri hC hcur he.node.1 (by decide) h2
  split
  · exact hC
  rename_i h3
  have a1 := look_slot hC ci.1 he.addr.1 (Classical.byContradiction h1)
  have a2 := look_slot hC hx.1 he.dst.1 (Classical.byContradiction h3)
  exact derive_CI hC a2.1 a2.2 a1.1 a1.2 _ _

theorem retype_CI (h : Ok2 S) (hC : CI C) (he : EvOk ev) (hcur : 0 ≤ S.cur ∧ S.cur < 256) : CI (retypeP S C ev).1 := by
  have hn : S.cur.toNat < 256 := by omega
  have ci := (h.ri.t hn).ci
  unfold retypeP
  dsimp only
  split
  · exact hC
  rename_i h1
  obtain ⟨i, j, q1, q2, q3, q4, q5, q6, q7, q8⟩ := find_fact h.ri hC hcur he.addr.1 (c := (findP S C ev.addr 1 2).1) (s := (findP S C ev.addr 1 2).2.1) (k := (findP S C ev.addr 1 2).2.2) rfl (Classical.byContradiction h1)
  split
  · exact hC
  rename_i h2
  have a2 := look_slot hC ci.1 he.dst.1 (Classical.byContradiction h2)
  split
  · exact hC
  rename_i h3
  have h3' : (C.cel (lookP C.ent (S.tcb S.cur.toNat).cs ev.dst).1.toNat).cap.ty = 0 := Classical.byContradiction h3
  split
  · exact hC
  rename_i h4
  have hty : 2 ≤ ev.ty ∧ ev.ty < 6 := ⟨by have := fun hq => h4 (.inl hq); omega, by have := fun hq => h4 (.inr hq); omega⟩
  have hfull : Full C (i * 16 + j) := ⟨by omega, by rw [show (i * 16 + j) / 16 = i by omega]; exact q3, by rw [← q5]; exact q7⟩
  rw [q4]
  have hsc := scan_slot (E := C.ent) 256 0 (-1) (by decide) (by decide) (by decide) (by decide)
  unfold retype0
  dsimp only
  generalize scanP C.ent 256 0 (-1) = sc at hsc ⊢
  by_cases k1 : IntKind.wrap .u64 (alignP sc.1 (sizeP ev.ty) + sizeP ev.ty) > (C.ent 256).size
  · rw [if_pos k1]; exact hC
  rw [if_neg k1]
  by_cases k2 : sc.2 < 0
  · rw [if_pos k2]; exact hC
  rw [if_neg k2]
  dsimp only
  rw [if_neg (by decide)]
  have hsl : sc.2.toNat < 256 := by omega
  have hfree : (C.ent sc.2.toNat).ty = 0 := by
    rcases hsc.2.2.2 with e | e
    · omega
    · exact e.2
  have hpf : C.pres sc.2.toNat = false := by
    cases hq : C.pres sc.2.toNat with
    | false => rfl
    | true => have := (hC.node hsl).2 hq; omega
  have hcapne : ∀ t, Full C t → (C.cel t).cap.ty ≠ 1 → (C.cel t).cap.obj.idx.toNat ≠ sc.2.toNat := by
    intro t ht h1 e
    rcases hC.cap ht with hq | hq
    · exact h1 hq.1
    · have := hq.2.2.2.2.2; rw [e, hfree] at this; omega
  obtain ⟨rk, hrk⟩ := hC.acyc
  have hidx : (refAtP (upd C.ent sc.2.toNat ⟨ev.ty, (C.ent sc.2.toNat).gen, alignP sc.1 (sizeP ev.ty), sizeP ev.ty⟩) sc.2).idx = sc.2 := refAt_idx ⟨by omega, by omega⟩
  have hcok : CapOk (upd C.ent sc.2.toNat ⟨ev.ty, (C.ent sc.2.toNat).gen, alignP sc.1 (sizeP ev.ty), sizeP ev.ty⟩) ⟨ev.ty, refAtP (upd C.ent sc.2.toNat ⟨ev.ty, (C.ent sc.2.toNat).gen, alignP sc.1 (sizeP ev.ty), sizeP ev.ty⟩) sc.2, 7, 0⟩ := by
    right
    dsimp only
    rw [hidx, upd_same]
    exact ⟨hty.1, hty.2, by omega, by omega, by simp [refAtP, upd_same], rfl⟩
  have hcapE : ∀ t, Full C t → CapOk (upd C.ent sc.2.toNat ⟨ev.ty, (C.ent sc.2.toNat).gen, alignP sc.1 (sizeP ev.ty), sizeP ev.ty⟩) (C.cel t).cap := by
    intro t ht
    rcases hC.cap ht with hq | hq
    · exact .inl hq
    · right
      rw [upd_other _ _ (hcapne t ht (by omega))]; exact hq
  split
  · rename_i h2t
    rw [hidx]
    have hnp : ∀ t, (t < 4096 ∧ upd C.pres sc.2.toNat true (t / 16) = true ∧ (if t / 16 = sc.2.toNat then celE else C.cel t).cap.ty ≠ 0) ↔ Full C t := by
      intro t
      constructor
      · rintro ⟨a1, a2, a3⟩
        by_cases e : t / 16 = sc.2.toNat
        · rw [if_pos e] at a3; exact absurd rfl a3
        · rw [if_neg e] at a3; rw [upd_other _ _ e] at a2; exact ⟨a1, a2, a3⟩
      · rintro ⟨a1, a2, a3⟩
        have e : t / 16 ≠ sc.2.toNat := fun e => by rw [e, hpf] at a2; cases a2
        rw [if_neg e, upd_other _ _ e]; exact ⟨a1, a2, a3⟩
    have hCn : CI (nodeP { C with ent := upd C.ent sc.2.toNat ⟨ev.ty, (C.ent sc.2.toNat).gen, alignP sc.1 (sizeP ev.ty), sizeP ev.ty⟩ } sc.2.toNat) := by
      refine ⟨?_, ?_, ?_, ?_, rk, ?_⟩
      · show ((upd C.ent sc.2.toNat _ 256).ty = 1 ∧ (upd C.ent sc.2.toNat _ 256).gen = 1)
        rw [upd_other _ _ (by omega)]; exact hC.reg
      · intro k hk
        show ((upd C.ent sc.2.toNat _ k).ty = 2 ↔ upd C.pres sc.2.toNat true k = true)
        by_cases e : k = sc.2.toNat
        · subst e; rw [upd_same, upd_same]; simp [h2t]
        · rw [upd_other _ _ e, upd_other _ _ e]; exact hC.node hk
      · intro t ht
        have ht' := (hnp t).1 ht
        have e : t / 16 ≠ sc.2.toNat := fun e => by have := ht'.2.1; rw [e, hpf] at this; cases this
        show CapOk _ (if t / 16 = sc.2.toNat then celE else C.cel t).cap
        rw [if_neg e]; exact hcapE t ht'
      · intro t a1 a2
        show (if t / 16 = sc.2.toNat then celE else C.cel t).parent = -1 ∨ ∃ p : Nat, (if t / 16 = sc.2.toNat then celE else C.cel t).parent = (p : Int) ∧ _ ∧ _
        by_cases e : t / 16 = sc.2.toNat
        · rw [if_pos e]; exact .inl rfl
        · rw [if_neg e]
          have a2' : C.pres (t / 16) = true := by have h9 : upd C.pres sc.2.toNat true (t / 16) = true := a2; rw [upd_other _ _ e] at h9; exact h9
          rcases hC.par a1 a2' with hq | ⟨p, hq, hf, ht⟩
          · exact .inl hq
          · exact .inr ⟨p, hq, (hnp p).2 hf, (hnp t).2 ht⟩
      · intro t p a1 a2 a3
        have a3' : (if t / 16 = sc.2.toNat then celE else C.cel t).parent = (p : Int) := a3
        by_cases e : t / 16 = sc.2.toNat
        · rw [if_pos e] at a3'; exact absurd a3' (by show (-1 : Int) ≠ _; omega)
        · rw [if_neg e] at a3'
          have a2' : C.pres (t / 16) = true := by have h9 : upd C.pres sc.2.toNat true (t / 16) = true := a2; rw [upd_other _ _ e] at h9; exact h9
          exact hrk a1 a2' a3'
    have hde : (lookP C.ent (S.tcb S.cur.toNat).cs ev.dst).1.toNat / 16 ≠ sc.2.toNat := fun e => by have := a2.2; rw [e, hpf] at this; cases this
    refine insert_CI hCn a2.1 ?_ ?_ ((hnp _).2 hfull) hcok (show ev.ty ≠ 0 by omega)
    · show upd C.pres sc.2.toNat true _ = true
      rw [upd_other _ _ hde]; exact a2.2
    · show (if _ = sc.2.toNat then celE else C.cel _).cap.ty = 0
      rw [if_neg hde]; exact h3'
  · rename_i h2t
    have hCn : CI { C with ent := upd C.ent sc.2.toNat ⟨ev.ty, (C.ent sc.2.toNat).gen, alignP sc.1 (sizeP ev.ty), sizeP ev.ty⟩ } := by
      refine ⟨?_, ?_, fun {t} ht => hcapE t ht, hC.par, rk, hrk⟩
      · dsimp only; rw [upd_other _ _ (by omega)]; exact hC.reg
      · intro k hk
        dsimp only
        by_cases e : k = sc.2.toNat
        · subst e; rw [upd_same, hpf]; simp [h2t]
        · rw [upd_other _ _ e]; exact hC.node hk
    exact insert_CI hCn a2.1 a2.2 h3' hfull hcok (show ev.ty ≠ 0 by omega)

theorem sys_inv (h : Ok2 S) (hC : CI C) (he : EvOk ev) (hcur : 0 ≤ S.cur ∧ S.cur < 256) (ou : Outp) : Ok2 (sysP S C ev ou).1 ∧ CI (sysP S C ev ou).2.1 := by
  unfold sysP
  by_cases k0 : ev.kind = 2
  · rw [if_pos k0]; exact ⟨h.wake hcur, hC⟩
  rw [if_neg k0]
  by_cases k1 : ev.kind = 3
  · rw [if_pos k1]; exact ⟨draw_ok2 h hcur _, hC⟩
  rw [if_neg k1]
  by_cases k2 : ev.kind = 4 ∨ ev.kind = 5
  · rw [if_pos k2]; exact ⟨send_ok2 h hC he hcur, send_CI h hC he hcur⟩
  rw [if_neg k2]
  by_cases k3 : ev.kind = 6
  · rw [if_pos k3]; exact ⟨recv_ok2 h hC he hcur ou, recv_CI h hC he hcur ou⟩
  rw [if_neg k3]
  by_cases k4 : ev.kind = 7
  · rw [if_pos k4]; exact ⟨reply_ok2 h hcur, hC⟩
  rw [if_neg k4]
  by_cases k5 : ev.kind = 8
  · rw [if_pos k5]; exact ⟨sig_ok2 h hC he hcur, hC⟩
  rw [if_neg k5]
  by_cases k6 : ev.kind = 9
  · rw [if_pos k6]; exact ⟨wait_ok2 h hC he hcur ou, hC⟩
  rw [if_neg k6]
  by_cases k7 : ev.kind = 10
  · rw [if_pos k7]; exact ⟨h, retype_CI h hC he hcur⟩
  rw [if_neg k7]
  by_cases k8 : ev.kind = 11
  · rw [if_pos k8]; exact ⟨h, copy_CI h hC he hcur⟩
  rw [if_neg k8]
  by_cases k9 : ev.kind = 12 ∨ ev.kind = 13
  · rw [if_pos k9]; exact drop_ok2 h hC he hcur
  rw [if_neg k9]
  by_cases k10 : ev.kind = 18 ∨ ev.kind = 19
  · rw [if_pos k10]; exact ⟨line_ok2 h hC he hcur, hC⟩
  rw [if_neg k10]
  exact ⟨control_ok2 h hC he hcur, hC⟩

theorem step0_inv (h : Ok2 S) (hC : CI C) (he : EvOk ev) : Ok2 (step0 S C ev).1 ∧ CI (step0 S C ev).2.1 := by
  unfold step0
  by_cases k0 : ev.kind = 0
  · rw [if_pos k0]
    dsimp only
    have h1 : Ok2 { S with now := IntKind.wrap .u64 (S.now + 1) } := h.same (h.ri.setNow _) rfl (fun L => by cases L <;> rfl) rfl rfl
    by_cases hc : S.cur ≠ -1
    · rw [if_pos hc]
      exact ⟨h1.wake (lk_nat h.ri.cur hc), hC⟩
    · rw [if_neg hc]; exact ⟨h1, hC⟩
  rw [if_neg k0]
  by_cases k1 : ev.kind = 1
  · rw [if_pos k1]; exact ⟨int_ok2 h he.arg.1, hC⟩
  rw [if_neg k1]
  by_cases k2 : ev.kind ≥ 20
  · rw [if_pos k2]; exact ⟨h, hC⟩
  rw [if_neg k2]
  by_cases k3 : S.cur = -1
  · rw [if_pos k3]; exact ⟨h, hC⟩
  rw [if_neg k3]
  exact sys_inv h hC he (lk_nat h.ri.cur k3) out0

theorem step_inv (h : Ok2 S) (hC : CI C) (he : EvOk ev) : Ok2 (stepP S C ev).1 ∧ CI (stepP S C ev).2.1 := by
  have h0 := step0_inv h hC he
  unfold stepP
  extract_lets r
  have h1 : Ok2 r.1 ∧ CI r.2.1 := h0
  clear_value r
  split
  · have := sched_ok h1.1.ri h1.1.li he.pick.1
    exact ⟨⟨this.1, this.2⟩, h1.2⟩
  · exact h1
end

end Go.Kn
