/-
  The model's system calls are the kernel's: send, call, receive, retype, delete, revoke.
-/
import Derived.Test.Qxb6500918aDoorWf
namespace Go.Proofs.Qxb6500918aDoor
open Go.Sx Go.Kn

section
variable {mb : Nat} {Z : MZ} {R : MR} {a : AK} {C : CP} {x : Nat} {ev : Ev} {xo : Option Addr} {cx : Nat} {kd : Int} {S : KP} {n : Int} {ou : Outp}

/-- What a delivery leaves alone. -/
structure Dk (a b : AK) : Prop where
  cu : b.cur = a.cur
  q : b.q = a.q
  st : ∀ j, (b.th j).st = (a.th j).st
  wt : ∀ j, (b.th j).wait = (a.th j).wait
  pr : ∀ j, (b.th j).prio = (a.th j).prio

theorem Dk.setT {a b : AK} (h : Dk a b) {t : Nat} {y : Tcb} (h1 : y.st = (b.th t).st) (h2 : y.wait = (b.th t).wait) (h3 : y.prio = (b.th t).prio) : Dk a (b.setT t y) := by
  refine ⟨h.cu, h.q, fun j => ?_, fun j => ?_, fun j => ?_⟩
  · rw [← h.st j]; show (upd b.th t y j).st = _
    by_cases e : j = t
    · subst e; rw [upd_same, h1]
    · rw [upd_other _ _ e]
  · rw [← h.wt j]; show (upd b.th t y j).wait = _
    by_cases e : j = t
    · subst e; rw [upd_same, h2]
    · rw [upd_other _ _ e]
  · rw [← h.pr j]; show (upd b.th t y j).prio = _
    by_cases e : j = t
    · subst e; rw [upd_same, h3]
    · rw [upd_other _ _ e]

theorem deliver_dk (a : AK) (C : CP) (f t : Nat) : Dk a (deliverA a C f t).1 := by
  have h0 : Dk a (del0A a f t) := Dk.setT ⟨rfl, rfl, fun _ => rfl, fun _ => rfl, fun _ => rfl⟩ rfl rfl rfl
  have h1 : Dk a ((del0A a f t).setT t { (del0A a f t).th t with got := 1 }) := h0.setT rfl rfl rfl
  unfold deliverA
  split
  · exact h0
  split
  · split
    · exact h1
    · exact h0
  · exact h0

theorem Dk.pl {a b : AK} (h : Dk a b) (j : Nat) : place (b.th j) = place (a.th j) := by unfold place; rw [h.st, h.wt, h.pr]

/-- The sender runs. -/
theorem settle_x (zo : ZOk Z C.ent) {e : AK} {f t : Nat} (hf : f < 256) (ht : t < 256) (hfc : e.cur = (f : Int)) : settleA e C.ent f t = passA Z e f t := by
  unfold settleA passA
  rw [ref_ky zo hf, ref_ky zo ht, if_neg (c := ¬ _) (fun q => q hfc.symm)]

/-- The receiver runs. -/
theorem settle_y (zo : ZOk Z C.ent) {e : AK} {f t : Nat} (hf : f < 256) (ht : t < 256) (hfc : e.cur ≠ (f : Int)) (hq : f ∉ qCut e.q (place (e.th f)) f (.r (e.th f).prio.toNat)) (hs : (e.th f).st ≠ 2) (_hne : t ≠ f) : settleA e C.ent f t = passA Z (wakeA e f) f t := by
  unfold settleA passA
  have hc : ((wakeA e f).th f).call = (e.th f).call := by rw [wake_tht]
  rw [ref_ky zo hf, ref_ky zo ht, hc, wake_block hq hs, if_pos (c := ¬ _) (fun q => hfc q.symm)]

theorem place_w {t : Tcb} {i : Nat} (h : place t = some (.w i)) : t.st = 3 ∨ t.st = 4 ∨ t.st = 5 := by
  unfold place at h
  split at h
  · simp at h
  · split at h
    · rename_i h3; exact h3
    · simp at h

theorem sendA_eq {c : Cp} {cs0 : Int} (hf : findA a C ev.addr 4 2 = (c, cs0, 0)) (hwl : ¬ (ev.ws.length : Int) > 4) {a5 : AK} (h5 : a5 = a.setT a.cur.toNat { msgA (a.th a.cur.toNat) ev.ws with badge := c.badge, grant := (bitI .and .u8 c.rights 4 != 0), call := (ev.kind == 5), xfer := ev.xfer }) :
    sendA a C ev = if oldestA a5 c.obj 4 = -1 then (blockA a5 a.cur.toNat 3 c.obj, C, 0) else (settleA (wakeA (deliverA a5 C a.cur.toNat (oldestA a5 c.obj 4).toNat).1 (oldestA a5 c.obj 4).toNat) (deliverA a5 C a.cur.toNat (oldestA a5 c.obj 4).toNat).2.ent a.cur.toNat (oldestA a5 c.obj 4).toNat, (deliverA a5 C a.cur.toNat (oldestA a5 c.obj 4).toNat).2, 0) := by
  subst h5
  unfold sendA
  rw [hf]
  dsimp only
  rw [if_neg (fun q => q rfl), if_neg hwl]

theorem recvA_eq {c : Cp} {cs0 : Int} (hf : findA a C ev.addr 4 1 = (c, cs0, 0)) {a5 : AK} (h5 : a5 = a.setT a.cur.toNat { a.th a.cur.toNat with dst := ev.dst }) :
    recvA a C ev ou = if oldestA a5 c.obj 3 = -1 then (blockA a5 a.cur.toNat 4 c.obj, C, ou, 0) else (settleA (deliverA a5 C (oldestA a5 c.obj 3).toNat a.cur.toNat).1 (deliverA a5 C (oldestA a5 c.obj 3).toNat a.cur.toNat).2.ent (oldestA a5 c.obj 3).toNat a.cur.toNat, (deliverA a5 C (oldestA a5 c.obj 3).toNat a.cur.toNat).2, reportA (settleA (deliverA a5 C (oldestA a5 c.obj 3).toNat a.cur.toNat).1 (deliverA a5 C (oldestA a5 c.obj 3).toNat a.cur.toNat).2.ent (oldestA a5 c.obj 3).toNat a.cur.toNat) ou, 0) := by
  subst h5
  unfold recvA
  rw [hf]
  dsimp only
  rw [if_neg (fun q => q rfl)]

/-- The partner that a send or a receive finds. -/
theorem old_mate (hI : MI Z a C) (zo : ZOk Z C.ent) (hx : x ∈ sl Z.tl) (hcu : a.cur = (x : Int)) {a5 : AK} (hq5 : a5.q = a.q) {i : Nat} (hi : i ∈ sl Z.ql) {s : Int} (ho : oldestA a5 (Z.ky i) s ≠ -1) : ∃ y : Nat, oldestA a5 (Z.ky i) s = (y : Int) ∧ y ∈ sl Z.tl ∧ x ≠ y ∧ place (a.th y) = some (.w i) := by
  obtain ⟨y, h1, h2⟩ := oldest_mem ho
  rw [hq5, zo.idx (zo.qx i hi), Int.toNat_natCast] at h2
  have h3 := hI.mp.mq (.w i) (zo.qx i hi) y h2
  refine ⟨y, h1, h3.1, fun e => ?_, h3.2⟩
  have h4 := (hI.mp.cu x hx).2 hcu
  have h5 := place_w h3.2
  rw [← e] at h5
  omega

theorem msgA_tok {t : Tcb} {ws : List Int} (h : TOk t) : TOk (msgA t ws) := by
  unfold msgA
  rcases ws with _ | ⟨b, _ | ⟨c, _ | ⟨d, _ | ⟨e, r⟩⟩⟩⟩ <;> exact ⟨h.nx, h.pv, h.pr, h.wi, h.ci, h.ri, h.ds⟩

theorem ck4 (hI : MI Z a C) (zo : ZOk Z C.ent) (hx : x ∈ sl Z.tl) (hcu : a.cur = (x : Int)) (he : EvOk ev) (k : ev.kind = 4) : CK mb Z R a C x ev xo cx 4 (sysA a C ev out0) := by
  rw [sysA_4 (.inl k)]
  obtain ⟨c, cs0, kc, hf⟩ : ∃ c cs0 kc, findA a C ev.addr 4 2 = (c, cs0, kc) := ⟨_, _, _, rfl⟩
  by_cases hk : kc = 0
  · subst hk
    obtain ⟨i, hi, hc⟩ := hI.capQ (cs_ok hI hx hcu) he.addr.1 (.inl rfl) hf
    rw [hc] at hf
    by_cases hwl : (ev.ws.length : Int) > 4
    · have e : sendA a C ev = (a, C, 8) := by
        unfold sendA; rw [hf]; dsimp only; rw [if_neg (fun q => q rfl), if_pos hwl]
      rw [e]
      exact ck_of false (by simp) rfl zo (fun w1 hH hw => call4l mb Z R a C hI x hx hcu ev he xo cx i hi _ _ _ _ hf hwl w1 hH hw)
    obtain ⟨a5, h5⟩ : ∃ a5 : AK, a5 = a.setT x { msgA (a.th x) ev.ws with badge := c.badge, xfer := ev.xfer, grant := (bitI .and .u8 c.rights 4 != 0), call := false } := ⟨_, rfl⟩
    rw [sendA_eq hf hwl (a5 := a5) (by rw [hcu, Int.toNat_natCast, h5, k]; rfl), hcu, Int.toNat_natCast]
    dsimp only
    by_cases ho : oldestA a5 (Z.ky i) 4 = -1
    · rw [if_pos ho]
      exact ck_of false (by simp) rfl zo (fun w1 hH hw => call4q mb Z R a C hI x hx hcu ev he xo cx i hi _ _ _ _ hf hwl a5 h5 ho w1 hH hw)
    · rw [if_neg ho]
      obtain ⟨y, hoy, hy, hxy, hpl⟩ := old_mate hI zo hx hcu (a5 := a5) (by rw [h5]; rfl) hi ho
      rw [hoy, Int.toNat_natCast]
      have hx2 := zo.tx x hx
      have hy2 := zo.tx y hy
      have h5x : a5.th x = { msgA (a.th x) ev.ws with badge := c.badge, xfer := ev.xfer, grant := (bitI .and .u8 c.rights 4 != 0), call := false } := by rw [h5]; exact upd_same _ _ _
      have h5y : a5.th y = a.th y := by rw [h5]; exact upd_other _ _ (Ne.symm hxy)
      have h5c : a5.cur = (x : Int) := by rw [h5]; exact hcu
      have hent : (deliverA a5 C x y).2.ent = C.ent := deliverA_ent a5 C x y
      have hdk := deliver_dk a5 C x y
      have hst : (a.th y).st ≠ 2 := by have := place_w hpl; omega
      have hwc : (wakeA (deliverA a5 C x y).1 y).cur = (x : Int) := by
        show (if ((deliverA a5 C x y).1.th y).st = 2 then -1 else (deliverA a5 C x y).1.cur) = _
        rw [if_neg (by rw [hdk.st, h5y]; exact hst), hdk.cu, h5c]
      have htx : TOk ((wakeA a5 y).th x) := by
        rw [wake_tho' hxy, h5x]
        have := hI.tk x hx
        exact ⟨(msgA_tok this).nx, (msgA_tok this).pv, (msgA_tok this).pr, (msgA_tok this).wi, (msgA_tok this).ci, (msgA_tok this).ri, (msgA_tok this).ds⟩
      have hty : TOk ((wakeA a5 y).th y) := by
        rw [wake_tht, h5y]
        have := hI.tk y hy
        exact ⟨this.nx, this.pv, this.pr, ⟨Int.le_refl 0, by show (0 : Int) < 256; decide⟩, this.ci, this.ri, this.ds⟩
      have e1 : settleA (wakeA (deliverA a5 C x y).1 y) (deliverA a5 C x y).2.ent x y = passA Z (deliverA (wakeA a5 y) C x y).1 x y := by
        rw [hent, settle_x zo hx2 hy2 hwc, wake_deliver hxy]
      have e2 : (deliverA a5 C x y).2 = (deliverA (wakeA a5 y) C x y).2 := by rw [wake_deliver hxy]
      rw [e1]
      refine ck_of false (by simp) rfl (show ZOk Z (deliverA a5 C x y).2.ent by rw [hent]; exact zo) ?_
      rw [e2]
      exact fun w1 hH hw => call4m mb Z R a C hI x hx hcu ev he xo cx i hi _ _ _ _ hf hwl a5 h5 y hy hxy hoy htx hty w1 hH hw
  · have e : sendA a C ev = (a, C, kc) := by
      unfold sendA; rw [hf]; dsimp only; rw [if_pos hk]
    rw [e]
    exact ck_of false (by simp) rfl zo (fun w1 hH hw => call4b mb Z R a C hI x hx hcu ev he xo cx c cs0 kc hf hk w1 hH hw)

theorem ck5 (hI : MI Z a C) (zo : ZOk Z C.ent) (hx : x ∈ sl Z.tl) (hcu : a.cur = (x : Int)) (he : EvOk ev) (k : ev.kind = 5) : CK mb Z R a C x ev xo cx 5 (sysA a C ev out0) := by
  rw [sysA_4 (.inr k)]
  obtain ⟨c, cs0, kc, hf⟩ : ∃ c cs0 kc, findA a C ev.addr 4 2 = (c, cs0, kc) := ⟨_, _, _, rfl⟩
  by_cases hk : kc = 0
  · subst hk
    obtain ⟨i, hi, hc⟩ := hI.capQ (cs_ok hI hx hcu) he.addr.1 (.inl rfl) hf
    rw [hc] at hf
    by_cases hwl : (ev.ws.length : Int) > 4
    · have e : sendA a C ev = (a, C, 8) := by
        unfold sendA; rw [hf]; dsimp only; rw [if_neg (fun q => q rfl), if_pos hwl]
      rw [e]
      exact ck_of false (by simp) rfl zo (fun w1 hH hw => call5l mb Z R a C hI x hx hcu ev he xo cx i hi _ _ _ _ hf hwl w1 hH hw)
    obtain ⟨a5, h5⟩ : ∃ a5 : AK, a5 = a.setT x { msgA (a.th x) ev.ws with badge := c.badge, xfer := ev.xfer, grant := (bitI .and .u8 c.rights 4 != 0), call := true } := ⟨_, rfl⟩
    rw [sendA_eq hf hwl (a5 := a5) (by rw [hcu, Int.toNat_natCast, h5, k]; rfl), hcu, Int.toNat_natCast]
    dsimp only
    by_cases ho : oldestA a5 (Z.ky i) 4 = -1
    · rw [if_pos ho]
      exact ck_of false (by simp) rfl zo (fun w1 hH hw => call5q mb Z R a C hI x hx hcu ev he xo cx i hi _ _ _ _ hf hwl a5 h5 ho w1 hH hw)
    · rw [if_neg ho]
      obtain ⟨y, hoy, hy, hxy, hpl⟩ := old_mate hI zo hx hcu (a5 := a5) (by rw [h5]; rfl) hi ho
      rw [hoy, Int.toNat_natCast]
      have hx2 := zo.tx x hx
      have hy2 := zo.tx y hy
      have h5x : a5.th x = { msgA (a.th x) ev.ws with badge := c.badge, xfer := ev.xfer, grant := (bitI .and .u8 c.rights 4 != 0), call := true } := by rw [h5]; exact upd_same _ _ _
      have h5y : a5.th y = a.th y := by rw [h5]; exact upd_other _ _ (Ne.symm hxy)
      have h5c : a5.cur = (x : Int) := by rw [h5]; exact hcu
      have hent : (deliverA a5 C x y).2.ent = C.ent := deliverA_ent a5 C x y
      have hdk := deliver_dk a5 C x y
      have hst : (a.th y).st ≠ 2 := by have := place_w hpl; omega
      have hwc : (wakeA (deliverA a5 C x y).1 y).cur = (x : Int) := by
        show (if ((deliverA a5 C x y).1.th y).st = 2 then -1 else (deliverA a5 C x y).1.cur) = _
        rw [if_neg (by rw [hdk.st, h5y]; exact hst), hdk.cu, h5c]
      have htx : TOk ((wakeA a5 y).th x) := by
        rw [wake_tho' hxy, h5x]
        have := hI.tk x hx
        exact ⟨(msgA_tok this).nx, (msgA_tok this).pv, (msgA_tok this).pr, (msgA_tok this).wi, (msgA_tok this).ci, (msgA_tok this).ri, (msgA_tok this).ds⟩
      have hty : TOk ((wakeA a5 y).th y) := by
        rw [wake_tht, h5y]
        have := hI.tk y hy
        exact ⟨this.nx, this.pv, this.pr, ⟨Int.le_refl 0, by show (0 : Int) < 256; decide⟩, this.ci, this.ri, this.ds⟩
      have e1 : settleA (wakeA (deliverA a5 C x y).1 y) (deliverA a5 C x y).2.ent x y = passA Z (deliverA (wakeA a5 y) C x y).1 x y := by
        rw [hent, settle_x zo hx2 hy2 hwc, wake_deliver hxy]
      have e2 : (deliverA a5 C x y).2 = (deliverA (wakeA a5 y) C x y).2 := by rw [wake_deliver hxy]
      rw [e1]
      refine ck_of false (by simp) rfl (show ZOk Z (deliverA a5 C x y).2.ent by rw [hent]; exact zo) ?_
      rw [e2]
      exact fun w1 hH hw => call5m mb Z R a C hI x hx hcu ev he xo cx i hi _ _ _ _ hf hwl a5 h5 y hy hxy hoy htx hty w1 hH hw
  · have e : sendA a C ev = (a, C, kc) := by
      unfold sendA; rw [hf]; dsimp only; rw [if_pos hk]
    rw [e]
    exact ck_of false (by simp) rfl zo (fun w1 hH hw => call5b mb Z R a C hI x hx hcu ev he xo cx c cs0 kc hf hk w1 hH hw)

theorem ck6 (hI : MI Z a C) (zo : ZOk Z C.ent) (hx : x ∈ sl Z.tl) (hcu : a.cur = (x : Int)) (he : EvOk ev) (k : ev.kind = 6) : CK mb Z R a C x ev xo cx 6 (sysA a C ev out0) := by
  rw [sysA_6 k]
  obtain ⟨c, cs0, kc, hf⟩ : ∃ c cs0 kc, findA a C ev.addr 4 1 = (c, cs0, kc) := ⟨_, _, _, rfl⟩
  by_cases hk : kc = 0
  · subst hk
    obtain ⟨i, hi, hc⟩ := hI.capQ (cs_ok hI hx hcu) he.addr.1 (.inl rfl) hf
    rw [hc] at hf
    obtain ⟨a5, h5⟩ : ∃ a5 : AK, a5 = a.setT x { a.th x with dst := ev.dst } := ⟨_, rfl⟩
    rw [recvA_eq hf (a5 := a5) (by rw [hcu, Int.toNat_natCast, h5]), hcu, Int.toNat_natCast]
    dsimp only
    by_cases ho : oldestA a5 (Z.ky i) 3 = -1
    · rw [if_pos ho]
      exact ck_of false (by simp) rfl zo (fun w1 hH hw => call6q mb Z R a C hI x hx hcu ev he xo cx i hi _ _ _ _ hf a5 h5 ho w1 hH hw)
    · rw [if_neg ho]
      obtain ⟨y, hoy, hy, hxy, hpl⟩ := old_mate hI zo hx hcu (a5 := a5) (by rw [h5]; rfl) hi ho
      rw [hoy, Int.toNat_natCast]
      have hx2 := zo.tx x hx
      have hy2 := zo.tx y hy
      have hyx : y ≠ x := Ne.symm hxy
      have h5x : a5.th x = { a.th x with dst := ev.dst } := by rw [h5]; exact upd_same _ _ _
      have h5y : a5.th y = a.th y := by rw [h5]; exact upd_other _ _ hyx
      have h5c : a5.cur = (x : Int) := by rw [h5]; exact hcu
      have h5q : a5.q = a.q := by rw [h5]; rfl
      have hent : (deliverA a5 C y x).2.ent = C.ent := deliverA_ent a5 C y x
      have hdk := deliver_dk a5 C y x
      have hst : (a.th y).st ≠ 2 := by have := place_w hpl; omega
      have htx : TOk ((wakeA a5 y).th x) := by
        rw [wake_tho' hxy, h5x]
        have := hI.tk x hx
        exact ⟨this.nx, this.pv, this.pr, this.wi, this.ci, this.ri, he.dst⟩
      have hty : TOk ((wakeA a5 y).th y) := by
        rw [wake_tht, h5y]
        have := hI.tk y hy
        exact ⟨this.nx, this.pv, this.pr, ⟨Int.le_refl 0, by show (0 : Int) < 256; decide⟩, this.ci, this.ri, this.ds⟩
      have hpd : place ((deliverA a5 C y x).1.th y) = some (.w i) := by rw [hdk.pl, h5y]; exact hpl
      have hnq : y ∉ qCut (deliverA a5 C y x).1.q (place ((deliverA a5 C y x).1.th y)) y (.r ((deliverA a5 C y x).1.th y).prio.toNat) := by
        rw [hpd, qcut_no (by simp), hdk.q, h5q, hdk.pr, h5y]
        intro hq
        have hok : (QL.r (a.th y).prio.toNat).ok := by have := hI.mp.pr y hy; show _ < 8; omega
        have := (hI.mp.mq _ hok y hq).2
        rw [hpl] at this
        simp at this
      have e1 : settleA (deliverA a5 C y x).1 (deliverA a5 C y x).2.ent y x = passA Z (deliverA (wakeA a5 y) C y x).1 y x := by
        rw [hent, settle_y zo hy2 hx2 (by rw [hdk.cu, h5c]; omega) hnq (by rw [hdk.st, h5y]; exact hst) hxy, wake_deliver' hyx]
      have e2 : (deliverA a5 C y x).2 = (deliverA (wakeA a5 y) C y x).2 := by rw [wake_deliver' hyx]
      rw [e1]
      have e3 : (passA Z (deliverA (wakeA a5 y) C y x).1 y x).cur = (x : Int) := by
        rw [← e1]
        unfold settleA
        have hs' : ¬ ((deliverA a5 C y x).1.th y).st = 2 := by rw [hdk.st, h5y]; exact hst
        split
        · show (if ((deliverA a5 C y x).1.th y).st = 2 then -1 else (deliverA a5 C y x).1.cur) = _
          rw [if_neg hs', hdk.cu, h5c]
        · split
          · show (if ((deliverA a5 C y x).1.th y).st = 2 then -1 else (deliverA a5 C y x).1.cur) = _
            rw [if_neg hs', hdk.cu, h5c]
          · rw [hdk.cu, h5c]
      have e4 : reportA (passA Z (deliverA (wakeA a5 y) C y x).1 y x) out0 = repX (passA Z (deliverA (wakeA a5 y) C y x).1 y x) x := by
        unfold reportA
        rw [e3, Int.toNat_natCast]
        rfl
      rw [e4]
      refine ck_of true (fun _ => rfl) rfl (show ZOk Z (deliverA a5 C y x).2.ent by rw [hent]; exact zo) ?_
      rw [e2]
      exact fun w1 hH hw => call6m mb Z R a C hI x hx hcu ev he xo cx i hi _ _ _ _ hf a5 h5 y hy hxy hoy htx hty w1 hH hw
  · have e : recvA a C ev out0 = (a, C, out0, kc) := by
      unfold recvA; rw [hf]; dsimp only; rw [if_pos hk]
    rw [e]
    exact ck_of false (by simp) rfl zo (fun w1 hH hw => call6b mb Z R a C hI x hx hcu ev he xo cx c cs0 kc hf hk w1 hH hw)

end
end Go.Proofs.Qxb6500918aDoor
