/-
  The model's system calls are the kernel's: retype, delete, revoke.
-/
import Derived.Test.Qxb6500918aDoorWg
import Derived.Test.Qxb6500918aDoorUt
import Derived.Test.Qxb6500918aDoorUz
namespace Go.Proofs.Qxb6500918aDoor
open Go.Sx Go.Kn

section
variable {mb : Nat} {Z : MZ} {R : MR} {a : AK} {C : CP} {x : Nat} {ev : Ev} {xo : Option Addr} {cx : Nat} {kd : Int} {S : KP} {n : Int} {ou : Outp}

theorem find_slot {ad want need : Int} {c : Cp} {s : Int} (h : findA a C ad want need = (c, s, 0)) : lookP C.ent (a.th a.cur.toNat).cs ad = (s, 0) := by
  unfold findA at h
  split at h
  · rename_i h0; simp at h; exact absurd h.2.2 h0
  · rename_i h0
    have h0' : (lookP C.ent (a.th a.cur.toNat).cs ad).2 = 0 := Classical.byContradiction h0
    have key : (lookP C.ent (a.th a.cur.toNat).cs ad).1 = s := by
      split at h
      · simp at h
      · split at h
        · simp at h
        · split at h
          · simp at h
          · simp only [Prod.mk.injEq] at h; exact h.2.1
    rw [← key, ← h0']

theorem retype0_new {E E1 : Nat → Ent} {t : Int} {r : Rf} (h : Kn.retype0 E t = (E1, r, 0)) : ∃ o : Nat, o < 256 ∧ (E o).ty = 0 ∧ r = refAtP E (o : Int) ∧ (E1 o).ty = t ∧ (∀ i, (E1 i).gen = (E i).gen) ∧ ∀ i, i ≠ o → E1 i = E i := by
  have hg : ∀ i, (E1 i).gen = (E i).gen := fun i => by have := retype0_gen E t i; rw [h] at this; exact this
  have hsc := scan_slot (E := E) 256 0 (-1) (by decide) (by decide) (by decide) (by decide)
  unfold Kn.retype0 at h
  dsimp only at h
  generalize scanP E 256 0 (-1) = sc at hsc h
  split at h
  · simp at h
  split at h
  · simp at h
  · rename_i h1 h2
    simp only [Prod.mk.injEq] at h
    obtain ⟨q1, q2, _⟩ := h
    have h3 : (E sc.2.toNat).ty = 0 := by
      rcases hsc.2.2.2 with e | e
      · omega
      · exact e.2
    refine ⟨sc.2.toNat, by omega, h3, ?_, ?_, hg, fun i hi => ?_⟩
    · rw [← q2, show ((sc.2.toNat : Nat) : Int) = sc.2 by omega]
      unfold refAtP
      rw [upd_same]
    · rw [← q1, upd_same]
    · rw [← q1, upd_other _ _ hi]

theorem zok_re {E E1 : Nat → Ent} {Z' : MZ} {o : Nat} {t : Int} (zo : ZOk Z E) (h0 : (E o).ty = 0) (ht : (E1 o).ty = t) (hg : ∀ i, (E1 i).gen = (E i).gen) (hE : ∀ i, i ≠ o → E1 i = E i) (ho : o < 256) (hk : Z'.ky = Z.ky) (h3 : ∀ i, i ∈ sl Z'.tl ↔ i ∈ sl Z.tl ∨ (t = 3 ∧ i = o)) (h4 : ∀ i, i ∈ sl Z'.ql ↔ i ∈ sl Z.ql ∨ ((t = 4 ∨ t = 5) ∧ i = o)) : ZOk Z' E1 := by
  have ont : o ∉ sl Z.tl := fun q => by have := (zo.td o ho).2 q; omega
  have onq : o ∉ sl Z.ql := fun q => by have := (zo.qd o ho).2 q; omega
  refine ⟨fun i hi => ?_, fun i hi => ?_, fun i hi => ?_, fun i hi => ?_, fun i hi => ?_⟩
  · rw [hk, zo.ky i hi]
    unfold refAtP
    rw [Int.toNat_natCast, hg]
  · rw [h3 i]
    by_cases e : i = o
    · subst e; rw [ht]
      exact ⟨fun q => .inr ⟨q, rfl⟩, fun q => q.elim (fun q => absurd q ont) (fun q => q.1)⟩
    · rw [hE i e, zo.td i hi]
      exact ⟨.inl, fun q => q.elim id (fun q => absurd q.2 e)⟩
  · rw [h4 i]
    by_cases e : i = o
    · subst e; rw [ht]
      exact ⟨fun q => .inr ⟨q, rfl⟩, fun q => q.elim (fun q => absurd q onq) (fun q => q.1)⟩
    · rw [hE i e, zo.qd i hi]
      exact ⟨.inl, fun q => q.elim id (fun q => absurd q.2 e)⟩
  · exact ((h3 i).1 hi).elim (zo.tx i) (fun q => by rw [q.2]; exact ho)
  · exact ((h4 i).1 hi).elim (zo.qx i) (fun q => by rw [q.2]; exact ho)

theorem ck10 (hv : Iv S a C n) (zo : ZOk Z C.ent) (hx : x ∈ sl Z.tl) (hcu : a.cur = (x : Int)) (he : EvOk ev) (k : ev.kind = 10) : CK mb Z R a C x ev xo cx 10 (sysA a C ev out0) := by
  have hI := (Iv.mi hv zo)
  rw [sysA_10 k]
  unfold retypeP
  rw [find_ofA]
  dsimp only
  have ec : ((ofA a).tcb (ofA a).cur.toNat).cs = (a.th x).cs := by
    show (a.th a.cur.toNat).cs = _
    rw [hcu, Int.toNat_natCast]
  rw [ec]
  obtain ⟨c, s1, kc, hf⟩ : ∃ c s1 kc, findA a C ev.addr 1 2 = (c, s1, kc) := ⟨_, _, _, rfl⟩
  rw [hf]
  dsimp only
  by_cases hk : kc = 0
  · subst hk
    rw [if_neg (fun q => q rfl)]
    have e1 : lookP C.ent (a.th x).cs ev.addr = (s1, 0) := by have := find_slot hf; rwa [hcu, Int.toNat_natCast] at this
    obtain ⟨s2, k2, e2⟩ : ∃ s2 k2, lookP C.ent (a.th x).cs ev.dst = (s2, k2) := ⟨_, _, rfl⟩
    rw [e2]
    dsimp only
    by_cases hk2 : k2 = 0
    · subst hk2
      rw [if_neg (fun q => q rfl)]
      by_cases hz2 : (C.cel s2.toNat).cap.ty = 0
      · rw [if_neg (fun q => q hz2)]
        by_cases hty : ev.ty < 2 ∨ ev.ty ≥ 6
        · rw [if_pos hty]
          exact ck_of false (by simp) rfl zo (fun w1 hH hw => call10t mb Z R a C hI x hx hcu ev he xo cx c s1 hf s1 e1 s2 e2 hz2 (by omega) (by omega) (by omega) (by omega) w1 hH hw)
        · rw [if_neg hty]
          obtain ⟨E1, r, kr, er⟩ : ∃ E1 r kr, Kn.retype0 C.ent ev.ty = (E1, r, kr) := ⟨_, _, _, rfl⟩
          rw [er]
          dsimp only
          have h4 : ev.ty = 2 ∨ ev.ty = 3 ∨ ev.ty = 4 ∨ ev.ty = 5 := by omega
          by_cases hkr : kr = 0
          · subst hkr
            rw [if_neg (fun q => q rfl)]
            obtain ⟨o, ho, h0, hr, ht, hg, hE⟩ := retype0_new er
            have hky : r = Z.ky o := by rw [zo.ky o ho]; exact hr
            subst hky
            have ont : o ∉ sl Z.tl := fun q => by have := (zo.td o ho).2 q; omega
            have onq : o ∉ sl Z.ql := fun q => by have := (zo.qd o ho).2 q; omega
            have ha0 : a.th o = unl noT := hv.ai.az o ho (by omega)
            have hw0 : a.word o = 0 := by rw [hv.ab.wd o ho]; exact hv.wi o ho (by omega)
            have hq0 : a.q (.w o) = [] := by
              cases hq : a.q (.w o) with
              | nil => rfl
              | cons y r =>
                exfalso
                have h1 := hI.mp.mq (.w o) ho y (by rw [hq]; simp)
                exact onq (hI.mp.wq y h1.1 o h1.2).1
            rcases h4 with h4 | h4 | h4 | h4
            · rw [if_pos h4]
              rw [h4] at er ht
              unfold CK evA
              rw [h4]
              refine ⟨false, by simp, rfl, fun w1 hH hw => (call10g2 mb Z R a C hI x hx hcu ev he xo cx c s1 hf s1 e1 s2 e2 hz2 E1 o er ho (by rw [zo.idx ho]; omega) w1 hH hw).mono ?_⟩
              rintro e w' ⟨h1, nd, R', h2⟩
              exact ⟨h1, _, R', h2, by simp, zok_re (Z' := { Z with nd := nd }) zo h0 ht hg hE ho rfl (fun i => ⟨.inl, fun q => q.elim id (fun q => by omega)⟩) (fun i => ⟨.inl, fun q => q.elim id (fun q => by omega)⟩)⟩
            · rw [if_neg (by omega)]
              rw [h4] at er ht
              unfold CK evA
              rw [h4]
              refine ⟨false, by simp, rfl, fun w1 hH hw => (call10g3 mb Z R a C hI x hx hcu ev he xo cx c s1 hf s1 e1 s2 e2 hz2 E1 o er ho ont ha0 w1 hH hw).mono ?_⟩
              rintro e w' ⟨h1, b, R', h2⟩
              exact ⟨h1, _, R', h2, by simp, zok_re (Z' := Z.addT o b) zo h0 ht hg hE ho rfl (fun i => sl_add.trans ⟨fun q => q.imp id (fun q => ⟨rfl, q⟩), fun q => q.imp id (fun q => q.2)⟩) (fun i => ⟨.inl, fun q => q.elim id (fun q => by omega)⟩)⟩
            · rw [if_neg (by omega)]
              rw [h4] at er ht
              unfold CK evA
              rw [h4]
              refine ⟨false, by simp, rfl, fun w1 hH hw => (call10g4 mb Z R a C hI x hx hcu ev he xo cx c s1 hf s1 e1 s2 e2 hz2 E1 o er ho onq hq0 hw0 w1 hH hw).mono ?_⟩
              rintro e w' ⟨h1, R', h2⟩
              exact ⟨h1, _, R', h2, by simp, zok_re (Z' := Z.addQ o) zo h0 ht hg hE ho rfl (fun i => ⟨.inl, fun q => q.elim id (fun q => by omega)⟩) (fun i => sl_add.trans ⟨fun q => q.imp id (fun q => ⟨.inl rfl, q⟩), fun q => q.imp id (fun q => q.2)⟩)⟩
            · rw [if_neg (by omega)]
              rw [h4] at er ht
              unfold CK evA
              rw [h4]
              refine ⟨false, by simp, rfl, fun w1 hH hw => (call10g5 mb Z R a C hI x hx hcu ev he xo cx c s1 hf s1 e1 s2 e2 hz2 E1 o er ho onq hq0 hw0 w1 hH hw).mono ?_⟩
              rintro e w' ⟨h1, R', h2⟩
              exact ⟨h1, _, R', h2, by simp, zok_re (Z' := Z.addQ o) zo h0 ht hg hE ho rfl (fun i => ⟨.inl, fun q => q.elim id (fun q => by omega)⟩) (fun i => sl_add.trans ⟨fun q => q.imp id (fun q => ⟨.inr rfl, q⟩), fun q => q.imp id (fun q => q.2)⟩)⟩
          · rw [if_pos hkr]
            have hE : E1 = C.ent := by have := retype0_ref (E := C.ent) (t := ev.ty) (by rw [er]; exact hkr); rw [er] at this; exact this
            have zo' : ZOk Z E1 := by rw [hE]; exact zo
            rcases h4 with h4 | h4 | h4 | h4
            · rw [h4] at er
              unfold CK evA
              rw [h4]
              refine ⟨false, by simp, rfl, fun w1 hH hw => (call10f2 mb Z R a C hI x hx hcu ev he xo cx c s1 hf s1 e1 s2 e2 hz2 E1 r kr er hkr w1 hH hw).mono ?_⟩
              rintro e w' ⟨h1, R', h2⟩
              exact ⟨h1, Z, R', h2, fun _ => rfl, zo'⟩
            · rw [h4] at er
              unfold CK evA
              rw [h4]
              refine ⟨false, by simp, rfl, fun w1 hH hw => (call10f3 mb Z R a C hI x hx hcu ev he xo cx c s1 hf s1 e1 s2 e2 hz2 E1 r kr er hkr w1 hH hw).mono ?_⟩
              rintro e w' ⟨h1, R', h2⟩
              exact ⟨h1, Z, R', h2, fun _ => rfl, zo'⟩
            · rw [h4] at er
              unfold CK evA
              rw [h4]
              refine ⟨false, by simp, rfl, fun w1 hH hw => (call10f4 mb Z R a C hI x hx hcu ev he xo cx c s1 hf s1 e1 s2 e2 hz2 E1 r kr er hkr w1 hH hw).mono ?_⟩
              rintro e w' ⟨h1, R', h2⟩
              exact ⟨h1, Z, R', h2, fun _ => rfl, zo'⟩
            · rw [h4] at er
              unfold CK evA
              rw [h4]
              refine ⟨false, by simp, rfl, fun w1 hH hw => (call10f5 mb Z R a C hI x hx hcu ev he xo cx c s1 hf s1 e1 s2 e2 hz2 E1 r kr er hkr w1 hH hw).mono ?_⟩
              rintro e w' ⟨h1, R', h2⟩
              exact ⟨h1, Z, R', h2, fun _ => rfl, zo'⟩
      · rw [if_pos hz2]
        exact ck_of false (by simp) rfl zo (fun w1 hH hw => call10o mb Z R a C hI x hx hcu ev he xo cx c s1 hf s1 e1 s2 e2 hz2 w1 hH hw)
    · rw [if_pos hk2]
      exact ck_of false (by simp) rfl zo (fun w1 hH hw => call10c mb Z R a C hI x hx hcu ev he xo cx c s1 hf s1 e1 s2 k2 e2 hk2 w1 hH hw)
  · rw [if_pos hk]
    exact ck_of false (by simp) rfl zo (fun w1 hH hw => call10b mb Z R a C hI x hx hcu ev he xo cx c s1 kc hf hk w1 hH hw)

theorem ck12 (hv : Iv S a C n) (hn : n < 4294967295) (zo : ZOk Z C.ent) (hx : x ∈ sl Z.tl) (hcu : a.cur = (x : Int)) (he : EvOk ev) (k : ev.kind = 12) (hmp : ∀ Z2, ZOk Z2 (sysA a C ev out0).2.1.ent → MP Z2 (sysA a C ev out0).1) (hgn : ∀ i, 1 ≤ ((sysA a C ev out0).2.1.ent i).gen) : CK mb Z R a C x ev xo cx 12 (sysA a C ev out0) := by
  have hI := (Iv.mi hv zo)
  rw [sysA_12 (.inl k)] at hmp hgn ⊢
  unfold dropA at hmp hgn ⊢
  rw [hcu, Int.toNat_natCast] at hmp hgn ⊢
  have hci := (hI.tk x hx).ci
  obtain ⟨s1, k1, e1⟩ : ∃ s1 k1, lookP C.ent (a.th x).cs ev.addr = (s1, k1) := ⟨_, _, rfl⟩
  have hsl := look_slot hI.ci hci.1 he.addr.1 (r := (a.th x).cs) (a := ev.addr)
  rw [e1] at hmp hgn hsl ⊢
  dsimp only at hmp hgn hsl ⊢
  by_cases hk : k1 = 0
  · subst hk
    have hsl := hsl rfl
    rw [if_neg (fun q => q rfl)] at hmp hgn ⊢
    by_cases hz2 : (C.cel s1.toNat).cap.ty = 0
    · rw [if_pos hz2] at hmp hgn ⊢
      exact ck_of false (by simp) rfl zo (fun w1 hH hw => call12z mb Z R a C hI x hx hcu ev he xo cx s1 e1 hz2 w1 hH hw)
    · rw [if_neg hz2] at hmp hgn ⊢
      rw [if_neg (by omega)] at hmp hgn ⊢
      obtain ⟨r9, hdr⟩ : ∃ r9, deleteP 4097 C s1.toNat = r9 := ⟨_, rfl⟩
      obtain ⟨C1, dead⟩ := r9
      have hd := del_dl 4097 C s1.toNat hI.ci (by have := cnt_le (C := C); omega) hsl.1 hsl.2
      have hlen := (del_ok 4097 C s1.toNat hI.ci (by have := cnt_le (C := C); omega) hsl.1 hsl.2).len
      rw [hdr] at hmp hgn hd hlen ⊢
      dsimp only at hmp hgn hd hlen ⊢
      have hdl : dead.length < 1000000 := by have := cnt_le (C := C); omega
      have hfa : FAll C1.ent (Z, a) dead := fall_of dead (fun y hy => zo.idx hy) zo.tx zo.qx (fun c hc => fok_of zo (hd.dd c hc).1) hd.nd
      have hne : ∀ c ∈ dead, refAtP C1.ent ((c.obj.idx.toNat : Nat) : Int) ≠ c.obj := fun c hc q => by
        have h1 := hd.dd c hc
        have h2 := hv.gi c.obj.idx.toNat
        rw [h1.1.2.2.2.2.1] at h2
        have h3 : (refAtP C1.ent ((c.obj.idx.toNat : Nat) : Int)).gen = c.obj.gen + 1 := by
          unfold refAtP
          rw [Int.toNat_natCast, h1.2]
          exact wrapn (by omega) (by omega)
        rw [q] at h3
        omega
      have hsame : (dead.foldl (forgetM C1.ent) (Z, a)).2 = buryAllA a dead := drop_same hv.ab hv.xi zo hd hne
      have hz := zok_drop zo hd a
      refine ⟨false, by simp, rfl, fun w1 hH hw => ?_⟩
      have hcall : Calls Tryd.prog 55 #[.pointer (some ⟨mb, 0, none⟩), evA 12 ev xo cx] w1 fun e w' => e = .returned (.tuple #[.int .u8 0, .bool false]) ∧ ∃ R', MG mb Z R C w1 (dead.foldl (forgetM C1.ent) (Z, a)).1 R' (dead.foldl (forgetM C1.ent) (Z, a)).2 C1 w' := by
        by_cases h0 : dead = []
        · exact call12e mb Z R a C hI x hx hcu ev he xo cx s1 e1 hz2 C1 dead hdr hdl h0 hfa w1 hH hw
        · exact call12n mb Z R a C hI x hx hcu ev he xo cx s1 e1 hz2 C1 dead hdr hdl (List.length_pos_iff.2 h0) hfa w1 hH hw
      refine hcall.mono ?_
      rintro e w' ⟨h1, R', h2⟩
      rw [hsame] at h2
      exact ⟨h1, _, R', rekey_mg h2 hgn (fun y hy => rekey_t zo hd a hy) (fun y hy => rekey_q zo hd a hy) (hmp _ hz), by simp, hz⟩
  · rw [if_pos hk] at hmp hgn ⊢
    exact ck_of false (by simp) rfl zo (fun w1 hH hw => call12a mb Z R a C hI x hx hcu ev he xo cx s1 k1 e1 hk w1 hH hw)

theorem ck13 (hv : Iv S a C n) (hn : n < 4294967295) (zo : ZOk Z C.ent) (hx : x ∈ sl Z.tl) (hcu : a.cur = (x : Int)) (he : EvOk ev) (k : ev.kind = 13) (hmp : ∀ Z2, ZOk Z2 (sysA a C ev out0).2.1.ent → MP Z2 (sysA a C ev out0).1) (hgn : ∀ i, 1 ≤ ((sysA a C ev out0).2.1.ent i).gen) : CK mb Z R a C x ev xo cx 13 (sysA a C ev out0) := by
  have hI := (Iv.mi hv zo)
  rw [sysA_12 (.inr k)] at hmp hgn ⊢
  unfold dropA at hmp hgn ⊢
  rw [hcu, Int.toNat_natCast] at hmp hgn ⊢
  have hci := (hI.tk x hx).ci
  obtain ⟨s1, k1, e1⟩ : ∃ s1 k1, lookP C.ent (a.th x).cs ev.addr = (s1, k1) := ⟨_, _, rfl⟩
  have hsl := look_slot hI.ci hci.1 he.addr.1 (r := (a.th x).cs) (a := ev.addr)
  rw [e1] at hmp hgn hsl ⊢
  dsimp only at hmp hgn hsl ⊢
  by_cases hk : k1 = 0
  · subst hk
    have hsl := hsl rfl
    rw [if_neg (fun q => q rfl)] at hmp hgn ⊢
    by_cases hz2 : (C.cel s1.toNat).cap.ty = 0
    · rw [if_pos hz2] at hmp hgn ⊢
      exact ck_of false (by simp) rfl zo (fun w1 hH hw => call13z mb Z R a C hI x hx hcu ev he xo cx s1 e1 hz2 w1 hH hw)
    · rw [if_neg hz2] at hmp hgn ⊢
      rw [if_pos k] at hmp hgn ⊢
      obtain ⟨r9, hdr⟩ : ∃ r9, revokeP 4097 C s1 [] = r9 := ⟨_, rfl⟩
      obtain ⟨C1, dead⟩ := r9
      have hd : DL C.ent (revokeP 4097 C s1 []).1.ent (revokeP 4097 C s1 []).2 := by
        obtain ⟨l, q1, q2⟩ := rev_dl s1 4097 C [] hI.ci
        rw [q1]; exact q2
      have hlen := (rev_ok s1 4097 C [] hI.ci (fun c hc => by cases hc)).len
      simp only [List.length_nil] at hlen
      rw [hdr] at hmp hgn hd hlen ⊢
      dsimp only at hmp hgn hd hlen ⊢
      have hdl : dead.length < 1000000 := by have := cnt_le (C := C); omega
      have hfa : FAll C1.ent (Z, a) dead := fall_of dead (fun y hy => zo.idx hy) zo.tx zo.qx (fun c hc => fok_of zo (hd.dd c hc).1) hd.nd
      have hne : ∀ c ∈ dead, refAtP C1.ent ((c.obj.idx.toNat : Nat) : Int) ≠ c.obj := fun c hc q => by
        have h1 := hd.dd c hc
        have h2 := hv.gi c.obj.idx.toNat
        rw [h1.1.2.2.2.2.1] at h2
        have h3 : (refAtP C1.ent ((c.obj.idx.toNat : Nat) : Int)).gen = c.obj.gen + 1 := by
          unfold refAtP
          rw [Int.toNat_natCast, h1.2]
          exact wrapn (by omega) (by omega)
        rw [q] at h3
        omega
      have hsame : (dead.foldl (forgetM C1.ent) (Z, a)).2 = buryAllA a dead := drop_same hv.ab hv.xi zo hd hne
      have hz := zok_drop zo hd a
      refine ⟨false, by simp, rfl, fun w1 hH hw => ?_⟩
      have hcall : Calls Tryd.prog 55 #[.pointer (some ⟨mb, 0, none⟩), evA 13 ev xo cx] w1 fun e w' => e = .returned (.tuple #[.int .u8 0, .bool false]) ∧ ∃ R', MG mb Z R C w1 (dead.foldl (forgetM C1.ent) (Z, a)).1 R' (dead.foldl (forgetM C1.ent) (Z, a)).2 C1 w' := by
        by_cases h0 : dead = []
        · exact call13e mb Z R a C hI x hx hcu ev he xo cx s1 e1 hz2 C1 dead hdr hdl h0 hfa w1 hH hw
        · exact call13n mb Z R a C hI x hx hcu ev he xo cx s1 e1 hz2 C1 dead hdr hdl (List.length_pos_iff.2 h0) hfa w1 hH hw
      refine hcall.mono ?_
      rintro e w' ⟨h1, R', h2⟩
      rw [hsame] at h2
      exact ⟨h1, _, R', rekey_mg h2 hgn (fun y hy => rekey_t zo hd a hy) (fun y hy => rekey_q zo hd a hy) (hmp _ hz), by simp, hz⟩
  · rw [if_pos hk] at hmp hgn ⊢
    exact ck_of false (by simp) rfl zo (fun w1 hH hw => call13a mb Z R a C hI x hx hcu ev he xo cx s1 k1 e1 hk w1 hH hw)

end
end Go.Proofs.Qxb6500918aDoor
