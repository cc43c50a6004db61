/-
  A step of the model is a step of the kernel.
-/
import Derived.Test.Qxb6500918aDoorWh
import Derived.Test.Qxb6500918aDoorVb
namespace Go.Proofs.Qxb6500918aDoor
open Go.Sx Go.Kn

section
variable {mb : Nat} {Z : MZ} {R : MR} {a : AK} {C : CP} {x : Nat} {ev : Ev} {xo : Option Addr} {cx : Nat} {S : KP} {n : Int}

theorem step0A_C : (step0A a C ev).2.1 = (stepA a C ev).2.1 := by
  unfold stepA
  split <;> rfl

theorem _root_.Go.Kn.Iv.gen0 (hv : Iv S a C n) (hn : n < 4294967295) (he : EvOk ev) : ∀ i, 1 ≤ ((step0A a C ev).2.1.ent i).gen := fun i => by
  have h1 := (hv.gi.of hn (step_gen (S := S) (C := C) (ev := ev))) i
  rw [step0A_C, ← (hv.ab.step hv.ci he).2]
  exact h1.1

theorem _root_.Go.Kn.Iv.mp0 (hv : Iv S a C n) (hn : n < 4294967295) (he : EvOk ev) {Z2 : MZ} (zo : ZOk Z2 (step0A a C ev).2.1.ent) : MP Z2 (step0A a C ev).1 := by
  have hA0 := hv.ab.step0 hv.ci he
  have hX0 := hv.xi.step0 hv.ok2 hv.ci he
  rw [hA0.2] at hX0
  exact MP_of hA0.1 hX0 (hv.gen0 hn he) zo

theorem stepA_0 {a0 : AK} {C0 : CP} {o0 : Outp} (h : step0A a C ev = (a0, C0, o0)) (hc : o0.code = 0) : stepA a C ev = (schedA a0 ev.pick, C0, { o0 with run := refP C0.ent (schedA a0 ev.pick).cur }) := by
  unfold stepA
  rw [h]
  exact if_pos hc

theorem stepA_n {a0 : AK} {C0 : CP} {o0 : Outp} (h : step0A a C ev = (a0, C0, o0)) (hc : o0.code ≠ 0) : stepA a C ev = (a0, C0, { o0 with run := refP C0.ent a0.cur }) := by
  unfold stepA
  rw [h]
  exact if_neg hc

theorem cur_ref {Z' : MZ} {E : Nat → Ent} (zo : ZOk Z' E) {b : AK} (hc : lk b.cur) : curR Z' b = refP E b.cur := by
  unfold curR refP
  by_cases e : b.cur = -1
  · rw [if_pos e, if_pos e]
  · have h1 := lk_nat hc e
    rw [if_neg e, if_neg e, zo.ky _ (by omega), show ((b.cur.toNat : Nat) : Int) = b.cur by omega]

def MOut (mb : Nat) (Z : MZ) (R : MR) (C : CP) (w : World) (r : AK × CP × Outp) (e : Ending) (w' : World) : Prop :=
  ∃ Z' R', e = .returned (.agg (outC r.2.2).toArray) ∧ MG mb Z R C w Z' R' r.1 r.2.1 w' ∧ ZOk Z' r.2.1.ent

theorem mout_of {w w' : World} {e : Ending} {a' : AK} {C' : CP} {o : Outp} {Z' : MZ} {R' : MR} {v0 : Int} (hc : lk a'.cur) (zo : ZOk Z' C'.ent) (hg : MG mb Z R C w Z' R' a' C' w') (hr : o.run = refP C'.ent a'.cur) (hv : o.code = v0)
    (he : e = .returned (.agg #[.int .u8 v0, .int .u16 ((curR Z' a').idx), .int .u32 ((curR Z' a').gen), .int .u64 o.badge, .int .u64 o.m0, .int .u64 o.m1, .int .u64 o.m2, .int .u64 o.m3, .int .u8 o.len, .int .u8 o.got])) : MOut mb Z R C w (a', C', o) e w' := by
  refine ⟨Z', R', ?_, hg, zo⟩
  rw [he, cur_ref zo hc, ← hr, ← hv]
  rfl

theorem sys_ck (hv : Iv S a C n) (hn : n < 4294967295) (zo : ZOk Z C.ent) (hx : x ∈ sl Z.tl) (hcu : a.cur = (x : Int)) (he : EvOk ev) (hk : 2 ≤ ev.kind ∧ ev.kind < 20) (hmp : ∀ Z2, ZOk Z2 (sysA a C ev out0).2.1.ent → MP Z2 (sysA a C ev out0).1) (hgn : ∀ i, 1 ≤ ((sysA a C ev out0).2.1.ent i).gen) : CK mb Z R a C x ev xo cx ev.kind (sysA a C ev out0) := by
  have hI := (Iv.mi hv zo)
  have h18 : ev.kind = 2 ∨ ev.kind = 3 ∨ ev.kind = 4 ∨ ev.kind = 5 ∨ ev.kind = 6 ∨ ev.kind = 7 ∨ ev.kind = 8 ∨ ev.kind = 9 ∨ ev.kind = 10 ∨ ev.kind = 11 ∨ ev.kind = 12 ∨ ev.kind = 13 ∨ ev.kind = 14 ∨ ev.kind = 15 ∨ ev.kind = 16 ∨ ev.kind = 17 ∨ ev.kind = 18 ∨ ev.kind = 19 := by omega
  rcases h18 with k | k | k | k | k | k | k | k | k | k | k | k | k | k | k | k | k | k
  · rw [k]; exact ck2 hI zo hx hcu he k
  · rw [k]; exact ck3 hI zo hx hcu he k
  · rw [k]; exact ck4 hI zo hx hcu he k
  · rw [k]; exact ck5 hI zo hx hcu he k
  · rw [k]; exact ck6 hI zo hx hcu he k
  · rw [k]; exact ck7 hI zo hx hcu he k
  · rw [k]; exact ck8 hI zo hx hcu he k
  · rw [k]; exact ck9 hI zo hx hcu he k
  · rw [k]; exact ck10 hv zo hx hcu he k
  · rw [k]; exact ck11 hI zo hx hcu he k
  · rw [k]; exact ck12 hv hn zo hx hcu he k hmp hgn
  · rw [k]; exact ck13 hv hn zo hx hcu he k hmp hgn
  · rw [k]; exact ck14 hI zo hx hcu he k
  · rw [k]; exact ck15 hI zo hx hcu he k
  · rw [k]; exact ck16 hI zo hx hcu he k
  · rw [k]; exact ck17 hI zo hx hcu he k
  · rw [k]; exact ck18 hI zo hx hcu he k
  · rw [k]; exact ck19 hI zo hx hcu he k

theorem mstep_ok (hv : Iv S a C n) (hn : n < 4294967295) (zo : ZOk Z C.ent) (he : EvOk ev) (w : World) (hH : MH mb Z R a C w) (hws : WordsAt (mdF mb Z R C) w xo ev.ws) :
    Calls Tryd.prog 15 #[.pointer (some ⟨mb, 0, none⟩), evA ev.kind ev xo cx] w fun e w' => MOut mb Z R C w (stepA a C ev) e w' := by
  have hI := (Iv.mi hv zo)
  have hA := hv.ab.step hv.ci he
  have hlk : lk (stepA a C ev).1.cur := by rw [hA.1.cu]; exact hA.1.ri.cur
  have hk0 := he.kind
  by_cases k0 : ev.kind = 0
  · rcases hI.mp.cr with hc | ⟨x, hx, hc⟩
    · have h0 : step0A a C ev = ({ a with now := IntKind.wrap .u64 (a.now + 1) }, C, out0) := by
        unfold step0A
        rw [if_pos k0, if_neg (fun q => q hc)]
      rw [stepA_0 h0 rfl] at hlk ⊢
      rw [k0]
      refine (step0I mb Z R a C hI ev he xo cx hc w hH hws).mono ?_
      rintro e w' ⟨Z', R', h1, h2, rfl⟩
      exact mout_of hlk zo h2 rfl rfl h1
    · have h0 : step0A a C ev = (wakeA { a with now := IntKind.wrap .u64 (a.now + 1) } x, C, out0) := by
        unfold step0A
        rw [if_pos k0, if_pos (by omega), hc, Int.toNat_natCast]
      rw [stepA_0 h0 rfl] at hlk ⊢
      rw [k0]
      refine (step0C mb Z R a C hI ev he xo cx x hx hc w hH hws).mono ?_
      rintro e w' ⟨Z', R', h1, h2, rfl⟩
      exact mout_of hlk zo h2 rfl rfl h1
  by_cases k1 : ev.kind = 1
  · have hs : step0A a C ev = ((interruptA a C ev.arg).1, C, { out0 with code := (interruptA a C ev.arg).2 }) := by
      unfold step0A
      rw [if_neg k0, if_pos k1]
    by_cases hag : ev.arg ≥ 16
    · have h0 : step0A a C ev = (a, C, { out0 with code := 8 }) := by
        rw [hs]; unfold interruptA; rw [if_pos hag]
      rw [stepA_n h0 (by show (8 : Int) ≠ 0; decide)] at hlk ⊢
      rw [k1]
      refine (step1a mb Z R a C hI ev he xo cx hag w hH hws).mono ?_
      rintro e w' ⟨Z', R', h1, h2, rfl⟩
      exact mout_of hlk zo h2 rfl rfl h1
    by_cases hty : typeOfP C.ent (a.irq ev.arg.toNat).ntfn = 5
    · have hl : ev.arg.toNat < 16 := by have := he.arg.1; omega
      have hnt := hI.ir _ hl
      by_cases hm : (a.irq ev.arg.toNat).masked = true
      · have h0 : step0A a C ev = (a, C, { out0 with code := 15 }) := by
          rw [hs]; unfold interruptA; rw [if_neg hag, if_neg (fun q => q hty), if_pos hm]
        rw [stepA_n h0 (by show (15 : Int) ≠ 0; decide)] at hlk ⊢
        rw [k1]
        refine (step1m mb Z R a C hI ev he xo cx hag (a.irq ev.arg.toNat).ntfn (a.irq ev.arg.toNat).badge (by rw [← hm]) hty hnt w hH hws).mono ?_
        rintro e w' ⟨Z', R', h1, h2, rfl⟩
        exact mout_of hlk zo h2 rfl rfl h1
      · have hr := ref_of_type hnt (by decide) hty
        have hi : (a.irq ev.arg.toNat).ntfn.idx.toNat < 256 := by omega
        have hky : (a.irq ev.arg.toNat).ntfn = Z.ky (a.irq ev.arg.toNat).ntfn.idx.toNat := by rw [zo.ky _ hi, hr.1]
        have hiq := (zo.qd _ hi).1 (.inr hr.2)
        have hm' : (a.irq ev.arg.toNat).masked = false := by simpa using hm
        generalize hgi : (a.irq ev.arg.toNat).ntfn.idx.toNat = i at hky hiq hi
        have h0 : step0A a C ev = (signalA (a.setI ev.arg.toNat { a.irq ev.arg.toNat with masked := true }) (Z.ky i) (a.irq ev.arg.toNat).badge, C, out0) := by
          rw [hs]; unfold interruptA; rw [if_neg hag, if_neg (fun q => q hty), if_neg hm, ← hky]; rfl
        rw [stepA_0 h0 rfl] at hlk ⊢
        rw [k1]
        refine (step1g mb Z R a C hI ev he xo cx hag i hiq (a.irq ev.arg.toNat).badge (by rw [← hm', ← hky]) (by rw [← hky]; exact hty) w hH hws).mono ?_
        rintro e w' ⟨Z', R', h1, h2, rfl⟩
        exact mout_of hlk zo h2 rfl rfl h1
    · have h0 : step0A a C ev = (a, C, { out0 with code := 14 }) := by
        rw [hs]; unfold interruptA; rw [if_neg hag, if_pos hty]
      rw [stepA_n h0 (by show (14 : Int) ≠ 0; decide)] at hlk ⊢
      rw [k1]
      refine (step1n mb Z R a C hI ev he xo cx hag hty w hH hws).mono ?_
      rintro e w' ⟨Z', R', h1, h2, rfl⟩
      exact mout_of hlk zo h2 rfl rfl h1
  by_cases k2 : ev.kind ≥ 20
  · have h0 : step0A a C ev = (a, C, { out0 with code := 16 }) := by
      unfold step0A
      rw [if_neg k0, if_neg k1, if_pos k2]
    rw [stepA_n h0 (by show (16 : Int) ≠ 0; decide)] at hlk ⊢
    refine (step20 mb Z R a C hI ev he xo cx k0 k1 k2 w hH hws).mono ?_
    rintro e w' ⟨Z', R', h1, h2, rfl⟩
    exact mout_of hlk zo h2 rfl rfl h1
  rcases hI.mp.cr with hc | ⟨x, hx, hcu⟩
  · have h0 : step0A a C ev = (a, C, { out0 with code := 1 }) := by
      unfold step0A
      rw [if_neg k0, if_neg k1, if_neg k2, if_pos hc]
    rw [stepA_n h0 (by show (1 : Int) ≠ 0; decide)] at hlk ⊢
    refine (stepI mb Z R a C hI ev he xo cx k0 k1 k2 hc w hH hws).mono ?_
    rintro e w' ⟨Z', R', h1, h2, rfl⟩
    refine mout_of hlk zo h2 rfl rfl ?_
    rw [h1, show curR Z' a = ⟨0, 0⟩ by unfold curR; rw [if_pos hc]]
    rfl
  · obtain ⟨r, hr⟩ : ∃ r, sysA a C ev out0 = r := ⟨_, rfl⟩
    have h0 : step0A a C ev = (r.1, r.2.1, { r.2.2.1 with code := r.2.2.2 }) := by
      unfold step0A
      rw [if_neg k0, if_neg k1, if_neg k2, if_neg (by omega), hr]
    have hmp : ∀ Z2, ZOk Z2 r.2.1.ent → MP Z2 r.1 := fun Z2 hz => by
      have := hv.mp0 hn he (Z2 := Z2) (by rw [h0]; exact hz)
      rw [h0] at this; exact this
    have hgn : ∀ i, 1 ≤ (r.2.1.ent i).gen := fun i => by
      have := hv.gen0 hn he i
      rw [h0] at this; exact this
    have hck := sys_ck (mb := mb) (R := R) (xo := xo) (cx := cx) hv hn zo hx hcu he (by omega) (by rw [hr]; exact hmp) (by rw [hr]; exact hgn)
    rw [hr] at hck
    obtain ⟨a2, C2, o2, k⟩ := r
    obtain ⟨got, hg0, ho, hcall⟩ := hck
    dsimp only at hmp hgn hg0 ho hcall h0
    by_cases hkz : k = 0
    · subst hkz
      rw [stepA_0 h0 rfl] at hlk ⊢
      cases got with
      | true =>
        refine (stepSt mb Z R a C hI ev he xo cx k0 k1 k2 x hx hcu (fun Z' => ZOk Z' C2.ent) a2 C2 (fun w1 hH1 hw1 => (hcall w1 hH1 hw1).mono ?_) w hH hws).mono ?_
        · rintro e w' ⟨h1, Z2, R2, h2, h3, h4⟩
          exact ⟨h1, Z2, R2, h2, hmp Z2 h4, h3, h4⟩
        · rintro e w' ⟨Z', R', h1, h2, h3⟩
          rw [if_pos rfl] at ho
          subst ho
          exact mout_of hlk h3 h2 rfl rfl h1
      | false =>
        refine (stepSf mb Z R a C hI ev he xo cx k0 k1 k2 x hx hcu (fun Z' => ZOk Z' C2.ent) a2 C2 (fun w1 hH1 hw1 => (hcall w1 hH1 hw1).mono ?_) w hH hws).mono ?_
        · rintro e w' ⟨h1, Z2, R2, h2, h3, h4⟩
          exact ⟨h1, Z2, R2, h2, hmp Z2 h4, h3, h4⟩
        · rintro e w' ⟨Z', R', h1, h2, h3⟩
          rw [if_neg (by simp)] at ho
          subst ho
          exact mout_of hlk h3 h2 rfl rfl h1
    · have hgf : got = false := by
        cases got with
        | true => exact absurd (hg0 rfl) hkz
        | false => rfl
      subst hgf
      rw [stepA_n h0 hkz] at hlk ⊢
      refine (stepSr mb Z R a C hI ev he xo cx k0 k1 k2 x hx hcu (fun Z' => ZOk Z' C2.ent) k a2 C2 (fun w1 hH1 hw1 => (hcall w1 hH1 hw1).mono ?_) hkz w hH hws).mono ?_
      · rintro e w' ⟨h1, Z2, R2, h2, h3, h4⟩
        exact ⟨h1, Z2, R2, h2, hmp Z2 h4, h3, h4⟩
      · rintro e w' ⟨Z', R', h1, h2, h3⟩
        rw [if_neg (by simp)] at ho
        subst ho
        exact mout_of hlk h3 h2 rfl rfl h1

end
end Go.Proofs.Qxb6500918aDoor
