/-
  The model's system calls are the kernel's: all but retype and drop.
-/
import Derived.Test.Qxb6500918aDoorWe
import Derived.Test.Qxb6500918aDoorUq
namespace Go.Proofs.Qxb6500918aDoor
open Go.Sx Go.Kn

abbrev evA (kd : Int) (ev : Ev) (xo : Option Addr) (cx : Nat) : Value := .agg #[.int .u8 kd, .int .u32 ev.pick, .int .u64 ev.draw, .int .u32 ev.addr, .int .u32 ev.node, .int .u32 ev.dst, .int .u32 ev.xfer, .int .u8 ev.ty, .int .u64 ev.arg, .int .u64 ev.badge, .slice xo ev.ws.length cx]

/-- The call's contract, against the plain call. -/
def CK (mb : Nat) (Z : MZ) (R : MR) (a : AK) (C : CP) (x : Nat) (ev : Ev) (xo : Option Addr) (cx : Nat) (kd : Int) (r : AK × CP × Outp × Int) : Prop :=
  ∃ got : Bool, (got = true → r.2.2.2 = 0) ∧ r.2.2.1 = (if got then repX r.1 x else out0) ∧ ∀ w1, MH mb Z R a C w1 → WordsAt (mdF mb Z R C) w1 xo ev.ws →
    Calls Tryd.prog 55 #[.pointer (some ⟨mb, 0, none⟩), evA kd ev xo cx] w1 fun e w' => e = .returned (.tuple #[.int .u8 r.2.2.2, .bool got]) ∧ ∃ Z2 R2, MG mb Z R C w1 Z2 R2 r.1 r.2.1 w' ∧ (got = true → Z2 = Z) ∧ ZOk Z2 r.2.1.ent

section
variable {mb : Nat} {Z : MZ} {R : MR} {a : AK} {C : CP} {x : Nat} {ev : Ev} {xo : Option Addr} {cx : Nat} {kd : Int} {S : KP} {n : Int} {ou : Outp}

theorem ck_of {r : AK × CP × Outp × Int} (got : Bool) (h0 : got = true → r.2.2.2 = 0) (h1 : r.2.2.1 = (if got then repX r.1 x else out0)) (zo : ZOk Z r.2.1.ent)
    (h : ∀ w1, MH mb Z R a C w1 → WordsAt (mdF mb Z R C) w1 xo ev.ws → Calls Tryd.prog 55 #[.pointer (some ⟨mb, 0, none⟩), evA kd ev xo cx] w1 fun e w' => e = .returned (.tuple #[.int .u8 r.2.2.2, .bool got]) ∧ ∃ R', MG mb Z R C w1 Z R' r.1 r.2.1 w') : CK mb Z R a C x ev xo cx kd r := by
  refine ⟨got, h0, h1, fun w1 hH hw => (h w1 hH hw).mono ?_⟩
  rintro e w' ⟨h1, R', h2⟩
  exact ⟨h1, Z, R', h2, fun _ => rfl, zo⟩

theorem sysA_2 (k : ev.kind = 2) : sysA a C ev ou = (wakeA a a.cur.toNat, C, ou, 0) := by
  unfold sysA; rw [if_pos k]
theorem sysA_3 (k : ev.kind = 3) : sysA a C ev ou = (drawA a ev.draw, C, reportA (drawA a ev.draw) ou, 0) := by
  unfold sysA; rw [if_neg (by omega), if_pos k]
theorem sysA_4 (k : ev.kind = 4 ∨ ev.kind = 5) : sysA a C ev ou = ((sendA a C ev).1, (sendA a C ev).2.1, ou, (sendA a C ev).2.2) := by
  unfold sysA; rw [if_neg (by omega), if_neg (by omega), if_pos k]
theorem sysA_6 (k : ev.kind = 6) : sysA a C ev ou = recvA a C ev ou := by
  unfold sysA; rw [if_neg (by omega), if_neg (by omega), if_neg (by omega), if_pos k]
theorem sysA_7 (k : ev.kind = 7) : sysA a C ev ou = ((replyA a C ev).1, C, ou, (replyA a C ev).2) := by
  unfold sysA; rw [if_neg (by omega), if_neg (by omega), if_neg (by omega), if_neg (by omega), if_pos k]
theorem sysA_8 (k : ev.kind = 8) : sysA a C ev ou = ((sigA a C ev).1, C, ou, (sigA a C ev).2) := by
  unfold sysA; rw [if_neg (by omega), if_neg (by omega), if_neg (by omega), if_neg (by omega), if_neg (by omega), if_pos k]
theorem sysA_9 (k : ev.kind = 9) : sysA a C ev ou = ((waitA a C ev ou).1, C, (waitA a C ev ou).2.1, (waitA a C ev ou).2.2) := by
  unfold sysA; rw [if_neg (by omega), if_neg (by omega), if_neg (by omega), if_neg (by omega), if_neg (by omega), if_neg (by omega), if_pos k]
theorem sysA_10 (k : ev.kind = 10) : sysA a C ev ou = (a, (retypeP (ofA a) C ev).1, ou, (retypeP (ofA a) C ev).2) := by
  unfold sysA; rw [if_neg (by omega), if_neg (by omega), if_neg (by omega), if_neg (by omega), if_neg (by omega), if_neg (by omega), if_neg (by omega), if_pos k]
theorem sysA_11 (k : ev.kind = 11) : sysA a C ev ou = (a, (copyCapP (ofA a) C ev).1, ou, (copyCapP (ofA a) C ev).2) := by
  unfold sysA; rw [if_neg (by omega), if_neg (by omega), if_neg (by omega), if_neg (by omega), if_neg (by omega), if_neg (by omega), if_neg (by omega), if_neg (by omega), if_pos k]
theorem sysA_12 (k : ev.kind = 12 ∨ ev.kind = 13) : sysA a C ev ou = ((dropA a C ev).1, (dropA a C ev).2.1, ou, (dropA a C ev).2.2) := by
  unfold sysA; rw [if_neg (by omega), if_neg (by omega), if_neg (by omega), if_neg (by omega), if_neg (by omega), if_neg (by omega), if_neg (by omega), if_neg (by omega), if_neg (by omega), if_pos k]
theorem sysA_18 (k : ev.kind = 18 ∨ ev.kind = 19) : sysA a C ev ou = ((lineA a C ev).1, C, ou, (lineA a C ev).2) := by
  unfold sysA; rw [if_neg (by omega), if_neg (by omega), if_neg (by omega), if_neg (by omega), if_neg (by omega), if_neg (by omega), if_neg (by omega), if_neg (by omega), if_neg (by omega), if_neg (by omega), if_pos k]
theorem sysA_14 (k : ev.kind = 14 ∨ ev.kind = 15 ∨ ev.kind = 16 ∨ ev.kind = 17) : sysA a C ev ou = ((controlA a C ev).1, C, ou, (controlA a C ev).2) := by
  unfold sysA; rw [if_neg (by omega), if_neg (by omega), if_neg (by omega), if_neg (by omega), if_neg (by omega), if_neg (by omega), if_neg (by omega), if_neg (by omega), if_neg (by omega), if_neg (by omega), if_neg (by omega)]

theorem cs_ok (hI : MI Z a C) (hx : x ∈ sl Z.tl) (hcu : a.cur = (x : Int)) : 0 ≤ (a.th a.cur.toNat).cs.idx := by
  rw [hcu, Int.toNat_natCast]; exact (hI.tk x hx).ci.1

theorem ck2 (hI : MI Z a C) (zo : ZOk Z C.ent) (hx : x ∈ sl Z.tl) (hcu : a.cur = (x : Int)) (he : EvOk ev) (k : ev.kind = 2) : CK mb Z R a C x ev xo cx 2 (sysA a C ev out0) := by
  rw [sysA_2 k, hcu, Int.toNat_natCast]
  exact ck_of false (by simp) rfl zo (fun w1 hH hw => call2 mb Z R a C hI x hx hcu ev he xo cx w1 hH hw)

theorem msg1 (t : Tcb) (d : Int) : msgA t [d] = { t with m0 := d, m1 := 0, m2 := 0, m3 := 0, len := 1 } := rfl

theorem ck3 (hI : MI Z a C) (zo : ZOk Z C.ent) (hx : x ∈ sl Z.tl) (hcu : a.cur = (x : Int)) (he : EvOk ev) (k : ev.kind = 3) : CK mb Z R a C x ev xo cx 3 (sysA a C ev out0) := by
  rw [sysA_3 k]
  have e1 : drawA a ev.draw = a.setT x (msgA (a.th x) [ev.draw]) := by
    unfold drawA; rw [hcu, Int.toNat_natCast, msg1]
  have e2 : reportA (drawA a ev.draw) out0 = repX (drawA a ev.draw) x := by
    unfold reportA
    rw [show (drawA a ev.draw).cur.toNat = x by rw [show (drawA a ev.draw).cur = a.cur from rfl, hcu, Int.toNat_natCast]]
    rfl
  rw [e2, e1]
  exact ck_of true (fun _ => rfl) rfl zo (fun w1 hH hw => call3 mb Z R a C hI x hx hcu ev he xo cx w1 hH hw)

theorem ck8 (hI : MI Z a C) (zo : ZOk Z C.ent) (hx : x ∈ sl Z.tl) (hcu : a.cur = (x : Int)) (he : EvOk ev) (k : ev.kind = 8) : CK mb Z R a C x ev xo cx 8 (sysA a C ev out0) := by
  rw [sysA_8 k]
  unfold sigA
  obtain ⟨c, cs0, kc, hf⟩ : ∃ c cs0 kc, findA a C ev.addr 5 2 = (c, cs0, kc) := ⟨_, _, _, rfl⟩
  by_cases hk : kc = 0
  · subst hk
    obtain ⟨i, hi, hc⟩ := hI.capQ (cs_ok hI hx hcu) he.addr.1 (.inr rfl) hf
    rw [hc] at hf
    rw [hf]
    dsimp only
    rw [if_pos rfl]
    exact ck_of false (by simp) rfl zo (fun w1 hH hw => call8g mb Z R a C hI x hx hcu ev he xo cx i hi _ _ _ _ hf w1 hH hw)
  · rw [hf]
    dsimp only
    rw [if_neg hk]
    exact ck_of false (by simp) rfl zo (fun w1 hH hw => call8b mb Z R a C hI x hx hcu ev he xo cx c cs0 kc hf hk w1 hH hw)

theorem ck9 (hI : MI Z a C) (zo : ZOk Z C.ent) (hx : x ∈ sl Z.tl) (hcu : a.cur = (x : Int)) (he : EvOk ev) (k : ev.kind = 9) : CK mb Z R a C x ev xo cx 9 (sysA a C ev out0) := by
  rw [sysA_9 k]
  unfold waitA
  obtain ⟨c, cs0, kc, hf⟩ : ∃ c cs0 kc, findA a C ev.addr 5 1 = (c, cs0, kc) := ⟨_, _, _, rfl⟩
  by_cases hk : kc = 0
  · subst hk
    obtain ⟨i, hi, hc⟩ := hI.capQ (cs_ok hI hx hcu) he.addr.1 (.inr rfl) hf
    rw [hc] at hf
    rw [hf]
    dsimp only
    rw [if_neg (fun q => q rfl), zo.idx (zo.qx i hi), Int.toNat_natCast, hcu, Int.toNat_natCast]
    by_cases hw0 : a.word i = 0
    · rw [if_pos hw0]
      exact ck_of false (by simp) rfl zo (fun w1 hH hw => call9w mb Z R a C hI x hx hcu ev he xo cx i hi _ _ _ _ hf hw0 w1 hH hw)
    · rw [if_neg hw0]
      have e2 : reportA ((a.setT x { a.th x with badge := a.word i }).setW i 0) out0 = repX ((a.setT x { a.th x with badge := a.word i }).setW i 0) x := by
        unfold reportA
        rw [show ((a.setT x { a.th x with badge := a.word i }).setW i 0).cur.toNat = x by rw [show ((a.setT x { a.th x with badge := a.word i }).setW i 0).cur = a.cur from rfl, hcu, Int.toNat_natCast]]
        rfl
      rw [e2]
      exact ck_of true (fun _ => rfl) rfl zo (fun w1 hH hw => call9g mb Z R a C hI x hx hcu ev he xo cx i hi _ _ _ _ hf hw0 w1 hH hw)
  · rw [hf]
    dsimp only
    rw [if_pos hk]
    exact ck_of false (by simp) rfl zo (fun w1 hH hw => call9b mb Z R a C hI x hx hcu ev he xo cx c cs0 kc hf hk w1 hH hw)

theorem ck14 (hI : MI Z a C) (zo : ZOk Z C.ent) (hx : x ∈ sl Z.tl) (hcu : a.cur = (x : Int)) (he : EvOk ev) (k : ev.kind = 14) : CK mb Z R a C x ev xo cx 14 (sysA a C ev out0) := by
  rw [sysA_14 (.inl k)]
  unfold controlA
  obtain ⟨c, cs0, kc, hf⟩ : ∃ c cs0 kc, findA a C ev.addr 3 2 = (c, cs0, kc) := ⟨_, _, _, rfl⟩
  by_cases hk : kc = 0
  · subst hk
    obtain ⟨i, hi, hc⟩ := hI.capT (cs_ok hI hx hcu) he.addr.1 hf
    rw [hc] at hf
    rw [hf]
    dsimp only
    rw [if_neg (fun q => q rfl), zo.idx (zo.tx i hi), Int.toNat_natCast, if_pos k]
    obtain ⟨c2, s2, k2, hf2⟩ : ∃ c2 s2 k2, findA a C ev.node 2 1 = (c2, s2, k2) := ⟨_, _, _, rfl⟩
    rw [hf2]
    dsimp only
    by_cases hk2 : k2 = 0
    · subst hk2
      rw [if_neg (fun q => q rfl)]
      exact ck_of false (by simp) rfl zo (fun w1 hH hw => call14g mb Z R a C hI x hx hcu ev he xo cx i hi _ _ _ _ hf c2 s2 hf2 w1 hH hw)
    · rw [if_pos hk2]
      exact ck_of false (by simp) rfl zo (fun w1 hH hw => call14c mb Z R a C hI x hx hcu ev he xo cx i hi _ _ _ _ hf c2 s2 k2 hf2 hk2 w1 hH hw)
  · rw [hf]
    dsimp only
    rw [if_pos hk]
    exact ck_of false (by simp) rfl zo (fun w1 hH hw => call14b mb Z R a C hI x hx hcu ev he xo cx c cs0 kc hf hk w1 hH hw)

theorem ck15 (hI : MI Z a C) (zo : ZOk Z C.ent) (hx : x ∈ sl Z.tl) (hcu : a.cur = (x : Int)) (he : EvOk ev) (k : ev.kind = 15) : CK mb Z R a C x ev xo cx 15 (sysA a C ev out0) := by
  rw [sysA_14 (.inr (.inl k))]
  unfold controlA
  obtain ⟨c, cs0, kc, hf⟩ : ∃ c cs0 kc, findA a C ev.addr 3 2 = (c, cs0, kc) := ⟨_, _, _, rfl⟩
  by_cases hk : kc = 0
  · subst hk
    obtain ⟨i, hi, hc⟩ := hI.capT (cs_ok hI hx hcu) he.addr.1 hf
    rw [hc] at hf
    rw [hf]
    dsimp only
    rw [if_neg (fun q => q rfl), zo.idx (zo.tx i hi), Int.toNat_natCast, if_neg (by omega), if_pos k]
    by_cases hag : ev.arg ≥ 8
    · rw [if_pos hag]
      exact ck_of false (by simp) rfl zo (fun w1 hH hw => call15a mb Z R a C hI x hx hcu ev he xo cx i hi _ _ _ _ hf hag w1 hH hw)
    · rw [if_neg hag]
      by_cases hs1 : (a.th i).st = 1
      · rw [if_neg (fun q => q hs1)]
        exact ck_of false (by simp) rfl zo (fun w1 hH hw => call15y mb Z R a C hI x hx hcu ev he xo cx i hi _ _ _ _ hf hag hs1 w1 hH hw)
      · rw [if_pos hs1]
        exact ck_of false (by simp) rfl zo (fun w1 hH hw => call15n mb Z R a C hI x hx hcu ev he xo cx i hi _ _ _ _ hf hag hs1 w1 hH hw)
  · rw [hf]
    dsimp only
    rw [if_pos hk]
    exact ck_of false (by simp) rfl zo (fun w1 hH hw => call15b mb Z R a C hI x hx hcu ev he xo cx c cs0 kc hf hk w1 hH hw)

theorem ck16 (hI : MI Z a C) (zo : ZOk Z C.ent) (hx : x ∈ sl Z.tl) (hcu : a.cur = (x : Int)) (he : EvOk ev) (k : ev.kind = 16) : CK mb Z R a C x ev xo cx 16 (sysA a C ev out0) := by
  rw [sysA_14 (.inr (.inr (.inl k)))]
  unfold controlA
  obtain ⟨c, cs0, kc, hf⟩ : ∃ c cs0 kc, findA a C ev.addr 3 2 = (c, cs0, kc) := ⟨_, _, _, rfl⟩
  by_cases hk : kc = 0
  · subst hk
    obtain ⟨i, hi, hc⟩ := hI.capT (cs_ok hI hx hcu) he.addr.1 hf
    rw [hc] at hf
    rw [hf]
    dsimp only
    rw [if_neg (fun q => q rfl), zo.idx (zo.tx i hi), Int.toNat_natCast, if_neg (by omega), if_neg (by omega), if_pos k]
    by_cases hs0 : (a.th i).st = 0
    · rw [if_neg (fun q => q hs0)]
      exact ck_of false (by simp) rfl zo (fun w1 hH hw => call16y mb Z R a C hI x hx hcu ev he xo cx i hi _ _ _ _ hf hs0 w1 hH hw)
    · rw [if_pos hs0]
      exact ck_of false (by simp) rfl zo (fun w1 hH hw => call16n mb Z R a C hI x hx hcu ev he xo cx i hi _ _ _ _ hf hs0 w1 hH hw)
  · rw [hf]
    dsimp only
    rw [if_pos hk]
    exact ck_of false (by simp) rfl zo (fun w1 hH hw => call16b mb Z R a C hI x hx hcu ev he xo cx c cs0 kc hf hk w1 hH hw)

theorem ck17 (hI : MI Z a C) (zo : ZOk Z C.ent) (hx : x ∈ sl Z.tl) (hcu : a.cur = (x : Int)) (he : EvOk ev) (k : ev.kind = 17) : CK mb Z R a C x ev xo cx 17 (sysA a C ev out0) := by
  rw [sysA_14 (.inr (.inr (.inr k)))]
  unfold controlA
  obtain ⟨c, cs0, kc, hf⟩ : ∃ c cs0 kc, findA a C ev.addr 3 2 = (c, cs0, kc) := ⟨_, _, _, rfl⟩
  by_cases hk : kc = 0
  · subst hk
    obtain ⟨i, hi, hc⟩ := hI.capT (cs_ok hI hx hcu) he.addr.1 hf
    rw [hc] at hf
    rw [hf]
    dsimp only
    rw [if_neg (fun q => q rfl), zo.idx (zo.tx i hi), Int.toNat_natCast, if_neg (by omega), if_neg (by omega), if_neg (by omega), if_pos k]
    by_cases hs0 : (a.th i).st = 0
    · rw [if_pos hs0]
      exact ck_of false (by simp) rfl zo (fun w1 hH hw => call17n mb Z R a C hI x hx hcu ev he xo cx i hi _ _ _ _ hf hs0 w1 hH hw)
    · rw [if_neg hs0]
      exact ck_of false (by simp) rfl zo (fun w1 hH hw => call17y mb Z R a C hI x hx hcu ev he xo cx i hi _ _ _ _ hf hs0 w1 hH hw)
  · rw [hf]
    dsimp only
    rw [if_pos hk]
    exact ck_of false (by simp) rfl zo (fun w1 hH hw => call17b mb Z R a C hI x hx hcu ev he xo cx c cs0 kc hf hk w1 hH hw)

theorem ck18 (hI : MI Z a C) (zo : ZOk Z C.ent) (hx : x ∈ sl Z.tl) (hcu : a.cur = (x : Int)) (he : EvOk ev) (k : ev.kind = 18) : CK mb Z R a C x ev xo cx 18 (sysA a C ev out0) := by
  rw [sysA_18 (.inl k)]
  unfold lineA
  by_cases hag : ev.arg ≥ 16
  · rw [if_pos hag]
    exact ck_of false (by simp) rfl zo (fun w1 hH hw => call18a mb Z R a C hI x hx hcu ev he xo cx hag w1 hH hw)
  rw [if_neg hag, if_pos k]
  obtain ⟨c, cs0, kc, hf⟩ : ∃ c cs0 kc, findA a C ev.addr 5 2 = (c, cs0, kc) := ⟨_, _, _, rfl⟩
  by_cases hk : kc = 0
  · subst hk
    obtain ⟨i, hi, hc⟩ := hI.capQ (cs_ok hI hx hcu) he.addr.1 (.inr rfl) hf
    rw [hc] at hf
    rw [hf]
    dsimp only
    rw [if_pos rfl]
    exact ck_of false (by simp) rfl zo (fun w1 hH hw => call18g mb Z R a C hI x hx hcu ev he xo cx hag i hi _ _ _ _ hf w1 hH hw)
  · rw [hf]
    dsimp only
    rw [if_neg hk]
    exact ck_of false (by simp) rfl zo (fun w1 hH hw => call18b mb Z R a C hI x hx hcu ev he xo cx hag c cs0 kc hf hk w1 hH hw)

theorem ck19 (hI : MI Z a C) (zo : ZOk Z C.ent) (hx : x ∈ sl Z.tl) (hcu : a.cur = (x : Int)) (he : EvOk ev) (k : ev.kind = 19) : CK mb Z R a C x ev xo cx 19 (sysA a C ev out0) := by
  rw [sysA_18 (.inr k)]
  unfold lineA
  by_cases hag : ev.arg ≥ 16
  · rw [if_pos hag]
    exact ck_of false (by simp) rfl zo (fun w1 hH hw => call19a mb Z R a C hI x hx hcu ev he xo cx hag w1 hH hw)
  rw [if_neg hag, if_neg (by omega)]
  by_cases hn : (a.irq ev.arg.toNat).ntfn = ⟨0, 0⟩
  · rw [if_pos hn]
    exact ck_of false (by simp) rfl zo (fun w1 hH hw => call19n mb Z R a C hI x hx hcu ev he xo cx hag hn w1 hH hw)
  rw [if_neg hn]
  by_cases hm : (a.irq ev.arg.toNat).masked = false
  · rw [if_pos hm]
    exact ck_of false (by simp) rfl zo (fun w1 hH hw => call19m mb Z R a C hI x hx hcu ev he xo cx hag hn hm w1 hH hw)
  · rw [if_neg hm]
    exact ck_of false (by simp) rfl zo (fun w1 hH hw => call19g mb Z R a C hI x hx hcu ev he xo cx hag hn (by simpa using hm) w1 hH hw)

theorem ck11 (hI : MI Z a C) (zo : ZOk Z C.ent) (hx : x ∈ sl Z.tl) (hcu : a.cur = (x : Int)) (he : EvOk ev) (k : ev.kind = 11) : CK mb Z R a C x ev xo cx 11 (sysA a C ev out0) := by
  rw [sysA_11 k]
  unfold copyCapP
  rw [find_ofA]
  dsimp only
  have ec : ((ofA a).tcb (ofA a).cur.toNat).cs = (a.th x).cs := by
    show (a.th a.cur.toNat).cs = _
    rw [hcu, Int.toNat_natCast]
  rw [ec]
  obtain ⟨s1, k1, e1⟩ : ∃ s1 k1, lookP C.ent (a.th x).cs ev.addr = (s1, k1) := ⟨_, _, rfl⟩
  rw [e1]
  dsimp only
  by_cases hk1 : k1 = 0
  · subst hk1
    rw [if_neg (fun q => q rfl)]
    obtain ⟨c2, s3, k2, hf2⟩ : ∃ c2 s3 k2, findA a C ev.node 2 2 = (c2, s3, k2) := ⟨_, _, _, rfl⟩
    rw [hf2]
    dsimp only
    by_cases hk2 : k2 = 0
    · subst hk2
      rw [if_neg (fun q => q rfl)]
      obtain ⟨_, _, _, _, _, _, _, g1, _, g2⟩ := find_factA hI.ci (cs_ok hI hx hcu) he.node.1 hf2 rfl
      have hci2 : 0 ≤ c2.obj.idx ∧ c2.obj.idx < 256 := by
        rcases g2 with g2 | g2
        · exfalso; have := g2.1; omega
        · exact ⟨g2.2.2.1, g2.2.2.2.1⟩
      obtain ⟨s2, k3, e2⟩ : ∃ s2 k3, lookP C.ent c2.obj ev.dst = (s2, k3) := ⟨_, _, rfl⟩
      rw [e2]
      dsimp only
      by_cases hk3 : k3 = 0
      · subst hk3
        rw [if_neg (fun q => q rfl)]
        obtain ⟨dc, dk, ed⟩ : ∃ dc dk, deriveP C.cel s2.toNat s1.toNat (IntKind.wrap .u8 ev.arg) ev.badge = (dc, dk) := ⟨_, _, rfl⟩
        rw [ed]
        exact ck_of false (by simp) rfl zo (fun w1 hH hw => call11g mb Z R a C hI x hx hcu ev he xo cx s1 e1 c2 s3 hf2 hci2 s2 e2 dc dk ed w1 hH hw)
      · rw [if_pos hk3]
        exact ck_of false (by simp) rfl zo (fun w1 hH hw => call11c mb Z R a C hI x hx hcu ev he xo cx s1 e1 c2 s3 hf2 hci2 s2 k3 e2 hk3 w1 hH hw)
    · rw [if_pos hk2]
      exact ck_of false (by simp) rfl zo (fun w1 hH hw => call11b mb Z R a C hI x hx hcu ev he xo cx s1 e1 c2 s3 k2 hf2 hk2 w1 hH hw)
  · rw [if_pos hk1]
    exact ck_of false (by simp) rfl zo (fun w1 hH hw => call11a mb Z R a C hI x hx hcu ev he xo cx s1 k1 e1 hk1 w1 hH hw)

theorem ref_ky (zo : ZOk Z C.ent) {i : Nat} (hi : i < 256) : refP C.ent (i : Int) = Z.ky i := by
  unfold refP; rw [if_neg (by omega), zo.ky i hi]

theorem ck7 (hI : MI Z a C) (zo : ZOk Z C.ent) (hx : x ∈ sl Z.tl) (hcu : a.cur = (x : Int)) (he : EvOk ev) (k : ev.kind = 7) : CK mb Z R a C x ev xo cx 7 (sysA a C ev out0) := by
  rw [sysA_7 k]
  unfold replyA
  dsimp only
  rw [hcu, Int.toNat_natCast, ref_ky zo (zo.tx x hx)]
  have hs2 : (a.th x).st = 2 := (hI.mp.cu x hx).2 hcu
  by_cases hr0 : (a.th x).rep = ⟨0, 0⟩
  · rw [if_pos hr0]
    exact ck_of false (by simp) rfl zo (fun w1 hH hw => call7z mb Z R a C hI x hx hcu ev he xo cx hr0 w1 hH hw)
  rw [if_neg hr0]
  by_cases hwl : (ev.ws.length : Int) > 4
  · rw [if_pos hwl]
    exact ck_of false (by simp) rfl zo (fun w1 hH hw => call7l mb Z R a C hI x hx hcu ev he xo cx hr0 hwl w1 hH hw)
  rw [if_neg hwl]
  by_cases hd : ∃ y ∈ sl Z.tl, Z.ky y = (a.th x).rep
  · obtain ⟨y, hy, hrep⟩ := hd
    have hy2 := zo.tx y hy
    have ei : (a.th x).rep.idx.toNat = y := by rw [← hrep, zo.idx hy2, Int.toNat_natCast]
    have et : typeOfP C.ent (a.th x).rep = 3 := by rw [← hrep, zo.type hy2]; exact (zo.td y hy2).2 hy
    rw [ei, et]
    by_cases hs6 : (a.th y).st = 6
    · by_cases hwt : (a.th y).wait = Z.ky x
      · rw [if_neg (by rintro (q | q | q); exact q rfl; exact q hs6; exact q hwt)]
        have hxy : x ≠ y := fun q => by rw [← q, hs2] at hs6; exact absurd hs6 (by decide)
        exact ck_of false (by simp) rfl zo (fun w1 hH hw => call7g mb Z R a C hI x hx hcu ev he xo cx hwl y hy hrep.symm hs6 hwt hxy w1 hH hw)
      · rw [if_pos (.inr (.inr hwt))]
        exact ck_of false (by simp) rfl zo (fun w1 hH hw => call7v mb Z R a C hI x hx hcu ev he xo cx hwl y hy hrep.symm hs6 hwt w1 hH hw)
    · rw [if_pos (.inr (.inl hs6))]
      exact ck_of false (by simp) rfl zo (fun w1 hH hw => call7s mb Z R a C hI x hx hcu ev he xo cx hwl y hy hrep.symm hs6 w1 hH hw)
  · have hdead : ∀ y ∈ sl Z.tl, Z.ky y ≠ (a.th x).rep := fun y hy q => hd ⟨y, hy, q⟩
    have et : typeOfP C.ent (a.th x).rep ≠ 3 := fun q => by
      have hri := (hI.tk x hx).ri
      have h1 := ref_of_type hri (by decide) q
      have hi : (a.th x).rep.idx.toNat < 256 := by omega
      exact hdead _ ((zo.td _ hi).1 h1.2) (by rw [zo.ky _ hi]; exact h1.1)
    rw [if_pos (.inl et)]
    exact ck_of false (by simp) rfl zo (fun w1 hH hw => call7d mb Z R a C hI x hx hcu ev he xo cx hr0 hwl hdead w1 hH hw)

end
end Go.Proofs.Qxb6500918aDoor
