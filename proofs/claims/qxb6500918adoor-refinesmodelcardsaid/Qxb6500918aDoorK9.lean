/-
  deliver. (Made by program: a symbolic walk that prints its steps.)
-/
import Derived.Test.Qxb6500918aDoorK8
namespace Go.Proofs.Qxb6500918aDoor
open Go.Sx Go.Kn
set_option maxRecDepth 100000
set_option maxHeartbeats 4000000
set_option linter.unusedVariables false
set_option linter.unusedSimpArgs false

theorem atE (bo bc : Nat) (nd : Nat → Nat) (C : CP) {i j : Nat} (hi : i < 256) (hj : j < 16) (hp : C.pres i = true) {s : Int} (hs : s = ((i * 16 + j : Nat) : Int)) (w : World) (hc : CapAt w bo bc nd C) :
    Calls Tryd.prog 62 #[.pointer (some ⟨bc, 0, none⟩), .int .i64 s] w fun e w' => e = .returned (.agg (cpC (C.cel s.toNat).cap).toArray) ∧ Fr [] w w' := by
  subst hs
  rw [Int.toNat_natCast]
  exact at_ok bo bc nd C.pres C.cel i j hi hj hp w hc.sp (hc.no hi hp) (hc.n1 hi hp).2.symm

theorem insertE (bo bc : Nat) (nd : Nat → Nat) (C : CP) {i j : Nat} (hi : i < 256) (hj : j < 16) (hp : C.pres i = true) {s : Int} (hs : s = ((i * 16 + j : Nat) : Int)) (c : Cp) (p : Int) (w : World) (hc : CapAt w bo bc nd C) :
    Calls Tryd.prog 40 #[.pointer (some ⟨bc, 0, none⟩), .int .i64 s, .agg (cpC c).toArray, .int .i64 p] w fun e w' => e = .returned (.tuple #[]) ∧ CapAt w' bo bc nd { C with cel := upd C.cel s.toNat ⟨c, p⟩ } ∧ Fr (capF bo bc nd C) w w' := by
  subst hs
  rw [Int.toNat_natCast]
  refine (insert_ok bo bc nd C i j hi hj hp c p w hc).mono ?_
  rintro e w' ⟨h1, h2, h3⟩
  exact ⟨h1, h2, h3.mono (fun b hb => by simp at hb; subst hb; exact mem_capF.2 (.inr (.inr ⟨i, hi, hp, rfl⟩)))⟩

theorem deriveE (bo bc : Nat) (nd : Nat → Nat) (C : CP) {i j k l : Nat} (hi : i < 256) (hj : j < 16) (hp : C.pres i = true) {s : Int} (hs : s = ((i * 16 + j : Nat) : Int)) (hk : k < 256) (hl : l < 16) (hq : C.pres k = true) {d : Int} (hd : d = ((k * 16 + l : Nat) : Int)) (mask badge : Int) (w : World) (hc : CapAt w bo bc nd C)
    {dc : Nat → Cel} {dk : Int} (e : deriveP C.cel d.toNat s.toNat mask badge = (dc, dk)) :
    Calls Tryd.prog 94 #[.pointer (some ⟨bc, 0, none⟩), .int .i64 d, .int .i64 s, .int .u8 mask, .int .u64 badge] w fun e w' => e = .returned (.int .u8 dk) ∧ CapAt w' bo bc nd { C with cel := dc } ∧ Fr (capF bo bc nd C) w w' := by
  subst hs hd
  rw [Int.toNat_natCast, Int.toNat_natCast] at e
  have h := derive_ok bo bc nd C i j k l hi hj hp hk hl hq mask badge w hc
  rw [e] at h
  exact h

theorem deliver_ok (kb bo bc : Nat) (nd : Nat → Nat) (S : KP) (rS : RI S) (C : CP) (hC : CI C) (f t : Int) (hf : 0 ≤ f ∧ f < 256) (ht : 0 ≤ t ∧ t < 256) (w : World) (hb : w.heap[kb]? = some (Blk.obj ⟨kC bo bc S, 90, false⟩)) (hc : CapAt w bo bc nd C) (hdkb : kb ∉ capF bo bc nd C) :
    Calls Tryd.prog 104 #[.pointer (some ⟨kb, 0, none⟩), .int .i16 f, .int .i16 t] w fun e w' => e = .returned (.tuple #[]) ∧ w'.heap[kb]? = some (Blk.obj ⟨kC bo bc (deliverP S C f t).1, 90, false⟩) ∧ CapAt w' bo bc nd (deliverP S C f t).2 ∧ Fr (kb :: capF bo bc nd C) w w' := by
  refine enter (n := 124) (K := (kb :: capF bo bc nd C)) (A := fun w => CapAt w bo bc nd C) (F := (capF bo bc nd C)) (T := [(0, .pointer (some ⟨kb, 0, none⟩)), (1, .int .i16 f), (2, .int .i16 t)]) (L := [(kb, ⟨kC bo bc S, 90, false⟩)]) (args := [.pointer (some ⟨kb, 0, none⟩), .int .i16 f, .int .i16 t]) Tryd.func104 rfl rfl rfl rfl (kcons hb knil) (by simp) (kcons (fun _ => by simp) knil) hc CapAt.stable hc.low (kcons (fun _ => hdkb) knil) ?_
  intro a h
  refine wp_seq_k fun K1 hK1 => ?_
  refine dr_start (KB := [kb]) (Bi := [[0], [0], [0], [0], [0], [0], [0], [0], [0], [0], [0], [0]]) mixed h fun w2 h3 => ?_
  clear h
  refine dr_batch tabOk tabZ_ok (by repeat (first | with_reducible exact PF.body | with_reducible apply PF.inB | with_reducible apply PF.next)) [(0, {}), (1, {}), (2, {}), (3, {}), (4, {}), (5, {}), (6, {}), (7, {}), (8, {}), (9, {}), (10, {}), (11, {})] [0, 1, 2, 6, 7] (T' := [(0, .pointer (some ⟨kb, 0, none⟩)), (1, .int .i16 f), (2, .int .i16 t), (6, .pointer (some ⟨kb, 2 + (f.toNat * 21), none⟩)), (7, .pointer (some ⟨kb, 2 + (t.toNat * 21), none⟩))]) (φ := (0 ≤ f ∧ f < 256) ∧ (0 ≤ t ∧ t < 256) ∧ True) (fuel := 0) h3 (by kernel_rfl) rfl (by kernel_rfl) (by kernel_rfl) ⟨trivial, trivial, trivial, trivial, trivial, trivial, trivial, trivial, trivial, trivial, trivial, trivial, trivial⟩ ⟨⟨by omega, by omega⟩, ⟨by omega, by omega⟩, trivial⟩ fun a5 h6 => ?_
  clear h3
  refine wpAnyK_done (by kernel_rfl) ?_ _
  refine hK1 _ _ ?_
  clear hK1
  refine wp_seq_k fun K7 hK7 => ?_
  refine dr_start (KB := [kb]) (Bi := [[0], [0], [0], [0], [0], [0], [0], [0], [0], [0], [0], [0], [0], [0], [0], [0], [0], [0], [0], [0], [0], [0], [], [0], [0], [0], [], [0], [0], [0], [], [0], [0], [0], []]) mixed h6 fun w8 h9 => ?_
  clear h6
  refine dr_batch tabOk tabZ_ok (by repeat (first | with_reducible exact PF.body | with_reducible apply PF.inB | with_reducible apply PF.next)) [(0, {}), (1, {}), (2, {}), (3, {}), (4, {}), (5, {}), (6, {}), (7, {}), (8, {k := 0, m := 1, vs := [.int .u64 ((S.tcb f.toNat).m0), .int .u64 ((S.tcb f.toNat).m1), .int .u64 ((S.tcb f.toNat).m2), .int .u64 ((S.tcb f.toNat).m3)], p := 0}), (9, {}), (10, {}), (11, {}), (12, {}), (13, {k := 0, m := 1, vs := [.int .u8 ((S.tcb f.toNat).len)], p := 0}), (14, {}), (15, {}), (16, {}), (17, {}), (18, {k := 0, m := 1, vs := [.int .u64 ((S.tcb f.toNat).badge)], p := 0}), (19, {}), (20, {}), (21, {})] [0, 1, 2, 6, 7, 23, 24, 25, 30, 35, 40, 43] (T' := [(0, .pointer (some ⟨kb, 0, none⟩)), (1, .int .i16 f), (2, .int .i16 t), (6, .pointer (some ⟨kb, 2 + (f.toNat * 21), none⟩)), (7, .pointer (some ⟨kb, 2 + (t.toNat * 21), none⟩)), (23, .pointer (some ⟨kb, 2 + (t.toNat * 21), none⟩)), (24, .pointer (some ⟨kb, 2 + (t.toNat * 21), none⟩)), (25, .pointer (some ⟨kb, 2 + (t.toNat * 21), none⟩)), (30, .agg #[.int .u64 ((S.tcb f.toNat).m0), .int .u64 ((S.tcb f.toNat).m1), .int .u64 ((S.tcb f.toNat).m2), .int .u64 ((S.tcb f.toNat).m3)]), (35, .int .u8 ((S.tcb f.toNat).len)), (40, .int .u64 ((S.tcb f.toNat).badge)), (43, .pointer (some ⟨kb, 2 + (t.toNat * 21) + 9, none⟩))]) (φ := (kb = kb ∧ cellsAre (kC bo bc S) (2 + (f.toNat * 21) + 9) [.int .u64 ((S.tcb f.toNat).m0), .int .u64 ((S.tcb f.toNat).m1), .int .u64 ((S.tcb f.toNat).m2), .int .u64 ((S.tcb f.toNat).m3)]) ∧ (kb = kb ∧ cellsAre (kC bo bc S) (2 + (f.toNat * 21) + 13) [.int .u8 ((S.tcb f.toNat).len)]) ∧ (kb = kb ∧ cellsAre (kC bo bc S) (2 + (f.toNat * 21) + 8) [.int .u64 ((S.tcb f.toNat).badge)]) ∧ True) (fuel := 13) h9 (by kernel_rfl) rfl (by kernel_rfl) (by kernel_rfl) ⟨trivial, trivial, trivial, trivial, trivial, trivial, trivial, trivial, rfl, trivial, trivial, trivial, trivial, rfl, trivial, trivial, trivial, trivial, rfl, trivial, trivial, trivial, trivial⟩ ⟨⟨rfl, (k_tcb (i := f.toNat) (k := 9) (by omega) (by omega) ⟨rfl, rfl, rfl, rfl, trivial⟩)⟩, ⟨rfl, (k_tcb (i := f.toNat) (k := 13) (by omega) (by omega) ⟨rfl, trivial⟩)⟩, ⟨rfl, (k_tcb (i := f.toNat) (k := 8) (by omega) (by omega) ⟨rfl, trivial⟩)⟩, trivial⟩ fun a11 h12 => ?_
  clear h9
  refine wpAnyK_one (i := 22) (fuel := 12) (by kernel_rfl) ?_
  refine op_store tabOk {k := 0, m := 1, vs := kC bo bc (S.setT t.toNat { S.tcb t.toNat with m0 := (S.tcb f.toNat).m0, m1 := (S.tcb f.toNat).m1, m2 := (S.tcb f.toNat).m2, m3 := (S.tcb f.toNat).m3 })} (L' := [(kb, ⟨kC bo bc (S.setT t.toNat { S.tcb t.toNat with m0 := (S.tcb f.toNat).m0, m1 := (S.tcb f.toNat).m1, m2 := (S.tcb f.toNat).m2, m3 := (S.tcb f.toNat).m3 }), 90, false⟩)]) (φ := kb = kb ∧ Nat.ble (2 + (t.toNat * 21) + 9 + 4) (kC bo bc S).length = true ∧ splice (kC bo bc S) (2 + (t.toNat * 21) + 9) [.int .u64 ((S.tcb f.toNat).m0), .int .u64 ((S.tcb f.toNat).m1), .int .u64 ((S.tcb f.toNat).m2), .int .u64 ((S.tcb f.toNat).m3)] = kC bo bc (S.setT t.toNat { S.tcb t.toNat with m0 := (S.tcb f.toNat).m0, m1 := (S.tcb f.toNat).m1, m2 := (S.tcb f.toNat).m2, m3 := (S.tcb f.toNat).m3 })) h12 rfl rfl rfl (by kernel_rfl) ⟨rfl, k_in (by omega), (k_tcb_w (i := t.toNat) (k := 9) (by omega) (Nat.le_of_ble_eq_true rfl) (by omega) rfl)⟩ fun w14 h15 => ?_
  obtain ⟨S13, eS13⟩ : ∃ S9, S9 = (S.setT t.toNat { S.tcb t.toNat with m0 := (S.tcb f.toNat).m0, m1 := (S.tcb f.toNat).m1, m2 := (S.tcb f.toNat).m2, m3 := (S.tcb f.toNat).m3 }) := ⟨_, rfl⟩
  rw [← eS13] at h15
  have rS13 : RI S13 := by rw [eS13]; exact rS.setT ⟨(rS.t (i := t.toNat) (by omega)).nx, (rS.t (i := t.toNat) (by omega)).pv, (rS.t (i := t.toNat) (by omega)).pr, (rS.t (i := t.toNat) (by omega)).wi, (rS.t (i := t.toNat) (by omega)).ci, (rS.t (i := t.toNat) (by omega)).ri, (rS.t (i := t.toNat) (by omega)).ds⟩
  have hkh15 := h12.known
  refine ⟨keepNil, ?_⟩
  clear h12
  refine dr_batch tabOk tabZ_ok (by repeat (first | with_reducible exact PF.body | with_reducible apply PF.inB | with_reducible apply PF.next)) [(23, {}), (24, {}), (25, {})] [0, 1, 2, 6, 7, 24, 25, 35, 40, 46] (T' := [(0, .pointer (some ⟨kb, 0, none⟩)), (1, .int .i16 f), (2, .int .i16 t), (6, .pointer (some ⟨kb, 2 + (f.toNat * 21), none⟩)), (7, .pointer (some ⟨kb, 2 + (t.toNat * 21), none⟩)), (24, .pointer (some ⟨kb, 2 + (t.toNat * 21), none⟩)), (25, .pointer (some ⟨kb, 2 + (t.toNat * 21), none⟩)), (35, .int .u8 ((S.tcb f.toNat).len)), (40, .int .u64 ((S.tcb f.toNat).badge)), (46, .pointer (some ⟨kb, 2 + (t.toNat * 21) + 13, none⟩))]) (φ := True) (fuel := 9) h15 (by kernel_rfl) rfl (by kernel_rfl) (by kernel_rfl) ⟨trivial, trivial, trivial, trivial⟩ trivial fun a16 h17 => ?_
  clear h15
  refine wpAnyK_one (i := 26) (fuel := 8) (by kernel_rfl) ?_
  refine op_store tabOk {k := 0, m := 1, vs := kC bo bc (S13.setT t.toNat { S13.tcb t.toNat with len := (S.tcb f.toNat).len })} (L' := [(kb, ⟨kC bo bc (S13.setT t.toNat { S13.tcb t.toNat with len := (S.tcb f.toNat).len }), 90, false⟩)]) (φ := kb = kb ∧ Nat.ble (2 + (t.toNat * 21) + 13 + 1) (kC bo bc S13).length = true ∧ splice (kC bo bc S13) (2 + (t.toNat * 21) + 13) [.int .u8 ((S.tcb f.toNat).len)] = kC bo bc (S13.setT t.toNat { S13.tcb t.toNat with len := (S.tcb f.toNat).len })) h17 rfl rfl rfl (by kernel_rfl) ⟨rfl, k_in (by omega), (k_tcb_w (i := t.toNat) (k := 13) (by omega) (Nat.le_of_ble_eq_true rfl) (by omega) rfl)⟩ fun w19 h20 => ?_
  obtain ⟨S18, eS18⟩ : ∃ S9, S9 = (S13.setT t.toNat { S13.tcb t.toNat with len := (S.tcb f.toNat).len }) := ⟨_, rfl⟩
  rw [← eS18] at h20
  have rS18 : RI S18 := by rw [eS18]; exact rS13.setT ⟨(rS13.t (i := t.toNat) (by omega)).nx, (rS13.t (i := t.toNat) (by omega)).pv, (rS13.t (i := t.toNat) (by omega)).pr, (rS13.t (i := t.toNat) (by omega)).wi, (rS13.t (i := t.toNat) (by omega)).ci, (rS13.t (i := t.toNat) (by omega)).ri, (rS13.t (i := t.toNat) (by omega)).ds⟩
  have hkh20 := h17.known
  refine ⟨keepNil, ?_⟩
  clear h17
  refine dr_batch tabOk tabZ_ok (by repeat (first | with_reducible exact PF.body | with_reducible apply PF.inB | with_reducible apply PF.next)) [(27, {}), (28, {}), (29, {})] [0, 1, 2, 6, 7, 25, 40, 49] (T' := [(0, .pointer (some ⟨kb, 0, none⟩)), (1, .int .i16 f), (2, .int .i16 t), (6, .pointer (some ⟨kb, 2 + (f.toNat * 21), none⟩)), (7, .pointer (some ⟨kb, 2 + (t.toNat * 21), none⟩)), (25, .pointer (some ⟨kb, 2 + (t.toNat * 21), none⟩)), (40, .int .u64 ((S.tcb f.toNat).badge)), (49, .pointer (some ⟨kb, 2 + (t.toNat * 21) + 8, none⟩))]) (φ := True) (fuel := 5) h20 (by kernel_rfl) rfl (by kernel_rfl) (by kernel_rfl) ⟨trivial, trivial, trivial, trivial⟩ trivial fun a21 h22 => ?_
  clear h20
  refine wpAnyK_one (i := 30) (fuel := 4) (by kernel_rfl) ?_
  refine op_store tabOk {k := 0, m := 1, vs := kC bo bc (S18.setT t.toNat { S18.tcb t.toNat with badge := (S.tcb f.toNat).badge })} (L' := [(kb, ⟨kC bo bc (S18.setT t.toNat { S18.tcb t.toNat with badge := (S.tcb f.toNat).badge }), 90, false⟩)]) (φ := kb = kb ∧ Nat.ble (2 + (t.toNat * 21) + 8 + 1) (kC bo bc S18).length = true ∧ splice (kC bo bc S18) (2 + (t.toNat * 21) + 8) [.int .u64 ((S.tcb f.toNat).badge)] = kC bo bc (S18.setT t.toNat { S18.tcb t.toNat with badge := (S.tcb f.toNat).badge })) h22 rfl rfl rfl (by kernel_rfl) ⟨rfl, k_in (by omega), (k_tcb_w (i := t.toNat) (k := 8) (by omega) (Nat.le_of_ble_eq_true rfl) (by omega) rfl)⟩ fun w24 h25 => ?_
  obtain ⟨S23, eS23⟩ : ∃ S9, S9 = (S18.setT t.toNat { S18.tcb t.toNat with badge := (S.tcb f.toNat).badge }) := ⟨_, rfl⟩
  rw [← eS23] at h25
  have rS23 : RI S23 := by rw [eS23]; exact rS18.setT ⟨(rS18.t (i := t.toNat) (by omega)).nx, (rS18.t (i := t.toNat) (by omega)).pv, (rS18.t (i := t.toNat) (by omega)).pr, (rS18.t (i := t.toNat) (by omega)).wi, (rS18.t (i := t.toNat) (by omega)).ci, (rS18.t (i := t.toNat) (by omega)).ri, (rS18.t (i := t.toNat) (by omega)).ds⟩
  have hkh25 := h22.known
  refine ⟨keepNil, ?_⟩
  clear h22
  refine dr_batch tabOk tabZ_ok (by repeat (first | with_reducible exact PF.body | with_reducible apply PF.inB | with_reducible apply PF.next)) [(31, {}), (32, {}), (33, {})] [0, 1, 2, 6, 7, 52] (T' := [(0, .pointer (some ⟨kb, 0, none⟩)), (1, .int .i16 f), (2, .int .i16 t), (6, .pointer (some ⟨kb, 2 + (f.toNat * 21), none⟩)), (7, .pointer (some ⟨kb, 2 + (t.toNat * 21), none⟩)), (52, .pointer (some ⟨kb, 2 + (t.toNat * 21) + 14, none⟩))]) (φ := True) (fuel := 1) h25 (by kernel_rfl) rfl (by kernel_rfl) (by kernel_rfl) ⟨trivial, trivial, trivial, trivial⟩ trivial fun a26 h27 => ?_
  clear h25
  refine wpAnyK_one (i := 34) (fuel := 0) (by kernel_rfl) ?_
  refine op_store tabOk {k := 0, m := 1, vs := kC bo bc (S23.setT t.toNat { S23.tcb t.toNat with got := 0 })} (L' := [(kb, ⟨kC bo bc (S23.setT t.toNat { S23.tcb t.toNat with got := 0 }), 90, false⟩)]) (φ := kb = kb ∧ Nat.ble (2 + (t.toNat * 21) + 14 + 1) (kC bo bc S23).length = true ∧ splice (kC bo bc S23) (2 + (t.toNat * 21) + 14) [.int .u8 0] = kC bo bc (S23.setT t.toNat { S23.tcb t.toNat with got := 0 })) h27 rfl rfl rfl (by kernel_rfl) ⟨rfl, k_in (by omega), (k_tcb_w (i := t.toNat) (k := 14) (by omega) (Nat.le_of_ble_eq_true rfl) (by omega) rfl)⟩ fun w29 h30 => ?_
  obtain ⟨S28, eS28⟩ : ∃ S9, S9 = (S23.setT t.toNat { S23.tcb t.toNat with got := 0 }) := ⟨_, rfl⟩
  rw [← eS28] at h30
  have rS28 : RI S28 := by rw [eS28]; exact rS23.setT ⟨(rS23.t (i := t.toNat) (by omega)).nx, (rS23.t (i := t.toNat) (by omega)).pv, (rS23.t (i := t.toNat) (by omega)).pr, (rS23.t (i := t.toNat) (by omega)).wi, (rS23.t (i := t.toNat) (by omega)).ci, (rS23.t (i := t.toNat) (by omega)).ri, (rS23.t (i := t.toNat) (by omega)).ds⟩
  have hkh30 := h27.known
  refine ⟨keepNil, ?_⟩
  clear h27
  refine wpAnyK_done (by kernel_rfl) ?_ _
  refine hK7 _ _ ?_
  clear hK7
  refine wp_seq_k fun K31 hK31 => ?_
  refine wp_seq_k fun K32 hK32 => ?_
  rcases Bool.eq_false_or_eq_true ((S28.tcb f.toNat).grant) with hb33 | hb33
  ·
    refine nd_start (l := [0, 1, 2, 3, 4, 5, 6, 7, 8, 9, 10, 11, 12, 13]) rfl ?_
    refine nd_batch tabOk tabZ_ok [(0, {}), (1, {}), (2, {}), (3, {}), (4, {k := 0, m := 1, vs := [.bool true]}), (5, {}), (6, {}), (7, {}), (8, {}), (9, {}), (10, {}), (11, {k := 0, m := 1, vs := [.int .u32 ((S28.tcb f.toNat).xfer)]}), (12, {}), (13, {})] [0, 1, 2, 6, 7, 66] (T' := [(0, .pointer (some ⟨kb, 0, none⟩)), (1, .int .i16 f), (2, .int .i16 t), (6, .pointer (some ⟨kb, 2 + (f.toNat * 21), none⟩)), (7, .pointer (some ⟨kb, 2 + (t.toNat * 21), none⟩)), (66, .bool ((S28.tcb f.toNat).xfer == 0))]) (φ := (kb = kb ∧ cellsAre (kC bo bc S28) (2 + (f.toNat * 21) + 17) [.bool true]) ∧ (kb = kb ∧ cellsAre (kC bo bc S28) (2 + (f.toNat * 21) + 15) [.int .u32 ((S28.tcb f.toNat).xfer)]) ∧ True) (rest := []) h30 (by kernel_rfl) rfl ⟨⟨rfl, (k_tcb (i := f.toNat) (k := 17) (by omega) (by omega) ⟨(by rw [← hb33]; rfl), trivial⟩)⟩, ⟨rfl, (k_tcb (i := f.toNat) (k := 15) (by omega) (by omega) ⟨rfl, trivial⟩)⟩, trivial⟩ fun a34 h35 => ?_
    clear h30
    refine nd_done ?_
    refine hK32 _ _ ?_
    clear hK32
    refine c_split h35 (b := ((S28.tcb f.toNat).xfer == 0)) rfl (fun hc36 => ?_) (fun hc36 => ?_)
    ·
      have hc36f : (S28.tcb f.toNat).xfer = 0 := by simpa using hc36
      refine wp_ret ?_
      try simp only [Exit.then, Exit.inBlock]
      try rw [if_pos trivial]
      exact s_ret tabOk tabZ_ok h35 [] (vs := []) (φ := True) rfl (by kernel_rfl) trivial (by rw [show deliverP S C f t = (S28, C) from (by unfold deliverP deliver0; dsimp only; rw [← eS13]; rw [← eS18]; rw [← eS23]; rw [← eS28]; rw [if_pos (.inr hc36f)])]; exact ⟨rfl, h35.kn (k := 0) rfl, h35.inv, h35.frame⟩)
    ·
      have hc36f : (S28.tcb f.toNat).xfer ≠ 0 := by simpa using hc36
      refine wp_skip ?_
      refine hK31 _ _ ?_
      clear hK31
      refine wp_seq_k fun K37 hK37 => ?_
      refine dr_start (KB := [kb]) (Bi := [[0], [0], [0], [0], [0], [0], [0], [0], [0], [0], [0], [0], [0], [0], [0], [], [0], [0], [0], [0], [0]]) mixed h35 fun w38 h39 => ?_
      clear h35
      refine dr_batch tabOk tabZ_ok (by repeat (first | with_reducible exact PF.body | with_reducible apply PF.inB | with_reducible apply PF.next)) [(0, {}), (1, {}), (2, {}), (3, {k := 0, m := 1, vs := [.pointer (some ⟨bc, 0, none⟩)], p := 0}), (4, {}), (5, {}), (6, {}), (7, {}), (8, {k := 0, m := 1, vs := [.int .u16 ((S28.tcb f.toNat).cs.idx), .int .u32 ((S28.tcb f.toNat).cs.gen)], p := 0}), (9, {}), (10, {}), (11, {}), (12, {}), (13, {k := 0, m := 1, vs := [.int .u32 ((S28.tcb f.toNat).xfer)], p := 0}), (14, {m := 1})] [0, 1, 2, 6, 7, 71, 76, 82] (T' := [(0, .pointer (some ⟨kb, 0, none⟩)), (1, .int .i16 f), (2, .int .i16 t), (6, .pointer (some ⟨kb, 2 + (f.toNat * 21), none⟩)), (7, .pointer (some ⟨kb, 2 + (t.toNat * 21), none⟩)), (71, .pointer (some ⟨bc, 0, none⟩)), (76, .agg #[.int .u16 ((S28.tcb f.toNat).cs.idx), .int .u32 ((S28.tcb f.toNat).cs.gen)]), (82, .int .u32 (IntKind.wrap .u32 (((S28.tcb f.toNat).xfer) - 1)))]) (φ := (kb = kb ∧ cellsAre (kC bo bc S28) 1 [.pointer (some ⟨bc, 0, none⟩)]) ∧ (kb = kb ∧ cellsAre (kC bo bc S28) (2 + (f.toNat * 21) + 4) [.int .u16 ((S28.tcb f.toNat).cs.idx), .int .u32 ((S28.tcb f.toNat).cs.gen)]) ∧ (kb = kb ∧ cellsAre (kC bo bc S28) (2 + (f.toNat * 21) + 15) [.int .u32 ((S28.tcb f.toNat).xfer)]) ∧ True) (fuel := 6) h39 (by kernel_rfl) rfl (by kernel_rfl) (by kernel_rfl) ⟨trivial, trivial, trivial, rfl, trivial, trivial, trivial, trivial, rfl, trivial, trivial, trivial, trivial, rfl, trivial, trivial⟩ ⟨⟨rfl, k_caps⟩, ⟨rfl, (k_tcb (i := f.toNat) (k := 4) (by omega) (by omega) ⟨rfl, rfl, trivial⟩)⟩, ⟨rfl, (k_tcb (i := f.toNat) (k := 15) (by omega) (by omega) ⟨rfl, trivial⟩)⟩, trivial⟩ fun a41 h42 => ?_
      clear h39
      refine wpAnyK_one (i := 15) (fuel := 5) (by kernel_rfl) ?_
      obtain ⟨ls43, lk44, el45⟩ : ∃ s k, lookP C.ent (S28.tcb f.toNat).cs (IntKind.wrap .u32 (((S28.tcb f.toNat).xfer) - 1)) = (s, k) := ⟨_, _, rfl⟩
      have hlr46 := (rS28.t (i := f.toNat) (by omega)).ci
      refine op_call h42 rfl rfl rfl (callOk Tryd.func39 (by decide) rfl) (args := [.pointer (some ⟨bc, 0, none⟩), .agg #[.int .u16 ((S28.tcb f.toNat).cs.idx), .int .u32 ((S28.tcb f.toNat).cs.gen)], .int .u32 (IntKind.wrap .u32 (((S28.tcb f.toNat).xfer) - 1))]) rfl (lookupE (E := C.ent) bo bc nd C.pres (S28.tcb f.toNat).cs (IntKind.wrap .u32 (((S28.tcb f.toNat).xfer) - 1)) ⟨hlr46.1, by omega⟩ (wrap32 _) _ h42.inv.sp h42.inv.st h42.inv.ap.symm el45) ?_
      rintro _ w47 ⟨rfl, hf49⟩
      refine ⟨_, rfl, ?_⟩
      have h48 := (h42.grow hf49).put (d := some 83) (v := .tuple #[.int .i64 ls43, .int .u8 lk44]) (T' := [(83, .tuple #[.int .i64 ls43, .int .u8 lk44]), (0, .pointer (some ⟨kb, 0, none⟩)), (1, .int .i16 f), (2, .int .i16 t), (6, .pointer (some ⟨kb, 2 + (f.toNat * 21), none⟩)), (7, .pointer (some ⟨kb, 2 + (t.toNat * 21), none⟩)), (71, .pointer (some ⟨bc, 0, none⟩)), (76, .agg #[.int .u16 ((S28.tcb f.toNat).cs.idx), .int .u32 ((S28.tcb f.toNat).cs.gen)]), (82, .int .u32 (IntKind.wrap .u32 (((S28.tcb f.toNat).xfer) - 1)))]) rfl
      refine ⟨keepNil, ?_⟩
      clear h42
      refine dr_batch tabOk tabZ_ok (by repeat (first | with_reducible exact PF.body | with_reducible apply PF.inB | with_reducible apply PF.next)) [(16, {}), (17, {}), (18, {}), (19, {}), (20, {})] [0, 1, 2, 6, 7, 8, 9] (T' := [(0, .pointer (some ⟨kb, 0, none⟩)), (1, .int .i16 f), (2, .int .i16 t), (6, .pointer (some ⟨kb, 2 + (f.toNat * 21), none⟩)), (7, .pointer (some ⟨kb, 2 + (t.toNat * 21), none⟩)), (8, .int .i64 ls43), (9, .int .u8 lk44)]) (φ := True) (fuel := 0) h48 (by kernel_rfl) rfl (by kernel_rfl) (by kernel_rfl) ⟨trivial, trivial, trivial, trivial, trivial, trivial⟩ trivial fun a50 h51 => ?_
      clear h48
      refine wpAnyK_done (by kernel_rfl) ?_ _
      refine hK37 _ _ ?_
      clear hK37
      refine wp_seq_k fun K52 hK52 => ?_
      refine dr_start (KB := [kb]) (Bi := [[0], [0], [0], [0], [0], [0], [0], [0], [0], [0], [0], [0], [0], [0], [], [0], [0], [0], [0], [0]]) mixed h51 fun w53 h54 => ?_
      clear h51
      refine dr_batch tabOk tabZ_ok (by repeat (first | with_reducible exact PF.body | with_reducible apply PF.inB | with_reducible apply PF.next)) [(0, {}), (1, {}), (2, {}), (3, {k := 0, m := 1, vs := [.pointer (some ⟨bc, 0, none⟩)], p := 0}), (4, {}), (5, {}), (6, {}), (7, {}), (8, {k := 0, m := 1, vs := [.int .u16 ((S28.tcb t.toNat).cs.idx), .int .u32 ((S28.tcb t.toNat).cs.gen)], p := 0}), (9, {}), (10, {}), (11, {}), (12, {}), (13, {k := 0, m := 1, vs := [.int .u32 ((S28.tcb t.toNat).dst)], p := 0})] [0, 1, 2, 6, 7, 8, 9, 90, 95, 100] (T' := [(0, .pointer (some ⟨kb, 0, none⟩)), (1, .int .i16 f), (2, .int .i16 t), (6, .pointer (some ⟨kb, 2 + (f.toNat * 21), none⟩)), (7, .pointer (some ⟨kb, 2 + (t.toNat * 21), none⟩)), (8, .int .i64 ls43), (9, .int .u8 lk44), (90, .pointer (some ⟨bc, 0, none⟩)), (95, .agg #[.int .u16 ((S28.tcb t.toNat).cs.idx), .int .u32 ((S28.tcb t.toNat).cs.gen)]), (100, .int .u32 ((S28.tcb t.toNat).dst))]) (φ := (kb = kb ∧ cellsAre (kC bo bc S28) 1 [.pointer (some ⟨bc, 0, none⟩)]) ∧ (kb = kb ∧ cellsAre (kC bo bc S28) (2 + (t.toNat * 21) + 4) [.int .u16 ((S28.tcb t.toNat).cs.idx), .int .u32 ((S28.tcb t.toNat).cs.gen)]) ∧ (kb = kb ∧ cellsAre (kC bo bc S28) (2 + (t.toNat * 21) + 16) [.int .u32 ((S28.tcb t.toNat).dst)]) ∧ True) (fuel := 6) h54 (by kernel_rfl) rfl (by kernel_rfl) (by kernel_rfl) ⟨trivial, trivial, trivial, rfl, trivial, trivial, trivial, trivial, rfl, trivial, trivial, trivial, trivial, rfl, trivial⟩ ⟨⟨rfl, k_caps⟩, ⟨rfl, (k_tcb (i := t.toNat) (k := 4) (by omega) (by omega) ⟨rfl, rfl, trivial⟩)⟩, ⟨rfl, (k_tcb (i := t.toNat) (k := 16) (by omega) (by omega) ⟨rfl, trivial⟩)⟩, trivial⟩ fun a56 h57 => ?_
      clear h54
      refine wpAnyK_one (i := 14) (fuel := 5) (by kernel_rfl) ?_
      obtain ⟨ls58, lk59, el60⟩ : ∃ s k, lookP C.ent (S28.tcb t.toNat).cs ((S28.tcb t.toNat).dst) = (s, k) := ⟨_, _, rfl⟩
      have hlr61 := (rS28.t (i := t.toNat) (by omega)).ci
      refine op_call h57 rfl rfl rfl (callOk Tryd.func39 (by decide) rfl) (args := [.pointer (some ⟨bc, 0, none⟩), .agg #[.int .u16 ((S28.tcb t.toNat).cs.idx), .int .u32 ((S28.tcb t.toNat).cs.gen)], .int .u32 ((S28.tcb t.toNat).dst)]) rfl (lookupE (E := C.ent) bo bc nd C.pres (S28.tcb t.toNat).cs ((S28.tcb t.toNat).dst) ⟨hlr61.1, by omega⟩ (rS28.t (i := t.toNat) (by omega)).ds _ h57.inv.sp h57.inv.st h57.inv.ap.symm el60) ?_
      rintro _ w62 ⟨rfl, hf64⟩
      refine ⟨_, rfl, ?_⟩
      have h63 := (h57.grow hf64).put (d := some 101) (v := .tuple #[.int .i64 ls58, .int .u8 lk59]) (T' := [(101, .tuple #[.int .i64 ls58, .int .u8 lk59]), (0, .pointer (some ⟨kb, 0, none⟩)), (1, .int .i16 f), (2, .int .i16 t), (6, .pointer (some ⟨kb, 2 + (f.toNat * 21), none⟩)), (7, .pointer (some ⟨kb, 2 + (t.toNat * 21), none⟩)), (8, .int .i64 ls43), (9, .int .u8 lk44), (90, .pointer (some ⟨bc, 0, none⟩)), (95, .agg #[.int .u16 ((S28.tcb t.toNat).cs.idx), .int .u32 ((S28.tcb t.toNat).cs.gen)]), (100, .int .u32 ((S28.tcb t.toNat).dst))]) rfl
      refine ⟨keepNil, ?_⟩
      clear h57
      refine dr_batch tabOk tabZ_ok (by repeat (first | with_reducible exact PF.body | with_reducible apply PF.inB | with_reducible apply PF.next)) [(15, {}), (16, {}), (17, {}), (18, {}), (19, {})] [0, 1, 2, 6, 7, 8, 9, 10, 11] (T' := [(0, .pointer (some ⟨kb, 0, none⟩)), (1, .int .i16 f), (2, .int .i16 t), (6, .pointer (some ⟨kb, 2 + (f.toNat * 21), none⟩)), (7, .pointer (some ⟨kb, 2 + (t.toNat * 21), none⟩)), (8, .int .i64 ls43), (9, .int .u8 lk44), (10, .int .i64 ls58), (11, .int .u8 lk59)]) (φ := True) (fuel := 0) h63 (by kernel_rfl) rfl (by kernel_rfl) (by kernel_rfl) ⟨trivial, trivial, trivial, trivial, trivial, trivial⟩ trivial fun a65 h66 => ?_
      clear h63
      refine wpAnyK_done (by kernel_rfl) ?_ _
      refine hK52 _ _ ?_
      clear hK52
      refine wp_seq_k fun K67 hK67 => ?_
      rcases Bool.eq_false_or_eq_true ((lk44 == 0)) with hb68 | hb68
      ·
        have hb68f : lk44 = 0 := by simpa using hb68
        rcases Bool.eq_false_or_eq_true ((lk59 == 0)) with hb69 | hb69
        ·
          have hb69f : lk59 = 0 := by simpa using hb69
          refine nd_start (l := [0, 1, 2, 3, 4, 5, 6, 7, 8, 9, 10, 11, 12, 13, 14, 15]) rfl ?_
          refine nd_batch tabOk tabZ_ok [(0, {}), (1, {f := 2}), (2, {}), (3, {}), (4, {f := 2}), (5, {}), (6, {}), (7, {}), (8, {}), (9, {}), (10, {k := 0, m := 1, vs := [.pointer (some ⟨bc, 0, none⟩)]}), (11, {}), (12, {})] [0, 1, 2, 6, 7, 8, 9, 10, 11, 110, 114, 115, 116] (T' := [(0, .pointer (some ⟨kb, 0, none⟩)), (1, .int .i16 f), (2, .int .i16 t), (6, .pointer (some ⟨kb, 2 + (f.toNat * 21), none⟩)), (7, .pointer (some ⟨kb, 2 + (t.toNat * 21), none⟩)), (8, .int .i64 ls43), (9, .int .u8 lk44), (10, .int .i64 ls58), (11, .int .u8 lk59), (110, .bool true), (114, .pointer (some ⟨bc, 0, none⟩)), (115, .int .i64 ls58), (116, .int .i64 ls43)]) (φ := ((lk44 == 0)) = true ∧ ((lk59 == 0)) = true ∧ (kb = kb ∧ cellsAre (kC bo bc S28) 1 [.pointer (some ⟨bc, 0, none⟩)]) ∧ True) (rest := [13, 14, 15]) h66 (by kernel_rfl) rfl ⟨hb68, hb69, ⟨rfl, k_caps⟩, trivial⟩ fun a70 h71 => ?_
          clear h66
          refine nd_op ?_
          obtain ⟨li72, lj72, hli72, hlj72, hlp72, hls72⟩ := look_fact hC hlr46.1 (wrap32 _).1 el45 hb68f
          obtain ⟨li73, lj73, hli73, hlj73, hlp73, hls73⟩ := look_fact hC hlr61.1 (rS28.t (i := t.toNat) (by omega)).ds.1 el60 hb69f
          obtain ⟨dc74, dk75, ed76⟩ : ∃ c k, deriveP C.cel ls58.toNat ls43.toNat 7 0 = (c, k) := ⟨_, _, rfl⟩
          refine op_call h71 rfl rfl rfl (callOk Tryd.func94 (by decide) rfl) (args := [.pointer (some ⟨bc, 0, none⟩), .int .i64 ls58, .int .i64 ls43, .int .u8 7, .int .u64 0]) rfl (deriveE bo bc nd C hli72 hlj72 hlp72 hls72 hli73 hlj73 hlp73 hls73 7 0 _ h71.inv ed76) ?_
          rintro _ w78 ⟨rfl, hcr80, hf79⟩
          refine ⟨_, rfl, ?_⟩
          obtain ⟨C77, eC77⟩ : ∃ C9, C9 = ({ C with cel := dc74 } : CP) := ⟨_, rfl⟩
          rw [← eC77] at hcr80
          have pC77 : capF bo bc nd C77 = capF bo bc nd C := by rw [eC77]; rfl
          have h81 := (h71.callF hf79 (fun _ hb => hb) (fun b hb => .inl (List.mem_cons_of_mem _ hb)) (A' := fun w => CapAt w bo bc nd C77) (F' := capF bo bc nd C77) (kcons (by intro hq; cases hq) knil) hcr80 CapAt.stable hcr80.low (fun b hb => .inl (by rw [pC77] at hb; exact hb))).put (d := some 117) (v := .int .u8 dk75) (T' := [(117, .int .u8 dk75), (0, .pointer (some ⟨kb, 0, none⟩)), (1, .int .i16 f), (2, .int .i16 t), (6, .pointer (some ⟨kb, 2 + (f.toNat * 21), none⟩)), (7, .pointer (some ⟨kb, 2 + (t.toNat * 21), none⟩)), (8, .int .i64 ls43), (9, .int .u8 lk44), (10, .int .i64 ls58), (11, .int .u8 lk59), (110, .bool true), (114, .pointer (some ⟨bc, 0, none⟩)), (115, .int .i64 ls58), (116, .int .i64 ls43)]) rfl
          clear h71
          refine nd_batch tabOk tabZ_ok [(14, {}), (15, {})] [0, 1, 2, 6, 7, 8, 9, 10, 11, 119] (T' := [(0, .pointer (some ⟨kb, 0, none⟩)), (1, .int .i16 f), (2, .int .i16 t), (6, .pointer (some ⟨kb, 2 + (f.toNat * 21), none⟩)), (7, .pointer (some ⟨kb, 2 + (t.toNat * 21), none⟩)), (8, .int .i64 ls43), (9, .int .u8 lk44), (10, .int .i64 ls58), (11, .int .u8 lk59), (119, .bool (dk75 == 0))]) (φ := True) (rest := []) h81 (by kernel_rfl) rfl trivial fun a82 h83 => ?_
          clear h81
          refine nd_done ?_
          refine hK67 _ _ ?_
          clear hK67
          refine c_split h83 (b := (dk75 == 0)) rfl (fun hc84 => ?_) (fun hc84 => ?_)
          ·
            have hc84f : dk75 = 0 := by simpa using hc84
            refine nd_start (l := [0, 1, 2, 3, 4]) rfl ?_
            refine nd_batch tabOk tabZ_ok [(0, {}), (1, {}), (2, {}), (3, {})] [0, 1, 2, 6, 7, 8, 9, 10, 11, 123] (T' := [(0, .pointer (some ⟨kb, 0, none⟩)), (1, .int .i16 f), (2, .int .i16 t), (6, .pointer (some ⟨kb, 2 + (f.toNat * 21), none⟩)), (7, .pointer (some ⟨kb, 2 + (t.toNat * 21), none⟩)), (8, .int .i64 ls43), (9, .int .u8 lk44), (10, .int .i64 ls58), (11, .int .u8 lk59), (123, .pointer (some ⟨kb, 2 + (t.toNat * 21) + 14, none⟩))]) (φ := True) (rest := [4]) h83 (by kernel_rfl) rfl trivial fun a85 h86 => ?_
            clear h83
            refine nd_op ?_
            refine op_store tabOk {k := 0, m := 1, vs := kC bo bc (S28.setT t.toNat { S28.tcb t.toNat with got := 1 })} (L' := [(kb, ⟨kC bo bc (S28.setT t.toNat { S28.tcb t.toNat with got := 1 }), 90, false⟩)]) (φ := kb = kb ∧ Nat.ble (2 + (t.toNat * 21) + 14 + 1) (kC bo bc S28).length = true ∧ splice (kC bo bc S28) (2 + (t.toNat * 21) + 14) [.int .u8 1] = kC bo bc (S28.setT t.toNat { S28.tcb t.toNat with got := 1 })) h86 rfl rfl rfl (by kernel_rfl) ⟨rfl, k_in (by omega), (k_tcb_w (i := t.toNat) (k := 14) (by omega) (Nat.le_of_ble_eq_true rfl) (by omega) rfl)⟩ fun w88 h89 => ?_
            obtain ⟨S87, eS87⟩ : ∃ S9, S9 = (S28.setT t.toNat { S28.tcb t.toNat with got := 1 }) := ⟨_, rfl⟩
            rw [← eS87] at h89
            have rS87 : RI S87 := by rw [eS87]; exact rS28.setT ⟨(rS28.t (i := t.toNat) (by omega)).nx, (rS28.t (i := t.toNat) (by omega)).pv, (rS28.t (i := t.toNat) (by omega)).pr, (rS28.t (i := t.toNat) (by omega)).wi, (rS28.t (i := t.toNat) (by omega)).ci, (rS28.t (i := t.toNat) (by omega)).ri, (rS28.t (i := t.toNat) (by omega)).ds⟩
            clear h86
            refine nd_done ?_
            try simp only [Exit.then, Exit.inBlock]
            try rw [if_pos trivial]
            exact s_end tabOk tabZ_ok h89 [] (vs := []) (φ := True) rfl (by kernel_rfl) trivial (by rw [show deliverP S C f t = (S87, C77) from (by unfold deliverP deliver0; dsimp only; rw [← eS13]; rw [← eS18]; rw [← eS23]; rw [← eS28]; rw [if_neg (fun hz => hz.elim (fun h => by rw [h] at hb33; exact absurd hb33 (by decide)) hc36f)]; rw [el45]; dsimp only; rw [el60]; dsimp only; rw [if_pos ⟨hb68f, hb69f⟩]; rw [ed76]; dsimp only; (first | rw [if_pos hc84f] | rw [if_pos (fun hz => hz hc84f)]); rw [← eC77]; rw [← eS87])]; exact ⟨rfl, h89.kn (k := 0) rfl, h89.inv, h89.frame⟩)
          ·
            have hc84f : dk75 ≠ 0 := by simpa using hc84
            refine wp_skip ?_
            try simp only [Exit.then, Exit.inBlock]
            try rw [if_pos trivial]
            exact s_end tabOk tabZ_ok h83 [] (vs := []) (φ := True) rfl (by kernel_rfl) trivial (by rw [show deliverP S C f t = (S28, C77) from (by unfold deliverP deliver0; dsimp only; rw [← eS13]; rw [← eS18]; rw [← eS23]; rw [← eS28]; rw [if_neg (fun hz => hz.elim (fun h => by rw [h] at hb33; exact absurd hb33 (by decide)) hc36f)]; rw [el45]; dsimp only; rw [el60]; dsimp only; rw [if_pos ⟨hb68f, hb69f⟩]; rw [ed76]; dsimp only; (first | rw [if_neg hc84f] | rw [if_neg (fun hz => hz hc84f)]); rw [← eC77])]; exact ⟨rfl, h83.kn (k := 0) rfl, h83.inv, h83.frame⟩)
        ·
          have hb69f : lk59 ≠ 0 := by simpa using hb69
          refine nd_start (l := [0, 1, 2, 3, 4, 5, 6, 7, 8, 9, 10, 11, 12, 13, 14, 15]) rfl ?_
          refine nd_batch tabOk tabZ_ok [(0, {}), (1, {f := 2}), (2, {}), (3, {}), (4, {f := 1}), (5, {}), (6, {}), (7, {}), (8, {}), (9, {}), (10, {}), (11, {}), (12, {})] [0, 1, 2, 6, 7, 8, 9, 10, 11, 110, 114, 115, 116] (T' := [(0, .pointer (some ⟨kb, 0, none⟩)), (1, .int .i16 f), (2, .int .i16 t), (6, .pointer (some ⟨kb, 2 + (f.toNat * 21), none⟩)), (7, .pointer (some ⟨kb, 2 + (t.toNat * 21), none⟩)), (8, .int .i64 ls43), (9, .int .u8 lk44), (10, .int .i64 ls58), (11, .int .u8 lk59), (110, .bool false), (114, .tuple #[]), (115, .tuple #[]), (116, .tuple #[])]) (φ := ((lk44 == 0)) = true ∧ ((lk59 == 0)) = false ∧ True) (rest := [13, 14, 15]) h66 (by kernel_rfl) rfl ⟨hb68, hb69, trivial⟩ fun a90 h91 => ?_
          clear h66
          refine nd_batch tabOk tabZ_ok [(13, {})] [0, 1, 2, 6, 7, 8, 9, 10, 11, 110, 117] (T' := [(0, .pointer (some ⟨kb, 0, none⟩)), (1, .int .i16 f), (2, .int .i16 t), (6, .pointer (some ⟨kb, 2 + (f.toNat * 21), none⟩)), (7, .pointer (some ⟨kb, 2 + (t.toNat * 21), none⟩)), (8, .int .i64 ls43), (9, .int .u8 lk44), (10, .int .i64 ls58), (11, .int .u8 lk59), (110, .bool false), (117, .tuple #[])]) (φ := True) (rest := [14, 15]) h91 (by kernel_rfl) rfl trivial fun a92 h93 => ?_
          clear h91
          refine nd_batch tabOk tabZ_ok [(14, {}), (15, {})] [0, 1, 2, 6, 7, 8, 9, 10, 11, 119] (T' := [(0, .pointer (some ⟨kb, 0, none⟩)), (1, .int .i16 f), (2, .int .i16 t), (6, .pointer (some ⟨kb, 2 + (f.toNat * 21), none⟩)), (7, .pointer (some ⟨kb, 2 + (t.toNat * 21), none⟩)), (8, .int .i64 ls43), (9, .int .u8 lk44), (10, .int .i64 ls58), (11, .int .u8 lk59), (119, .bool false)]) (φ := True) (rest := []) h93 (by kernel_rfl) rfl trivial fun a94 h95 => ?_
          clear h93
          refine nd_done ?_
          refine hK67 _ _ ?_
          clear hK67
          refine c_false h95 rfl ?_
          refine wp_skip ?_
          try simp only [Exit.then, Exit.inBlock]
          try rw [if_pos trivial]
          exact s_end tabOk tabZ_ok h95 [] (vs := []) (φ := True) rfl (by kernel_rfl) trivial (by rw [show deliverP S C f t = (S28, C) from (by unfold deliverP deliver0; dsimp only; rw [← eS13]; rw [← eS18]; rw [← eS23]; rw [← eS28]; rw [if_neg (fun hz => hz.elim (fun h => by rw [h] at hb33; exact absurd hb33 (by decide)) hc36f)]; rw [el45]; dsimp only; rw [el60]; dsimp only; rw [if_neg (fun hz => hb69f hz.2)])]; exact ⟨rfl, h95.kn (k := 0) rfl, h95.inv, h95.frame⟩)
      ·
        have hb68f : lk44 ≠ 0 := by simpa using hb68
        refine nd_start (l := [0, 1, 2, 3, 4, 5, 6, 7, 8, 9, 10, 11, 12, 13, 14, 15]) rfl ?_
        refine nd_batch tabOk tabZ_ok [(0, {}), (1, {f := 1}), (2, {}), (3, {}), (4, {}), (5, {}), (6, {}), (7, {}), (8, {}), (9, {}), (10, {}), (11, {}), (12, {})] [0, 1, 2, 6, 7, 8, 9, 10, 11, 110, 114, 115, 116] (T' := [(0, .pointer (some ⟨kb, 0, none⟩)), (1, .int .i16 f), (2, .int .i16 t), (6, .pointer (some ⟨kb, 2 + (f.toNat * 21), none⟩)), (7, .pointer (some ⟨kb, 2 + (t.toNat * 21), none⟩)), (8, .int .i64 ls43), (9, .int .u8 lk44), (10, .int .i64 ls58), (11, .int .u8 lk59), (110, .bool false), (114, .tuple #[]), (115, .tuple #[]), (116, .tuple #[])]) (φ := ((lk44 == 0)) = false ∧ True) (rest := [13, 14, 15]) h66 (by kernel_rfl) rfl ⟨hb68, trivial⟩ fun a96 h97 => ?_
        clear h66
        refine nd_batch tabOk tabZ_ok [(13, {})] [0, 1, 2, 6, 7, 8, 9, 10, 11, 110, 117] (T' := [(0, .pointer (some ⟨kb, 0, none⟩)), (1, .int .i16 f), (2, .int .i16 t), (6, .pointer (some ⟨kb, 2 + (f.toNat * 21), none⟩)), (7, .pointer (some ⟨kb, 2 + (t.toNat * 21), none⟩)), (8, .int .i64 ls43), (9, .int .u8 lk44), (10, .int .i64 ls58), (11, .int .u8 lk59), (110, .bool false), (117, .tuple #[])]) (φ := True) (rest := [14, 15]) h97 (by kernel_rfl) rfl trivial fun a98 h99 => ?_
        clear h97
        refine nd_batch tabOk tabZ_ok [(14, {}), (15, {})] [0, 1, 2, 6, 7, 8, 9, 10, 11, 119] (T' := [(0, .pointer (some ⟨kb, 0, none⟩)), (1, .int .i16 f), (2, .int .i16 t), (6, .pointer (some ⟨kb, 2 + (f.toNat * 21), none⟩)), (7, .pointer (some ⟨kb, 2 + (t.toNat * 21), none⟩)), (8, .int .i64 ls43), (9, .int .u8 lk44), (10, .int .i64 ls58), (11, .int .u8 lk59), (119, .bool false)]) (φ := True) (rest := []) h99 (by kernel_rfl) rfl trivial fun a100 h101 => ?_
        clear h99
        refine nd_done ?_
        refine hK67 _ _ ?_
        clear hK67
        refine c_false h101 rfl ?_
        refine wp_skip ?_
        try simp only [Exit.then, Exit.inBlock]
        try rw [if_pos trivial]
        exact s_end tabOk tabZ_ok h101 [] (vs := []) (φ := True) rfl (by kernel_rfl) trivial (by rw [show deliverP S C f t = (S28, C) from (by unfold deliverP deliver0; dsimp only; rw [← eS13]; rw [← eS18]; rw [← eS23]; rw [← eS28]; rw [if_neg (fun hz => hz.elim (fun h => by rw [h] at hb33; exact absurd hb33 (by decide)) hc36f)]; rw [el45]; dsimp only; rw [el60]; dsimp only; rw [if_neg (fun hz => hb68f hz.1)])]; exact ⟨rfl, h101.kn (k := 0) rfl, h101.inv, h101.frame⟩)
  ·
    refine nd_start (l := [0, 1, 2, 3, 4, 5, 6, 7, 8, 9, 10, 11, 12, 13]) rfl ?_
    refine nd_batch tabOk tabZ_ok [(0, {}), (1, {}), (2, {}), (3, {}), (4, {k := 0, m := 1, vs := [.bool false]}), (5, {}), (6, {}), (7, {}), (8, {}), (9, {}), (10, {}), (11, {}), (12, {}), (13, {})] [0, 1, 2, 6, 7, 66] (T' := [(0, .pointer (some ⟨kb, 0, none⟩)), (1, .int .i16 f), (2, .int .i16 t), (6, .pointer (some ⟨kb, 2 + (f.toNat * 21), none⟩)), (7, .pointer (some ⟨kb, 2 + (t.toNat * 21), none⟩)), (66, .bool true)]) (φ := (kb = kb ∧ cellsAre (kC bo bc S28) (2 + (f.toNat * 21) + 17) [.bool false]) ∧ True) (rest := []) h30 (by kernel_rfl) rfl ⟨⟨rfl, (k_tcb (i := f.toNat) (k := 17) (by omega) (by omega) ⟨(by rw [← hb33]; rfl), trivial⟩)⟩, trivial⟩ fun a102 h103 => ?_
    clear h30
    refine nd_done ?_
    refine hK32 _ _ ?_
    clear hK32
    refine c_true h103 rfl ?_
    refine wp_ret ?_
    try simp only [Exit.then, Exit.inBlock]
    try rw [if_pos trivial]
    exact s_ret tabOk tabZ_ok h103 [] (vs := []) (φ := True) rfl (by kernel_rfl) trivial (by rw [show deliverP S C f t = (S28, C) from (by unfold deliverP deliver0; dsimp only; rw [← eS13]; rw [← eS18]; rw [← eS23]; rw [← eS28]; rw [if_pos (.inl hb33)])]; exact ⟨rfl, h103.kn (k := 0) rfl, h103.inv, h103.frame⟩)

end Go.Proofs.Qxb6500918aDoor
