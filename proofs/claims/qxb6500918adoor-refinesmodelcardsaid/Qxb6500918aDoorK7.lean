/-
  find. (Made by program: a symbolic walk that prints its steps.)
-/
import Derived.Test.Qxb6500918aDoorK6
import Derived.Test.Qxb6500918aDoorKi
namespace Go.Proofs.Qxb6500918aDoor
open Go.Sx Go.Kn
set_option maxRecDepth 100000
set_option maxHeartbeats 4000000
set_option linter.unusedVariables false
set_option linter.unusedSimpArgs false

theorem lookupE (bo bc : Nat) (nd : Nat → Nat) (pr : Nat → Bool) {E : Nat → Ent} (r : Rf) (ad : Int) (hr : 0 ≤ r.idx ∧ r.idx < 65536) (ha : 0 ≤ ad ∧ ad < 4294967296) (w : World) (hb : w.heap[bc]? = some (Blk.obj ⟨spC bo nd pr, 142, false⟩)) (hs : w.heap[bo]? = some (Blk.obj ⟨stC E, 131, false⟩)) (hne : bc ≠ bo) {s k : Int} (e : lookP E r ad = (s, k)) :
    Calls Tryd.prog 39 #[.pointer (some ⟨bc, 0, none⟩), .agg #[.int .u16 r.idx, .int .u32 r.gen], .int .u32 ad] w fun e w' => e = .returned (.tuple #[.int .i64 s, .int .u8 k]) ∧ Fr [] w w' := by
  have h := lookup_ok bo bc nd pr E r ad hr ha w hb hs hne
  rw [e] at h
  exact h

theorem find_bad (kb bo bc : Nat) (nd : Nat → Nat) (S : KP) (rS : RI S) (C : CP) (ad want need : Int) (hcur : 0 ≤ S.cur ∧ S.cur < 256) (had : 0 ≤ ad ∧ ad < 4294967296) (el : lookP C.ent (S.tcb S.cur.toNat).cs ad = (-1, 2)) (w : World) (hb : w.heap[kb]? = some (Blk.obj ⟨kC bo bc S, 90, false⟩)) (hc : CapAt w bo bc nd C) (hdkb : kb ∉ capF bo bc nd C) :
    Calls Tryd.prog 79 #[.pointer (some ⟨kb, 0, none⟩), .int .u32 ad, .int .u8 want, .int .u8 need] w fun e w' => e = .returned (.tuple #[.agg (cpC (findP S C ad want need).1).toArray, .int .i64 (findP S C ad want need).2.1, .int .u8 (findP S C ad want need).2.2]) ∧ Fr [] w w' := by
  have hci := (rS.t (i := S.cur.toNat) (by omega)).ci
  refine enter (n := 68) (K := []) (A := fun w => CapAt w bo bc nd C) (F := (capF bo bc nd C)) (T := [(0, .pointer (some ⟨kb, 0, none⟩)), (1, .int .u32 ad), (2, .int .u8 want), (3, .int .u8 need)]) (L := [(kb, ⟨kC bo bc S, 90, true⟩)]) (args := [.pointer (some ⟨kb, 0, none⟩), .int .u32 ad, .int .u8 want, .int .u8 need]) Tryd.func79 rfl rfl rfl rfl (kcons hb knil) (by simp) (kcons (by intro hq; cases hq) knil) hc CapAt.stable hc.low (kcons (by intro hq; cases hq) knil) ?_
  intro a h
  refine wp_seq_k fun K1 hK1 => ?_
  refine nd_start (l := [0, 1, 2]) rfl ?_
  refine nd_op ?_
  refine op_new tabOk (cells := [.int .u8 0, .int .u16 0, .int .u32 0, .int .u8 0, .int .u64 0]) (ty := 49) (ln := none) (L1 := fun b2 => [(kb, ⟨kC bo bc S, 90, true⟩), (b2, ⟨[.int .u8 0, .int .u16 0, .int .u32 0, .int .u8 0, .int .u64 0], 49, false⟩)]) h rfl rfl rfl rfl (by kernel_rfl) (fun _ => rfl) fun b2 w3 a4 h5 hf6 hn7 => ?_
  clear h
  refine nd_batch tabOk tabZ_ok [(1, {}), (2, {})] [8, 0, 1, 2, 3, 9, 10] (T' := [(8, .pointer (some ⟨b2, 0, none⟩)), (0, .pointer (some ⟨kb, 0, none⟩)), (1, .int .u32 ad), (2, .int .u8 want), (3, .int .u8 need), (9, .int .i64 0), (10, .int .u8 0)]) (φ := True) (rest := []) h5 (by kernel_rfl) rfl trivial fun a8 h9 => ?_
  clear h5
  refine nd_done ?_
  refine hK1 _ _ ?_
  clear hK1
  refine wp_seq_k fun K10 hK10 => ?_
  refine dr_start (KB := [kb, b2]) (Bi := [[0, 1], [0, 1], [0, 1], [0, 1], [0, 1], [0, 1], [0, 1], [0, 1], [0, 1], [0, 1], [0, 1], [0, 1], [0, 1], [0, 1], [0, 1], [0, 1], [], [0, 1], [0, 1], [0, 1], [0, 1], [0, 1]]) mixed h9 fun w11 h12 => ?_
  clear h9
  refine dr_batch tabOk tabZ_ok (by repeat (first | with_reducible exact PF.body | with_reducible apply PF.inB | with_reducible apply PF.next)) [(0, {}), (1, {}), (2, {}), (3, {k := 0, m := 1, vs := [.pointer (some ⟨bc, 0, none⟩)], p := 0}), (4, {}), (5, {}), (6, {}), (7, {}), (8, {k := 0, m := 1, vs := [.int .i16 S.cur], p := 0}), (9, {}), (10, {}), (11, {}), (12, {}), (13, {}), (14, {k := 0, m := 1, vs := [.int .u16 ((S.tcb S.cur.toNat).cs.idx), .int .u32 ((S.tcb S.cur.toNat).cs.gen)], p := 0}), (15, {})] [8, 0, 1, 2, 3, 9, 10, 18, 29, 30] (T' := [(8, .pointer (some ⟨b2, 0, none⟩)), (0, .pointer (some ⟨kb, 0, none⟩)), (1, .int .u32 ad), (2, .int .u8 want), (3, .int .u8 need), (9, .int .i64 0), (10, .int .u8 0), (18, .pointer (some ⟨bc, 0, none⟩)), (29, .agg #[.int .u16 ((S.tcb S.cur.toNat).cs.idx), .int .u32 ((S.tcb S.cur.toNat).cs.gen)]), (30, .int .u32 ad)]) (φ := (kb = kb ∧ cellsAre (kC bo bc S) 1 [.pointer (some ⟨bc, 0, none⟩)]) ∧ (kb = kb ∧ cellsAre (kC bo bc S) 6427 [.int .i16 S.cur]) ∧ (0 ≤ S.cur ∧ S.cur < 256) ∧ (kb = kb ∧ cellsAre (kC bo bc S) (2 + (S.cur.toNat * 21) + 4) [.int .u16 ((S.tcb S.cur.toNat).cs.idx), .int .u32 ((S.tcb S.cur.toNat).cs.gen)]) ∧ True) (fuel := 6) h12 (by kernel_rfl) rfl (by kernel_rfl) (by kernel_rfl) ⟨trivial, trivial, trivial, rfl, trivial, trivial, trivial, trivial, rfl, trivial, trivial, trivial, trivial, trivial, rfl, trivial, trivial⟩ ⟨⟨rfl, k_caps⟩, ⟨rfl, k_cur⟩, ⟨by omega, by omega⟩, ⟨rfl, (k_tcb (i := S.cur.toNat) (k := 4) (by omega) (by omega) ⟨rfl, rfl, trivial⟩)⟩, trivial⟩ fun a14 h15 => ?_
  clear h12
  refine wpAnyK_one (i := 16) (fuel := 5) (by kernel_rfl) ?_
  refine op_call h15 rfl rfl rfl (callOk Tryd.func39 (by decide) rfl) (args := [.pointer (some ⟨bc, 0, none⟩), .agg #[.int .u16 ((S.tcb S.cur.toNat).cs.idx), .int .u32 ((S.tcb S.cur.toNat).cs.gen)], .int .u32 ad]) rfl (lookupE (E := C.ent) bo bc nd C.pres (S.tcb S.cur.toNat).cs ad ⟨by omega, by omega⟩ ⟨by omega, by omega⟩ _ h15.inv.sp h15.inv.st h15.inv.ap.symm el) ?_
  rintro _ w16 ⟨rfl, hf18⟩
  refine ⟨_, rfl, ?_⟩
  have h17 := (h15.grow hf18).put (d := some 31) (v := .tuple #[.int .i64 (-1), .int .u8 2]) (T' := [(31, .tuple #[.int .i64 (-1), .int .u8 2]), (8, .pointer (some ⟨b2, 0, none⟩)), (0, .pointer (some ⟨kb, 0, none⟩)), (1, .int .u32 ad), (2, .int .u8 want), (3, .int .u8 need), (9, .int .i64 0), (10, .int .u8 0), (18, .pointer (some ⟨bc, 0, none⟩)), (29, .agg #[.int .u16 ((S.tcb S.cur.toNat).cs.idx), .int .u32 ((S.tcb S.cur.toNat).cs.gen)]), (30, .int .u32 ad)]) rfl
  refine ⟨keepNil, ?_⟩
  clear h15
  refine dr_batch tabOk tabZ_ok (by repeat (first | with_reducible exact PF.body | with_reducible apply PF.inB | with_reducible apply PF.next)) [(17, {}), (18, {}), (19, {}), (20, {}), (21, {})] [8, 0, 1, 2, 3, 9, 10, 11, 12] (T' := [(8, .pointer (some ⟨b2, 0, none⟩)), (0, .pointer (some ⟨kb, 0, none⟩)), (1, .int .u32 ad), (2, .int .u8 want), (3, .int .u8 need), (9, .int .i64 0), (10, .int .u8 0), (11, .int .i64 (-1)), (12, .int .u8 2)]) (φ := True) (fuel := 0) h17 (by kernel_rfl) rfl (by kernel_rfl) (by kernel_rfl) ⟨trivial, trivial, trivial, trivial, trivial, trivial⟩ trivial fun a19 h20 => ?_
  clear h17
  refine wpAnyK_done (by kernel_rfl) ?_ _
  refine hK10 _ _ ?_
  clear hK10
  refine wp_seq_k fun K21 hK21 => ?_
  refine wp_seq_k fun K22 hK22 => ?_
  refine nd_start (l := [0, 1]) rfl ?_
  refine nd_batch tabOk tabZ_ok [(0, {}), (1, {})] [8, 0, 1, 2, 3, 9, 10, 11, 12, 35] (T' := [(8, .pointer (some ⟨b2, 0, none⟩)), (0, .pointer (some ⟨kb, 0, none⟩)), (1, .int .u32 ad), (2, .int .u8 want), (3, .int .u8 need), (9, .int .i64 0), (10, .int .u8 0), (11, .int .i64 (-1)), (12, .int .u8 2), (35, .bool true)]) (φ := True) (rest := []) h20 (by kernel_rfl) rfl trivial fun a23 h24 => ?_
  clear h20
  refine nd_done ?_
  refine hK22 _ _ ?_
  clear hK22
  refine c_true h24 rfl ?_
  refine wp_seq_k fun K25 hK25 => ?_
  refine nd_start (l := [0, 1, 2, 3, 4]) rfl ?_
  refine nd_batch tabOk tabZ_ok [(0, {}), (1, {})] [8, 0, 1, 2, 3, 9, 10, 11, 12, 36, 37] (T' := [(8, .pointer (some ⟨b2, 0, none⟩)), (0, .pointer (some ⟨kb, 0, none⟩)), (1, .int .u32 ad), (2, .int .u8 want), (3, .int .u8 need), (9, .int .i64 0), (10, .int .u8 0), (11, .int .i64 (-1)), (12, .int .u8 2), (36, .agg #[.int .u8 0, .int .u16 0, .int .u32 0, .int .u8 0, .int .u64 0]), (37, .int .u8 2)]) (φ := True) (rest := [2, 3, 4]) h24 (by kernel_rfl) rfl trivial fun a26 h27 => ?_
  clear h24
  refine nd_op ?_
  refine op_store tabOk {k := 1} (L' := [(kb, ⟨kC bo bc S, 90, true⟩), (b2, ⟨[.int .u8 0, .int .u16 0, .int .u32 0, .int .u8 0, .int .u64 0], 49, false⟩)]) (φ := b2 = b2 ∧ Nat.ble (0 + 5) 5 = true) h27 rfl rfl rfl (by kernel_rfl) ⟨rfl, rfl⟩ fun w28 h29 => ?_
  clear h27
  refine nd_batch tabOk tabZ_ok [(3, {}), (4, {})] [8, 0, 1, 2, 3, 11, 12, 9, 10] (T' := [(8, .pointer (some ⟨b2, 0, none⟩)), (0, .pointer (some ⟨kb, 0, none⟩)), (1, .int .u32 ad), (2, .int .u8 want), (3, .int .u8 need), (11, .int .i64 (-1)), (12, .int .u8 2), (9, .int .i64 (-1)), (10, .int .u8 2)]) (φ := True) (rest := []) h29 (by kernel_rfl) rfl trivial fun a30 h31 => ?_
  clear h29
  refine nd_done ?_
  refine hK25 _ _ ?_
  clear hK25
  refine wp_ret ?_
  try simp only [Exit.then, Exit.inBlock]
  try rw [if_pos trivial]
  exact s_ret tabOk tabZ_ok h31 [(.cell 8 49, {k := 1}), (.tmp 9, {}), (.tmp 10, {})] (vs := [.agg #[.int .u8 0, .int .u16 0, .int .u32 0, .int .u8 0, .int .u64 0], .int .i64 (-1), .int .u8 2]) (φ := (b2 = b2 ∧ Nat.ble (0 + 5) 5 = true) ∧ True) rfl (by kernel_rfl) ⟨⟨rfl, rfl⟩, trivial⟩ ⟨(by unfold findP; rw [el]; simp only [ne_eq, if_true, cp0]; rfl), h31.frame⟩

theorem find_good (kb bo bc : Nat) (nd : Nat → Nat) (S : KP) (rS : RI S) (C : CP) (ad want need : Int) (hcur : 0 ≤ S.cur ∧ S.cur < 256) (had : 0 ≤ ad ∧ ad < 4294967296) (i j : Nat) (hi : i < 256) (hj : j < 16) (hp : C.pres i = true) (el : lookP C.ent (S.tcb S.cur.toNat).cs ad = (((i * 16 + j : Nat) : Int), 0)) (w : World) (hb : w.heap[kb]? = some (Blk.obj ⟨kC bo bc S, 90, false⟩)) (hc : CapAt w bo bc nd C) (hdkb : kb ∉ capF bo bc nd C) :
    Calls Tryd.prog 79 #[.pointer (some ⟨kb, 0, none⟩), .int .u32 ad, .int .u8 want, .int .u8 need] w fun e w' => e = .returned (.tuple #[.agg (cpC (findP S C ad want need).1).toArray, .int .i64 (findP S C ad want need).2.1, .int .u8 (findP S C ad want need).2.2]) ∧ Fr [] w w' := by
  have hci := (rS.t (i := S.cur.toNat) (by omega)).ci
  refine enter (n := 68) (K := []) (A := fun w => CapAt w bo bc nd C) (F := (capF bo bc nd C)) (T := [(0, .pointer (some ⟨kb, 0, none⟩)), (1, .int .u32 ad), (2, .int .u8 want), (3, .int .u8 need)]) (L := [(kb, ⟨kC bo bc S, 90, true⟩)]) (args := [.pointer (some ⟨kb, 0, none⟩), .int .u32 ad, .int .u8 want, .int .u8 need]) Tryd.func79 rfl rfl rfl rfl (kcons hb knil) (by simp) (kcons (by intro hq; cases hq) knil) hc CapAt.stable hc.low (kcons (by intro hq; cases hq) knil) ?_
  intro a h
  refine wp_seq_k fun K1 hK1 => ?_
  refine nd_start (l := [0, 1, 2]) rfl ?_
  refine nd_op ?_
  refine op_new tabOk (cells := [.int .u8 0, .int .u16 0, .int .u32 0, .int .u8 0, .int .u64 0]) (ty := 49) (ln := none) (L1 := fun b2 => [(kb, ⟨kC bo bc S, 90, true⟩), (b2, ⟨[.int .u8 0, .int .u16 0, .int .u32 0, .int .u8 0, .int .u64 0], 49, false⟩)]) h rfl rfl rfl rfl (by kernel_rfl) (fun _ => rfl) fun b2 w3 a4 h5 hf6 hn7 => ?_
  clear h
  refine nd_batch tabOk tabZ_ok [(1, {}), (2, {})] [8, 0, 1, 2, 3, 9, 10] (T' := [(8, .pointer (some ⟨b2, 0, none⟩)), (0, .pointer (some ⟨kb, 0, none⟩)), (1, .int .u32 ad), (2, .int .u8 want), (3, .int .u8 need), (9, .int .i64 0), (10, .int .u8 0)]) (φ := True) (rest := []) h5 (by kernel_rfl) rfl trivial fun a8 h9 => ?_
  clear h5
  refine nd_done ?_
  refine hK1 _ _ ?_
  clear hK1
  refine wp_seq_k fun K10 hK10 => ?_
  refine dr_start (KB := [kb, b2]) (Bi := [[0, 1], [0, 1], [0, 1], [0, 1], [0, 1], [0, 1], [0, 1], [0, 1], [0, 1], [0, 1], [0, 1], [0, 1], [0, 1], [0, 1], [0, 1], [0, 1], [], [0, 1], [0, 1], [0, 1], [0, 1], [0, 1]]) mixed h9 fun w11 h12 => ?_
  clear h9
  refine dr_batch tabOk tabZ_ok (by repeat (first | with_reducible exact PF.body | with_reducible apply PF.inB | with_reducible apply PF.next)) [(0, {}), (1, {}), (2, {}), (3, {k := 0, m := 1, vs := [.pointer (some ⟨bc, 0, none⟩)], p := 0}), (4, {}), (5, {}), (6, {}), (7, {}), (8, {k := 0, m := 1, vs := [.int .i16 S.cur], p := 0}), (9, {}), (10, {}), (11, {}), (12, {}), (13, {}), (14, {k := 0, m := 1, vs := [.int .u16 ((S.tcb S.cur.toNat).cs.idx), .int .u32 ((S.tcb S.cur.toNat).cs.gen)], p := 0}), (15, {})] [8, 0, 1, 2, 3, 9, 10, 18, 29, 30] (T' := [(8, .pointer (some ⟨b2, 0, none⟩)), (0, .pointer (some ⟨kb, 0, none⟩)), (1, .int .u32 ad), (2, .int .u8 want), (3, .int .u8 need), (9, .int .i64 0), (10, .int .u8 0), (18, .pointer (some ⟨bc, 0, none⟩)), (29, .agg #[.int .u16 ((S.tcb S.cur.toNat).cs.idx), .int .u32 ((S.tcb S.cur.toNat).cs.gen)]), (30, .int .u32 ad)]) (φ := (kb = kb ∧ cellsAre (kC bo bc S) 1 [.pointer (some ⟨bc, 0, none⟩)]) ∧ (kb = kb ∧ cellsAre (kC bo bc S) 6427 [.int .i16 S.cur]) ∧ (0 ≤ S.cur ∧ S.cur < 256) ∧ (kb = kb ∧ cellsAre (kC bo bc S) (2 + (S.cur.toNat * 21) + 4) [.int .u16 ((S.tcb S.cur.toNat).cs.idx), .int .u32 ((S.tcb S.cur.toNat).cs.gen)]) ∧ True) (fuel := 6) h12 (by kernel_rfl) rfl (by kernel_rfl) (by kernel_rfl) ⟨trivial, trivial, trivial, rfl, trivial, trivial, trivial, trivial, rfl, trivial, trivial, trivial, trivial, trivial, rfl, trivial, trivial⟩ ⟨⟨rfl, k_caps⟩, ⟨rfl, k_cur⟩, ⟨by omega, by omega⟩, ⟨rfl, (k_tcb (i := S.cur.toNat) (k := 4) (by omega) (by omega) ⟨rfl, rfl, trivial⟩)⟩, trivial⟩ fun a14 h15 => ?_
  clear h12
  refine wpAnyK_one (i := 16) (fuel := 5) (by kernel_rfl) ?_
  refine op_call h15 rfl rfl rfl (callOk Tryd.func39 (by decide) rfl) (args := [.pointer (some ⟨bc, 0, none⟩), .agg #[.int .u16 ((S.tcb S.cur.toNat).cs.idx), .int .u32 ((S.tcb S.cur.toNat).cs.gen)], .int .u32 ad]) rfl (lookupE (E := C.ent) bo bc nd C.pres (S.tcb S.cur.toNat).cs ad ⟨by omega, by omega⟩ ⟨by omega, by omega⟩ _ h15.inv.sp h15.inv.st h15.inv.ap.symm el) ?_
  rintro _ w16 ⟨rfl, hf18⟩
  refine ⟨_, rfl, ?_⟩
  have h17 := (h15.grow hf18).put (d := some 31) (v := .tuple #[.int .i64 ((i * 16 + j : Nat) : Int), .int .u8 0]) (T' := [(31, .tuple #[.int .i64 ((i * 16 + j : Nat) : Int), .int .u8 0]), (8, .pointer (some ⟨b2, 0, none⟩)), (0, .pointer (some ⟨kb, 0, none⟩)), (1, .int .u32 ad), (2, .int .u8 want), (3, .int .u8 need), (9, .int .i64 0), (10, .int .u8 0), (18, .pointer (some ⟨bc, 0, none⟩)), (29, .agg #[.int .u16 ((S.tcb S.cur.toNat).cs.idx), .int .u32 ((S.tcb S.cur.toNat).cs.gen)]), (30, .int .u32 ad)]) rfl
  refine ⟨keepNil, ?_⟩
  clear h15
  refine dr_batch tabOk tabZ_ok (by repeat (first | with_reducible exact PF.body | with_reducible apply PF.inB | with_reducible apply PF.next)) [(17, {}), (18, {}), (19, {}), (20, {}), (21, {})] [8, 0, 1, 2, 3, 9, 10, 11, 12] (T' := [(8, .pointer (some ⟨b2, 0, none⟩)), (0, .pointer (some ⟨kb, 0, none⟩)), (1, .int .u32 ad), (2, .int .u8 want), (3, .int .u8 need), (9, .int .i64 0), (10, .int .u8 0), (11, .int .i64 ((i * 16 + j : Nat) : Int)), (12, .int .u8 0)]) (φ := True) (fuel := 0) h17 (by kernel_rfl) rfl (by kernel_rfl) (by kernel_rfl) ⟨trivial, trivial, trivial, trivial, trivial, trivial⟩ trivial fun a19 h20 => ?_
  clear h17
  refine wpAnyK_done (by kernel_rfl) ?_ _
  refine hK10 _ _ ?_
  clear hK10
  refine wp_seq_k fun K21 hK21 => ?_
  refine wp_seq_k fun K22 hK22 => ?_
  refine nd_start (l := [0, 1]) rfl ?_
  refine nd_batch tabOk tabZ_ok [(0, {}), (1, {})] [8, 0, 1, 2, 3, 9, 10, 11, 12, 35] (T' := [(8, .pointer (some ⟨b2, 0, none⟩)), (0, .pointer (some ⟨kb, 0, none⟩)), (1, .int .u32 ad), (2, .int .u8 want), (3, .int .u8 need), (9, .int .i64 0), (10, .int .u8 0), (11, .int .i64 ((i * 16 + j : Nat) : Int)), (12, .int .u8 0), (35, .bool false)]) (φ := True) (rest := []) h20 (by kernel_rfl) rfl trivial fun a23 h24 => ?_
  clear h20
  refine nd_done ?_
  refine hK22 _ _ ?_
  clear hK22
  refine c_false h24 rfl ?_
  refine wp_skip ?_
  refine hK21 _ _ ?_
  clear hK21
  refine wp_seq_k fun K25 hK25 => ?_
  refine nd_start (l := [0, 1, 2, 3, 4, 5, 6, 7]) rfl ?_
  refine nd_batch tabOk tabZ_ok [(0, {}), (1, {}), (2, {}), (3, {k := 0, m := 1, vs := [.pointer (some ⟨bc, 0, none⟩)]}), (4, {})] [8, 0, 1, 2, 3, 9, 10, 11, 12, 41, 42] (T' := [(8, .pointer (some ⟨b2, 0, none⟩)), (0, .pointer (some ⟨kb, 0, none⟩)), (1, .int .u32 ad), (2, .int .u8 want), (3, .int .u8 need), (9, .int .i64 0), (10, .int .u8 0), (11, .int .i64 ((i * 16 + j : Nat) : Int)), (12, .int .u8 0), (41, .pointer (some ⟨bc, 0, none⟩)), (42, .int .i64 ((i * 16 + j : Nat) : Int))]) (φ := (kb = kb ∧ cellsAre (kC bo bc S) 1 [.pointer (some ⟨bc, 0, none⟩)]) ∧ True) (rest := [5, 6, 7]) h24 (by kernel_rfl) rfl ⟨⟨rfl, k_caps⟩, trivial⟩ fun a26 h27 => ?_
  clear h24
  refine nd_op ?_
  refine op_call h27 rfl rfl rfl (callOk Tryd.func62 (by decide) rfl) (args := [.pointer (some ⟨bc, 0, none⟩), .int .i64 ((i * 16 + j : Nat) : Int)]) rfl (at_ok bo bc nd C.pres C.cel i j hi hj hp _ h27.inv.sp (h27.inv.no hi hp) (h27.inv.n1 hi hp).2.symm) ?_
  rintro _ w28 ⟨rfl, hf30⟩
  refine ⟨_, rfl, ?_⟩
  have h29 := (h27.grow hf30).put (d := some 43) (v := .agg #[.int .u8 ((C.cel (i * 16 + j)).cap.ty), .int .u16 ((C.cel (i * 16 + j)).cap.obj.idx), .int .u32 ((C.cel (i * 16 + j)).cap.obj.gen), .int .u8 ((C.cel (i * 16 + j)).cap.rights), .int .u64 ((C.cel (i * 16 + j)).cap.badge)]) (T' := [(43, .agg #[.int .u8 ((C.cel (i * 16 + j)).cap.ty), .int .u16 ((C.cel (i * 16 + j)).cap.obj.idx), .int .u32 ((C.cel (i * 16 + j)).cap.obj.gen), .int .u8 ((C.cel (i * 16 + j)).cap.rights), .int .u64 ((C.cel (i * 16 + j)).cap.badge)]), (8, .pointer (some ⟨b2, 0, none⟩)), (0, .pointer (some ⟨kb, 0, none⟩)), (1, .int .u32 ad), (2, .int .u8 want), (3, .int .u8 need), (9, .int .i64 0), (10, .int .u8 0), (11, .int .i64 ((i * 16 + j : Nat) : Int)), (12, .int .u8 0), (41, .pointer (some ⟨bc, 0, none⟩)), (42, .int .i64 ((i * 16 + j : Nat) : Int))]) rfl
  clear h27
  refine nd_op ?_
  refine op_new tabOk (cells := [.int .u8 0, .int .u16 0, .int .u32 0, .int .u8 0, .int .u64 0]) (ty := 49) (ln := none) (L1 := fun b31 => [(kb, ⟨kC bo bc S, 90, true⟩), (b2, ⟨[.int .u8 0, .int .u16 0, .int .u32 0, .int .u8 0, .int .u64 0], 49, false⟩), (b31, ⟨[.int .u8 0, .int .u16 0, .int .u32 0, .int .u8 0, .int .u64 0], 49, false⟩)]) h29 rfl rfl rfl rfl (by kernel_rfl) (fun _ => rfl) fun b31 w32 a33 h34 hf35 hn36 => ?_
  clear h29
  refine nd_op ?_
  refine op_store tabOk {k := 2} (L' := [(kb, ⟨kC bo bc S, 90, true⟩), (b2, ⟨[.int .u8 0, .int .u16 0, .int .u32 0, .int .u8 0, .int .u64 0], 49, false⟩), (b31, ⟨[.int .u8 ((C.cel (i * 16 + j)).cap.ty), .int .u16 ((C.cel (i * 16 + j)).cap.obj.idx), .int .u32 ((C.cel (i * 16 + j)).cap.obj.gen), .int .u8 ((C.cel (i * 16 + j)).cap.rights), .int .u64 ((C.cel (i * 16 + j)).cap.badge)], 49, false⟩)]) (φ := b31 = b31 ∧ Nat.ble (0 + 5) 5 = true) h34 rfl rfl rfl (by kernel_rfl) ⟨rfl, rfl⟩ fun w37 h38 => ?_
  clear h34
  refine nd_done ?_
  refine hK25 _ _ ?_
  clear hK25
  refine wp_seq_k fun K39 hK39 => ?_
  refine wp_block ?_
  refine wp_seq_k fun K40 hK40 => ?_
  refine nd_start (l := [0, 1, 2, 3]) rfl ?_
  refine nd_batch tabOk tabZ_ok [(0, {}), (1, {k := 2}), (2, {}), (3, {})] [13, 8, 0, 1, 2, 3, 9, 10, 11, 12, 44] (T' := [(13, .pointer (some ⟨b31, 0, none⟩)), (8, .pointer (some ⟨b2, 0, none⟩)), (0, .pointer (some ⟨kb, 0, none⟩)), (1, .int .u32 ad), (2, .int .u8 want), (3, .int .u8 need), (9, .int .i64 0), (10, .int .u8 0), (11, .int .i64 ((i * 16 + j : Nat) : Int)), (12, .int .u8 0), (44, .bool ((C.cel (i * 16 + j)).cap.ty == 0))]) (φ := (b31 = b31 ∧ Nat.ble (0 + 1) 5 = true) ∧ True) (rest := []) h38 (by kernel_rfl) rfl ⟨⟨rfl, rfl⟩, trivial⟩ fun a41 h42 => ?_
  clear h38
  refine nd_done ?_
  refine hK40 _ _ ?_
  clear hK40
  refine c_split h42 (b := ((C.cel (i * 16 + j)).cap.ty == 0)) rfl (fun hc43 => ?_) (fun hc43 => ?_)
  ·
    have hc43f : (C.cel (i * 16 + j)).cap.ty = 0 := by simpa using hc43
    refine wp_seq_k fun K44 hK44 => ?_
    refine nd_start (l := [0, 1, 2, 3, 4]) rfl ?_
    refine nd_batch tabOk tabZ_ok [(0, {k := 2}), (1, {})] [13, 8, 0, 1, 2, 3, 9, 10, 11, 12, 48, 49] (T' := [(13, .pointer (some ⟨b31, 0, none⟩)), (8, .pointer (some ⟨b2, 0, none⟩)), (0, .pointer (some ⟨kb, 0, none⟩)), (1, .int .u32 ad), (2, .int .u8 want), (3, .int .u8 need), (9, .int .i64 0), (10, .int .u8 0), (11, .int .i64 ((i * 16 + j : Nat) : Int)), (12, .int .u8 0), (48, .agg #[.int .u8 ((C.cel (i * 16 + j)).cap.ty), .int .u16 ((C.cel (i * 16 + j)).cap.obj.idx), .int .u32 ((C.cel (i * 16 + j)).cap.obj.gen), .int .u8 ((C.cel (i * 16 + j)).cap.rights), .int .u64 ((C.cel (i * 16 + j)).cap.badge)]), (49, .int .i64 ((i * 16 + j : Nat) : Int))]) (φ := (b31 = b31 ∧ Nat.ble (0 + 5) 5 = true) ∧ True) (rest := [2, 3, 4]) h42 (by kernel_rfl) rfl ⟨⟨rfl, rfl⟩, trivial⟩ fun a45 h46 => ?_
    clear h42
    refine nd_op ?_
    refine op_store tabOk {k := 1} (L' := [(kb, ⟨kC bo bc S, 90, true⟩), (b2, ⟨[.int .u8 ((C.cel (i * 16 + j)).cap.ty), .int .u16 ((C.cel (i * 16 + j)).cap.obj.idx), .int .u32 ((C.cel (i * 16 + j)).cap.obj.gen), .int .u8 ((C.cel (i * 16 + j)).cap.rights), .int .u64 ((C.cel (i * 16 + j)).cap.badge)], 49, false⟩), (b31, ⟨[.int .u8 ((C.cel (i * 16 + j)).cap.ty), .int .u16 ((C.cel (i * 16 + j)).cap.obj.idx), .int .u32 ((C.cel (i * 16 + j)).cap.obj.gen), .int .u8 ((C.cel (i * 16 + j)).cap.rights), .int .u64 ((C.cel (i * 16 + j)).cap.badge)], 49, false⟩)]) (φ := b2 = b2 ∧ Nat.ble (0 + 5) 5 = true) h46 rfl rfl rfl (by kernel_rfl) ⟨rfl, rfl⟩ fun w47 h48 => ?_
    clear h46
    refine nd_batch tabOk tabZ_ok [(3, {}), (4, {})] [13, 8, 0, 1, 2, 3, 11, 12, 9, 10] (T' := [(13, .pointer (some ⟨b31, 0, none⟩)), (8, .pointer (some ⟨b2, 0, none⟩)), (0, .pointer (some ⟨kb, 0, none⟩)), (1, .int .u32 ad), (2, .int .u8 want), (3, .int .u8 need), (11, .int .i64 ((i * 16 + j : Nat) : Int)), (12, .int .u8 0), (9, .int .i64 ((i * 16 + j : Nat) : Int)), (10, .int .u8 3)]) (φ := True) (rest := []) h48 (by kernel_rfl) rfl trivial fun a49 h50 => ?_
    clear h48
    refine nd_done ?_
    refine hK44 _ _ ?_
    clear hK44
    refine wp_ret ?_
    try simp only [Exit.then, Exit.inBlock]
    try rw [if_pos trivial]
    exact s_ret tabOk tabZ_ok h50 [(.cell 8 49, {k := 1}), (.tmp 9, {}), (.tmp 10, {})] (vs := [.agg #[.int .u8 ((C.cel (i * 16 + j)).cap.ty), .int .u16 ((C.cel (i * 16 + j)).cap.obj.idx), .int .u32 ((C.cel (i * 16 + j)).cap.obj.gen), .int .u8 ((C.cel (i * 16 + j)).cap.rights), .int .u64 ((C.cel (i * 16 + j)).cap.badge)], .int .i64 ((i * 16 + j : Nat) : Int), .int .u8 3]) (φ := (b2 = b2 ∧ Nat.ble (0 + 5) 5 = true) ∧ True) rfl (by kernel_rfl) ⟨⟨rfl, rfl⟩, trivial⟩ ⟨(by unfold findP; rw [el]; simp only [ne_eq, not_true_eq_false, if_false, Int.toNat_natCast]; (first | rw [if_pos hc43f] | rw [if_pos (fun hz => hz hc43f)]); rfl), h50.frame⟩
  ·
    have hc43f : (C.cel (i * 16 + j)).cap.ty ≠ 0 := by simpa using hc43
    refine wp_seq_k fun K51 hK51 => ?_
    refine nd_start (l := [0, 1, 2, 3, 4]) rfl ?_
    refine nd_batch tabOk tabZ_ok [(0, {}), (1, {k := 2}), (2, {}), (3, {}), (4, {})] [13, 8, 0, 1, 2, 3, 9, 10, 11, 12, 50] (T' := [(13, .pointer (some ⟨b31, 0, none⟩)), (8, .pointer (some ⟨b2, 0, none⟩)), (0, .pointer (some ⟨kb, 0, none⟩)), (1, .int .u32 ad), (2, .int .u8 want), (3, .int .u8 need), (9, .int .i64 0), (10, .int .u8 0), (11, .int .i64 ((i * 16 + j : Nat) : Int)), (12, .int .u8 0), (50, .bool ((C.cel (i * 16 + j)).cap.ty != want))]) (φ := (b31 = b31 ∧ Nat.ble (0 + 1) 5 = true) ∧ True) (rest := []) h42 (by kernel_rfl) rfl ⟨⟨rfl, rfl⟩, trivial⟩ fun a52 h53 => ?_
    clear h42
    refine nd_done ?_
    refine hK51 _ _ ?_
    clear hK51
    refine c_split h53 (b := ((C.cel (i * 16 + j)).cap.ty != want)) rfl (fun hc54 => ?_) (fun hc54 => ?_)
    ·
      have hc54f : (C.cel (i * 16 + j)).cap.ty ≠ want := by simpa using hc54
      refine wp_seq_k fun K55 hK55 => ?_
      refine nd_start (l := [0, 1, 2, 3, 4]) rfl ?_
      refine nd_batch tabOk tabZ_ok [(0, {k := 2}), (1, {})] [13, 8, 0, 1, 2, 3, 9, 10, 11, 12, 55, 56] (T' := [(13, .pointer (some ⟨b31, 0, none⟩)), (8, .pointer (some ⟨b2, 0, none⟩)), (0, .pointer (some ⟨kb, 0, none⟩)), (1, .int .u32 ad), (2, .int .u8 want), (3, .int .u8 need), (9, .int .i64 0), (10, .int .u8 0), (11, .int .i64 ((i * 16 + j : Nat) : Int)), (12, .int .u8 0), (55, .agg #[.int .u8 ((C.cel (i * 16 + j)).cap.ty), .int .u16 ((C.cel (i * 16 + j)).cap.obj.idx), .int .u32 ((C.cel (i * 16 + j)).cap.obj.gen), .int .u8 ((C.cel (i * 16 + j)).cap.rights), .int .u64 ((C.cel (i * 16 + j)).cap.badge)]), (56, .int .i64 ((i * 16 + j : Nat) : Int))]) (φ := (b31 = b31 ∧ Nat.ble (0 + 5) 5 = true) ∧ True) (rest := [2, 3, 4]) h53 (by kernel_rfl) rfl ⟨⟨rfl, rfl⟩, trivial⟩ fun a56 h57 => ?_
      clear h53
      refine nd_op ?_
      refine op_store tabOk {k := 1} (L' := [(kb, ⟨kC bo bc S, 90, true⟩), (b2, ⟨[.int .u8 ((C.cel (i * 16 + j)).cap.ty), .int .u16 ((C.cel (i * 16 + j)).cap.obj.idx), .int .u32 ((C.cel (i * 16 + j)).cap.obj.gen), .int .u8 ((C.cel (i * 16 + j)).cap.rights), .int .u64 ((C.cel (i * 16 + j)).cap.badge)], 49, false⟩), (b31, ⟨[.int .u8 ((C.cel (i * 16 + j)).cap.ty), .int .u16 ((C.cel (i * 16 + j)).cap.obj.idx), .int .u32 ((C.cel (i * 16 + j)).cap.obj.gen), .int .u8 ((C.cel (i * 16 + j)).cap.rights), .int .u64 ((C.cel (i * 16 + j)).cap.badge)], 49, false⟩)]) (φ := b2 = b2 ∧ Nat.ble (0 + 5) 5 = true) h57 rfl rfl rfl (by kernel_rfl) ⟨rfl, rfl⟩ fun w58 h59 => ?_
      clear h57
      refine nd_batch tabOk tabZ_ok [(3, {}), (4, {})] [13, 8, 0, 1, 2, 3, 11, 12, 9, 10] (T' := [(13, .pointer (some ⟨b31, 0, none⟩)), (8, .pointer (some ⟨b2, 0, none⟩)), (0, .pointer (some ⟨kb, 0, none⟩)), (1, .int .u32 ad), (2, .int .u8 want), (3, .int .u8 need), (11, .int .i64 ((i * 16 + j : Nat) : Int)), (12, .int .u8 0), (9, .int .i64 ((i * 16 + j : Nat) : Int)), (10, .int .u8 4)]) (φ := True) (rest := []) h59 (by kernel_rfl) rfl trivial fun a60 h61 => ?_
      clear h59
      refine nd_done ?_
      refine hK55 _ _ ?_
      clear hK55
      refine wp_ret ?_
      try simp only [Exit.then, Exit.inBlock]
      try rw [if_pos trivial]
      exact s_ret tabOk tabZ_ok h61 [(.cell 8 49, {k := 1}), (.tmp 9, {}), (.tmp 10, {})] (vs := [.agg #[.int .u8 ((C.cel (i * 16 + j)).cap.ty), .int .u16 ((C.cel (i * 16 + j)).cap.obj.idx), .int .u32 ((C.cel (i * 16 + j)).cap.obj.gen), .int .u8 ((C.cel (i * 16 + j)).cap.rights), .int .u64 ((C.cel (i * 16 + j)).cap.badge)], .int .i64 ((i * 16 + j : Nat) : Int), .int .u8 4]) (φ := (b2 = b2 ∧ Nat.ble (0 + 5) 5 = true) ∧ True) rfl (by kernel_rfl) ⟨⟨rfl, rfl⟩, trivial⟩ ⟨(by unfold findP; rw [el]; simp only [ne_eq, not_true_eq_false, if_false, Int.toNat_natCast]; (first | rw [if_neg hc43f] | rw [if_neg (fun hz => hz hc43f)]); (first | rw [if_pos hc54f] | rw [if_pos (fun hz => hz hc54f)]); rfl), h61.frame⟩
    ·
      have hc54f : (C.cel (i * 16 + j)).cap.ty = want := by simpa using hc54
      refine wp_seq_k fun K62 hK62 => ?_
      refine nd_start (l := [0, 1, 2, 3, 4, 5, 6]) rfl ?_
      refine nd_batch tabOk tabZ_ok [(0, {}), (1, {k := 2}), (2, {}), (3, {}), (4, {}), (5, {}), (6, {})] [13, 8, 0, 1, 2, 3, 9, 10, 11, 12, 57] (T' := [(13, .pointer (some ⟨b31, 0, none⟩)), (8, .pointer (some ⟨b2, 0, none⟩)), (0, .pointer (some ⟨kb, 0, none⟩)), (1, .int .u32 ad), (2, .int .u8 want), (3, .int .u8 need), (9, .int .i64 0), (10, .int .u8 0), (11, .int .i64 ((i * 16 + j : Nat) : Int)), (12, .int .u8 0), (57, .bool (bitI .and .u8 ((C.cel (i * 16 + j)).cap.rights) need != need))]) (φ := (b31 = b31 ∧ Nat.ble (3 + 1) 5 = true) ∧ True) (rest := []) h53 (by kernel_rfl) rfl ⟨⟨rfl, rfl⟩, trivial⟩ fun a63 h64 => ?_
      clear h53
      refine nd_done ?_
      refine hK62 _ _ ?_
      clear hK62
      refine c_split h64 (b := (bitI .and .u8 ((C.cel (i * 16 + j)).cap.rights) need != need)) rfl (fun hc65 => ?_) (fun hc65 => ?_)
      ·
        have hc65f : bitI .and .u8 ((C.cel (i * 16 + j)).cap.rights) need ≠ need := by simpa using hc65
        refine wp_seq_k fun K66 hK66 => ?_
        refine nd_start (l := [0, 1, 2, 3, 4]) rfl ?_
        refine nd_batch tabOk tabZ_ok [(0, {k := 2}), (1, {})] [13, 8, 0, 1, 2, 3, 9, 10, 11, 12, 64, 65] (T' := [(13, .pointer (some ⟨b31, 0, none⟩)), (8, .pointer (some ⟨b2, 0, none⟩)), (0, .pointer (some ⟨kb, 0, none⟩)), (1, .int .u32 ad), (2, .int .u8 want), (3, .int .u8 need), (9, .int .i64 0), (10, .int .u8 0), (11, .int .i64 ((i * 16 + j : Nat) : Int)), (12, .int .u8 0), (64, .agg #[.int .u8 ((C.cel (i * 16 + j)).cap.ty), .int .u16 ((C.cel (i * 16 + j)).cap.obj.idx), .int .u32 ((C.cel (i * 16 + j)).cap.obj.gen), .int .u8 ((C.cel (i * 16 + j)).cap.rights), .int .u64 ((C.cel (i * 16 + j)).cap.badge)]), (65, .int .i64 ((i * 16 + j : Nat) : Int))]) (φ := (b31 = b31 ∧ Nat.ble (0 + 5) 5 = true) ∧ True) (rest := [2, 3, 4]) h64 (by kernel_rfl) rfl ⟨⟨rfl, rfl⟩, trivial⟩ fun a67 h68 => ?_
        clear h64
        refine nd_op ?_
        refine op_store tabOk {k := 1} (L' := [(kb, ⟨kC bo bc S, 90, true⟩), (b2, ⟨[.int .u8 ((C.cel (i * 16 + j)).cap.ty), .int .u16 ((C.cel (i * 16 + j)).cap.obj.idx), .int .u32 ((C.cel (i * 16 + j)).cap.obj.gen), .int .u8 ((C.cel (i * 16 + j)).cap.rights), .int .u64 ((C.cel (i * 16 + j)).cap.badge)], 49, false⟩), (b31, ⟨[.int .u8 ((C.cel (i * 16 + j)).cap.ty), .int .u16 ((C.cel (i * 16 + j)).cap.obj.idx), .int .u32 ((C.cel (i * 16 + j)).cap.obj.gen), .int .u8 ((C.cel (i * 16 + j)).cap.rights), .int .u64 ((C.cel (i * 16 + j)).cap.badge)], 49, false⟩)]) (φ := b2 = b2 ∧ Nat.ble (0 + 5) 5 = true) h68 rfl rfl rfl (by kernel_rfl) ⟨rfl, rfl⟩ fun w69 h70 => ?_
        clear h68
        refine nd_batch tabOk tabZ_ok [(3, {}), (4, {})] [13, 8, 0, 1, 2, 3, 11, 12, 9, 10] (T' := [(13, .pointer (some ⟨b31, 0, none⟩)), (8, .pointer (some ⟨b2, 0, none⟩)), (0, .pointer (some ⟨kb, 0, none⟩)), (1, .int .u32 ad), (2, .int .u8 want), (3, .int .u8 need), (11, .int .i64 ((i * 16 + j : Nat) : Int)), (12, .int .u8 0), (9, .int .i64 ((i * 16 + j : Nat) : Int)), (10, .int .u8 5)]) (φ := True) (rest := []) h70 (by kernel_rfl) rfl trivial fun a71 h72 => ?_
        clear h70
        refine nd_done ?_
        refine hK66 _ _ ?_
        clear hK66
        refine wp_ret ?_
        try simp only [Exit.then, Exit.inBlock]
        try rw [if_pos trivial]
        exact s_ret tabOk tabZ_ok h72 [(.cell 8 49, {k := 1}), (.tmp 9, {}), (.tmp 10, {})] (vs := [.agg #[.int .u8 ((C.cel (i * 16 + j)).cap.ty), .int .u16 ((C.cel (i * 16 + j)).cap.obj.idx), .int .u32 ((C.cel (i * 16 + j)).cap.obj.gen), .int .u8 ((C.cel (i * 16 + j)).cap.rights), .int .u64 ((C.cel (i * 16 + j)).cap.badge)], .int .i64 ((i * 16 + j : Nat) : Int), .int .u8 5]) (φ := (b2 = b2 ∧ Nat.ble (0 + 5) 5 = true) ∧ True) rfl (by kernel_rfl) ⟨⟨rfl, rfl⟩, trivial⟩ ⟨(by unfold findP; rw [el]; simp only [ne_eq, not_true_eq_false, if_false, Int.toNat_natCast]; (first | rw [if_neg hc43f] | rw [if_neg (fun hz => hz hc43f)]); (first | rw [if_neg hc54f] | rw [if_neg (fun hz => hz hc54f)]); (first | rw [if_pos hc65f] | rw [if_pos (fun hz => hz hc65f)]); rfl), h72.frame⟩
      ·
        have hc65f : bitI .and .u8 ((C.cel (i * 16 + j)).cap.rights) need = need := by simpa using hc65
        refine wp_skip ?_
        refine hK39 _ _ ?_
        clear hK39
        refine wp_seq_k fun K73 hK73 => ?_
        refine nd_start (l := [0, 1, 2, 3, 4]) rfl ?_
        refine nd_batch tabOk tabZ_ok [(0, {k := 2}), (1, {})] [13, 8, 0, 1, 2, 3, 9, 10, 11, 12, 66, 67] (T' := [(13, .pointer (some ⟨b31, 0, none⟩)), (8, .pointer (some ⟨b2, 0, none⟩)), (0, .pointer (some ⟨kb, 0, none⟩)), (1, .int .u32 ad), (2, .int .u8 want), (3, .int .u8 need), (9, .int .i64 0), (10, .int .u8 0), (11, .int .i64 ((i * 16 + j : Nat) : Int)), (12, .int .u8 0), (66, .agg #[.int .u8 ((C.cel (i * 16 + j)).cap.ty), .int .u16 ((C.cel (i * 16 + j)).cap.obj.idx), .int .u32 ((C.cel (i * 16 + j)).cap.obj.gen), .int .u8 ((C.cel (i * 16 + j)).cap.rights), .int .u64 ((C.cel (i * 16 + j)).cap.badge)]), (67, .int .i64 ((i * 16 + j : Nat) : Int))]) (φ := (b31 = b31 ∧ Nat.ble (0 + 5) 5 = true) ∧ True) (rest := [2, 3, 4]) h64 (by kernel_rfl) rfl ⟨⟨rfl, rfl⟩, trivial⟩ fun a74 h75 => ?_
        clear h64
        refine nd_op ?_
        refine op_store tabOk {k := 1} (L' := [(kb, ⟨kC bo bc S, 90, true⟩), (b2, ⟨[.int .u8 ((C.cel (i * 16 + j)).cap.ty), .int .u16 ((C.cel (i * 16 + j)).cap.obj.idx), .int .u32 ((C.cel (i * 16 + j)).cap.obj.gen), .int .u8 ((C.cel (i * 16 + j)).cap.rights), .int .u64 ((C.cel (i * 16 + j)).cap.badge)], 49, false⟩), (b31, ⟨[.int .u8 ((C.cel (i * 16 + j)).cap.ty), .int .u16 ((C.cel (i * 16 + j)).cap.obj.idx), .int .u32 ((C.cel (i * 16 + j)).cap.obj.gen), .int .u8 ((C.cel (i * 16 + j)).cap.rights), .int .u64 ((C.cel (i * 16 + j)).cap.badge)], 49, false⟩)]) (φ := b2 = b2 ∧ Nat.ble (0 + 5) 5 = true) h75 rfl rfl rfl (by kernel_rfl) ⟨rfl, rfl⟩ fun w76 h77 => ?_
        clear h75
        refine nd_batch tabOk tabZ_ok [(3, {}), (4, {})] [13, 8, 0, 1, 2, 3, 11, 12, 9, 10] (T' := [(13, .pointer (some ⟨b31, 0, none⟩)), (8, .pointer (some ⟨b2, 0, none⟩)), (0, .pointer (some ⟨kb, 0, none⟩)), (1, .int .u32 ad), (2, .int .u8 want), (3, .int .u8 need), (11, .int .i64 ((i * 16 + j : Nat) : Int)), (12, .int .u8 0), (9, .int .i64 ((i * 16 + j : Nat) : Int)), (10, .int .u8 0)]) (φ := True) (rest := []) h77 (by kernel_rfl) rfl trivial fun a78 h79 => ?_
        clear h77
        refine nd_done ?_
        refine hK73 _ _ ?_
        clear hK73
        refine wp_ret ?_
        try simp only [Exit.then, Exit.inBlock]
        try rw [if_pos trivial]
        exact s_ret tabOk tabZ_ok h79 [(.cell 8 49, {k := 1}), (.tmp 9, {}), (.tmp 10, {})] (vs := [.agg #[.int .u8 ((C.cel (i * 16 + j)).cap.ty), .int .u16 ((C.cel (i * 16 + j)).cap.obj.idx), .int .u32 ((C.cel (i * 16 + j)).cap.obj.gen), .int .u8 ((C.cel (i * 16 + j)).cap.rights), .int .u64 ((C.cel (i * 16 + j)).cap.badge)], .int .i64 ((i * 16 + j : Nat) : Int), .int .u8 0]) (φ := (b2 = b2 ∧ Nat.ble (0 + 5) 5 = true) ∧ True) rfl (by kernel_rfl) ⟨⟨rfl, rfl⟩, trivial⟩ ⟨(by unfold findP; rw [el]; simp only [ne_eq, not_true_eq_false, if_false, Int.toNat_natCast]; (first | rw [if_neg hc43f] | rw [if_neg (fun hz => hz hc43f)]); (first | rw [if_neg hc54f] | rw [if_neg (fun hz => hz hc54f)]); (first | rw [if_neg hc65f] | rw [if_neg (fun hz => hz hc65f)]); rfl), h79.frame⟩

theorem find_ok (kb bo bc : Nat) (nd : Nat → Nat) (S : KP) (rS : RI S) (C : CP) (hC : CI C) (ad want need : Int) (hcur : 0 ≤ S.cur ∧ S.cur < 256) (had : 0 ≤ ad ∧ ad < 4294967296) (w : World) (hb : w.heap[kb]? = some (Blk.obj ⟨kC bo bc S, 90, false⟩)) (hc : CapAt w bo bc nd C) (hdkb : kb ∉ capF bo bc nd C) {c : Cp} {s k : Int} (hf : findP S C ad want need = (c, s, k)) :
    Calls Tryd.prog 79 #[.pointer (some ⟨kb, 0, none⟩), .int .u32 ad, .int .u8 want, .int .u8 need] w fun e w' => e = .returned (.tuple #[.agg (cpC c).toArray, .int .i64 s, .int .u8 k]) ∧ Fr [] w w' := by
  have hci := (rS.t (i := S.cur.toNat) (by omega)).ci
  rcases look_cases hC (r := (S.tcb S.cur.toNat).cs) hci.1 had.1 with e | ⟨i, j, h1, h2, h3, e⟩
  · have h := find_bad kb bo bc nd S rS C ad want need hcur had e w hb hc hdkb
    rw [hf] at h; exact h
  · have h := find_good kb bo bc nd S rS C ad want need hcur had i j h1 h2 h3 e w hb hc hdkb
    rw [hf] at h; exact h

end Go.Proofs.Qxb6500918aDoor
