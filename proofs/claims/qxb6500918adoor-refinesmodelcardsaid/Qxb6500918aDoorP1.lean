/-
  The views: Running, Thread, stateOf, IRQ. (Made by program: a symbolic walk that prints its steps.)
-/
import Derived.Test.Qxb6500918aDoorK4
import Derived.Test.Qxb6500918aDoorKz
import Derived.Test.Qxb6500918aDoorKi
namespace Go.Proofs.Qxb6500918aDoor
open Go.Sx Go.Kn
set_option maxRecDepth 100000
set_option maxHeartbeats 4000000
set_option linter.unusedVariables false
set_option linter.unusedSimpArgs false

def thC (x : Tcb) : List Value := [.int .u8 x.st, .int .u8 x.prio, .int .u16 x.wait.idx, .int .u32 x.wait.gen, .int .u16 x.cs.idx, .int .u32 x.cs.gen, .int .u16 x.rep.idx, .int .u32 x.rep.gen, .int .u64 x.badge, .int .u64 x.m0, .int .u64 x.m1, .int .u64 x.m2, .int .u64 x.m3, .int .u8 x.len, .int .u8 x.got, .int .u32 x.xfer, .int .u32 x.dst, .bool x.grant, .bool x.call]

/-- What Thread shows. -/
def threadP (S : KP) (E : Nat → Ent) (r : Rf) : Tcb × Bool := if typeOfP E r = 3 then (S.tcb r.idx.toNat, true) else (noT, false)

theorem typeOf_lt9 {E : Nat → Ent} {r : Rf} (h : (E 256).ty = 1) (hr : 0 ≤ r.idx) {k : Int} (hk : k ≠ 0) (hk1 : k ≠ 1) (ht : typeOfP E r = k) : r.idx < 256 := by
  unfold typeOfP at ht
  split at ht
  · exact absurd ht.symm hk
  · split at ht
    · exact absurd ht.symm hk
    · have : r.idx.toNat ≠ 256 := fun e => by rw [e, h] at ht; exact hk1 ht.symm
      omega

theorem running_ok (kb bo bc : Nat) (S : KP) (rS : RI S) (E : Nat → Ent) (w : World) (hb : w.heap[kb]? = some (Blk.obj ⟨kC bo bc S, 90, false⟩)) (hs : w.heap[bo]? = some (Blk.obj ⟨stC E, 131, false⟩)) (hne : kb ≠ bo) :
    Calls Tryd.prog 18 #[.pointer (some ⟨kb, 0, none⟩)] w fun e w' => e = .returned (.agg #[.int .u16 (refP E S.cur).idx, .int .u32 (refP E S.cur).gen]) ∧ Fr [] w w' := by
  refine enter0 (n := 9) (K := []) (T := [(0, .pointer (some ⟨kb, 0, none⟩))]) (L := [(kb, ⟨kC bo bc S, 90, true⟩), (bo, ⟨stC E, 131, true⟩)]) (args := [.pointer (some ⟨kb, 0, none⟩)]) Tryd.func18 rfl rfl rfl rfl (kcons hb (kcons hs knil)) (by simp; exact hne) (kcons (by intro hq; cases hq) (kcons (by intro hq; cases hq) knil)) ?_
  intro a h
  refine wp_seq_k fun K1 hK1 => ?_
  refine nd_start (l := [0]) rfl ?_
  refine nd_op ?_
  refine op_new tabOk (cells := [.int .u16 0, .int .u32 0]) (ty := 39) (ln := none) (L1 := fun b2 => [(kb, ⟨kC bo bc S, 90, true⟩), (bo, ⟨stC E, 131, true⟩), (b2, ⟨[.int .u16 0, .int .u32 0], 39, false⟩)]) h rfl rfl rfl rfl (by kernel_rfl) (fun _ => rfl) fun b2 w3 a4 h5 hf6 hn7 => ?_
  clear h
  refine nd_done ?_
  refine hK1 _ _ ?_
  clear hK1
  refine wp_seq_k fun K8 hK8 => ?_
  refine nd_start (l := [0, 1, 2, 3, 4, 5, 6]) rfl ?_
  refine nd_batch tabOk tabZ_ok [(0, {}), (1, {}), (2, {}), (3, {}), (4, {k := 0, m := 1, vs := [.int .i16 S.cur]})] [2, 0, 3, 7] (T' := [(2, .pointer (some ⟨b2, 0, none⟩)), (0, .pointer (some ⟨kb, 0, none⟩)), (3, .pointer (some ⟨kb, 0, none⟩)), (7, .int .i16 S.cur)]) (φ := (kb = kb ∧ cellsAre (kC bo bc S) 6427 [.int .i16 S.cur]) ∧ True) (rest := [5, 6]) h5 (by kernel_rfl) rfl ⟨⟨rfl, k_cur⟩, trivial⟩ fun a9 h10 => ?_
  clear h5
  refine nd_op ?_
  refine op_call h10 rfl rfl rfl (callOk Tryd.func51 (by decide) rfl) (args := [.pointer (some ⟨kb, 0, none⟩), .int .i16 S.cur]) rfl (ref_ok kb bo bc S E S.cur rS.cur _ (h10.kn (k := 0) (blk := ⟨kC bo bc S, 90, true⟩) rfl) (h10.kn (k := 1) (blk := ⟨stC E, 131, true⟩) rfl) hne) ?_
  rintro _ w11 ⟨rfl, hf13⟩
  refine ⟨_, rfl, ?_⟩
  have h12 := (h10.grow hf13).put (d := some 8) (v := .agg #[.int .u16 ((refP E S.cur).idx), .int .u32 ((refP E S.cur).gen)]) (T' := [(8, .agg #[.int .u16 ((refP E S.cur).idx), .int .u32 ((refP E S.cur).gen)]), (2, .pointer (some ⟨b2, 0, none⟩)), (0, .pointer (some ⟨kb, 0, none⟩)), (3, .pointer (some ⟨kb, 0, none⟩)), (7, .int .i16 S.cur)]) rfl
  clear h10
  refine nd_op ?_
  refine op_store tabOk {k := 2} (L' := [(kb, ⟨kC bo bc S, 90, true⟩), (bo, ⟨stC E, 131, true⟩), (b2, ⟨[.int .u16 ((refP E S.cur).idx), .int .u32 ((refP E S.cur).gen)], 39, false⟩)]) (φ := b2 = b2 ∧ Nat.ble (0 + 2) 2 = true) h12 rfl rfl rfl (by kernel_rfl) ⟨rfl, rfl⟩ fun w14 h15 => ?_
  clear h12
  refine nd_done ?_
  refine hK8 _ _ ?_
  clear hK8
  refine wp_ret ?_
  try simp only [Exit.then, Exit.inBlock]
  try rw [if_pos trivial]
  exact s_ret tabOk tabZ_ok h15 [(.cell 2 39, {k := 2})] (vs := [.agg #[.int .u16 ((refP E S.cur).idx), .int .u32 ((refP E S.cur).gen)]]) (φ := (b2 = b2 ∧ Nat.ble (0 + 2) 2 = true) ∧ True) rfl (by kernel_rfl) ⟨⟨rfl, rfl⟩, trivial⟩ ⟨rfl, h15.frame⟩

theorem thread_ok (kb bo bc : Nat) (S : KP) (rS : RI S) (E : Nat → Ent) (h256 : (E 256).ty = 1) (r : Rf) (hr : 0 ≤ r.idx ∧ r.idx ≤ 65535) (w : World) (hb : w.heap[kb]? = some (Blk.obj ⟨kC bo bc S, 90, false⟩)) (hs : w.heap[bo]? = some (Blk.obj ⟨stC E, 131, false⟩)) (hne : kb ≠ bo) :
    Calls Tryd.prog 25 #[.pointer (some ⟨kb, 0, none⟩), .agg #[.int .u16 r.idx, .int .u32 r.gen]] w fun e w' => e = .returned (.tuple #[.agg (thC (threadP S E r).1).toArray, .bool (threadP S E r).2]) ∧ Fr [] w w' := by
  refine enter0 (n := 22) (K := []) (T := [(0, .pointer (some ⟨kb, 0, none⟩)), (1, .agg #[.int .u16 r.idx, .int .u32 r.gen])]) (L := [(kb, ⟨kC bo bc S, 90, true⟩), (bo, ⟨stC E, 131, true⟩)]) (args := [.pointer (some ⟨kb, 0, none⟩), .agg #[.int .u16 r.idx, .int .u32 r.gen]]) Tryd.func25 rfl rfl rfl rfl (kcons hb (kcons hs knil)) (by simp; exact hne) (kcons (by intro hq; cases hq) (kcons (by intro hq; cases hq) knil)) ?_
  intro a h
  refine wp_seq_k fun K1 hK1 => ?_
  refine nd_start (l := [0, 1, 2]) rfl ?_
  refine nd_op ?_
  refine op_new tabOk (cells := [.int .u16 r.idx, .int .u32 r.gen]) (ty := 39) (ln := none) (L1 := fun b2 => [(kb, ⟨kC bo bc S, 90, true⟩), (bo, ⟨stC E, 131, true⟩), (b2, ⟨[.int .u16 r.idx, .int .u32 r.gen], 39, false⟩)]) h rfl rfl rfl rfl (by kernel_rfl) (fun _ => rfl) fun b2 w3 a4 h5 hf6 hn7 => ?_
  clear h
  refine nd_op ?_
  refine op_new tabOk (cells := [.int .u8 0, .int .u8 0, .int .u16 0, .int .u32 0, .int .u16 0, .int .u32 0, .int .u16 0, .int .u32 0, .int .u64 0, .int .u64 0, .int .u64 0, .int .u64 0, .int .u64 0, .int .u8 0, .int .u8 0, .int .u32 0, .int .u32 0, .bool false, .bool false]) (ty := 59) (ln := none) (L1 := fun b8 => [(kb, ⟨kC bo bc S, 90, true⟩), (bo, ⟨stC E, 131, true⟩), (b2, ⟨[.int .u16 r.idx, .int .u32 r.gen], 39, false⟩), (b8, ⟨[.int .u8 0, .int .u8 0, .int .u16 0, .int .u32 0, .int .u16 0, .int .u32 0, .int .u16 0, .int .u32 0, .int .u64 0, .int .u64 0, .int .u64 0, .int .u64 0, .int .u64 0, .int .u8 0, .int .u8 0, .int .u32 0, .int .u32 0, .bool false, .bool false], 59, false⟩)]) h5 rfl rfl rfl rfl (by kernel_rfl) (fun _ => rfl) fun b8 w9 a10 h11 hf12 hn13 => ?_
  clear h5
  refine nd_batch tabOk tabZ_ok [(2, {})] [4, 3, 0, 1, 5] (T' := [(4, .pointer (some ⟨b8, 0, none⟩)), (3, .pointer (some ⟨b2, 0, none⟩)), (0, .pointer (some ⟨kb, 0, none⟩)), (1, .agg #[.int .u16 r.idx, .int .u32 r.gen]), (5, .bool false)]) (φ := True) (rest := []) h11 (by kernel_rfl) rfl trivial fun a14 h15 => ?_
  clear h11
  refine nd_done ?_
  refine hK1 _ _ ?_
  clear hK1
  refine wp_seq_k fun K16 hK16 => ?_
  refine wp_seq_k fun K17 hK17 => ?_
  refine dr_start (KB := [kb, bo, b2, b8]) (Bi := [[0, 1, 2, 3], [0, 1, 2, 3], [0, 1, 2, 3], [0, 1, 2, 3], [0, 1, 2, 3], [], [0, 1, 2, 3]]) mixed h15 fun w18 h19 => ?_
  clear h15
  refine dr_batch tabOk tabZ_ok (by repeat (first | with_reducible exact PF.body | with_reducible apply PF.inB | with_reducible apply PF.next)) [(0, {}), (1, {}), (2, {}), (3, {k := 0, m := 1, vs := [.pointer (some ⟨bo, 0, none⟩)], p := 0}), (4, {k := 2, p := 2})] [4, 3, 0, 1, 5, 9, 10] (T' := [(4, .pointer (some ⟨b8, 0, none⟩)), (3, .pointer (some ⟨b2, 0, none⟩)), (0, .pointer (some ⟨kb, 0, none⟩)), (1, .agg #[.int .u16 r.idx, .int .u32 r.gen]), (5, .bool false), (9, .pointer (some ⟨bo, 0, none⟩)), (10, .agg #[.int .u16 r.idx, .int .u32 r.gen])]) (φ := (kb = kb ∧ cellsAre (kC bo bc S) 0 [.pointer (some ⟨bo, 0, none⟩)]) ∧ (b2 = b2 ∧ Nat.ble (0 + 2) 2 = true) ∧ True) (fuel := 2) h19 (by kernel_rfl) rfl (by kernel_rfl) (by kernel_rfl) ⟨trivial, trivial, trivial, rfl, rfl, trivial⟩ ⟨⟨rfl, k_objs⟩, ⟨rfl, rfl⟩, trivial⟩ fun a21 h22 => ?_
  clear h19
  refine wpAnyK_one (i := 5) (fuel := 1) (by kernel_rfl) ?_
  refine op_call h22 rfl rfl rfl (callOk Tryd.func53 (by decide) rfl) (args := [.pointer (some ⟨bo, 0, none⟩), .agg #[.int .u16 r.idx, .int .u32 r.gen]]) rfl (typeOf_ok bo E r ⟨by omega, by omega⟩ _ (h22.kn (k := 1) (blk := ⟨stC E, 131, true⟩) rfl)) ?_
  rintro _ w23 ⟨rfl, hf25⟩
  refine ⟨_, rfl, ?_⟩
  have h24 := (h22.grow hf25).put (d := some 11) (v := .int .u8 (typeOfP E r)) (T' := [(11, .int .u8 (typeOfP E r)), (4, .pointer (some ⟨b8, 0, none⟩)), (3, .pointer (some ⟨b2, 0, none⟩)), (0, .pointer (some ⟨kb, 0, none⟩)), (1, .agg #[.int .u16 r.idx, .int .u32 r.gen]), (5, .bool false), (9, .pointer (some ⟨bo, 0, none⟩)), (10, .agg #[.int .u16 r.idx, .int .u32 r.gen])]) rfl
  refine ⟨keepNil, ?_⟩
  clear h22
  refine dr_batch tabOk tabZ_ok (by repeat (first | with_reducible exact PF.body | with_reducible apply PF.inB | with_reducible apply PF.next)) [(6, {})] [4, 3, 0, 1, 5, 12] (T' := [(4, .pointer (some ⟨b8, 0, none⟩)), (3, .pointer (some ⟨b2, 0, none⟩)), (0, .pointer (some ⟨kb, 0, none⟩)), (1, .agg #[.int .u16 r.idx, .int .u32 r.gen]), (5, .bool false), (12, .bool ((typeOfP E r) != 3))]) (φ := True) (fuel := 0) h24 (by kernel_rfl) rfl (by kernel_rfl) (by kernel_rfl) ⟨trivial, trivial⟩ trivial fun a26 h27 => ?_
  clear h24
  refine wpAnyK_done (by kernel_rfl) ?_ _
  refine hK17 _ _ ?_
  clear hK17
  refine c_split h27 (b := ((typeOfP E r) != 3)) rfl (fun hc28 => ?_) (fun hc28 => ?_)
  ·
    have hc28f : (typeOfP E r) ≠ 3 := by simpa using hc28
    refine wp_seq_k fun K29 hK29 => ?_
    refine nd_start (l := [0, 1, 2]) rfl ?_
    refine nd_batch tabOk tabZ_ok [(0, {})] [4, 3, 0, 1, 5, 13] (T' := [(4, .pointer (some ⟨b8, 0, none⟩)), (3, .pointer (some ⟨b2, 0, none⟩)), (0, .pointer (some ⟨kb, 0, none⟩)), (1, .agg #[.int .u16 r.idx, .int .u32 r.gen]), (5, .bool false), (13, .agg #[.int .u8 0, .int .u8 0, .int .u16 0, .int .u32 0, .int .u16 0, .int .u32 0, .int .u16 0, .int .u32 0, .int .u64 0, .int .u64 0, .int .u64 0, .int .u64 0, .int .u64 0, .int .u8 0, .int .u8 0, .int .u32 0, .int .u32 0, .bool false, .bool false])]) (φ := True) (rest := [1, 2]) h27 (by kernel_rfl) rfl trivial fun a30 h31 => ?_
    clear h27
    refine nd_op ?_
    refine op_store tabOk {k := 3} (L' := [(kb, ⟨kC bo bc S, 90, true⟩), (bo, ⟨stC E, 131, true⟩), (b2, ⟨[.int .u16 r.idx, .int .u32 r.gen], 39, false⟩), (b8, ⟨[.int .u8 0, .int .u8 0, .int .u16 0, .int .u32 0, .int .u16 0, .int .u32 0, .int .u16 0, .int .u32 0, .int .u64 0, .int .u64 0, .int .u64 0, .int .u64 0, .int .u64 0, .int .u8 0, .int .u8 0, .int .u32 0, .int .u32 0, .bool false, .bool false], 59, false⟩)]) (φ := b8 = b8 ∧ Nat.ble (0 + 19) 19 = true) h31 rfl rfl rfl (by kernel_rfl) ⟨rfl, rfl⟩ fun w32 h33 => ?_
    clear h31
    refine nd_batch tabOk tabZ_ok [(2, {})] [4, 3, 0, 1, 5] (T' := [(4, .pointer (some ⟨b8, 0, none⟩)), (3, .pointer (some ⟨b2, 0, none⟩)), (0, .pointer (some ⟨kb, 0, none⟩)), (1, .agg #[.int .u16 r.idx, .int .u32 r.gen]), (5, .bool false)]) (φ := True) (rest := []) h33 (by kernel_rfl) rfl trivial fun a34 h35 => ?_
    clear h33
    refine nd_done ?_
    refine hK29 _ _ ?_
    clear hK29
    refine wp_ret ?_
    try simp only [Exit.then, Exit.inBlock]
    try rw [if_pos trivial]
    exact s_ret tabOk tabZ_ok h35 [(.cell 4 59, {k := 3}), (.tmp 5, {})] (vs := [.agg #[.int .u8 0, .int .u8 0, .int .u16 0, .int .u32 0, .int .u16 0, .int .u32 0, .int .u16 0, .int .u32 0, .int .u64 0, .int .u64 0, .int .u64 0, .int .u64 0, .int .u64 0, .int .u8 0, .int .u8 0, .int .u32 0, .int .u32 0, .bool false, .bool false], .bool false]) (φ := (b8 = b8 ∧ Nat.ble (0 + 19) 19 = true) ∧ True) rfl (by kernel_rfl) ⟨⟨rfl, rfl⟩, trivial⟩ ⟨(by unfold threadP; rw [if_neg hc28f]; rfl), h35.frame⟩
  ·
    have hc28f : (typeOfP E r) = 3 := by simpa using hc28
    have ht3 : typeOfP E r = 3 := hc28f
    have hrl := typeOf_lt9 h256 hr.1 (by decide) (by decide) ht3
    refine wp_skip ?_
    refine hK16 _ _ ?_
    clear hK16
    refine wp_seq_k fun K36 hK36 => ?_
    refine dr_start (KB := [kb, bo, b2, b8]) (Bi := [[0, 1, 2, 3], [0, 1, 2, 3], [0, 1, 2, 3], [0, 1, 2, 3], [0, 1, 2, 3], [0, 1, 2, 3], [0, 1, 2, 3], [0, 1, 2, 3], [], [0, 1, 2, 3]]) mixed h27 fun w37 h38 => ?_
    clear h27
    refine dr_batch tabOk tabZ_ok (by repeat (first | with_reducible exact PF.body | with_reducible apply PF.inB | with_reducible apply PF.next)) [(0, {}), (1, {}), (2, {k := 2, p := 2}), (3, {}), (4, {}), (5, {}), (6, {}), (7, {k := 0, m := 1, vs := [.int .u8 ((S.tcb r.idx.toNat).st), .int .u8 ((S.tcb r.idx.toNat).prio), .int .u16 ((S.tcb r.idx.toNat).wait.idx), .int .u32 ((S.tcb r.idx.toNat).wait.gen), .int .u16 ((S.tcb r.idx.toNat).cs.idx), .int .u32 ((S.tcb r.idx.toNat).cs.gen), .int .u16 ((S.tcb r.idx.toNat).rep.idx), .int .u32 ((S.tcb r.idx.toNat).rep.gen), .int .u64 ((S.tcb r.idx.toNat).badge), .int .u64 ((S.tcb r.idx.toNat).m0), .int .u64 ((S.tcb r.idx.toNat).m1), .int .u64 ((S.tcb r.idx.toNat).m2), .int .u64 ((S.tcb r.idx.toNat).m3), .int .u8 ((S.tcb r.idx.toNat).len), .int .u8 ((S.tcb r.idx.toNat).got), .int .u32 ((S.tcb r.idx.toNat).xfer), .int .u32 ((S.tcb r.idx.toNat).dst), .bool ((S.tcb r.idx.toNat).grant), .bool ((S.tcb r.idx.toNat).call)], p := 0})] [4, 3, 0, 1, 5, 21] (T' := [(4, .pointer (some ⟨b8, 0, none⟩)), (3, .pointer (some ⟨b2, 0, none⟩)), (0, .pointer (some ⟨kb, 0, none⟩)), (1, .agg #[.int .u16 r.idx, .int .u32 r.gen]), (5, .bool false), (21, .agg #[.int .u8 ((S.tcb r.idx.toNat).st), .int .u8 ((S.tcb r.idx.toNat).prio), .int .u16 ((S.tcb r.idx.toNat).wait.idx), .int .u32 ((S.tcb r.idx.toNat).wait.gen), .int .u16 ((S.tcb r.idx.toNat).cs.idx), .int .u32 ((S.tcb r.idx.toNat).cs.gen), .int .u16 ((S.tcb r.idx.toNat).rep.idx), .int .u32 ((S.tcb r.idx.toNat).rep.gen), .int .u64 ((S.tcb r.idx.toNat).badge), .int .u64 ((S.tcb r.idx.toNat).m0), .int .u64 ((S.tcb r.idx.toNat).m1), .int .u64 ((S.tcb r.idx.toNat).m2), .int .u64 ((S.tcb r.idx.toNat).m3), .int .u8 ((S.tcb r.idx.toNat).len), .int .u8 ((S.tcb r.idx.toNat).got), .int .u32 ((S.tcb r.idx.toNat).xfer), .int .u32 ((S.tcb r.idx.toNat).dst), .bool ((S.tcb r.idx.toNat).grant), .bool ((S.tcb r.idx.toNat).call)])]) (φ := (b2 = b2 ∧ Nat.ble (0 + 1) 2 = true) ∧ (0 ≤ r.idx ∧ r.idx < 256) ∧ (kb = kb ∧ cellsAre (kC bo bc S) (2 + (r.idx.toNat * 21)) [.int .u8 ((S.tcb r.idx.toNat).st), .int .u8 ((S.tcb r.idx.toNat).prio), .int .u16 ((S.tcb r.idx.toNat).wait.idx), .int .u32 ((S.tcb r.idx.toNat).wait.gen), .int .u16 ((S.tcb r.idx.toNat).cs.idx), .int .u32 ((S.tcb r.idx.toNat).cs.gen), .int .u16 ((S.tcb r.idx.toNat).rep.idx), .int .u32 ((S.tcb r.idx.toNat).rep.gen), .int .u64 ((S.tcb r.idx.toNat).badge), .int .u64 ((S.tcb r.idx.toNat).m0), .int .u64 ((S.tcb r.idx.toNat).m1), .int .u64 ((S.tcb r.idx.toNat).m2), .int .u64 ((S.tcb r.idx.toNat).m3), .int .u8 ((S.tcb r.idx.toNat).len), .int .u8 ((S.tcb r.idx.toNat).got), .int .u32 ((S.tcb r.idx.toNat).xfer), .int .u32 ((S.tcb r.idx.toNat).dst), .bool ((S.tcb r.idx.toNat).grant), .bool ((S.tcb r.idx.toNat).call)]) ∧ True) (fuel := 2) h38 (by kernel_rfl) rfl (by kernel_rfl) (by kernel_rfl) ⟨trivial, trivial, rfl, trivial, trivial, trivial, trivial, rfl, trivial⟩ ⟨⟨rfl, rfl⟩, ⟨by omega, by omega⟩, ⟨rfl, (k_tcb (i := r.idx.toNat) (k := 0) (by omega) (by omega) ⟨rfl, rfl, rfl, rfl, rfl, rfl, rfl, rfl, rfl, rfl, rfl, rfl, rfl, rfl, rfl, rfl, rfl, rfl, rfl, trivial⟩)⟩, trivial⟩ fun a40 h41 => ?_
    clear h38
    refine wpAnyK_one (i := 8) (fuel := 1) (by kernel_rfl) ?_
    refine op_store tabOk {k := 3} (L' := [(kb, ⟨kC bo bc S, 90, true⟩), (bo, ⟨stC E, 131, true⟩), (b2, ⟨[.int .u16 r.idx, .int .u32 r.gen], 39, false⟩), (b8, ⟨[.int .u8 ((S.tcb r.idx.toNat).st), .int .u8 ((S.tcb r.idx.toNat).prio), .int .u16 ((S.tcb r.idx.toNat).wait.idx), .int .u32 ((S.tcb r.idx.toNat).wait.gen), .int .u16 ((S.tcb r.idx.toNat).cs.idx), .int .u32 ((S.tcb r.idx.toNat).cs.gen), .int .u16 ((S.tcb r.idx.toNat).rep.idx), .int .u32 ((S.tcb r.idx.toNat).rep.gen), .int .u64 ((S.tcb r.idx.toNat).badge), .int .u64 ((S.tcb r.idx.toNat).m0), .int .u64 ((S.tcb r.idx.toNat).m1), .int .u64 ((S.tcb r.idx.toNat).m2), .int .u64 ((S.tcb r.idx.toNat).m3), .int .u8 ((S.tcb r.idx.toNat).len), .int .u8 ((S.tcb r.idx.toNat).got), .int .u32 ((S.tcb r.idx.toNat).xfer), .int .u32 ((S.tcb r.idx.toNat).dst), .bool ((S.tcb r.idx.toNat).grant), .bool ((S.tcb r.idx.toNat).call)], 59, false⟩)]) (φ := b8 = b8 ∧ Nat.ble (0 + 19) 19 = true) h41 rfl rfl rfl (by kernel_rfl) ⟨rfl, rfl⟩ fun w42 h43 => ?_
    have hkh43 := h41.known
    refine ⟨keepNil, ?_⟩
    clear h41
    refine dr_batch tabOk tabZ_ok (by repeat (first | with_reducible exact PF.body | with_reducible apply PF.inB | with_reducible apply PF.next)) [(9, {})] [4, 3, 0, 1, 5] (T' := [(4, .pointer (some ⟨b8, 0, none⟩)), (3, .pointer (some ⟨b2, 0, none⟩)), (0, .pointer (some ⟨kb, 0, none⟩)), (1, .agg #[.int .u16 r.idx, .int .u32 r.gen]), (5, .bool true)]) (φ := True) (fuel := 0) h43 (by kernel_rfl) rfl (by kernel_rfl) (by kernel_rfl) ⟨trivial, trivial⟩ trivial fun a44 h45 => ?_
    clear h43
    refine wpAnyK_done (by kernel_rfl) ?_ _
    refine hK36 _ _ ?_
    clear hK36
    refine wp_ret ?_
    try simp only [Exit.then, Exit.inBlock]
    try rw [if_pos trivial]
    exact s_ret tabOk tabZ_ok h45 [(.cell 4 59, {k := 3}), (.tmp 5, {})] (vs := [.agg #[.int .u8 ((S.tcb r.idx.toNat).st), .int .u8 ((S.tcb r.idx.toNat).prio), .int .u16 ((S.tcb r.idx.toNat).wait.idx), .int .u32 ((S.tcb r.idx.toNat).wait.gen), .int .u16 ((S.tcb r.idx.toNat).cs.idx), .int .u32 ((S.tcb r.idx.toNat).cs.gen), .int .u16 ((S.tcb r.idx.toNat).rep.idx), .int .u32 ((S.tcb r.idx.toNat).rep.gen), .int .u64 ((S.tcb r.idx.toNat).badge), .int .u64 ((S.tcb r.idx.toNat).m0), .int .u64 ((S.tcb r.idx.toNat).m1), .int .u64 ((S.tcb r.idx.toNat).m2), .int .u64 ((S.tcb r.idx.toNat).m3), .int .u8 ((S.tcb r.idx.toNat).len), .int .u8 ((S.tcb r.idx.toNat).got), .int .u32 ((S.tcb r.idx.toNat).xfer), .int .u32 ((S.tcb r.idx.toNat).dst), .bool ((S.tcb r.idx.toNat).grant), .bool ((S.tcb r.idx.toNat).call)], .bool true]) (φ := (b8 = b8 ∧ Nat.ble (0 + 19) 19 = true) ∧ True) rfl (by kernel_rfl) ⟨⟨rfl, rfl⟩, trivial⟩ ⟨(by unfold threadP; rw [if_pos ht3]; rfl), h45.frame⟩

theorem stateOf_ok (kb bo bc : Nat) (S : KP) (rS : RI S) (E : Nat → Ent) (h256 : (E 256).ty = 1) (r : Rf) (hr : 0 ≤ r.idx ∧ r.idx ≤ 65535) (w : World) (hb : w.heap[kb]? = some (Blk.obj ⟨kC bo bc S, 90, false⟩)) (hs : w.heap[bo]? = some (Blk.obj ⟨stC E, 131, false⟩)) (hne : kb ≠ bo) :
    Calls Tryd.prog 22 #[.pointer (some ⟨kb, 0, none⟩), .agg #[.int .u16 r.idx, .int .u32 r.gen]] w fun e w' => e = .returned (.int .u8 (threadP S E r).1.st) ∧ Fr [] w w' := by
  refine enter0 (n := 15) (K := []) (T := [(0, .pointer (some ⟨kb, 0, none⟩)), (1, .agg #[.int .u16 r.idx, .int .u32 r.gen])]) (L := [(kb, ⟨kC bo bc S, 90, true⟩), (bo, ⟨stC E, 131, true⟩)]) (args := [.pointer (some ⟨kb, 0, none⟩), .agg #[.int .u16 r.idx, .int .u32 r.gen]]) Tryd.func22 rfl rfl rfl rfl (kcons hb (kcons hs knil)) (by simp; exact hne) (kcons (by intro hq; cases hq) (kcons (by intro hq; cases hq) knil)) ?_
  intro a h
  refine wp_seq_k fun K1 hK1 => ?_
  refine nd_start (l := [0, 1]) rfl ?_
  refine nd_op ?_
  refine op_new tabOk (cells := [.int .u16 r.idx, .int .u32 r.gen]) (ty := 39) (ln := none) (L1 := fun b2 => [(kb, ⟨kC bo bc S, 90, true⟩), (bo, ⟨stC E, 131, true⟩), (b2, ⟨[.int .u16 r.idx, .int .u32 r.gen], 39, false⟩)]) h rfl rfl rfl rfl (by kernel_rfl) (fun _ => rfl) fun b2 w3 a4 h5 hf6 hn7 => ?_
  clear h
  refine nd_batch tabOk tabZ_ok [(1, {})] [3, 0, 1, 4] (T' := [(3, .pointer (some ⟨b2, 0, none⟩)), (0, .pointer (some ⟨kb, 0, none⟩)), (1, .agg #[.int .u16 r.idx, .int .u32 r.gen]), (4, .int .u8 0)]) (φ := True) (rest := []) h5 (by kernel_rfl) rfl trivial fun a8 h9 => ?_
  clear h5
  refine nd_done ?_
  refine hK1 _ _ ?_
  clear hK1
  refine wp_seq_k fun K10 hK10 => ?_
  refine nd_start (l := [0, 1, 2, 3, 4, 5, 6, 7, 8]) rfl ?_
  refine nd_batch tabOk tabZ_ok [(0, {}), (1, {k := 2})] [3, 0, 1, 4, 8, 9] (T' := [(3, .pointer (some ⟨b2, 0, none⟩)), (0, .pointer (some ⟨kb, 0, none⟩)), (1, .agg #[.int .u16 r.idx, .int .u32 r.gen]), (4, .int .u8 0), (8, .pointer (some ⟨kb, 0, none⟩)), (9, .agg #[.int .u16 r.idx, .int .u32 r.gen])]) (φ := (b2 = b2 ∧ Nat.ble (0 + 2) 2 = true) ∧ True) (rest := [2, 3, 4, 5, 6, 7, 8]) h9 (by kernel_rfl) rfl ⟨⟨rfl, rfl⟩, trivial⟩ fun a11 h12 => ?_
  clear h9
  refine nd_op ?_
  refine op_call h12 rfl rfl rfl (callOk Tryd.func25 (by decide) rfl) (args := [.pointer (some ⟨kb, 0, none⟩), .agg #[.int .u16 r.idx, .int .u32 r.gen]]) rfl (thread_ok kb bo bc S rS E h256 r hr _ (h12.kn (k := 0) (blk := ⟨kC bo bc S, 90, true⟩) rfl) (h12.kn (k := 1) (blk := ⟨stC E, 131, true⟩) rfl) hne) ?_
  rintro _ w13 ⟨rfl, hf15⟩
  refine ⟨_, rfl, ?_⟩
  have h14 := (h12.grow hf15).put (d := some 10) (v := .tuple #[.agg #[.int .u8 ((threadP S E r).1.st), .int .u8 ((threadP S E r).1.prio), .int .u16 ((threadP S E r).1.wait.idx), .int .u32 ((threadP S E r).1.wait.gen), .int .u16 ((threadP S E r).1.cs.idx), .int .u32 ((threadP S E r).1.cs.gen), .int .u16 ((threadP S E r).1.rep.idx), .int .u32 ((threadP S E r).1.rep.gen), .int .u64 ((threadP S E r).1.badge), .int .u64 ((threadP S E r).1.m0), .int .u64 ((threadP S E r).1.m1), .int .u64 ((threadP S E r).1.m2), .int .u64 ((threadP S E r).1.m3), .int .u8 ((threadP S E r).1.len), .int .u8 ((threadP S E r).1.got), .int .u32 ((threadP S E r).1.xfer), .int .u32 ((threadP S E r).1.dst), .bool ((threadP S E r).1.grant), .bool ((threadP S E r).1.call)], .bool ((threadP S E r).2)]) (T' := [(10, .tuple #[.agg #[.int .u8 ((threadP S E r).1.st), .int .u8 ((threadP S E r).1.prio), .int .u16 ((threadP S E r).1.wait.idx), .int .u32 ((threadP S E r).1.wait.gen), .int .u16 ((threadP S E r).1.cs.idx), .int .u32 ((threadP S E r).1.cs.gen), .int .u16 ((threadP S E r).1.rep.idx), .int .u32 ((threadP S E r).1.rep.gen), .int .u64 ((threadP S E r).1.badge), .int .u64 ((threadP S E r).1.m0), .int .u64 ((threadP S E r).1.m1), .int .u64 ((threadP S E r).1.m2), .int .u64 ((threadP S E r).1.m3), .int .u8 ((threadP S E r).1.len), .int .u8 ((threadP S E r).1.got), .int .u32 ((threadP S E r).1.xfer), .int .u32 ((threadP S E r).1.dst), .bool ((threadP S E r).1.grant), .bool ((threadP S E r).1.call)], .bool ((threadP S E r).2)]), (3, .pointer (some ⟨b2, 0, none⟩)), (0, .pointer (some ⟨kb, 0, none⟩)), (1, .agg #[.int .u16 r.idx, .int .u32 r.gen]), (4, .int .u8 0), (8, .pointer (some ⟨kb, 0, none⟩)), (9, .agg #[.int .u16 r.idx, .int .u32 r.gen])]) rfl
  clear h12
  refine nd_batch tabOk tabZ_ok [(3, {}), (4, {}), (5, {})] [3, 0, 1, 4, 11, 12] (T' := [(3, .pointer (some ⟨b2, 0, none⟩)), (0, .pointer (some ⟨kb, 0, none⟩)), (1, .agg #[.int .u16 r.idx, .int .u32 r.gen]), (4, .int .u8 0), (11, .agg #[.int .u8 ((threadP S E r).1.st), .int .u8 ((threadP S E r).1.prio), .int .u16 ((threadP S E r).1.wait.idx), .int .u32 ((threadP S E r).1.wait.gen), .int .u16 ((threadP S E r).1.cs.idx), .int .u32 ((threadP S E r).1.cs.gen), .int .u16 ((threadP S E r).1.rep.idx), .int .u32 ((threadP S E r).1.rep.gen), .int .u64 ((threadP S E r).1.badge), .int .u64 ((threadP S E r).1.m0), .int .u64 ((threadP S E r).1.m1), .int .u64 ((threadP S E r).1.m2), .int .u64 ((threadP S E r).1.m3), .int .u8 ((threadP S E r).1.len), .int .u8 ((threadP S E r).1.got), .int .u32 ((threadP S E r).1.xfer), .int .u32 ((threadP S E r).1.dst), .bool ((threadP S E r).1.grant), .bool ((threadP S E r).1.call)]), (12, .bool ((threadP S E r).2))]) (φ := True) (rest := [6, 7, 8]) h14 (by kernel_rfl) rfl trivial fun a16 h17 => ?_
  clear h14
  refine nd_op ?_
  refine op_new tabOk (cells := [.int .u8 0, .int .u8 0, .int .u16 0, .int .u32 0, .int .u16 0, .int .u32 0, .int .u16 0, .int .u32 0, .int .u64 0, .int .u64 0, .int .u64 0, .int .u64 0, .int .u64 0, .int .u8 0, .int .u8 0, .int .u32 0, .int .u32 0, .bool false, .bool false]) (ty := 59) (ln := none) (L1 := fun b18 => [(kb, ⟨kC bo bc S, 90, true⟩), (bo, ⟨stC E, 131, true⟩), (b2, ⟨[.int .u16 r.idx, .int .u32 r.gen], 39, false⟩), (b18, ⟨[.int .u8 0, .int .u8 0, .int .u16 0, .int .u32 0, .int .u16 0, .int .u32 0, .int .u16 0, .int .u32 0, .int .u64 0, .int .u64 0, .int .u64 0, .int .u64 0, .int .u64 0, .int .u8 0, .int .u8 0, .int .u32 0, .int .u32 0, .bool false, .bool false], 59, false⟩)]) h17 rfl rfl rfl rfl (by kernel_rfl) (fun _ => rfl) fun b18 w19 a20 h21 hf22 hn23 => ?_
  clear h17
  refine nd_op ?_
  refine op_store tabOk {k := 3} (L' := [(kb, ⟨kC bo bc S, 90, true⟩), (bo, ⟨stC E, 131, true⟩), (b2, ⟨[.int .u16 r.idx, .int .u32 r.gen], 39, false⟩), (b18, ⟨[.int .u8 ((threadP S E r).1.st), .int .u8 ((threadP S E r).1.prio), .int .u16 ((threadP S E r).1.wait.idx), .int .u32 ((threadP S E r).1.wait.gen), .int .u16 ((threadP S E r).1.cs.idx), .int .u32 ((threadP S E r).1.cs.gen), .int .u16 ((threadP S E r).1.rep.idx), .int .u32 ((threadP S E r).1.rep.gen), .int .u64 ((threadP S E r).1.badge), .int .u64 ((threadP S E r).1.m0), .int .u64 ((threadP S E r).1.m1), .int .u64 ((threadP S E r).1.m2), .int .u64 ((threadP S E r).1.m3), .int .u8 ((threadP S E r).1.len), .int .u8 ((threadP S E r).1.got), .int .u32 ((threadP S E r).1.xfer), .int .u32 ((threadP S E r).1.dst), .bool ((threadP S E r).1.grant), .bool ((threadP S E r).1.call)], 59, false⟩)]) (φ := b18 = b18 ∧ Nat.ble (0 + 19) 19 = true) h21 rfl rfl rfl (by kernel_rfl) ⟨rfl, rfl⟩ fun w24 h25 => ?_
  clear h21
  refine nd_batch tabOk tabZ_ok [(8, {})] [5, 3, 0, 1, 4] (T' := [(5, .pointer (some ⟨b18, 0, none⟩)), (3, .pointer (some ⟨b2, 0, none⟩)), (0, .pointer (some ⟨kb, 0, none⟩)), (1, .agg #[.int .u16 r.idx, .int .u32 r.gen]), (4, .int .u8 0)]) (φ := True) (rest := []) h25 (by kernel_rfl) rfl trivial fun a26 h27 => ?_
  clear h25
  refine nd_done ?_
  refine hK10 _ _ ?_
  clear hK10
  refine wp_seq_k fun K28 hK28 => ?_
  refine nd_start (l := [0, 1, 2]) rfl ?_
  refine nd_batch tabOk tabZ_ok [(0, {}), (1, {k := 3}), (2, {})] [5, 3, 0, 1, 4] (T' := [(5, .pointer (some ⟨b18, 0, none⟩)), (3, .pointer (some ⟨b2, 0, none⟩)), (0, .pointer (some ⟨kb, 0, none⟩)), (1, .agg #[.int .u16 r.idx, .int .u32 r.gen]), (4, .int .u8 ((threadP S E r).1.st))]) (φ := (b18 = b18 ∧ Nat.ble (0 + 1) 19 = true) ∧ True) (rest := []) h27 (by kernel_rfl) rfl ⟨⟨rfl, rfl⟩, trivial⟩ fun a29 h30 => ?_
  clear h27
  refine nd_done ?_
  refine hK28 _ _ ?_
  clear hK28
  refine wp_ret ?_
  try simp only [Exit.then, Exit.inBlock]
  try rw [if_pos trivial]
  exact s_ret tabOk tabZ_ok h30 [(.tmp 4, {})] (vs := [.int .u8 ((threadP S E r).1.st)]) (φ := True) rfl (by kernel_rfl) trivial ⟨rfl, h30.frame⟩

theorem irq_ok (kb bo bc : Nat) (S : KP) (l : Int) (hl : 0 ≤ l ∧ l < 16) (w : World) (hb : w.heap[kb]? = some (Blk.obj ⟨kC bo bc S, 90, false⟩)) :
    Calls Tryd.prog 33 #[.pointer (some ⟨kb, 0, none⟩), .int .i64 l] w fun e w' => e = .returned (.agg (irqC (S.irq l.toNat)).toArray) ∧ Fr [] w w' := by
  refine enter0 (n := 11) (K := []) (T := [(0, .pointer (some ⟨kb, 0, none⟩)), (1, .int .i64 l)]) (L := [(kb, ⟨kC bo bc S, 90, true⟩)]) (args := [.pointer (some ⟨kb, 0, none⟩), .int .i64 l]) Tryd.func33 rfl rfl rfl rfl (kcons hb knil) (by simp) (kcons (by intro hq; cases hq) knil) ?_
  intro a h
  refine wp_seq_k fun K1 hK1 => ?_
  refine nd_start (l := [0]) rfl ?_
  refine nd_op ?_
  refine op_new tabOk (cells := [.int .u16 0, .int .u32 0, .int .u64 0, .bool false]) (ty := 71) (ln := none) (L1 := fun b2 => [(kb, ⟨kC bo bc S, 90, true⟩), (b2, ⟨[.int .u16 0, .int .u32 0, .int .u64 0, .bool false], 71, false⟩)]) h rfl rfl rfl rfl (by kernel_rfl) (fun _ => rfl) fun b2 w3 a4 h5 hf6 hn7 => ?_
  clear h
  refine nd_done ?_
  refine hK1 _ _ ?_
  clear hK1
  refine wp_seq_k fun K8 hK8 => ?_
  refine nd_start (l := [0, 1, 2, 3, 4, 5, 6]) rfl ?_
  refine nd_batch tabOk tabZ_ok [(0, {}), (1, {}), (2, {}), (3, {}), (4, {}), (5, {k := 0, m := 1, vs := [.int .u16 ((S.irq l.toNat).ntfn.idx), .int .u32 ((S.irq l.toNat).ntfn.gen), .int .u64 ((S.irq l.toNat).badge), .bool ((S.irq l.toNat).masked)]})] [4, 0, 1, 10] (T' := [(4, .pointer (some ⟨b2, 0, none⟩)), (0, .pointer (some ⟨kb, 0, none⟩)), (1, .int .i64 l), (10, .agg #[.int .u16 ((S.irq l.toNat).ntfn.idx), .int .u32 ((S.irq l.toNat).ntfn.gen), .int .u64 ((S.irq l.toNat).badge), .bool ((S.irq l.toNat).masked)])]) (φ := (0 ≤ l ∧ l < 16) ∧ (kb = kb ∧ cellsAre (kC bo bc S) (6428 + (l.toNat * 4)) [.int .u16 ((S.irq l.toNat).ntfn.idx), .int .u32 ((S.irq l.toNat).ntfn.gen), .int .u64 ((S.irq l.toNat).badge), .bool ((S.irq l.toNat).masked)]) ∧ True) (rest := [6]) h5 (by kernel_rfl) rfl ⟨⟨by omega, by omega⟩, ⟨rfl, (k_irq (i := l.toNat) (k := 0) (by omega) (by omega) ⟨rfl, rfl, rfl, rfl, trivial⟩)⟩, trivial⟩ fun a9 h10 => ?_
  clear h5
  refine nd_op ?_
  refine op_store tabOk {k := 1} (L' := [(kb, ⟨kC bo bc S, 90, true⟩), (b2, ⟨[.int .u16 ((S.irq l.toNat).ntfn.idx), .int .u32 ((S.irq l.toNat).ntfn.gen), .int .u64 ((S.irq l.toNat).badge), .bool ((S.irq l.toNat).masked)], 71, false⟩)]) (φ := b2 = b2 ∧ Nat.ble (0 + 4) 4 = true) h10 rfl rfl rfl (by kernel_rfl) ⟨rfl, rfl⟩ fun w11 h12 => ?_
  clear h10
  refine nd_done ?_
  refine hK8 _ _ ?_
  clear hK8
  refine wp_ret ?_
  try simp only [Exit.then, Exit.inBlock]
  try rw [if_pos trivial]
  exact s_ret tabOk tabZ_ok h12 [(.cell 4 71, {k := 1})] (vs := [.agg #[.int .u16 ((S.irq l.toNat).ntfn.idx), .int .u32 ((S.irq l.toNat).ntfn.gen), .int .u64 ((S.irq l.toNat).badge), .bool ((S.irq l.toNat).masked)]]) (φ := (b2 = b2 ∧ Nat.ble (0 + 4) 4 = true) ∧ True) rfl (by kernel_rfl) ⟨⟨rfl, rfl⟩, trivial⟩ ⟨rfl, h12.frame⟩

end Go.Proofs.Qxb6500918aDoor
