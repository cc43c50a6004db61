/-
  CapAt. (Made by program: a symbolic walk that prints its steps.)
-/
import Derived.Test.Qxb6500918aDoorP1
import Derived.Test.Qxb6500918aDoorK7
namespace Go.Proofs.Qxb6500918aDoor
open Go.Sx Go.Kn
set_option maxRecDepth 100000
set_option maxHeartbeats 4000000
set_option linter.unusedVariables false
set_option linter.unusedSimpArgs false

/-- What CapAt shows. -/
def capAtP (S : KP) (C : CP) (r : Rf) (ad : Int) : Cp :=
  if typeOfP C.ent r = 3 then (if (lookP C.ent (S.tcb r.idx.toNat).cs ad).2 = 0 then (C.cel (lookP C.ent (S.tcb r.idx.toNat).cs ad).1.toNat).cap else cp0) else cp0

theorem threadE (kb bo bc : Nat) (S : KP) (rS : RI S) {E : Nat → Ent} (h256 : (E 256).ty = 1) (r : Rf) (hr : 0 ≤ r.idx ∧ r.idx ≤ 65535) (w : World) (hb : w.heap[kb]? = some (Blk.obj ⟨kC bo bc S, 90, false⟩)) (hs : w.heap[bo]? = some (Blk.obj ⟨stC E, 131, false⟩)) (hne : kb ≠ bo) {x : Tcb} {b : Bool} (e : threadP S E r = (x, b)) :
    Calls Tryd.prog 25 #[.pointer (some ⟨kb, 0, none⟩), .agg #[.int .u16 r.idx, .int .u32 r.gen]] w fun e w' => e = .returned (.tuple #[.agg (thC x).toArray, .bool b]) ∧ Fr [] w w' := by
  have h := thread_ok kb bo bc S rS E h256 r hr w hb hs hne
  rw [e] at h; exact h

theorem capAt_0 (kb bo bc : Nat) (nd : Nat → Nat) (S : KP) (rS : RI S) (C : CP) (hC : CI C) (r : Rf) (hr : 0 ≤ r.idx ∧ r.idx ≤ 65535) (ad : Int) (had : 0 ≤ ad ∧ ad < 4294967296) (h3 : ¬ typeOfP C.ent r = 3) (w : World) (hb : w.heap[kb]? = some (Blk.obj ⟨kC bo bc S, 90, false⟩)) (hc : CapAt w bo bc nd C) (hdkb : kb ∉ capF bo bc nd C) :
    Calls Tryd.prog 19 #[.pointer (some ⟨kb, 0, none⟩), .agg #[.int .u16 r.idx, .int .u32 r.gen], .int .u32 ad] w fun e w' => e = .returned (.agg (cpC (capAtP S C r ad)).toArray) ∧ Fr [] w w' := by
  have e0 : threadP S C.ent r = (noT, false) := by unfold threadP; rw [if_neg h3]
  refine enter (n := 38) (K := []) (A := fun w => CapAt w bo bc nd C) (F := (capF bo bc nd C)) (T := [(0, .pointer (some ⟨kb, 0, none⟩)), (1, .agg #[.int .u16 r.idx, .int .u32 r.gen]), (2, .int .u32 ad)]) (L := [(kb, ⟨kC bo bc S, 90, true⟩)]) (args := [.pointer (some ⟨kb, 0, none⟩), .agg #[.int .u16 r.idx, .int .u32 r.gen], .int .u32 ad]) Tryd.func19 rfl rfl rfl rfl (kcons hb knil) (by simp) (kcons (by intro hq; cases hq) knil) hc CapAt.stable hc.low (kcons (by intro hq; cases hq) knil) ?_
  intro a h
  refine wp_seq_k fun K1 hK1 => ?_
  refine nd_start (l := [0, 1]) rfl ?_
  refine nd_op ?_
  refine op_new tabOk (cells := [.int .u16 r.idx, .int .u32 r.gen]) (ty := 39) (ln := none) (L1 := fun b2 => [(kb, ⟨kC bo bc S, 90, true⟩), (b2, ⟨[.int .u16 r.idx, .int .u32 r.gen], 39, false⟩)]) h rfl rfl rfl rfl (by kernel_rfl) (fun _ => rfl) fun b2 w3 a4 h5 hf6 hn7 => ?_
  clear h
  refine nd_op ?_
  refine op_new tabOk (cells := [.int .u8 0, .int .u16 0, .int .u32 0, .int .u8 0, .int .u64 0]) (ty := 49) (ln := none) (L1 := fun b8 => [(kb, ⟨kC bo bc S, 90, true⟩), (b2, ⟨[.int .u16 r.idx, .int .u32 r.gen], 39, false⟩), (b8, ⟨[.int .u8 0, .int .u16 0, .int .u32 0, .int .u8 0, .int .u64 0], 49, false⟩)]) h5 rfl rfl rfl rfl (by kernel_rfl) (fun _ => rfl) fun b8 w9 a10 h11 hf12 hn13 => ?_
  clear h5
  refine nd_done ?_
  refine hK1 _ _ ?_
  clear hK1
  refine wp_seq_k fun K14 hK14 => ?_
  refine wp_seq_k fun K15 hK15 => ?_
  refine nd_start (l := [0, 1, 2, 3, 4, 5, 6, 7, 8]) rfl ?_
  refine nd_batch tabOk tabZ_ok [(0, {}), (1, {k := 1})] [6, 4, 0, 1, 2, 12, 13] (T' := [(6, .pointer (some ⟨b8, 0, none⟩)), (4, .pointer (some ⟨b2, 0, none⟩)), (0, .pointer (some ⟨kb, 0, none⟩)), (1, .agg #[.int .u16 r.idx, .int .u32 r.gen]), (2, .int .u32 ad), (12, .pointer (some ⟨kb, 0, none⟩)), (13, .agg #[.int .u16 r.idx, .int .u32 r.gen])]) (φ := (b2 = b2 ∧ Nat.ble (0 + 2) 2 = true) ∧ True) (rest := [2, 3, 4, 5, 6, 7, 8]) h11 (by kernel_rfl) rfl ⟨⟨rfl, rfl⟩, trivial⟩ fun a16 h17 => ?_
  clear h11
  refine nd_op ?_
  refine op_call h17 rfl rfl rfl (callOk Tryd.func25 (by decide) rfl) (args := [.pointer (some ⟨kb, 0, none⟩), .agg #[.int .u16 r.idx, .int .u32 r.gen]]) rfl (threadE kb bo bc S rS hC.reg.1 r hr _ (h17.kn (k := 0) (blk := ⟨kC bo bc S, 90, true⟩) rfl) h17.inv.st (fun e => hdkb (mem_capF.2 (.inl e))) e0) ?_
  rintro _ w18 ⟨rfl, hf20⟩
  refine ⟨_, rfl, ?_⟩
  have h19 := (h17.grow hf20).put (d := some 14) (v := .tuple #[.agg #[.int .u8 noT.st, .int .u8 noT.prio, .int .u16 noT.wait.idx, .int .u32 noT.wait.gen, .int .u16 noT.cs.idx, .int .u32 noT.cs.gen, .int .u16 noT.rep.idx, .int .u32 noT.rep.gen, .int .u64 noT.badge, .int .u64 noT.m0, .int .u64 noT.m1, .int .u64 noT.m2, .int .u64 noT.m3, .int .u8 noT.len, .int .u8 noT.got, .int .u32 noT.xfer, .int .u32 noT.dst, .bool noT.grant, .bool noT.call], .bool false]) (T' := [(14, .tuple #[.agg #[.int .u8 noT.st, .int .u8 noT.prio, .int .u16 noT.wait.idx, .int .u32 noT.wait.gen, .int .u16 noT.cs.idx, .int .u32 noT.cs.gen, .int .u16 noT.rep.idx, .int .u32 noT.rep.gen, .int .u64 noT.badge, .int .u64 noT.m0, .int .u64 noT.m1, .int .u64 noT.m2, .int .u64 noT.m3, .int .u8 noT.len, .int .u8 noT.got, .int .u32 noT.xfer, .int .u32 noT.dst, .bool noT.grant, .bool noT.call], .bool false]), (6, .pointer (some ⟨b8, 0, none⟩)), (4, .pointer (some ⟨b2, 0, none⟩)), (0, .pointer (some ⟨kb, 0, none⟩)), (1, .agg #[.int .u16 r.idx, .int .u32 r.gen]), (2, .int .u32 ad), (12, .pointer (some ⟨kb, 0, none⟩)), (13, .agg #[.int .u16 r.idx, .int .u32 r.gen])]) rfl
  clear h17
  refine nd_batch tabOk tabZ_ok [(3, {}), (4, {}), (5, {})] [6, 4, 0, 1, 2, 15, 16] (T' := [(6, .pointer (some ⟨b8, 0, none⟩)), (4, .pointer (some ⟨b2, 0, none⟩)), (0, .pointer (some ⟨kb, 0, none⟩)), (1, .agg #[.int .u16 r.idx, .int .u32 r.gen]), (2, .int .u32 ad), (15, .agg #[.int .u8 noT.st, .int .u8 noT.prio, .int .u16 noT.wait.idx, .int .u32 noT.wait.gen, .int .u16 noT.cs.idx, .int .u32 noT.cs.gen, .int .u16 noT.rep.idx, .int .u32 noT.rep.gen, .int .u64 noT.badge, .int .u64 noT.m0, .int .u64 noT.m1, .int .u64 noT.m2, .int .u64 noT.m3, .int .u8 noT.len, .int .u8 noT.got, .int .u32 noT.xfer, .int .u32 noT.dst, .bool noT.grant, .bool noT.call]), (16, .bool false)]) (φ := True) (rest := [6, 7, 8]) h19 (by kernel_rfl) rfl trivial fun a21 h22 => ?_
  clear h19
  refine nd_op ?_
  refine op_new tabOk (cells := [.int .u8 0, .int .u8 0, .int .u16 0, .int .u32 0, .int .u16 0, .int .u32 0, .int .u16 0, .int .u32 0, .int .u64 0, .int .u64 0, .int .u64 0, .int .u64 0, .int .u64 0, .int .u8 0, .int .u8 0, .int .u32 0, .int .u32 0, .bool false, .bool false]) (ty := 59) (ln := none) (L1 := fun b23 => [(kb, ⟨kC bo bc S, 90, true⟩), (b2, ⟨[.int .u16 r.idx, .int .u32 r.gen], 39, false⟩), (b8, ⟨[.int .u8 0, .int .u16 0, .int .u32 0, .int .u8 0, .int .u64 0], 49, false⟩), (b23, ⟨[.int .u8 0, .int .u8 0, .int .u16 0, .int .u32 0, .int .u16 0, .int .u32 0, .int .u16 0, .int .u32 0, .int .u64 0, .int .u64 0, .int .u64 0, .int .u64 0, .int .u64 0, .int .u8 0, .int .u8 0, .int .u32 0, .int .u32 0, .bool false, .bool false], 59, false⟩)]) h22 rfl rfl rfl rfl (by kernel_rfl) (fun _ => rfl) fun b23 w24 a25 h26 hf27 hn28 => ?_
  clear h22
  refine nd_op ?_
  refine op_store tabOk {k := 3} (L' := [(kb, ⟨kC bo bc S, 90, true⟩), (b2, ⟨[.int .u16 r.idx, .int .u32 r.gen], 39, false⟩), (b8, ⟨[.int .u8 0, .int .u16 0, .int .u32 0, .int .u8 0, .int .u64 0], 49, false⟩), (b23, ⟨[.int .u8 noT.st, .int .u8 noT.prio, .int .u16 noT.wait.idx, .int .u32 noT.wait.gen, .int .u16 noT.cs.idx, .int .u32 noT.cs.gen, .int .u16 noT.rep.idx, .int .u32 noT.rep.gen, .int .u64 noT.badge, .int .u64 noT.m0, .int .u64 noT.m1, .int .u64 noT.m2, .int .u64 noT.m3, .int .u8 noT.len, .int .u8 noT.got, .int .u32 noT.xfer, .int .u32 noT.dst, .bool noT.grant, .bool noT.call], 59, false⟩)]) (φ := b23 = b23 ∧ Nat.ble (0 + 19) 19 = true) h26 rfl rfl rfl (by kernel_rfl) ⟨rfl, rfl⟩ fun w29 h30 => ?_
  clear h26
  refine nd_batch tabOk tabZ_ok [(8, {})] [7, 6, 4, 0, 1, 2, 8] (T' := [(7, .pointer (some ⟨b23, 0, none⟩)), (6, .pointer (some ⟨b8, 0, none⟩)), (4, .pointer (some ⟨b2, 0, none⟩)), (0, .pointer (some ⟨kb, 0, none⟩)), (1, .agg #[.int .u16 r.idx, .int .u32 r.gen]), (2, .int .u32 ad), (8, .bool false)]) (φ := True) (rest := []) h30 (by kernel_rfl) rfl trivial fun a31 h32 => ?_
  clear h30
  refine nd_done ?_
  refine hK15 _ _ ?_
  clear hK15
  refine wp_seq_k fun K33 hK33 => ?_
  refine nd_start (l := [0]) rfl ?_
  refine nd_batch tabOk tabZ_ok [(0, {})] [7, 6, 4, 0, 1, 2, 8, 17] (T' := [(7, .pointer (some ⟨b23, 0, none⟩)), (6, .pointer (some ⟨b8, 0, none⟩)), (4, .pointer (some ⟨b2, 0, none⟩)), (0, .pointer (some ⟨kb, 0, none⟩)), (1, .agg #[.int .u16 r.idx, .int .u32 r.gen]), (2, .int .u32 ad), (8, .bool false), (17, .bool false)]) (φ := True) (rest := []) h32 (by kernel_rfl) rfl trivial fun a34 h35 => ?_
  clear h32
  refine nd_done ?_
  refine hK33 _ _ ?_
  clear hK33
  refine c_false h35 rfl ?_
  refine wp_skip ?_
  refine hK14 _ _ ?_
  clear hK14
  refine wp_seq_k fun K36 hK36 => ?_
  refine nd_start (l := [0, 1]) rfl ?_
  refine nd_batch tabOk tabZ_ok [(0, {})] [7, 6, 4, 0, 1, 2, 8, 37] (T' := [(7, .pointer (some ⟨b23, 0, none⟩)), (6, .pointer (some ⟨b8, 0, none⟩)), (4, .pointer (some ⟨b2, 0, none⟩)), (0, .pointer (some ⟨kb, 0, none⟩)), (1, .agg #[.int .u16 r.idx, .int .u32 r.gen]), (2, .int .u32 ad), (8, .bool false), (37, .agg #[.int .u8 0, .int .u16 0, .int .u32 0, .int .u8 0, .int .u64 0])]) (φ := True) (rest := [1]) h35 (by kernel_rfl) rfl trivial fun a37 h38 => ?_
  clear h35
  refine nd_op ?_
  refine op_store tabOk {k := 2} (L' := [(kb, ⟨kC bo bc S, 90, true⟩), (b2, ⟨[.int .u16 r.idx, .int .u32 r.gen], 39, false⟩), (b8, ⟨[.int .u8 0, .int .u16 0, .int .u32 0, .int .u8 0, .int .u64 0], 49, false⟩), (b23, ⟨[.int .u8 noT.st, .int .u8 noT.prio, .int .u16 noT.wait.idx, .int .u32 noT.wait.gen, .int .u16 noT.cs.idx, .int .u32 noT.cs.gen, .int .u16 noT.rep.idx, .int .u32 noT.rep.gen, .int .u64 noT.badge, .int .u64 noT.m0, .int .u64 noT.m1, .int .u64 noT.m2, .int .u64 noT.m3, .int .u8 noT.len, .int .u8 noT.got, .int .u32 noT.xfer, .int .u32 noT.dst, .bool noT.grant, .bool noT.call], 59, false⟩)]) (φ := b8 = b8 ∧ Nat.ble (0 + 5) 5 = true) h38 rfl rfl rfl (by kernel_rfl) ⟨rfl, rfl⟩ fun w39 h40 => ?_
  clear h38
  refine nd_done ?_
  refine hK36 _ _ ?_
  clear hK36
  refine wp_ret ?_
  try simp only [Exit.then, Exit.inBlock]
  try rw [if_pos trivial]
  exact s_ret tabOk tabZ_ok h40 [(.cell 6 49, {k := 2})] (vs := [.agg #[.int .u8 0, .int .u16 0, .int .u32 0, .int .u8 0, .int .u64 0]]) (φ := (b8 = b8 ∧ Nat.ble (0 + 5) 5 = true) ∧ True) rfl (by kernel_rfl) ⟨⟨rfl, rfl⟩, trivial⟩ ⟨(by unfold capAtP; rw [if_neg h3]; rfl), h40.frame⟩

theorem capAt_1 (kb bo bc : Nat) (nd : Nat → Nat) (S : KP) (rS : RI S) (C : CP) (hC : CI C) (r : Rf) (hr : 0 ≤ r.idx ∧ r.idx ≤ 65535) (ad : Int) (had : 0 ≤ ad ∧ ad < 4294967296) (h3 : typeOfP C.ent r = 3) (el : lookP C.ent (S.tcb r.idx.toNat).cs ad = (-1, 2)) (w : World) (hb : w.heap[kb]? = some (Blk.obj ⟨kC bo bc S, 90, false⟩)) (hc : CapAt w bo bc nd C) (hdkb : kb ∉ capF bo bc nd C) :
    Calls Tryd.prog 19 #[.pointer (some ⟨kb, 0, none⟩), .agg #[.int .u16 r.idx, .int .u32 r.gen], .int .u32 ad] w fun e w' => e = .returned (.agg (cpC (capAtP S C r ad)).toArray) ∧ Fr [] w w' := by
  have hrl := typeOf_lt9 hC.reg.1 hr.1 (by decide) (by decide) h3
  have hci := (rS.t (i := r.idx.toNat) (by omega)).ci
  have e0 : threadP S C.ent r = (S.tcb r.idx.toNat, true) := by unfold threadP; rw [if_pos h3]
  refine enter (n := 38) (K := []) (A := fun w => CapAt w bo bc nd C) (F := (capF bo bc nd C)) (T := [(0, .pointer (some ⟨kb, 0, none⟩)), (1, .agg #[.int .u16 r.idx, .int .u32 r.gen]), (2, .int .u32 ad)]) (L := [(kb, ⟨kC bo bc S, 90, true⟩)]) (args := [.pointer (some ⟨kb, 0, none⟩), .agg #[.int .u16 r.idx, .int .u32 r.gen], .int .u32 ad]) Tryd.func19 rfl rfl rfl rfl (kcons hb knil) (by simp) (kcons (by intro hq; cases hq) knil) hc CapAt.stable hc.low (kcons (by intro hq; cases hq) knil) ?_
  intro a h
  refine wp_seq_k fun K1 hK1 => ?_
  refine nd_start (l := [0, 1]) rfl ?_
  refine nd_op ?_
  refine op_new tabOk (cells := [.int .u16 r.idx, .int .u32 r.gen]) (ty := 39) (ln := none) (L1 := fun b2 => [(kb, ⟨kC bo bc S, 90, true⟩), (b2, ⟨[.int .u16 r.idx, .int .u32 r.gen], 39, false⟩)]) h rfl rfl rfl rfl (by kernel_rfl) (fun _ => rfl) fun b2 w3 a4 h5 hf6 hn7 => ?_
  clear h
  refine nd_op ?_
  refine op_new tabOk (cells := [.int .u8 0, .int .u16 0, .int .u32 0, .int .u8 0, .int .u64 0]) (ty := 49) (ln := none) (L1 := fun b8 => [(kb, ⟨kC bo bc S, 90, true⟩), (b2, ⟨[.int .u16 r.idx, .int .u32 r.gen], 39, false⟩), (b8, ⟨[.int .u8 0, .int .u16 0, .int .u32 0, .int .u8 0, .int .u64 0], 49, false⟩)]) h5 rfl rfl rfl rfl (by kernel_rfl) (fun _ => rfl) fun b8 w9 a10 h11 hf12 hn13 => ?_
  clear h5
  refine nd_done ?_
  refine hK1 _ _ ?_
  clear hK1
  refine wp_seq_k fun K14 hK14 => ?_
  refine wp_seq_k fun K15 hK15 => ?_
  refine nd_start (l := [0, 1, 2, 3, 4, 5, 6, 7, 8]) rfl ?_
  refine nd_batch tabOk tabZ_ok [(0, {}), (1, {k := 1})] [6, 4, 0, 1, 2, 12, 13] (T' := [(6, .pointer (some ⟨b8, 0, none⟩)), (4, .pointer (some ⟨b2, 0, none⟩)), (0, .pointer (some ⟨kb, 0, none⟩)), (1, .agg #[.int .u16 r.idx, .int .u32 r.gen]), (2, .int .u32 ad), (12, .pointer (some ⟨kb, 0, none⟩)), (13, .agg #[.int .u16 r.idx, .int .u32 r.gen])]) (φ := (b2 = b2 ∧ Nat.ble (0 + 2) 2 = true) ∧ True) (rest := [2, 3, 4, 5, 6, 7, 8]) h11 (by kernel_rfl) rfl ⟨⟨rfl, rfl⟩, trivial⟩ fun a16 h17 => ?_
  clear h11
  refine nd_op ?_
  refine op_call h17 rfl rfl rfl (callOk Tryd.func25 (by decide) rfl) (args := [.pointer (some ⟨kb, 0, none⟩), .agg #[.int .u16 r.idx, .int .u32 r.gen]]) rfl (threadE kb bo bc S rS hC.reg.1 r hr _ (h17.kn (k := 0) (blk := ⟨kC bo bc S, 90, true⟩) rfl) h17.inv.st (fun e => hdkb (mem_capF.2 (.inl e))) e0) ?_
  rintro _ w18 ⟨rfl, hf20⟩
  refine ⟨_, rfl, ?_⟩
  have h19 := (h17.grow hf20).put (d := some 14) (v := .tuple #[.agg #[.int .u8 ((S.tcb r.idx.toNat).st), .int .u8 ((S.tcb r.idx.toNat).prio), .int .u16 ((S.tcb r.idx.toNat).wait.idx), .int .u32 ((S.tcb r.idx.toNat).wait.gen), .int .u16 ((S.tcb r.idx.toNat).cs.idx), .int .u32 ((S.tcb r.idx.toNat).cs.gen), .int .u16 ((S.tcb r.idx.toNat).rep.idx), .int .u32 ((S.tcb r.idx.toNat).rep.gen), .int .u64 ((S.tcb r.idx.toNat).badge), .int .u64 ((S.tcb r.idx.toNat).m0), .int .u64 ((S.tcb r.idx.toNat).m1), .int .u64 ((S.tcb r.idx.toNat).m2), .int .u64 ((S.tcb r.idx.toNat).m3), .int .u8 ((S.tcb r.idx.toNat).len), .int .u8 ((S.tcb r.idx.toNat).got), .int .u32 ((S.tcb r.idx.toNat).xfer), .int .u32 ((S.tcb r.idx.toNat).dst), .bool ((S.tcb r.idx.toNat).grant), .bool ((S.tcb r.idx.toNat).call)], .bool true]) (T' := [(14, .tuple #[.agg #[.int .u8 ((S.tcb r.idx.toNat).st), .int .u8 ((S.tcb r.idx.toNat).prio), .int .u16 ((S.tcb r.idx.toNat).wait.idx), .int .u32 ((S.tcb r.idx.toNat).wait.gen), .int .u16 ((S.tcb r.idx.toNat).cs.idx), .int .u32 ((S.tcb r.idx.toNat).cs.gen), .int .u16 ((S.tcb r.idx.toNat).rep.idx), .int .u32 ((S.tcb r.idx.toNat).rep.gen), .int .u64 ((S.tcb r.idx.toNat).badge), .int .u64 ((S.tcb r.idx.toNat).m0), .int .u64 ((S.tcb r.idx.toNat).m1), .int .u64 ((S.tcb r.idx.toNat).m2), .int .u64 ((S.tcb r.idx.toNat).m3), .int .u8 ((S.tcb r.idx.toNat).len), .int .u8 ((S.tcb r.idx.toNat).got), .int .u32 ((S.tcb r.idx.toNat).xfer), .int .u32 ((S.tcb r.idx.toNat).dst), .bool ((S.tcb r.idx.toNat).grant), .bool ((S.tcb r.idx.toNat).call)], .bool true]), (6, .pointer (some ⟨b8, 0, none⟩)), (4, .pointer (some ⟨b2, 0, none⟩)), (0, .pointer (some ⟨kb, 0, none⟩)), (1, .agg #[.int .u16 r.idx, .int .u32 r.gen]), (2, .int .u32 ad), (12, .pointer (some ⟨kb, 0, none⟩)), (13, .agg #[.int .u16 r.idx, .int .u32 r.gen])]) rfl
  clear h17
  refine nd_batch tabOk tabZ_ok [(3, {}), (4, {}), (5, {})] [6, 4, 0, 1, 2, 15, 16] (T' := [(6, .pointer (some ⟨b8, 0, none⟩)), (4, .pointer (some ⟨b2, 0, none⟩)), (0, .pointer (some ⟨kb, 0, none⟩)), (1, .agg #[.int .u16 r.idx, .int .u32 r.gen]), (2, .int .u32 ad), (15, .agg #[.int .u8 ((S.tcb r.idx.toNat).st), .int .u8 ((S.tcb r.idx.toNat).prio), .int .u16 ((S.tcb r.idx.toNat).wait.idx), .int .u32 ((S.tcb r.idx.toNat).wait.gen), .int .u16 ((S.tcb r.idx.toNat).cs.idx), .int .u32 ((S.tcb r.idx.toNat).cs.gen), .int .u16 ((S.tcb r.idx.toNat).rep.idx), .int .u32 ((S.tcb r.idx.toNat).rep.gen), .int .u64 ((S.tcb r.idx.toNat).badge), .int .u64 ((S.tcb r.idx.toNat).m0), .int .u64 ((S.tcb r.idx.toNat).m1), .int .u64 ((S.tcb r.idx.toNat).m2), .int .u64 ((S.tcb r.idx.toNat).m3), .int .u8 ((S.tcb r.idx.toNat).len), .int .u8 ((S.tcb r.idx.toNat).got), .int .u32 ((S.tcb r.idx.toNat).xfer), .int .u32 ((S.tcb r.idx.toNat).dst), .bool ((S.tcb r.idx.toNat).grant), .bool ((S.tcb r.idx.toNat).call)]), (16, .bool true)]) (φ := True) (rest := [6, 7, 8]) h19 (by kernel_rfl) rfl trivial fun a21 h22 => ?_
  clear h19
  refine nd_op ?_
  refine op_new tabOk (cells := [.int .u8 0, .int .u8 0, .int .u16 0, .int .u32 0, .int .u16 0, .int .u32 0, .int .u16 0, .int .u32 0, .int .u64 0, .int .u64 0, .int .u64 0, .int .u64 0, .int .u64 0, .int .u8 0, .int .u8 0, .int .u32 0, .int .u32 0, .bool false, .bool false]) (ty := 59) (ln := none) (L1 := fun b23 => [(kb, ⟨kC bo bc S, 90, true⟩), (b2, ⟨[.int .u16 r.idx, .int .u32 r.gen], 39, false⟩), (b8, ⟨[.int .u8 0, .int .u16 0, .int .u32 0, .int .u8 0, .int .u64 0], 49, false⟩), (b23, ⟨[.int .u8 0, .int .u8 0, .int .u16 0, .int .u32 0, .int .u16 0, .int .u32 0, .int .u16 0, .int .u32 0, .int .u64 0, .int .u64 0, .int .u64 0, .int .u64 0, .int .u64 0, .int .u8 0, .int .u8 0, .int .u32 0, .int .u32 0, .bool false, .bool false], 59, false⟩)]) h22 rfl rfl rfl rfl (by kernel_rfl) (fun _ => rfl) fun b23 w24 a25 h26 hf27 hn28 => ?_
  clear h22
  refine nd_op ?_
  refine op_store tabOk {k := 3} (L' := [(kb, ⟨kC bo bc S, 90, true⟩), (b2, ⟨[.int .u16 r.idx, .int .u32 r.gen], 39, false⟩), (b8, ⟨[.int .u8 0, .int .u16 0, .int .u32 0, .int .u8 0, .int .u64 0], 49, false⟩), (b23, ⟨[.int .u8 ((S.tcb r.idx.toNat).st), .int .u8 ((S.tcb r.idx.toNat).prio), .int .u16 ((S.tcb r.idx.toNat).wait.idx), .int .u32 ((S.tcb r.idx.toNat).wait.gen), .int .u16 ((S.tcb r.idx.toNat).cs.idx), .int .u32 ((S.tcb r.idx.toNat).cs.gen), .int .u16 ((S.tcb r.idx.toNat).rep.idx), .int .u32 ((S.tcb r.idx.toNat).rep.gen), .int .u64 ((S.tcb r.idx.toNat).badge), .int .u64 ((S.tcb r.idx.toNat).m0), .int .u64 ((S.tcb r.idx.toNat).m1), .int .u64 ((S.tcb r.idx.toNat).m2), .int .u64 ((S.tcb r.idx.toNat).m3), .int .u8 ((S.tcb r.idx.toNat).len), .int .u8 ((S.tcb r.idx.toNat).got), .int .u32 ((S.tcb r.idx.toNat).xfer), .int .u32 ((S.tcb r.idx.toNat).dst), .bool ((S.tcb r.idx.toNat).grant), .bool ((S.tcb r.idx.toNat).call)], 59, false⟩)]) (φ := b23 = b23 ∧ Nat.ble (0 + 19) 19 = true) h26 rfl rfl rfl (by kernel_rfl) ⟨rfl, rfl⟩ fun w29 h30 => ?_
  clear h26
  refine nd_batch tabOk tabZ_ok [(8, {})] [7, 6, 4, 0, 1, 2, 8] (T' := [(7, .pointer (some ⟨b23, 0, none⟩)), (6, .pointer (some ⟨b8, 0, none⟩)), (4, .pointer (some ⟨b2, 0, none⟩)), (0, .pointer (some ⟨kb, 0, none⟩)), (1, .agg #[.int .u16 r.idx, .int .u32 r.gen]), (2, .int .u32 ad), (8, .bool true)]) (φ := True) (rest := []) h30 (by kernel_rfl) rfl trivial fun a31 h32 => ?_
  clear h30
  refine nd_done ?_
  refine hK15 _ _ ?_
  clear hK15
  refine wp_seq_k fun K33 hK33 => ?_
  refine nd_start (l := [0]) rfl ?_
  refine nd_batch tabOk tabZ_ok [(0, {})] [7, 6, 4, 0, 1, 2, 8, 17] (T' := [(7, .pointer (some ⟨b23, 0, none⟩)), (6, .pointer (some ⟨b8, 0, none⟩)), (4, .pointer (some ⟨b2, 0, none⟩)), (0, .pointer (some ⟨kb, 0, none⟩)), (1, .agg #[.int .u16 r.idx, .int .u32 r.gen]), (2, .int .u32 ad), (8, .bool true), (17, .bool true)]) (φ := True) (rest := []) h32 (by kernel_rfl) rfl trivial fun a34 h35 => ?_
  clear h32
  refine nd_done ?_
  refine hK33 _ _ ?_
  clear hK33
  refine c_true h35 rfl ?_
  refine wp_seq_k fun K36 hK36 => ?_
  refine dr_start (KB := [kb, b2, b8, b23]) (Bi := [[0, 1, 2, 3], [0, 1, 2, 3], [0, 1, 2, 3], [0, 1, 2, 3], [0, 1, 2, 3], [0, 1, 2, 3], [0, 1, 2, 3], [], [0, 1, 2, 3], [0, 1, 2, 3], [0, 1, 2, 3], [0, 1, 2, 3], [0, 1, 2, 3]]) mixed h35 fun w37 h38 => ?_
  clear h35
  refine dr_batch tabOk tabZ_ok (by repeat (first | with_reducible exact PF.body | with_reducible apply PF.inB | with_reducible apply PF.next)) [(0, {}), (1, {}), (2, {}), (3, {k := 0, m := 1, vs := [.pointer (some ⟨bc, 0, none⟩)], p := 0}), (4, {}), (5, {k := 3, p := 3}), (6, {})] [7, 6, 4, 0, 1, 2, 8, 22, 24, 25] (T' := [(7, .pointer (some ⟨b23, 0, none⟩)), (6, .pointer (some ⟨b8, 0, none⟩)), (4, .pointer (some ⟨b2, 0, none⟩)), (0, .pointer (some ⟨kb, 0, none⟩)), (1, .agg #[.int .u16 r.idx, .int .u32 r.gen]), (2, .int .u32 ad), (8, .bool true), (22, .pointer (some ⟨bc, 0, none⟩)), (24, .agg #[.int .u16 ((S.tcb r.idx.toNat).cs.idx), .int .u32 ((S.tcb r.idx.toNat).cs.gen)]), (25, .int .u32 ad)]) (φ := (kb = kb ∧ cellsAre (kC bo bc S) 1 [.pointer (some ⟨bc, 0, none⟩)]) ∧ (b23 = b23 ∧ Nat.ble (4 + 2) 19 = true) ∧ True) (fuel := 6) h38 (by kernel_rfl) rfl (by kernel_rfl) (by kernel_rfl) ⟨trivial, trivial, trivial, rfl, trivial, rfl, trivial, trivial⟩ ⟨⟨rfl, k_caps⟩, ⟨rfl, rfl⟩, trivial⟩ fun a40 h41 => ?_
  clear h38
  refine wpAnyK_one (i := 7) (fuel := 5) (by kernel_rfl) ?_
  refine op_call h41 rfl rfl rfl (callOk Tryd.func39 (by decide) rfl) (args := [.pointer (some ⟨bc, 0, none⟩), .agg #[.int .u16 ((S.tcb r.idx.toNat).cs.idx), .int .u32 ((S.tcb r.idx.toNat).cs.gen)], .int .u32 ad]) rfl (lookupE (E := C.ent) bo bc nd C.pres (S.tcb r.idx.toNat).cs ad ⟨by omega, by omega⟩ had _ h41.inv.sp h41.inv.st h41.inv.ap.symm el) ?_
  rintro _ w42 ⟨rfl, hf44⟩
  refine ⟨_, rfl, ?_⟩
  have h43 := (h41.grow hf44).put (d := some 26) (v := .tuple #[.int .i64 (-1), .int .u8 2]) (T' := [(26, .tuple #[.int .i64 (-1), .int .u8 2]), (7, .pointer (some ⟨b23, 0, none⟩)), (6, .pointer (some ⟨b8, 0, none⟩)), (4, .pointer (some ⟨b2, 0, none⟩)), (0, .pointer (some ⟨kb, 0, none⟩)), (1, .agg #[.int .u16 r.idx, .int .u32 r.gen]), (2, .int .u32 ad), (8, .bool true), (22, .pointer (some ⟨bc, 0, none⟩)), (24, .agg #[.int .u16 ((S.tcb r.idx.toNat).cs.idx), .int .u32 ((S.tcb r.idx.toNat).cs.gen)]), (25, .int .u32 ad)]) rfl
  refine ⟨keepNil, ?_⟩
  clear h41
  refine dr_batch tabOk tabZ_ok (by repeat (first | with_reducible exact PF.body | with_reducible apply PF.inB | with_reducible apply PF.next)) [(8, {}), (9, {}), (10, {}), (11, {}), (12, {})] [7, 6, 4, 0, 1, 2, 8, 9, 10] (T' := [(7, .pointer (some ⟨b23, 0, none⟩)), (6, .pointer (some ⟨b8, 0, none⟩)), (4, .pointer (some ⟨b2, 0, none⟩)), (0, .pointer (some ⟨kb, 0, none⟩)), (1, .agg #[.int .u16 r.idx, .int .u32 r.gen]), (2, .int .u32 ad), (8, .bool true), (9, .int .i64 (-1)), (10, .int .u8 2)]) (φ := True) (fuel := 0) h43 (by kernel_rfl) rfl (by kernel_rfl) (by kernel_rfl) ⟨trivial, trivial, trivial, trivial, trivial, trivial⟩ trivial fun a45 h46 => ?_
  clear h43
  refine wpAnyK_done (by kernel_rfl) ?_ _
  refine hK36 _ _ ?_
  clear hK36
  refine wp_seq_k fun K47 hK47 => ?_
  refine nd_start (l := [0, 1]) rfl ?_
  refine nd_batch tabOk tabZ_ok [(0, {}), (1, {})] [7, 6, 4, 0, 1, 2, 8, 9, 10, 30] (T' := [(7, .pointer (some ⟨b23, 0, none⟩)), (6, .pointer (some ⟨b8, 0, none⟩)), (4, .pointer (some ⟨b2, 0, none⟩)), (0, .pointer (some ⟨kb, 0, none⟩)), (1, .agg #[.int .u16 r.idx, .int .u32 r.gen]), (2, .int .u32 ad), (8, .bool true), (9, .int .i64 (-1)), (10, .int .u8 2), (30, .bool false)]) (φ := True) (rest := []) h46 (by kernel_rfl) rfl trivial fun a48 h49 => ?_
  clear h46
  refine nd_done ?_
  refine hK47 _ _ ?_
  clear hK47
  refine c_false h49 rfl ?_
  refine wp_skip ?_
  refine hK14 _ _ ?_
  clear hK14
  refine wp_seq_k fun K50 hK50 => ?_
  refine nd_start (l := [0, 1]) rfl ?_
  refine nd_batch tabOk tabZ_ok [(0, {})] [7, 6, 4, 0, 1, 2, 8, 9, 10, 37] (T' := [(7, .pointer (some ⟨b23, 0, none⟩)), (6, .pointer (some ⟨b8, 0, none⟩)), (4, .pointer (some ⟨b2, 0, none⟩)), (0, .pointer (some ⟨kb, 0, none⟩)), (1, .agg #[.int .u16 r.idx, .int .u32 r.gen]), (2, .int .u32 ad), (8, .bool true), (9, .int .i64 (-1)), (10, .int .u8 2), (37, .agg #[.int .u8 0, .int .u16 0, .int .u32 0, .int .u8 0, .int .u64 0])]) (φ := True) (rest := [1]) h49 (by kernel_rfl) rfl trivial fun a51 h52 => ?_
  clear h49
  refine nd_op ?_
  refine op_store tabOk {k := 2} (L' := [(kb, ⟨kC bo bc S, 90, true⟩), (b2, ⟨[.int .u16 r.idx, .int .u32 r.gen], 39, false⟩), (b8, ⟨[.int .u8 0, .int .u16 0, .int .u32 0, .int .u8 0, .int .u64 0], 49, false⟩), (b23, ⟨[.int .u8 ((S.tcb r.idx.toNat).st), .int .u8 ((S.tcb r.idx.toNat).prio), .int .u16 ((S.tcb r.idx.toNat).wait.idx), .int .u32 ((S.tcb r.idx.toNat).wait.gen), .int .u16 ((S.tcb r.idx.toNat).cs.idx), .int .u32 ((S.tcb r.idx.toNat).cs.gen), .int .u16 ((S.tcb r.idx.toNat).rep.idx), .int .u32 ((S.tcb r.idx.toNat).rep.gen), .int .u64 ((S.tcb r.idx.toNat).badge), .int .u64 ((S.tcb r.idx.toNat).m0), .int .u64 ((S.tcb r.idx.toNat).m1), .int .u64 ((S.tcb r.idx.toNat).m2), .int .u64 ((S.tcb r.idx.toNat).m3), .int .u8 ((S.tcb r.idx.toNat).len), .int .u8 ((S.tcb r.idx.toNat).got), .int .u32 ((S.tcb r.idx.toNat).xfer), .int .u32 ((S.tcb r.idx.toNat).dst), .bool ((S.tcb r.idx.toNat).grant), .bool ((S.tcb r.idx.toNat).call)], 59, false⟩)]) (φ := b8 = b8 ∧ Nat.ble (0 + 5) 5 = true) h52 rfl rfl rfl (by kernel_rfl) ⟨rfl, rfl⟩ fun w53 h54 => ?_
  clear h52
  refine nd_done ?_
  refine hK50 _ _ ?_
  clear hK50
  refine wp_ret ?_
  try simp only [Exit.then, Exit.inBlock]
  try rw [if_pos trivial]
  exact s_ret tabOk tabZ_ok h54 [(.cell 6 49, {k := 2})] (vs := [.agg #[.int .u8 0, .int .u16 0, .int .u32 0, .int .u8 0, .int .u64 0]]) (φ := (b8 = b8 ∧ Nat.ble (0 + 5) 5 = true) ∧ True) rfl (by kernel_rfl) ⟨⟨rfl, rfl⟩, trivial⟩ ⟨(by unfold capAtP; rw [if_pos h3, el, if_neg (by decide)]; rfl), h54.frame⟩

theorem capAt_2 (kb bo bc : Nat) (nd : Nat → Nat) (S : KP) (rS : RI S) (C : CP) (hC : CI C) (r : Rf) (hr : 0 ≤ r.idx ∧ r.idx ≤ 65535) (ad : Int) (had : 0 ≤ ad ∧ ad < 4294967296) (h3 : typeOfP C.ent r = 3) (i j : Nat) (hi : i < 256) (hj : j < 16) (hp : C.pres i = true) (el : lookP C.ent (S.tcb r.idx.toNat).cs ad = (((i * 16 + j : Nat) : Int), 0)) (w : World) (hb : w.heap[kb]? = some (Blk.obj ⟨kC bo bc S, 90, false⟩)) (hc : CapAt w bo bc nd C) (hdkb : kb ∉ capF bo bc nd C) :
    Calls Tryd.prog 19 #[.pointer (some ⟨kb, 0, none⟩), .agg #[.int .u16 r.idx, .int .u32 r.gen], .int .u32 ad] w fun e w' => e = .returned (.agg (cpC (capAtP S C r ad)).toArray) ∧ Fr [] w w' := by
  have hrl := typeOf_lt9 hC.reg.1 hr.1 (by decide) (by decide) h3
  have hci := (rS.t (i := r.idx.toNat) (by omega)).ci
  have e0 : threadP S C.ent r = (S.tcb r.idx.toNat, true) := by unfold threadP; rw [if_pos h3]
  refine enter (n := 38) (K := []) (A := fun w => CapAt w bo bc nd C) (F := (capF bo bc nd C)) (T := [(0, .pointer (some ⟨kb, 0, none⟩)), (1, .agg #[.int .u16 r.idx, .int .u32 r.gen]), (2, .int .u32 ad)]) (L := [(kb, ⟨kC bo bc S, 90, true⟩)]) (args := [.pointer (some ⟨kb, 0, none⟩), .agg #[.int .u16 r.idx, .int .u32 r.gen], .int .u32 ad]) Tryd.func19 rfl rfl rfl rfl (kcons hb knil) (by simp) (kcons (by intro hq; cases hq) knil) hc CapAt.stable hc.low (kcons (by intro hq; cases hq) knil) ?_
  intro a h
  refine wp_seq_k fun K1 hK1 => ?_
  refine nd_start (l := [0, 1]) rfl ?_
  refine nd_op ?_
  refine op_new tabOk (cells := [.int .u16 r.idx, .int .u32 r.gen]) (ty := 39) (ln := none) (L1 := fun b2 => [(kb, ⟨kC bo bc S, 90, true⟩), (b2, ⟨[.int .u16 r.idx, .int .u32 r.gen], 39, false⟩)]) h rfl rfl rfl rfl (by kernel_rfl) (fun _ => rfl) fun b2 w3 a4 h5 hf6 hn7 => ?_
  clear h
  refine nd_op ?_
  refine op_new tabOk (cells := [.int .u8 0, .int .u16 0, .int .u32 0, .int .u8 0, .int .u64 0]) (ty := 49) (ln := none) (L1 := fun b8 => [(kb, ⟨kC bo bc S, 90, true⟩), (b2, ⟨[.int .u16 r.idx, .int .u32 r.gen], 39, false⟩), (b8, ⟨[.int .u8 0, .int .u16 0, .int .u32 0, .int .u8 0, .int .u64 0], 49, false⟩)]) h5 rfl rfl rfl rfl (by kernel_rfl) (fun _ => rfl) fun b8 w9 a10 h11 hf12 hn13 => ?_
  clear h5
  refine nd_done ?_
  refine hK1 _ _ ?_
  clear hK1
  refine wp_seq_k fun K14 hK14 => ?_
  refine wp_seq_k fun K15 hK15 => ?_
  refine nd_start (l := [0, 1, 2, 3, 4, 5, 6, 7, 8]) rfl ?_
  refine nd_batch tabOk tabZ_ok [(0, {}), (1, {k := 1})] [6, 4, 0, 1, 2, 12, 13] (T' := [(6, .pointer (some ⟨b8, 0, none⟩)), (4, .pointer (some ⟨b2, 0, none⟩)), (0, .pointer (some ⟨kb, 0, none⟩)), (1, .agg #[.int .u16 r.idx, .int .u32 r.gen]), (2, .int .u32 ad), (12, .pointer (some ⟨kb, 0, none⟩)), (13, .agg #[.int .u16 r.idx, .int .u32 r.gen])]) (φ := (b2 = b2 ∧ Nat.ble (0 + 2) 2 = true) ∧ True) (rest := [2, 3, 4, 5, 6, 7, 8]) h11 (by kernel_rfl) rfl ⟨⟨rfl, rfl⟩, trivial⟩ fun a16 h17 => ?_
  clear h11
  refine nd_op ?_
  refine op_call h17 rfl rfl rfl (callOk Tryd.func25 (by decide) rfl) (args := [.pointer (some ⟨kb, 0, none⟩), .agg #[.int .u16 r.idx, .int .u32 r.gen]]) rfl (threadE kb bo bc S rS hC.reg.1 r hr _ (h17.kn (k := 0) (blk := ⟨kC bo bc S, 90, true⟩) rfl) h17.inv.st (fun e => hdkb (mem_capF.2 (.inl e))) e0) ?_
  rintro _ w18 ⟨rfl, hf20⟩
  refine ⟨_, rfl, ?_⟩
  have h19 := (h17.grow hf20).put (d := some 14) (v := .tuple #[.agg #[.int .u8 ((S.tcb r.idx.toNat).st), .int .u8 ((S.tcb r.idx.toNat).prio), .int .u16 ((S.tcb r.idx.toNat).wait.idx), .int .u32 ((S.tcb r.idx.toNat).wait.gen), .int .u16 ((S.tcb r.idx.toNat).cs.idx), .int .u32 ((S.tcb r.idx.toNat).cs.gen), .int .u16 ((S.tcb r.idx.toNat).rep.idx), .int .u32 ((S.tcb r.idx.toNat).rep.gen), .int .u64 ((S.tcb r.idx.toNat).badge), .int .u64 ((S.tcb r.idx.toNat).m0), .int .u64 ((S.tcb r.idx.toNat).m1), .int .u64 ((S.tcb r.idx.toNat).m2), .int .u64 ((S.tcb r.idx.toNat).m3), .int .u8 ((S.tcb r.idx.toNat).len), .int .u8 ((S.tcb r.idx.toNat).got), .int .u32 ((S.tcb r.idx.toNat).xfer), .int .u32 ((S.tcb r.idx.toNat).dst), .bool ((S.tcb r.idx.toNat).grant), .bool ((S.tcb r.idx.toNat).call)], .bool true]) (T' := [(14, .tuple #[.agg #[.int .u8 ((S.tcb r.idx.toNat).st), .int .u8 ((S.tcb r.idx.toNat).prio), .int .u16 ((S.tcb r.idx.toNat).wait.idx), .int .u32 ((S.tcb r.idx.toNat).wait.gen), .int .u16 ((S.tcb r.idx.toNat).cs.idx), .int .u32 ((S.tcb r.idx.toNat).cs.gen), .int .u16 ((S.tcb r.idx.toNat).rep.idx), .int .u32 ((S.tcb r.idx.toNat).rep.gen), .int .u64 ((S.tcb r.idx.toNat).badge), .int .u64 ((S.tcb r.idx.toNat).m0), .int .u64 ((S.tcb r.idx.toNat).m1), .int .u64 ((S.tcb r.idx.toNat).m2), .int .u64 ((S.tcb r.idx.toNat).m3), .int .u8 ((S.tcb r.idx.toNat).len), .int .u8 ((S.tcb r.idx.toNat).got), .int .u32 ((S.tcb r.idx.toNat).xfer), .int .u32 ((S.tcb r.idx.toNat).dst), .bool ((S.tcb r.idx.toNat).grant), .bool ((S.tcb r.idx.toNat).call)], .bool true]), (6, .pointer (some ⟨b8, 0, none⟩)), (4, .pointer (some ⟨b2, 0, none⟩)), (0, .pointer (some ⟨kb, 0, none⟩)), (1, .agg #[.int .u16 r.idx, .int .u32 r.gen]), (2, .int .u32 ad), (12, .pointer (some ⟨kb, 0, none⟩)), (13, .agg #[.int .u16 r.idx, .int .u32 r.gen])]) rfl
  clear h17
  refine nd_batch tabOk tabZ_ok [(3, {}), (4, {}), (5, {})] [6, 4, 0, 1, 2, 15, 16] (T' := [(6, .pointer (some ⟨b8, 0, none⟩)), (4, .pointer (some ⟨b2, 0, none⟩)), (0, .pointer (some ⟨kb, 0, none⟩)), (1, .agg #[.int .u16 r.idx, .int .u32 r.gen]), (2, .int .u32 ad), (15, .agg #[.int .u8 ((S.tcb r.idx.toNat).st), .int .u8 ((S.tcb r.idx.toNat).prio), .int .u16 ((S.tcb r.idx.toNat).wait.idx), .int .u32 ((S.tcb r.idx.toNat).wait.gen), .int .u16 ((S.tcb r.idx.toNat).cs.idx), .int .u32 ((S.tcb r.idx.toNat).cs.gen), .int .u16 ((S.tcb r.idx.toNat).rep.idx), .int .u32 ((S.tcb r.idx.toNat).rep.gen), .int .u64 ((S.tcb r.idx.toNat).badge), .int .u64 ((S.tcb r.idx.toNat).m0), .int .u64 ((S.tcb r.idx.toNat).m1), .int .u64 ((S.tcb r.idx.toNat).m2), .int .u64 ((S.tcb r.idx.toNat).m3), .int .u8 ((S.tcb r.idx.toNat).len), .int .u8 ((S.tcb r.idx.toNat).got), .int .u32 ((S.tcb r.idx.toNat).xfer), .int .u32 ((S.tcb r.idx.toNat).dst), .bool ((S.tcb r.idx.toNat).grant), .bool ((S.tcb r.idx.toNat).call)]), (16, .bool true)]) (φ := True) (rest := [6, 7, 8]) h19 (by kernel_rfl) rfl trivial fun a21 h22 => ?_
  clear h19
  refine nd_op ?_
  refine op_new tabOk (cells := [.int .u8 0, .int .u8 0, .int .u16 0, .int .u32 0, .int .u16 0, .int .u32 0, .int .u16 0, .int .u32 0, .int .u64 0, .int .u64 0, .int .u64 0, .int .u64 0, .int .u64 0, .int .u8 0, .int .u8 0, .int .u32 0, .int .u32 0, .bool false, .bool false]) (ty := 59) (ln := none) (L1 := fun b23 => [(kb, ⟨kC bo bc S, 90, true⟩), (b2, ⟨[.int .u16 r.idx, .int .u32 r.gen], 39, false⟩), (b8, ⟨[.int .u8 0, .int .u16 0, .int .u32 0, .int .u8 0, .int .u64 0], 49, false⟩), (b23, ⟨[.int .u8 0, .int .u8 0, .int .u16 0, .int .u32 0, .int .u16 0, .int .u32 0, .int .u16 0, .int .u32 0, .int .u64 0, .int .u64 0, .int .u64 0, .int .u64 0, .int .u64 0, .int .u8 0, .int .u8 0, .int .u32 0, .int .u32 0, .bool false, .bool false], 59, false⟩)]) h22 rfl rfl rfl rfl (by kernel_rfl) (fun _ => rfl) fun b23 w24 a25 h26 hf27 hn28 => ?_
  clear h22
  refine nd_op ?_
  refine op_store tabOk {k := 3} (L' := [(kb, ⟨kC bo bc S, 90, true⟩), (b2, ⟨[.int .u16 r.idx, .int .u32 r.gen], 39, false⟩), (b8, ⟨[.int .u8 0, .int .u16 0, .int .u32 0, .int .u8 0, .int .u64 0], 49, false⟩), (b23, ⟨[.int .u8 ((S.tcb r.idx.toNat).st), .int .u8 ((S.tcb r.idx.toNat).prio), .int .u16 ((S.tcb r.idx.toNat).wait.idx), .int .u32 ((S.tcb r.idx.toNat).wait.gen), .int .u16 ((S.tcb r.idx.toNat).cs.idx), .int .u32 ((S.tcb r.idx.toNat).cs.gen), .int .u16 ((S.tcb r.idx.toNat).rep.idx), .int .u32 ((S.tcb r.idx.toNat).rep.gen), .int .u64 ((S.tcb r.idx.toNat).badge), .int .u64 ((S.tcb r.idx.toNat).m0), .int .u64 ((S.tcb r.idx.toNat).m1), .int .u64 ((S.tcb r.idx.toNat).m2), .int .u64 ((S.tcb r.idx.toNat).m3), .int .u8 ((S.tcb r.idx.toNat).len), .int .u8 ((S.tcb r.idx.toNat).got), .int .u32 ((S.tcb r.idx.toNat).xfer), .int .u32 ((S.tcb r.idx.toNat).dst), .bool ((S.tcb r.idx.toNat).grant), .bool ((S.tcb r.idx.toNat).call)], 59, false⟩)]) (φ := b23 = b23 ∧ Nat.ble (0 + 19) 19 = true) h26 rfl rfl rfl (by kernel_rfl) ⟨rfl, rfl⟩ fun w29 h30 => ?_
  clear h26
  refine nd_batch tabOk tabZ_ok [(8, {})] [7, 6, 4, 0, 1, 2, 8] (T' := [(7, .pointer (some ⟨b23, 0, none⟩)), (6, .pointer (some ⟨b8, 0, none⟩)), (4, .pointer (some ⟨b2, 0, none⟩)), (0, .pointer (some ⟨kb, 0, none⟩)), (1, .agg #[.int .u16 r.idx, .int .u32 r.gen]), (2, .int .u32 ad), (8, .bool true)]) (φ := True) (rest := []) h30 (by kernel_rfl) rfl trivial fun a31 h32 => ?_
  clear h30
  refine nd_done ?_
  refine hK15 _ _ ?_
  clear hK15
  refine wp_seq_k fun K33 hK33 => ?_
  refine nd_start (l := [0]) rfl ?_
  refine nd_batch tabOk tabZ_ok [(0, {})] [7, 6, 4, 0, 1, 2, 8, 17] (T' := [(7, .pointer (some ⟨b23, 0, none⟩)), (6, .pointer (some ⟨b8, 0, none⟩)), (4, .pointer (some ⟨b2, 0, none⟩)), (0, .pointer (some ⟨kb, 0, none⟩)), (1, .agg #[.int .u16 r.idx, .int .u32 r.gen]), (2, .int .u32 ad), (8, .bool true), (17, .bool true)]) (φ := True) (rest := []) h32 (by kernel_rfl) rfl trivial fun a34 h35 => ?_
  clear h32
  refine nd_done ?_
  refine hK33 _ _ ?_
  clear hK33
  refine c_true h35 rfl ?_
  refine wp_seq_k fun K36 hK36 => ?_
  refine dr_start (KB := [kb, b2, b8, b23]) (Bi := [[0, 1, 2, 3], [0, 1, 2, 3], [0, 1, 2, 3], [0, 1, 2, 3], [0, 1, 2, 3], [0, 1, 2, 3], [0, 1, 2, 3], [], [0, 1, 2, 3], [0, 1, 2, 3], [0, 1, 2, 3], [0, 1, 2, 3], [0, 1, 2, 3]]) mixed h35 fun w37 h38 => ?_
  clear h35
  refine dr_batch tabOk tabZ_ok (by repeat (first | with_reducible exact PF.body | with_reducible apply PF.inB | with_reducible apply PF.next)) [(0, {}), (1, {}), (2, {}), (3, {k := 0, m := 1, vs := [.pointer (some ⟨bc, 0, none⟩)], p := 0}), (4, {}), (5, {k := 3, p := 3}), (6, {})] [7, 6, 4, 0, 1, 2, 8, 22, 24, 25] (T' := [(7, .pointer (some ⟨b23, 0, none⟩)), (6, .pointer (some ⟨b8, 0, none⟩)), (4, .pointer (some ⟨b2, 0, none⟩)), (0, .pointer (some ⟨kb, 0, none⟩)), (1, .agg #[.int .u16 r.idx, .int .u32 r.gen]), (2, .int .u32 ad), (8, .bool true), (22, .pointer (some ⟨bc, 0, none⟩)), (24, .agg #[.int .u16 ((S.tcb r.idx.toNat).cs.idx), .int .u32 ((S.tcb r.idx.toNat).cs.gen)]), (25, .int .u32 ad)]) (φ := (kb = kb ∧ cellsAre (kC bo bc S) 1 [.pointer (some ⟨bc, 0, none⟩)]) ∧ (b23 = b23 ∧ Nat.ble (4 + 2) 19 = true) ∧ True) (fuel := 6) h38 (by kernel_rfl) rfl (by kernel_rfl) (by kernel_rfl) ⟨trivial, trivial, trivial, rfl, trivial, rfl, trivial, trivial⟩ ⟨⟨rfl, k_caps⟩, ⟨rfl, rfl⟩, trivial⟩ fun a40 h41 => ?_
  clear h38
  refine wpAnyK_one (i := 7) (fuel := 5) (by kernel_rfl) ?_
  refine op_call h41 rfl rfl rfl (callOk Tryd.func39 (by decide) rfl) (args := [.pointer (some ⟨bc, 0, none⟩), .agg #[.int .u16 ((S.tcb r.idx.toNat).cs.idx), .int .u32 ((S.tcb r.idx.toNat).cs.gen)], .int .u32 ad]) rfl (lookupE (E := C.ent) bo bc nd C.pres (S.tcb r.idx.toNat).cs ad ⟨by omega, by omega⟩ had _ h41.inv.sp h41.inv.st h41.inv.ap.symm el) ?_
  rintro _ w42 ⟨rfl, hf44⟩
  refine ⟨_, rfl, ?_⟩
  have h43 := (h41.grow hf44).put (d := some 26) (v := .tuple #[.int .i64 ((i * 16 + j : Nat) : Int), .int .u8 0]) (T' := [(26, .tuple #[.int .i64 ((i * 16 + j : Nat) : Int), .int .u8 0]), (7, .pointer (some ⟨b23, 0, none⟩)), (6, .pointer (some ⟨b8, 0, none⟩)), (4, .pointer (some ⟨b2, 0, none⟩)), (0, .pointer (some ⟨kb, 0, none⟩)), (1, .agg #[.int .u16 r.idx, .int .u32 r.gen]), (2, .int .u32 ad), (8, .bool true), (22, .pointer (some ⟨bc, 0, none⟩)), (24, .agg #[.int .u16 ((S.tcb r.idx.toNat).cs.idx), .int .u32 ((S.tcb r.idx.toNat).cs.gen)]), (25, .int .u32 ad)]) rfl
  refine ⟨keepNil, ?_⟩
  clear h41
  refine dr_batch tabOk tabZ_ok (by repeat (first | with_reducible exact PF.body | with_reducible apply PF.inB | with_reducible apply PF.next)) [(8, {}), (9, {}), (10, {}), (11, {}), (12, {})] [7, 6, 4, 0, 1, 2, 8, 9, 10] (T' := [(7, .pointer (some ⟨b23, 0, none⟩)), (6, .pointer (some ⟨b8, 0, none⟩)), (4, .pointer (some ⟨b2, 0, none⟩)), (0, .pointer (some ⟨kb, 0, none⟩)), (1, .agg #[.int .u16 r.idx, .int .u32 r.gen]), (2, .int .u32 ad), (8, .bool true), (9, .int .i64 ((i * 16 + j : Nat) : Int)), (10, .int .u8 0)]) (φ := True) (fuel := 0) h43 (by kernel_rfl) rfl (by kernel_rfl) (by kernel_rfl) ⟨trivial, trivial, trivial, trivial, trivial, trivial⟩ trivial fun a45 h46 => ?_
  clear h43
  refine wpAnyK_done (by kernel_rfl) ?_ _
  refine hK36 _ _ ?_
  clear hK36
  refine wp_seq_k fun K47 hK47 => ?_
  refine nd_start (l := [0, 1]) rfl ?_
  refine nd_batch tabOk tabZ_ok [(0, {}), (1, {})] [7, 6, 4, 0, 1, 2, 8, 9, 10, 30] (T' := [(7, .pointer (some ⟨b23, 0, none⟩)), (6, .pointer (some ⟨b8, 0, none⟩)), (4, .pointer (some ⟨b2, 0, none⟩)), (0, .pointer (some ⟨kb, 0, none⟩)), (1, .agg #[.int .u16 r.idx, .int .u32 r.gen]), (2, .int .u32 ad), (8, .bool true), (9, .int .i64 ((i * 16 + j : Nat) : Int)), (10, .int .u8 0), (30, .bool true)]) (φ := True) (rest := []) h46 (by kernel_rfl) rfl trivial fun a48 h49 => ?_
  clear h46
  refine nd_done ?_
  refine hK47 _ _ ?_
  clear hK47
  refine c_true h49 rfl ?_
  refine wp_seq_k fun K50 hK50 => ?_
  refine nd_start (l := [0, 1, 2, 3, 4, 5, 6]) rfl ?_
  refine nd_batch tabOk tabZ_ok [(0, {}), (1, {}), (2, {}), (3, {k := 0, m := 1, vs := [.pointer (some ⟨bc, 0, none⟩)]}), (4, {})] [7, 6, 4, 0, 1, 2, 8, 9, 10, 34, 35] (T' := [(7, .pointer (some ⟨b23, 0, none⟩)), (6, .pointer (some ⟨b8, 0, none⟩)), (4, .pointer (some ⟨b2, 0, none⟩)), (0, .pointer (some ⟨kb, 0, none⟩)), (1, .agg #[.int .u16 r.idx, .int .u32 r.gen]), (2, .int .u32 ad), (8, .bool true), (9, .int .i64 ((i * 16 + j : Nat) : Int)), (10, .int .u8 0), (34, .pointer (some ⟨bc, 0, none⟩)), (35, .int .i64 ((i * 16 + j : Nat) : Int))]) (φ := (kb = kb ∧ cellsAre (kC bo bc S) 1 [.pointer (some ⟨bc, 0, none⟩)]) ∧ True) (rest := [5, 6]) h49 (by kernel_rfl) rfl ⟨⟨rfl, k_caps⟩, trivial⟩ fun a51 h52 => ?_
  clear h49
  refine nd_op ?_
  refine op_call h52 rfl rfl rfl (callOk Tryd.func62 (by decide) rfl) (args := [.pointer (some ⟨bc, 0, none⟩), .int .i64 ((i * 16 + j : Nat) : Int)]) rfl (at_ok bo bc nd C.pres C.cel i j hi hj hp _ h52.inv.sp (h52.inv.no hi hp) (h52.inv.n1 hi hp).2.symm) ?_
  rintro _ w53 ⟨rfl, hf55⟩
  refine ⟨_, rfl, ?_⟩
  have h54 := (h52.grow hf55).put (d := some 36) (v := .agg #[.int .u8 ((C.cel (i * 16 + j)).cap.ty), .int .u16 ((C.cel (i * 16 + j)).cap.obj.idx), .int .u32 ((C.cel (i * 16 + j)).cap.obj.gen), .int .u8 ((C.cel (i * 16 + j)).cap.rights), .int .u64 ((C.cel (i * 16 + j)).cap.badge)]) (T' := [(36, .agg #[.int .u8 ((C.cel (i * 16 + j)).cap.ty), .int .u16 ((C.cel (i * 16 + j)).cap.obj.idx), .int .u32 ((C.cel (i * 16 + j)).cap.obj.gen), .int .u8 ((C.cel (i * 16 + j)).cap.rights), .int .u64 ((C.cel (i * 16 + j)).cap.badge)]), (7, .pointer (some ⟨b23, 0, none⟩)), (6, .pointer (some ⟨b8, 0, none⟩)), (4, .pointer (some ⟨b2, 0, none⟩)), (0, .pointer (some ⟨kb, 0, none⟩)), (1, .agg #[.int .u16 r.idx, .int .u32 r.gen]), (2, .int .u32 ad), (8, .bool true), (9, .int .i64 ((i * 16 + j : Nat) : Int)), (10, .int .u8 0), (34, .pointer (some ⟨bc, 0, none⟩)), (35, .int .i64 ((i * 16 + j : Nat) : Int))]) rfl
  clear h52
  refine nd_op ?_
  refine op_store tabOk {k := 2} (L' := [(kb, ⟨kC bo bc S, 90, true⟩), (b2, ⟨[.int .u16 r.idx, .int .u32 r.gen], 39, false⟩), (b8, ⟨[.int .u8 ((C.cel (i * 16 + j)).cap.ty), .int .u16 ((C.cel (i * 16 + j)).cap.obj.idx), .int .u32 ((C.cel (i * 16 + j)).cap.obj.gen), .int .u8 ((C.cel (i * 16 + j)).cap.rights), .int .u64 ((C.cel (i * 16 + j)).cap.badge)], 49, false⟩), (b23, ⟨[.int .u8 ((S.tcb r.idx.toNat).st), .int .u8 ((S.tcb r.idx.toNat).prio), .int .u16 ((S.tcb r.idx.toNat).wait.idx), .int .u32 ((S.tcb r.idx.toNat).wait.gen), .int .u16 ((S.tcb r.idx.toNat).cs.idx), .int .u32 ((S.tcb r.idx.toNat).cs.gen), .int .u16 ((S.tcb r.idx.toNat).rep.idx), .int .u32 ((S.tcb r.idx.toNat).rep.gen), .int .u64 ((S.tcb r.idx.toNat).badge), .int .u64 ((S.tcb r.idx.toNat).m0), .int .u64 ((S.tcb r.idx.toNat).m1), .int .u64 ((S.tcb r.idx.toNat).m2), .int .u64 ((S.tcb r.idx.toNat).m3), .int .u8 ((S.tcb r.idx.toNat).len), .int .u8 ((S.tcb r.idx.toNat).got), .int .u32 ((S.tcb r.idx.toNat).xfer), .int .u32 ((S.tcb r.idx.toNat).dst), .bool ((S.tcb r.idx.toNat).grant), .bool ((S.tcb r.idx.toNat).call)], 59, false⟩)]) (φ := b8 = b8 ∧ Nat.ble (0 + 5) 5 = true) h54 rfl rfl rfl (by kernel_rfl) ⟨rfl, rfl⟩ fun w56 h57 => ?_
  clear h54
  refine nd_done ?_
  refine hK50 _ _ ?_
  clear hK50
  refine wp_ret ?_
  try simp only [Exit.then, Exit.inBlock]
  try rw [if_pos trivial]
  exact s_ret tabOk tabZ_ok h57 [(.cell 6 49, {k := 2})] (vs := [.agg #[.int .u8 ((C.cel (i * 16 + j)).cap.ty), .int .u16 ((C.cel (i * 16 + j)).cap.obj.idx), .int .u32 ((C.cel (i * 16 + j)).cap.obj.gen), .int .u8 ((C.cel (i * 16 + j)).cap.rights), .int .u64 ((C.cel (i * 16 + j)).cap.badge)]]) (φ := (b8 = b8 ∧ Nat.ble (0 + 5) 5 = true) ∧ True) rfl (by kernel_rfl) ⟨⟨rfl, rfl⟩, trivial⟩ ⟨(by unfold capAtP; rw [if_pos h3, el, if_pos rfl, Int.toNat_natCast]; rfl), h57.frame⟩

theorem capAt_ok (kb bo bc : Nat) (nd : Nat → Nat) (S : KP) (rS : RI S) (C : CP) (hC : CI C) (r : Rf) (hr : 0 ≤ r.idx ∧ r.idx ≤ 65535) (ad : Int) (had : 0 ≤ ad ∧ ad < 4294967296) (w : World) (hb : w.heap[kb]? = some (Blk.obj ⟨kC bo bc S, 90, false⟩)) (hc : CapAt w bo bc nd C) (hdkb : kb ∉ capF bo bc nd C) :
    Calls Tryd.prog 19 #[.pointer (some ⟨kb, 0, none⟩), .agg #[.int .u16 r.idx, .int .u32 r.gen], .int .u32 ad] w fun e w' => e = .returned (.agg (cpC (capAtP S C r ad)).toArray) ∧ Fr [] w w' := by
  by_cases h3 : typeOfP C.ent r = 3
  · have hrl := typeOf_lt9 hC.reg.1 hr.1 (by decide) (by decide) h3
    have hci := (rS.t (i := r.idx.toNat) (by omega)).ci
    rcases look_cases hC (r := (S.tcb r.idx.toNat).cs) hci.1 had.1 with e | ⟨i, j, h1, h2, h4, e⟩
    · exact capAt_1 kb bo bc nd S rS C hC r hr ad had h3 e w hb hc hdkb
    · exact capAt_2 kb bo bc nd S rS C hC r hr ad had h3 i j h1 h2 h4 e w hb hc hdkb
  · exact capAt_0 kb bo bc nd S rS C hC r hr ad had h3 w hb hc hdkb

end Go.Proofs.Qxb6500918aDoor
