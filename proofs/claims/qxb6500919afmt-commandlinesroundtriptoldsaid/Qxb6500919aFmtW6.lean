/-
  adopt, status, Used. (Made by program: a symbolic walk that prints its steps.)
-/
import Derived.Test.Qxb6500919aFmtTab
import Derived.Test.Qxb6500919aFmtLib
import Derived.Test.Qxb6500919aFmtW1
import Derived.Test.Qxb6500919aFmtW2
import Derived.Test.Qxb6500919aFmtW3
import Derived.Test.Qxb6500919aFmtW4
import Derived.Test.Qxb6500919aFmtW5
namespace Go.Proofs.Qxb6500919aFmt
open Go.Sx Go.Rp
set_option maxRecDepth 100000
set_option linter.unusedVariables false

theorem adopt_ok (bs : Nat) (lv : Value) (m : Mach) (o : Ot) (pos : Int) (live : Bool) (m2 : Mach) (o2 : Ot) (pos2 : Int) (w : World) (hb : w.heap[bs]? = some (Blk.obj ⟨sessC lv m o pos live, 60, false⟩)) :
    Calls Tryf.prog 45 #[.pointer (some ⟨bs, 0, none⟩), .agg (curC m2 o2 pos2).toArray] w fun e w' => e = .returned (.tuple #[]) ∧ w'.heap[bs]? = some (Blk.obj ⟨sessC lv m2 o2 pos2 false, 60, false⟩) ∧ Fr [bs] w w' := by
  refine enter0 (n := 22) (K := [bs]) (T := [(0, .pointer (some ⟨bs, 0, none⟩)), (1, .agg #[.int .u64 m2.now, .int .i8 m2.cur, .int .u8 m2.s0, .int .u8 m2.s1, .int .u8 m2.s2, .int .u8 m2.s3, .int .u64 m2.r0, .int .u64 m2.r1, .int .u64 m2.r2, .int .u64 m2.r3, .int .u64 m2.word, .bool o2.refused, .int .i8 o2.running, .int .u64 o2.value, .int .i64 pos2])]) (L := [(bs, ⟨sessC (lv) m o pos live, 60, false⟩)]) (args := [.pointer (some ⟨bs, 0, none⟩), .agg #[.int .u64 m2.now, .int .i8 m2.cur, .int .u8 m2.s0, .int .u8 m2.s1, .int .u8 m2.s2, .int .u8 m2.s3, .int .u64 m2.r0, .int .u64 m2.r1, .int .u64 m2.r2, .int .u64 m2.r3, .int .u64 m2.word, .bool o2.refused, .int .i8 o2.running, .int .u64 o2.value, .int .i64 pos2]]) Tryf.func45 rfl rfl rfl rfl (kcons hb knil) (by simp) (kcons (by simp) knil) ?_
  intro a h
  refine wp_seq_k fun K1 hK1 => ?_
  refine nd_start (l := [0]) rfl ?_
  refine nd_op ?_
  refine op_new tabOk (cells := [.int .u64 m2.now, .int .i8 m2.cur, .int .u8 m2.s0, .int .u8 m2.s1, .int .u8 m2.s2, .int .u8 m2.s3, .int .u64 m2.r0, .int .u64 m2.r1, .int .u64 m2.r2, .int .u64 m2.r3, .int .u64 m2.word, .bool o2.refused, .int .i8 o2.running, .int .u64 o2.value, .int .i64 pos2]) (ty := 105) (ln := none) (L1 := fun b2 => [(bs, ⟨sessC (lv) m o pos live, 60, false⟩), (b2, ⟨[.int .u64 m2.now, .int .i8 m2.cur, .int .u8 m2.s0, .int .u8 m2.s1, .int .u8 m2.s2, .int .u8 m2.s3, .int .u64 m2.r0, .int .u64 m2.r1, .int .u64 m2.r2, .int .u64 m2.r3, .int .u64 m2.word, .bool o2.refused, .int .i8 o2.running, .int .u64 o2.value, .int .i64 pos2], 105, false⟩)]) h rfl rfl rfl rfl (by kernel_rfl) (fun _ => rfl) fun b2 w3 a4 h5 hf6 hn7 => ?_
  clear h
  refine nd_done ?_
  refine hK1 _ _ ?_
  clear hK1
  refine dr_start (KB := [bs, b2]) (Bi := [[0, 1], [0, 1], [0, 1], [0, 1], [0, 1], [0, 1], [0, 1], [0, 1], [0, 1], [0, 1], [0, 1], [0, 1], [1], [0, 1], [0, 1], [1], [0, 1], [0, 1], [], [0, 1], [0, 1], []]) mixed h5 fun w8 h9 => ?_
  clear h5
  refine dr_batch tabOk tabZ_ok (by repeat (first | exact PF.body | with_reducible apply PF.inB | with_reducible apply PF.next)) [(0, {}), (1, {}), (2, {}), (3, {}), (4, {}), (5, {k := 1, p := 1}), (6, {}), (7, {k := 1, p := 1}), (8, {}), (9, {k := 1, p := 1}), (10, {}), (11, {})] [3, 0, 1, 5, 6, 7, 9, 11, 13, 15] (T' := [(3, .pointer (some ⟨b2, 0, none⟩)), (0, .pointer (some ⟨bs, 0, none⟩)), (1, .agg #[.int .u64 m2.now, .int .i8 m2.cur, .int .u8 m2.s0, .int .u8 m2.s1, .int .u8 m2.s2, .int .u8 m2.s3, .int .u64 m2.r0, .int .u64 m2.r1, .int .u64 m2.r2, .int .u64 m2.r3, .int .u64 m2.word, .bool o2.refused, .int .i8 o2.running, .int .u64 o2.value, .int .i64 pos2]), (5, .pointer (some ⟨bs, 0, none⟩)), (6, .pointer (some ⟨bs, 0, none⟩)), (7, .pointer (some ⟨bs, 0, none⟩)), (9, .agg #[.int .u64 m2.now, .int .i8 m2.cur, .int .u8 m2.s0, .int .u8 m2.s1, .int .u8 m2.s2, .int .u8 m2.s3, .int .u64 m2.r0, .int .u64 m2.r1, .int .u64 m2.r2, .int .u64 m2.r3, .int .u64 m2.word]), (11, .agg #[.bool o2.refused, .int .i8 o2.running, .int .u64 o2.value]), (13, .int .i64 pos2), (15, .pointer (some ⟨bs, 1, none⟩))]) (φ := (b2 = b2 ∧ Nat.ble (0 + 11) 15 = true) ∧ (b2 = b2 ∧ Nat.ble (11 + 3) 15 = true) ∧ (b2 = b2 ∧ Nat.ble (14 + 1) 15 = true) ∧ True) (fuel := 10) h9 (by kernel_rfl) rfl (by kernel_rfl) (by kernel_rfl) ⟨trivial, trivial, trivial, trivial, trivial, rfl, trivial, rfl, trivial, rfl, trivial, trivial, trivial⟩ ⟨⟨rfl, rfl⟩, ⟨rfl, rfl⟩, ⟨rfl, rfl⟩, trivial⟩ fun a11 h12 => ?_
  clear h9
  refine wpAnyK_one (i := 12) (fuel := 9) (by kernel_rfl) ?_
  refine op_store tabOk {k := 0} (L' := [(bs, ⟨[lv, .int .u64 m2.now, .int .i8 m2.cur, .int .u8 m2.s0, .int .u8 m2.s1, .int .u8 m2.s2, .int .u8 m2.s3, .int .u64 m2.r0, .int .u64 m2.r1, .int .u64 m2.r2, .int .u64 m2.r3, .int .u64 m2.word, .bool o.refused, .int .i8 o.running, .int .u64 o.value, .int .i64 pos, .bool live], 60, false⟩), (b2, ⟨[.int .u64 m2.now, .int .i8 m2.cur, .int .u8 m2.s0, .int .u8 m2.s1, .int .u8 m2.s2, .int .u8 m2.s3, .int .u64 m2.r0, .int .u64 m2.r1, .int .u64 m2.r2, .int .u64 m2.r3, .int .u64 m2.word, .bool o2.refused, .int .i8 o2.running, .int .u64 o2.value, .int .i64 pos2], 105, false⟩)]) (φ := bs = bs ∧ Nat.ble (1 + 11) 17 = true) h12 rfl rfl rfl (by kernel_rfl) ⟨rfl, rfl⟩ fun w13 h14 => ?_
  have hkh14 := h12.known
  refine ⟨(keepOf hkh14 h14.known (kcons (keepAt (q := 1) (q' := 1) rfl rfl) knil)), ?_⟩
  clear h12
  refine dr_batch tabOk tabZ_ok (by repeat (first | exact PF.body | with_reducible apply PF.inB | with_reducible apply PF.next)) [(13, {}), (14, {})] [3, 0, 1, 6, 7, 11, 13, 17] (T' := [(3, .pointer (some ⟨b2, 0, none⟩)), (0, .pointer (some ⟨bs, 0, none⟩)), (1, .agg #[.int .u64 m2.now, .int .i8 m2.cur, .int .u8 m2.s0, .int .u8 m2.s1, .int .u8 m2.s2, .int .u8 m2.s3, .int .u64 m2.r0, .int .u64 m2.r1, .int .u64 m2.r2, .int .u64 m2.r3, .int .u64 m2.word, .bool o2.refused, .int .i8 o2.running, .int .u64 o2.value, .int .i64 pos2]), (6, .pointer (some ⟨bs, 0, none⟩)), (7, .pointer (some ⟨bs, 0, none⟩)), (11, .agg #[.bool o2.refused, .int .i8 o2.running, .int .u64 o2.value]), (13, .int .i64 pos2), (17, .pointer (some ⟨bs, 12, none⟩))]) (φ := True) (fuel := 7) h14 (by kernel_rfl) rfl (by kernel_rfl) (by kernel_rfl) ⟨trivial, trivial, trivial⟩ trivial fun a15 h16 => ?_
  clear h14
  refine wpAnyK_one (i := 15) (fuel := 6) (by kernel_rfl) ?_
  refine op_store tabOk {k := 0} (L' := [(bs, ⟨[lv, .int .u64 m2.now, .int .i8 m2.cur, .int .u8 m2.s0, .int .u8 m2.s1, .int .u8 m2.s2, .int .u8 m2.s3, .int .u64 m2.r0, .int .u64 m2.r1, .int .u64 m2.r2, .int .u64 m2.r3, .int .u64 m2.word, .bool o2.refused, .int .i8 o2.running, .int .u64 o2.value, .int .i64 pos, .bool live], 60, false⟩), (b2, ⟨[.int .u64 m2.now, .int .i8 m2.cur, .int .u8 m2.s0, .int .u8 m2.s1, .int .u8 m2.s2, .int .u8 m2.s3, .int .u64 m2.r0, .int .u64 m2.r1, .int .u64 m2.r2, .int .u64 m2.r3, .int .u64 m2.word, .bool o2.refused, .int .i8 o2.running, .int .u64 o2.value, .int .i64 pos2], 105, false⟩)]) (φ := bs = bs ∧ Nat.ble (12 + 3) 17 = true) h16 rfl rfl rfl (by kernel_rfl) ⟨rfl, rfl⟩ fun w17 h18 => ?_
  have hkh18 := h16.known
  refine ⟨(keepOf hkh18 h18.known (kcons (keepAt (q := 1) (q' := 1) rfl rfl) knil)), ?_⟩
  clear h16
  refine dr_batch tabOk tabZ_ok (by repeat (first | exact PF.body | with_reducible apply PF.inB | with_reducible apply PF.next)) [(16, {}), (17, {})] [3, 0, 1, 7, 13, 19] (T' := [(3, .pointer (some ⟨b2, 0, none⟩)), (0, .pointer (some ⟨bs, 0, none⟩)), (1, .agg #[.int .u64 m2.now, .int .i8 m2.cur, .int .u8 m2.s0, .int .u8 m2.s1, .int .u8 m2.s2, .int .u8 m2.s3, .int .u64 m2.r0, .int .u64 m2.r1, .int .u64 m2.r2, .int .u64 m2.r3, .int .u64 m2.word, .bool o2.refused, .int .i8 o2.running, .int .u64 o2.value, .int .i64 pos2]), (7, .pointer (some ⟨bs, 0, none⟩)), (13, .int .i64 pos2), (19, .pointer (some ⟨bs, 15, none⟩))]) (φ := True) (fuel := 4) h18 (by kernel_rfl) rfl (by kernel_rfl) (by kernel_rfl) ⟨trivial, trivial, trivial⟩ trivial fun a19 h20 => ?_
  clear h18
  refine wpAnyK_one (i := 18) (fuel := 3) (by kernel_rfl) ?_
  refine op_store tabOk {k := 0} (L' := [(bs, ⟨[lv, .int .u64 m2.now, .int .i8 m2.cur, .int .u8 m2.s0, .int .u8 m2.s1, .int .u8 m2.s2, .int .u8 m2.s3, .int .u64 m2.r0, .int .u64 m2.r1, .int .u64 m2.r2, .int .u64 m2.r3, .int .u64 m2.word, .bool o2.refused, .int .i8 o2.running, .int .u64 o2.value, .int .i64 pos2, .bool live], 60, false⟩), (b2, ⟨[.int .u64 m2.now, .int .i8 m2.cur, .int .u8 m2.s0, .int .u8 m2.s1, .int .u8 m2.s2, .int .u8 m2.s3, .int .u64 m2.r0, .int .u64 m2.r1, .int .u64 m2.r2, .int .u64 m2.r3, .int .u64 m2.word, .bool o2.refused, .int .i8 o2.running, .int .u64 o2.value, .int .i64 pos2], 105, false⟩)]) (φ := bs = bs ∧ Nat.ble (15 + 1) 17 = true) h20 rfl rfl rfl (by kernel_rfl) ⟨rfl, rfl⟩ fun w21 h22 => ?_
  have hkh22 := h20.known
  refine ⟨keepNil, ?_⟩
  clear h20
  refine dr_batch tabOk tabZ_ok (by repeat (first | exact PF.body | with_reducible apply PF.inB | with_reducible apply PF.next)) [(19, {}), (20, {})] [3, 0, 1, 21] (T' := [(3, .pointer (some ⟨b2, 0, none⟩)), (0, .pointer (some ⟨bs, 0, none⟩)), (1, .agg #[.int .u64 m2.now, .int .i8 m2.cur, .int .u8 m2.s0, .int .u8 m2.s1, .int .u8 m2.s2, .int .u8 m2.s3, .int .u64 m2.r0, .int .u64 m2.r1, .int .u64 m2.r2, .int .u64 m2.r3, .int .u64 m2.word, .bool o2.refused, .int .i8 o2.running, .int .u64 o2.value, .int .i64 pos2]), (21, .pointer (some ⟨bs, 16, none⟩))]) (φ := True) (fuel := 1) h22 (by kernel_rfl) rfl (by kernel_rfl) (by kernel_rfl) ⟨trivial, trivial, trivial⟩ trivial fun a23 h24 => ?_
  clear h22
  refine wpAnyK_one (i := 21) (fuel := 0) (by kernel_rfl) ?_
  refine op_store tabOk {k := 0} (L' := [(bs, ⟨[lv, .int .u64 m2.now, .int .i8 m2.cur, .int .u8 m2.s0, .int .u8 m2.s1, .int .u8 m2.s2, .int .u8 m2.s3, .int .u64 m2.r0, .int .u64 m2.r1, .int .u64 m2.r2, .int .u64 m2.r3, .int .u64 m2.word, .bool o2.refused, .int .i8 o2.running, .int .u64 o2.value, .int .i64 pos2, .bool false], 60, false⟩), (b2, ⟨[.int .u64 m2.now, .int .i8 m2.cur, .int .u8 m2.s0, .int .u8 m2.s1, .int .u8 m2.s2, .int .u8 m2.s3, .int .u64 m2.r0, .int .u64 m2.r1, .int .u64 m2.r2, .int .u64 m2.r3, .int .u64 m2.word, .bool o2.refused, .int .i8 o2.running, .int .u64 o2.value, .int .i64 pos2], 105, false⟩)]) (φ := bs = bs ∧ Nat.ble (16 + 1) 17 = true) h24 rfl rfl rfl (by kernel_rfl) ⟨rfl, rfl⟩ fun w25 h26 => ?_
  have hkh26 := h24.known
  refine ⟨keepNil, ?_⟩
  clear h24
  refine wpAnyK_done (by kernel_rfl) ?_ _
  try simp only [Exit.then, Exit.inBlock]
  try rw [if_pos trivial]
  exact s_end tabOk tabZ_ok h26 [] (vs := []) (φ := True) rfl (by kernel_rfl) trivial ⟨rfl, h26.kn (k := 0) rfl, h26.frame⟩

theorem status_ok (bs bl : Nat) (m : Mach) (hm : m.ok) (o : Ot) (pos : Int) (live : Bool) (base : Pt) (eo : Option Addr) (n c : Nat) (mv sv : Value) (code : Int) (w : World) (r1 r2 : Bool) (hb : w.heap[bs]? = some (Blk.obj ⟨sessC (.pointer (some ⟨bl, 0, none⟩)) m o pos live, 60, r1⟩))
    (hbl : w.heap[bl]? = some (Blk.obj ⟨logC base (.slice eo n c) mv sv, 89, r2⟩)) (hne : bs ≠ bl) (i0 : 0 ≤ base.idx) (i1 : base.idx ≤ 1000000000) (i2 : n ≤ 1000000000) :
    Calls Tryf.prog 29 #[.pointer (some ⟨bs, 0, none⟩), .int .u8 code] w fun e w' => e = .returned (.agg (resC ⟨code, pos, base.idx, base.idx + n, live, o, dig m, pos, 0, -1⟩).toArray) ∧ Fr [] w w' := by
  refine enter0 (n := 40) (K := []) (T := [(0, .pointer (some ⟨bs, 0, none⟩)), (1, .int .u8 code)]) (L := [(bs, ⟨sessC (.pointer (some ⟨bl, 0, none⟩)) m o pos live, 60, true⟩), (bl, ⟨logC base (.slice eo n c) (mv) (sv), 89, true⟩)]) (args := [.pointer (some ⟨bs, 0, none⟩), .int .u8 code]) Tryf.func29 rfl rfl rfl rfl (kcons hb (kcons hbl knil)) (by simp [hne]) (kcons (by intro hq; cases hq) (kcons (by intro hq; cases hq) knil)) ?_
  intro a h
  refine wp_seq_k fun K1 hK1 => ?_
  refine nd_start (l := [0]) rfl ?_
  refine nd_op ?_
  refine op_new tabOk (cells := [.int .u8 0, .int .i64 0, .int .i64 0, .int .i64 0, .bool false, .bool false, .int .i8 0, .int .u64 0, .int .u64 0, .int .i64 0, .int .i64 0, .int .i64 0]) (ty := 46) (ln := none) (L1 := fun b2 => [(bs, ⟨sessC (.pointer (some ⟨bl, 0, none⟩)) m o pos live, 60, true⟩), (bl, ⟨logC base (.slice eo n c) (mv) (sv), 89, true⟩), (b2, ⟨[.int .u8 0, .int .i64 0, .int .i64 0, .int .i64 0, .bool false, .bool false, .int .i8 0, .int .u64 0, .int .u64 0, .int .i64 0, .int .i64 0, .int .i64 0], 46, false⟩)]) h rfl rfl rfl rfl (by kernel_rfl) (fun _ => rfl) fun b2 w3 a4 h5 hf6 hn7 => ?_
  clear h
  refine nd_done ?_
  refine hK1 _ _ ?_
  clear hK1
  refine wp_seq_k fun K8 hK8 => ?_
  refine dr_start (KB := [bs, bl, b2]) (Bi := [[0, 1, 2], [0, 1, 2], [0, 1, 2], [0, 1, 2], [0, 1, 2], [0, 1, 2], [0, 1, 2], [0, 1, 2], [0, 1, 2], [0, 1, 2], [0, 1, 2], [0, 1, 2], [0, 1, 2], [0, 1, 2], [0, 1, 2], [0, 1, 2], [0, 1, 2], [0, 1], [0, 1, 2], [0, 1, 2], [0, 1, 2], [0, 1, 2], [0, 1, 2], [0, 1, 2], [0, 1, 2], [0, 1, 2], [0, 1, 2], [0, 1, 2], [0, 1, 2], [0, 1], [0, 1, 2], [0, 1, 2], [0, 1, 2], [0, 1, 2], [0, 1, 2], []]) mixed h5 fun w9 h10 => ?_
  clear h5
  refine dr_batch tabOk tabZ_ok (by repeat (first | exact PF.body | with_reducible apply PF.inB | with_reducible apply PF.next)) [(0, {}), (1, {}), (2, {}), (3, {}), (4, {k := 0, p := 0}), (5, {}), (6, {}), (7, {}), (8, {k := 0, p := 0}), (9, {}), (10, {}), (11, {}), (12, {k := 1, p := 1}), (13, {}), (14, {}), (15, {}), (16, {k := 0, p := 0}), (18, {}), (19, {}), (20, {}), (21, {k := 0, p := 0}), (22, {}), (23, {}), (24, {}), (25, {k := 0, p := 0}), (26, {}), (27, {}), (28, {}), (30, {}), (31, {}), (32, {}), (33, {k := 0, p := 0})] [4, 0, 1, 5, 9, 17, 21, 26, 30, 33, 38] (T' := [(4, .pointer (some ⟨b2, 0, none⟩)), (0, .pointer (some ⟨bs, 0, none⟩)), (1, .int .u8 code), (5, .int .u8 code), (9, .int .i64 pos), (17, .int .i64 base.idx), (21, .pointer (some ⟨bl, 0, none⟩)), (26, .bool live), (30, .agg #[.bool o.refused, .int .i8 o.running, .int .u64 o.value]), (33, .pointer (some ⟨bs, 1, none⟩)), (38, .int .i64 pos)]) (φ := (bs = bs ∧ Nat.ble (15 + 1) 17 = true) ∧ (bs = bs ∧ Nat.ble (0 + 1) 17 = true) ∧ (bl = bl ∧ Nat.ble (0 + 1) 18 = true) ∧ (bs = bs ∧ Nat.ble (0 + 1) 17 = true) ∧ (bs = bs ∧ Nat.ble (16 + 1) 17 = true) ∧ (bs = bs ∧ Nat.ble (12 + 3) 17 = true) ∧ (bs = bs ∧ Nat.ble (15 + 1) 17 = true) ∧ True) (fuel := 4) h10 (by kernel_rfl) rfl (by kernel_rfl) (by kernel_rfl) ⟨trivial, trivial, trivial, trivial, rfl, trivial, trivial, trivial, rfl, trivial, trivial, trivial, rfl, trivial, trivial, trivial, rfl, trivial, trivial, trivial, rfl, trivial, trivial, trivial, rfl, trivial, trivial, trivial, trivial, trivial, trivial, rfl, trivial⟩ ⟨⟨rfl, rfl⟩, ⟨rfl, rfl⟩, ⟨rfl, rfl⟩, ⟨rfl, rfl⟩, ⟨rfl, rfl⟩, ⟨rfl, rfl⟩, ⟨rfl, rfl⟩, trivial⟩ fun a12 h13 => ?_
  clear h10
  refine wpAnyK_one (i := 17) (fuel := 3) (by kernel_rfl) ?_
  refine op_call h13 rfl rfl rfl (callOk Tryf.func41 (by decide) rfl) (args := [.pointer (some ⟨bl, 0, none⟩)]) rfl (end_ok bl base eo n c mv sv true _ (h13.kn (k := 1) rfl) i0 i1 i2) ?_
  rintro _ w14 ⟨rfl, hf16⟩
  refine ⟨_, rfl, ?_⟩
  have h15 := (h13.grow hf16).put (d := some 22) (v := .int .i64 (base.idx + (n : Int))) (T' := [(22, .int .i64 (base.idx + (n : Int))), (4, .pointer (some ⟨b2, 0, none⟩)), (0, .pointer (some ⟨bs, 0, none⟩)), (1, .int .u8 code), (5, .int .u8 code), (9, .int .i64 pos), (17, .int .i64 base.idx), (21, .pointer (some ⟨bl, 0, none⟩)), (26, .bool live), (30, .agg #[.bool o.refused, .int .i8 o.running, .int .u64 o.value]), (33, .pointer (some ⟨bs, 1, none⟩)), (38, .int .i64 pos)]) rfl
  refine ⟨(h13.keepFr hf16 (kcons (by simp) (kcons (by simp) knil))), ?_⟩
  clear h13
  refine wpAnyK_one (i := 29) (fuel := 2) (by kernel_rfl) ?_
  refine op_call h15 rfl rfl rfl (callOk Tryf.func51 (by decide) rfl) (args := [.pointer (some ⟨bs, 1, none⟩)]) rfl (digest_ok [.pointer (some ⟨bl, 0, none⟩)] (outC o ++ [.int .i64 pos, .bool live]) m hm bs 60 true _ (h15.kn (k := 0) rfl)) ?_
  rintro _ w17 ⟨rfl, hf19⟩
  refine ⟨_, rfl, ?_⟩
  have h18 := (h15.grow hf19).put (d := some 34) (v := .int .u64 (dig m)) (T' := [(34, .int .u64 (dig m)), (22, .int .i64 (base.idx + (n : Int))), (4, .pointer (some ⟨b2, 0, none⟩)), (0, .pointer (some ⟨bs, 0, none⟩)), (1, .int .u8 code), (5, .int .u8 code), (9, .int .i64 pos), (17, .int .i64 base.idx), (21, .pointer (some ⟨bl, 0, none⟩)), (26, .bool live), (30, .agg #[.bool o.refused, .int .i8 o.running, .int .u64 o.value]), (33, .pointer (some ⟨bs, 1, none⟩)), (38, .int .i64 pos)]) rfl
  refine ⟨(h15.keepFr hf19 (kcons (by simp) (kcons (by simp) knil))), ?_⟩
  clear h15
  refine dr_batch tabOk tabZ_ok (by repeat (first | exact PF.body | with_reducible apply PF.inB | with_reducible apply PF.next)) [(34, {})] [4, 0, 1, 39] (T' := [(4, .pointer (some ⟨b2, 0, none⟩)), (0, .pointer (some ⟨bs, 0, none⟩)), (1, .int .u8 code), (39, .agg #[.int .u8 code, .int .i64 pos, .int .i64 base.idx, .int .i64 (base.idx + (n : Int)), .bool live, .bool o.refused, .int .i8 o.running, .int .u64 o.value, .int .u64 (dig m), .int .i64 pos, .int .i64 0, .int .i64 (-1)])]) (φ := True) (fuel := 1) h18 (by kernel_rfl) rfl (by kernel_rfl) (by kernel_rfl) ⟨trivial, trivial⟩ trivial fun a20 h21 => ?_
  clear h18
  refine wpAnyK_one (i := 35) (fuel := 0) (by kernel_rfl) ?_
  refine op_store tabOk {k := 2} (L' := [(bs, ⟨sessC (.pointer (some ⟨bl, 0, none⟩)) m o pos live, 60, true⟩), (bl, ⟨logC base (.slice eo n c) (mv) (sv), 89, true⟩), (b2, ⟨[.int .u8 code, .int .i64 pos, .int .i64 base.idx, .int .i64 (base.idx + (n : Int)), .bool live, .bool o.refused, .int .i8 o.running, .int .u64 o.value, .int .u64 (dig m), .int .i64 pos, .int .i64 0, .int .i64 (-1)], 46, false⟩)]) (φ := b2 = b2 ∧ Nat.ble (0 + 12) 12 = true) h21 rfl rfl rfl (by kernel_rfl) ⟨rfl, rfl⟩ fun w22 h23 => ?_
  have hkh23 := h21.known
  refine ⟨keepNil, ?_⟩
  clear h21
  refine wpAnyK_done (by kernel_rfl) ?_ _
  refine hK8 _ _ ?_
  clear hK8
  refine wp_ret ?_
  try simp only [Exit.then, Exit.inBlock]
  try rw [if_pos trivial]
  exact s_ret tabOk tabZ_ok h23 [(.cell 4 46, {k := 2})] (vs := [.agg #[.int .u8 code, .int .i64 pos, .int .i64 base.idx, .int .i64 (base.idx + (n : Int)), .bool live, .bool o.refused, .int .i8 o.running, .int .u64 o.value, .int .u64 (dig m), .int .i64 pos, .int .i64 0, .int .i64 (-1)]]) (φ := (b2 = b2 ∧ Nat.ble (0 + 12) 12 = true) ∧ True) rfl (by kernel_rfl) ⟨⟨rfl, rfl⟩, trivial⟩ ⟨rfl, h23.frame⟩

theorem used_ok (bl : Nat) (d : Hd) (lg : Lg) (w : World) (hl : LogAt w bl d lg) (hev : ∀ e ∈ lg.evs, e.ok) (hlen : lg.evs.length ≤ 1000) (hml : lg.mks.length ≤ 1000) :
    Calls Tryf.prog 62 #[.pointer (some ⟨bl, 0, none⟩)] w fun e w' => e = .returned (.int .i64 lg.used) ∧ Fr [] w w' := by
  obtain ⟨eo, ec, eF, mo, mc, mF, so, sc, sF⟩ := d
  obtain ⟨hbl, hA, hsep⟩ := hl
  refine enter (n := 27) (K := []) (A := Rws [rl evC 31 3 lg.evs eo ec eF, rl mkC 93 2 lg.mks mo mc mF, rl ptC 84 15 lg.sns so sc sF]) (F := Ff [rl evC 31 3 lg.evs eo ec eF, rl mkC 93 2 lg.mks mo mc mF, rl ptC 84 15 lg.sns so sc sF]) (T := [(0, .pointer (some ⟨bl, 0, none⟩))]) (L := [(bl, ⟨logC lg.base (.slice eo lg.evs.length ec) (.slice mo lg.mks.length mc) (.slice so lg.sns.length sc), 89, true⟩)]) (args := [.pointer (some ⟨bl, 0, none⟩)]) Tryf.func62 rfl rfl rfl rfl (kcons hbl knil) (by simp) (kcons (by intro hq; cases hq) knil) hA Rws.stable (hA).low (kcons (by intro hq; cases hq) knil) ?_
  intro a h
  refine wp_seq_k fun K1 hK1 => ?_
  refine nd_start (l := [0]) rfl ?_
  refine nd_batch tabOk tabZ_ok [(0, {})] [0, 2] (T' := [(0, .pointer (some ⟨bl, 0, none⟩)), (2, .int .i64 0)]) (φ := True) (rest := []) h (by kernel_rfl) rfl trivial fun a2 h3 => ?_
  clear h
  refine nd_done ?_
  refine hK1 _ _ ?_
  clear hK1
  refine wp_seq_k fun K4 hK4 => ?_
  refine nd_start (l := [0, 1, 2, 3, 4, 5, 6]) rfl ?_
  refine nd_batch tabOk tabZ_ok [(0, {}), (1, {}), (2, {}), (3, {k := 0}), (4, {}), (5, {}), (6, {})] [0, 2, 3] (T' := [(0, .pointer (some ⟨bl, 0, none⟩)), (2, .int .i64 0), (3, .int .i64 (10 * ((lg.mks.length : Nat) : Int)))]) (φ := (bl = bl ∧ Nat.ble (16 + 1) 18 = true) ∧ inR .i64 (10 * ((lg.mks.length : Nat) : Int)) ∧ True) (rest := []) h3 (by kernel_rfl) rfl ⟨⟨rfl, rfl⟩, ⟨by omega, by omega⟩, trivial⟩ fun a5 h6 => ?_
  clear h3
  refine nd_done ?_
  refine hK4 _ _ ?_
  clear hK4
  refine wp_seq_k fun K7 hK7 => ?_
  refine wp_seq_k fun K8 hK8 => ?_
  refine nd_start (l := [0, 1, 2, 3, 4, 5]) rfl ?_
  refine nd_batch tabOk tabZ_ok [(0, {}), (1, {}), (2, {}), (3, {k := 0}), (4, {}), (5, {})] [0, 2, 3, 15, 16, 17] (T' := [(0, .pointer (some ⟨bl, 0, none⟩)), (2, .int .i64 0), (3, .int .i64 (10 * ((lg.mks.length : Nat) : Int))), (15, .slice eo lg.evs.length ec), (16, .int .i64 ((lg.evs.length : Nat) : Int)), (17, .int .i64 0)]) (φ := (bl = bl ∧ Nat.ble (15 + 1) 18 = true) ∧ True) (rest := []) h6 (by kernel_rfl) rfl ⟨⟨rfl, rfl⟩, trivial⟩ fun a9 h10 => ?_
  clear h6
  refine nd_done ?_
  refine hK8 _ _ ?_
  clear hK8
  refine wp_block ?_
  refine wp_loop_ghost (fun g ga gw => ∃ (k : Nat) (acc : Int), (k ≤ lg.evs.length) ∧ (g = lg.evs.length - k) ∧ (acc = 10 * lg.mks.length + costs (lg.evs.take k)) ∧ St ⟨27, [], w, Rws [rl evC 31 3 lg.evs eo ec eF, rl mkC 93 2 lg.mks mo mc mF, rl ptC 84 15 lg.sns so sc sF], Ff [rl evC 31 3 lg.evs eo ec eF, rl mkC 93 2 lg.mks mo mc mF, rl ptC 84 15 lg.sns so sc sF]⟩ [(3, .int .i64 acc), (15, .slice eo lg.evs.length ec), (16, .int .i64 ((lg.evs.length : Nat) : Int)), (17, .int .i64 ((k : Nat) : Int))] [(bl, ⟨logC lg.base (.slice eo lg.evs.length ec) (.slice mo lg.mks.length mc) (.slice so lg.sns.length sc), 89, true⟩)] ga gw) lg.evs.length ⟨0, (10 * (lg.mks.length : Int)), Nat.zero_le _, rfl, by simp [costs], (h10.slotsMono (restr_spec (keep := [3, 15, 16, 17]) rfl))⟩ ?_
  clear h10
  rintro g a11 w12 ⟨k, acc, hi14, hi15, hi16, h13⟩
  have hcb := costs_bd (lg.evs.take k)
  have htl : (lg.evs.take k).length ≤ k := by rw [List.length_take]; omega
  refine wp_seq_k fun K17 hK17 => ?_
  refine nd_start (l := [0]) rfl ?_
  refine nd_batch tabOk tabZ_ok [(0, {})] [3, 15, 16, 17, 18] (T' := [(3, .int .i64 acc), (15, .slice eo lg.evs.length ec), (16, .int .i64 ((lg.evs.length : Nat) : Int)), (17, .int .i64 ((k : Nat) : Int)), (18, .bool (decide (((k : Nat) : Int) < ((lg.evs.length : Nat) : Int))))]) (φ := True) (rest := []) h13 (by kernel_rfl) rfl trivial fun a18 h19 => ?_
  clear h13
  refine nd_done ?_
  refine hK17 _ _ ?_
  clear hK17
  refine wp_seq_k fun K20 hK20 => ?_
  refine c_split h19 (b := decide (((k : Nat) : Int) < ((lg.evs.length : Nat) : Int))) rfl (fun hc21 => ?_) (fun hc21 => ?_)
  ·
    have hc21f : ((k : Nat) : Int) < ((lg.evs.length : Nat) : Int) := by simpa using hc21
    obtain ⟨x, hx⟩ := Sx.get_some (xs := lg.evs) (i := k) (by omega)
    have hxe := hev x (List.mem_of_getElem? hx)
    have hcx := cost_bd x
    obtain ⟨b22, cs23, ho24, hb25, hc26, hF27, hq29, hl30⟩ := rl_open (h19.inv.get (j := 0) rfl) evC_len hx
    subst ho24 hF27
    have h28 := h19.open_ hb25 (h19.notinL (by simp [Ff]) (kcons (fun _ => (fun hq => hsep (by have hq2 : bl = b22 := hq; rw [hq2]; simp [Hd.F]))) knil))
    clear h19
    refine wp_skip ?_
    refine hK20 _ _ ?_
    clear hK20
    refine wp_seq_k fun K31 hK31 => ?_
    refine wp_block ?_
    refine wp_seq_k fun K32 hK32 => ?_
    refine nd_start (l := [0, 1, 2, 3]) rfl ?_
    refine nd_batch tabOk tabZ_ok [(0, {}), (1, {k := 1, m := 1, vs := [.int .u8 x.kind, .int .u32 x.pick, .int .u64 x.arg]})] [3, 15, 16, 17, 20] (T' := [(3, .int .i64 acc), (15, .slice (some ⟨b22, 0, none⟩) lg.evs.length ec), (16, .int .i64 ((lg.evs.length : Nat) : Int)), (17, .int .i64 ((k : Nat) : Int)), (20, .agg #[.int .u8 x.kind, .int .u32 x.pick, .int .u64 x.arg])]) (φ := (0 ≤ ((k : Nat) : Int) ∧ ((k : Nat) : Int) < ((lg.evs.length : Nat) : Int)) ∧ (b22 = b22 ∧ cellsAre cs23 (0 + (k * 3)) [.int .u8 x.kind, .int .u32 x.pick, .int .u64 x.arg]) ∧ True) (rest := [2, 3]) h28 (by kernel_rfl) rfl ⟨⟨by omega, by omega⟩, ⟨rfl, (by rw [Nat.zero_add]; exact hc26)⟩, trivial⟩ fun a33 h34 => ?_
    clear h28
    refine nd_op ?_
    refine op_new tabOk (cells := [.int .u8 0, .int .u32 0, .int .u64 0]) (ty := 31) (ln := none) (L1 := fun b35 => [(bl, ⟨logC lg.base (.slice (some ⟨b22, 0, none⟩) lg.evs.length ec) (.slice mo lg.mks.length mc) (.slice so lg.sns.length sc), 89, true⟩), (b22, ⟨cs23, 31, true⟩), (b35, ⟨[.int .u8 0, .int .u32 0, .int .u64 0], 31, false⟩)]) h34 rfl rfl rfl rfl (by kernel_rfl) (fun _ => rfl) fun b35 w36 a37 h38 hf39 hn40 => ?_
    clear h34
    refine nd_op ?_
    refine op_store tabOk {k := 2} (L' := [(bl, ⟨logC lg.base (.slice (some ⟨b22, 0, none⟩) lg.evs.length ec) (.slice mo lg.mks.length mc) (.slice so lg.sns.length sc), 89, true⟩), (b22, ⟨cs23, 31, true⟩), (b35, ⟨[.int .u8 x.kind, .int .u32 x.pick, .int .u64 x.arg], 31, false⟩)]) (φ := b35 = b35 ∧ Nat.ble (0 + 3) 3 = true) h38 rfl rfl rfl (by kernel_rfl) ⟨rfl, rfl⟩ fun w41 h42 => ?_
    clear h38
    refine nd_done ?_
    refine hK32 _ _ ?_
    clear hK32
    refine nd_start (l := [0, 1, 2, 3, 4]) rfl ?_
    refine nd_batch tabOk tabZ_ok [(0, {}), (1, {k := 2})] [5, 3, 15, 16, 17, 21, 22] (T' := [(5, .pointer (some ⟨b35, 0, none⟩)), (3, .int .i64 acc), (15, .slice (some ⟨b22, 0, none⟩) lg.evs.length ec), (16, .int .i64 ((lg.evs.length : Nat) : Int)), (17, .int .i64 ((k : Nat) : Int)), (21, .int .i64 acc), (22, .agg #[.int .u8 x.kind, .int .u32 x.pick, .int .u64 x.arg])]) (φ := (b35 = b35 ∧ Nat.ble (0 + 3) 3 = true) ∧ True) (rest := [2, 3, 4]) h42 (by kernel_rfl) rfl ⟨⟨rfl, rfl⟩, trivial⟩ fun a43 h44 => ?_
    clear h42
    refine nd_op ?_
    refine op_call h44 rfl rfl rfl (callOk Tryf.func61 (by decide) rfl) (args := [.agg #[.int .u8 x.kind, .int .u32 x.pick, .int .u64 x.arg]]) rfl (cost_ok x hxe _) ?_
    rintro _ w45 ⟨rfl, hf47⟩
    refine ⟨_, rfl, ?_⟩
    have h46 := (h44.grow hf47).put (d := some 23) (v := .int .i64 (cost x)) (T' := [(23, .int .i64 (cost x)), (5, .pointer (some ⟨b35, 0, none⟩)), (3, .int .i64 acc), (15, .slice (some ⟨b22, 0, none⟩) lg.evs.length ec), (16, .int .i64 ((lg.evs.length : Nat) : Int)), (17, .int .i64 ((k : Nat) : Int)), (21, .int .i64 acc), (22, .agg #[.int .u8 x.kind, .int .u32 x.pick, .int .u64 x.arg])]) rfl
    clear h44
    refine nd_batch tabOk tabZ_ok [(3, {}), (4, {})] [5, 15, 16, 17, 3] (T' := [(5, .pointer (some ⟨b35, 0, none⟩)), (15, .slice (some ⟨b22, 0, none⟩) lg.evs.length ec), (16, .int .i64 ((lg.evs.length : Nat) : Int)), (17, .int .i64 ((k : Nat) : Int)), (3, .int .i64 (acc + (cost x)))]) (φ := inR .i64 (acc + (cost x)) ∧ True) (rest := []) h46 (by kernel_rfl) rfl ⟨⟨by omega, by omega⟩, trivial⟩ fun a48 h49 => ?_
    clear h46
    refine nd_done ?_
    refine hK31 _ _ ?_
    clear hK31
    refine nd_start (l := [0, 1]) rfl ?_
    refine nd_batch tabOk tabZ_ok [(0, {}), (1, {})] [5, 15, 16, 3, 17] (T' := [(5, .pointer (some ⟨b35, 0, none⟩)), (15, .slice (some ⟨b22, 0, none⟩) lg.evs.length ec), (16, .int .i64 ((lg.evs.length : Nat) : Int)), (3, .int .i64 (acc + (cost x))), (17, .int .i64 (((k : Nat) : Int) + 1))]) (φ := inR .i64 (((k : Nat) : Int) + 1) ∧ True) (rest := []) h49 (by kernel_rfl) rfl ⟨⟨by omega, by omega⟩, trivial⟩ fun a50 h51 => ?_
    clear h49
    refine nd_done ?_
    have h52 := h51.memMono (L' := [(bl, ⟨logC lg.base (.slice (some ⟨b22, 0, none⟩) lg.evs.length ec) (.slice mo lg.mks.length mc) (.slice so lg.sns.length sc), 89, true⟩)]) (List.Sublist.cons_cons _ (List.Sublist.cons _ (List.Sublist.cons _ List.Sublist.slnil)))
    clear h51
    exact ⟨(g - 1), by omega, (k + 1), ((acc + (cost x))), by omega, by omega, by rw [Sx.take_snoc hx, costs_app]; simp only [costs]; omega, (h52.slotsMono (restr_spec (keep := [3, 15, 16, 17]) rfl))⟩
  ·
    have hc21f : ¬ ((k : Nat) : Int) < ((lg.evs.length : Nat) : Int) := by simpa using hc21
    have h53 := h19.slotsMono (T' := [(3, .int .i64 acc)]) (restr_spec (keep := [3]) rfl)
    clear h19
    have hik : k = lg.evs.length := by omega
    subst hik
    rw [List.take_length] at hi16
    refine wp_exit ?_
    refine hK7 _ _ ?_
    clear hK7
    refine wp_seq_k fun K54 hK54 => ?_
    refine nd_start (l := [0, 1]) rfl ?_
    refine nd_batch tabOk tabZ_ok [(0, {}), (1, {})] [3, 2] (T' := [(3, .int .i64 acc), (2, .int .i64 acc)]) (φ := True) (rest := []) h53 (by kernel_rfl) rfl trivial fun a55 h56 => ?_
    clear h53
    refine nd_done ?_
    refine hK54 _ _ ?_
    clear hK54
    refine wp_ret ?_
    try simp only [Exit.then, Exit.inBlock]
    try rw [if_pos trivial]
    exact s_ret tabOk tabZ_ok h56 [(.tmp 2, {})] (vs := [.int .i64 acc]) (φ := True) rfl (by kernel_rfl) trivial ⟨by rw [hi16]; rfl, h56.frame⟩

end Go.Proofs.Qxb6500919aFmt
