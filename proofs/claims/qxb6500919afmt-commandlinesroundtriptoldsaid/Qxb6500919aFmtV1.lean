/-
  plainOp. (Made by program: a symbolic walk that prints its steps.)
-/
import Derived.Test.Qxb6500919aFmtSp
namespace Go.Proofs.Qxb6500919aFmt
open Go.Sx Go.Rp Go.Extern.Stop Go.Stop Go.Extern
set_option maxRecDepth 100000
set_option maxHeartbeats 4000000
set_option linter.unusedVariables false
set_option linter.unusedSimpArgs false

theorem plain_ok (op : Opn) (w : World) : Calls Tryf.prog 8 #[.agg (opC op).toArray] w fun e w' => e = .returned (.agg (opC (plainP op)).toArray) ∧ Fr [] w w' := by
  refine enter0 (n := 29) (K := []) (T := [(0, .agg #[.int .u8 op.kind, .int .i64 op.n, .int .i64 op.m, .int .u8 op.ev.kind, .int .u32 op.ev.pick, .int .u64 op.ev.arg])]) (L := []) (args := [.agg #[.int .u8 op.kind, .int .i64 op.n, .int .i64 op.m, .int .u8 op.ev.kind, .int .u32 op.ev.pick, .int .u64 op.ev.arg]]) Tryf.func8 rfl rfl rfl rfl knil (by simp) knil ?_
  intro a h
  refine wp_seq_k fun K1 hK1 => ?_
  refine nd_start (l := [0, 1]) rfl ?_
  refine nd_op ?_
  refine op_new tabOk2 (cells := [.int .u8 op.kind, .int .i64 op.n, .int .i64 op.m, .int .u8 op.ev.kind, .int .u32 op.ev.pick, .int .u64 op.ev.arg]) (ty := 33) (ln := none) (L1 := fun b2 => [(b2, ⟨[.int .u8 op.kind, .int .i64 op.n, .int .i64 op.m, .int .u8 op.ev.kind, .int .u32 op.ev.pick, .int .u64 op.ev.arg], 33, false⟩)]) h rfl rfl rfl rfl (by kernel_rfl) (fun _ => rfl) fun b2 w3 a4 h5 hf6 hn7 => ?_
  clear h
  refine nd_op ?_
  refine op_new tabOk2 (cells := [.int .u8 0, .int .i64 0, .int .i64 0, .int .u8 0, .int .u32 0, .int .u64 0]) (ty := 33) (ln := none) (L1 := fun b8 => [(b2, ⟨[.int .u8 op.kind, .int .i64 op.n, .int .i64 op.m, .int .u8 op.ev.kind, .int .u32 op.ev.pick, .int .u64 op.ev.arg], 33, false⟩), (b8, ⟨[.int .u8 0, .int .i64 0, .int .i64 0, .int .u8 0, .int .u32 0, .int .u64 0], 33, false⟩)]) h5 rfl rfl rfl rfl (by kernel_rfl) (fun _ => rfl) fun b8 w9 a10 h11 hf12 hn13 => ?_
  clear h5
  refine nd_done ?_
  refine hK1 _ _ ?_
  clear hK1
  refine wp_seq_k fun K14 hK14 => ?_
  refine nd_start (l := [0, 1, 2, 3, 4]) rfl ?_
  refine nd_batch tabOk2 tabZ_ok2 [(0, {}), (1, {k := 0}), (2, {})] [2, 1, 0, 6] (T' := [(2, .pointer (some ⟨b8, 0, none⟩)), (1, .pointer (some ⟨b2, 0, none⟩)), (0, .agg #[.int .u8 op.kind, .int .i64 op.n, .int .i64 op.m, .int .u8 op.ev.kind, .int .u32 op.ev.pick, .int .u64 op.ev.arg]), (6, .agg #[.int .u8 op.kind, .int .i64 0, .int .i64 0, .int .u8 0, .int .u32 0, .int .u64 0])]) (φ := (b2 = b2 ∧ Nat.ble (0 + 1) 6 = true) ∧ True) (rest := [3, 4]) h11 (by kernel_rfl) rfl ⟨⟨rfl, rfl⟩, trivial⟩ fun a15 h16 => ?_
  clear h11
  refine nd_op ?_
  refine op_new tabOk2 (cells := [.int .u8 0, .int .i64 0, .int .i64 0, .int .u8 0, .int .u32 0, .int .u64 0]) (ty := 33) (ln := none) (L1 := fun b17 => [(b2, ⟨[.int .u8 op.kind, .int .i64 op.n, .int .i64 op.m, .int .u8 op.ev.kind, .int .u32 op.ev.pick, .int .u64 op.ev.arg], 33, false⟩), (b8, ⟨[.int .u8 0, .int .i64 0, .int .i64 0, .int .u8 0, .int .u32 0, .int .u64 0], 33, false⟩), (b17, ⟨[.int .u8 0, .int .i64 0, .int .i64 0, .int .u8 0, .int .u32 0, .int .u64 0], 33, false⟩)]) h16 rfl rfl rfl rfl (by kernel_rfl) (fun _ => rfl) fun b17 w18 a19 h20 hf21 hn22 => ?_
  clear h16
  refine nd_op ?_
  refine op_store tabOk2 {k := 2} (L' := [(b2, ⟨[.int .u8 op.kind, .int .i64 op.n, .int .i64 op.m, .int .u8 op.ev.kind, .int .u32 op.ev.pick, .int .u64 op.ev.arg], 33, false⟩), (b8, ⟨[.int .u8 0, .int .i64 0, .int .i64 0, .int .u8 0, .int .u32 0, .int .u64 0], 33, false⟩), (b17, ⟨[.int .u8 op.kind, .int .i64 0, .int .i64 0, .int .u8 0, .int .u32 0, .int .u64 0], 33, false⟩)]) (φ := b17 = b17 ∧ Nat.ble (0 + 6) 6 = true) h20 rfl rfl rfl (by kernel_rfl) ⟨rfl, rfl⟩ fun w23 h24 => ?_
  clear h20
  refine nd_done ?_
  refine hK14 _ _ ?_
  clear hK14
  refine wp_seq_k fun K25 hK25 => ?_
  refine wp_seq_k fun K26 hK26 => ?_
  refine nd_start (l := [0, 1]) rfl ?_
  refine nd_batch tabOk2 tabZ_ok2 [(0, {}), (1, {k := 0})] [3, 2, 1, 0, 8] (T' := [(3, .pointer (some ⟨b17, 0, none⟩)), (2, .pointer (some ⟨b8, 0, none⟩)), (1, .pointer (some ⟨b2, 0, none⟩)), (0, .agg #[.int .u8 op.kind, .int .i64 op.n, .int .i64 op.m, .int .u8 op.ev.kind, .int .u32 op.ev.pick, .int .u64 op.ev.arg]), (8, .int .u8 op.kind)]) (φ := (b2 = b2 ∧ Nat.ble (0 + 1) 6 = true) ∧ True) (rest := []) h24 (by kernel_rfl) rfl ⟨⟨rfl, rfl⟩, trivial⟩ fun a27 h28 => ?_
  clear h24
  refine nd_done ?_
  refine hK26 _ _ ?_
  clear hK26
  refine wp_block ?_
  refine wp_seq_k fun K29 hK29 => ?_
  refine nd_start (l := [0, 1]) rfl ?_
  refine nd_batch tabOk2 tabZ_ok2 [(0, {}), (1, {})] [3, 2, 1, 0, 8, 12] (T' := [(3, .pointer (some ⟨b17, 0, none⟩)), (2, .pointer (some ⟨b8, 0, none⟩)), (1, .pointer (some ⟨b2, 0, none⟩)), (0, .agg #[.int .u8 op.kind, .int .i64 op.n, .int .i64 op.m, .int .u8 op.ev.kind, .int .u32 op.ev.pick, .int .u64 op.ev.arg]), (8, .int .u8 op.kind), (12, .bool (op.kind == 0))]) (φ := True) (rest := []) h28 (by kernel_rfl) rfl trivial fun a30 h31 => ?_
  clear h28
  refine nd_done ?_
  refine hK29 _ _ ?_
  clear hK29
  refine c_split h31 (b := (op.kind == 0)) rfl (fun hc32 => ?_) (fun hc32 => ?_)
  ·
    have hc32f : op.kind = 0 := by simpa using hc32
    refine nd_start (l := [0, 1, 2, 3]) rfl ?_
    refine nd_batch tabOk2 tabZ_ok2 [(0, {}), (1, {k := 0}), (2, {})] [3, 2, 1, 0, 8, 15, 16] (T' := [(3, .pointer (some ⟨b17, 0, none⟩)), (2, .pointer (some ⟨b8, 0, none⟩)), (1, .pointer (some ⟨b2, 0, none⟩)), (0, .agg #[.int .u8 op.kind, .int .i64 op.n, .int .i64 op.m, .int .u8 op.ev.kind, .int .u32 op.ev.pick, .int .u64 op.ev.arg]), (8, .int .u8 op.kind), (15, .agg #[.int .u8 op.ev.kind, .int .u32 op.ev.pick, .int .u64 op.ev.arg]), (16, .pointer (some ⟨b17, 3, none⟩))]) (φ := (b2 = b2 ∧ Nat.ble (3 + 3) 6 = true) ∧ True) (rest := [3]) h31 (by kernel_rfl) rfl ⟨⟨rfl, rfl⟩, trivial⟩ fun a33 h34 => ?_
    clear h31
    refine nd_op ?_
    refine op_store tabOk2 {k := 2} (L' := [(b2, ⟨[.int .u8 op.kind, .int .i64 op.n, .int .i64 op.m, .int .u8 op.ev.kind, .int .u32 op.ev.pick, .int .u64 op.ev.arg], 33, false⟩), (b8, ⟨[.int .u8 0, .int .i64 0, .int .i64 0, .int .u8 0, .int .u32 0, .int .u64 0], 33, false⟩), (b17, ⟨[.int .u8 op.kind, .int .i64 0, .int .i64 0, .int .u8 op.ev.kind, .int .u32 op.ev.pick, .int .u64 op.ev.arg], 33, false⟩)]) (φ := b17 = b17 ∧ Nat.ble (3 + 3) 6 = true) h34 rfl rfl rfl (by kernel_rfl) ⟨rfl, rfl⟩ fun w35 h36 => ?_
    clear h34
    refine nd_done ?_
    refine hK25 _ _ ?_
    clear hK25
    refine wp_seq_k fun K37 hK37 => ?_
    refine nd_start (l := [0, 1]) rfl ?_
    refine nd_batch tabOk2 tabZ_ok2 [(0, {k := 2})] [3, 2, 1, 0, 8, 28] (T' := [(3, .pointer (some ⟨b17, 0, none⟩)), (2, .pointer (some ⟨b8, 0, none⟩)), (1, .pointer (some ⟨b2, 0, none⟩)), (0, .agg #[.int .u8 op.kind, .int .i64 op.n, .int .i64 op.m, .int .u8 op.ev.kind, .int .u32 op.ev.pick, .int .u64 op.ev.arg]), (8, .int .u8 op.kind), (28, .agg #[.int .u8 op.kind, .int .i64 0, .int .i64 0, .int .u8 op.ev.kind, .int .u32 op.ev.pick, .int .u64 op.ev.arg])]) (φ := (b17 = b17 ∧ Nat.ble (0 + 6) 6 = true) ∧ True) (rest := [1]) h36 (by kernel_rfl) rfl ⟨⟨rfl, rfl⟩, trivial⟩ fun a38 h39 => ?_
    clear h36
    refine nd_op ?_
    refine op_store tabOk2 {k := 1} (L' := [(b2, ⟨[.int .u8 op.kind, .int .i64 op.n, .int .i64 op.m, .int .u8 op.ev.kind, .int .u32 op.ev.pick, .int .u64 op.ev.arg], 33, false⟩), (b8, ⟨[.int .u8 op.kind, .int .i64 0, .int .i64 0, .int .u8 op.ev.kind, .int .u32 op.ev.pick, .int .u64 op.ev.arg], 33, false⟩), (b17, ⟨[.int .u8 op.kind, .int .i64 0, .int .i64 0, .int .u8 op.ev.kind, .int .u32 op.ev.pick, .int .u64 op.ev.arg], 33, false⟩)]) (φ := b8 = b8 ∧ Nat.ble (0 + 6) 6 = true) h39 rfl rfl rfl (by kernel_rfl) ⟨rfl, rfl⟩ fun w40 h41 => ?_
    clear h39
    refine nd_done ?_
    refine hK37 _ _ ?_
    clear hK37
    refine wp_ret ?_
    try simp only [Exit.then, Exit.inBlock]
    try rw [if_pos trivial]
    exact s_ret tabOk2 tabZ_ok2 h41 [(.cell 2 33, {k := 1})] (vs := [.agg #[.int .u8 op.kind, .int .i64 0, .int .i64 0, .int .u8 op.ev.kind, .int .u32 op.ev.pick, .int .u64 op.ev.arg]]) (φ := (b8 = b8 ∧ Nat.ble (0 + 6) 6 = true) ∧ True) rfl (by kernel_rfl) ⟨⟨rfl, rfl⟩, trivial⟩ ⟨(by rw [show plainP op = ⟨op.kind, 0, 0, ⟨op.ev.kind, op.ev.pick, op.ev.arg⟩⟩ from by simp [plainP, hc32f]]; rfl), h41.frame⟩
  ·
    have hc32f : op.kind ≠ 0 := by simpa using hc32
    refine wp_seq_k fun K42 hK42 => ?_
    refine nd_start (l := [0, 1]) rfl ?_
    refine nd_batch tabOk2 tabZ_ok2 [(0, {}), (1, {})] [3, 2, 1, 0, 8, 17] (T' := [(3, .pointer (some ⟨b17, 0, none⟩)), (2, .pointer (some ⟨b8, 0, none⟩)), (1, .pointer (some ⟨b2, 0, none⟩)), (0, .agg #[.int .u8 op.kind, .int .i64 op.n, .int .i64 op.m, .int .u8 op.ev.kind, .int .u32 op.ev.pick, .int .u64 op.ev.arg]), (8, .int .u8 op.kind), (17, .bool (op.kind == 7))]) (φ := True) (rest := []) h31 (by kernel_rfl) rfl trivial fun a43 h44 => ?_
    clear h31
    refine nd_done ?_
    refine hK42 _ _ ?_
    clear hK42
    refine c_split h44 (b := (op.kind == 7)) rfl (fun hc45 => ?_) (fun hc45 => ?_)
    ·
      have hc45f : op.kind = 7 := by simpa using hc45
      refine dr_start (KB := [b2, b8, b17]) (Bi := [[0, 1, 2], [0, 1, 2], [0, 1, 2], [0, 1, 2], [0, 1, 2], [0], [0, 1, 2], []]) mixed h44 fun w46 h47 => ?_
      clear h44
      refine dr_batch tabOk2 tabZ_ok2 (by repeat (first | with_reducible exact PF.body | with_reducible apply PF.inB | with_reducible apply PF.next)) [(0, {}), (1, {k := 0, p := 0}), (2, {}), (3, {k := 0, p := 0}), (4, {})] [3, 2, 1, 0, 8, 20, 22, 23] (T' := [(3, .pointer (some ⟨b17, 0, none⟩)), (2, .pointer (some ⟨b8, 0, none⟩)), (1, .pointer (some ⟨b2, 0, none⟩)), (0, .agg #[.int .u8 op.kind, .int .i64 op.n, .int .i64 op.m, .int .u8 op.ev.kind, .int .u32 op.ev.pick, .int .u64 op.ev.arg]), (8, .int .u8 op.kind), (20, .int .i64 op.n), (22, .int .i64 op.m), (23, .pointer (some ⟨b17, 1, none⟩))]) (φ := (b2 = b2 ∧ Nat.ble (1 + 1) 6 = true) ∧ (b2 = b2 ∧ Nat.ble (2 + 1) 6 = true) ∧ True) (fuel := 3) h47 (by kernel_rfl) rfl (by kernel_rfl) (by kernel_rfl) ⟨trivial, rfl, trivial, rfl, trivial, trivial⟩ ⟨⟨rfl, rfl⟩, ⟨rfl, rfl⟩, trivial⟩ fun a49 h50 => ?_
      clear h47
      refine wpAnyK_one (i := 5) (fuel := 2) (by kernel_rfl) ?_
      refine op_store tabOk2 {k := 2} (L' := [(b2, ⟨[.int .u8 op.kind, .int .i64 op.n, .int .i64 op.m, .int .u8 op.ev.kind, .int .u32 op.ev.pick, .int .u64 op.ev.arg], 33, false⟩), (b8, ⟨[.int .u8 0, .int .i64 0, .int .i64 0, .int .u8 0, .int .u32 0, .int .u64 0], 33, false⟩), (b17, ⟨[.int .u8 op.kind, .int .i64 op.n, .int .i64 0, .int .u8 0, .int .u32 0, .int .u64 0], 33, false⟩)]) (φ := b17 = b17 ∧ Nat.ble (1 + 1) 6 = true) h50 rfl rfl rfl (by kernel_rfl) ⟨rfl, rfl⟩ fun w51 h52 => ?_
      have hkh52 := h50.known
      refine ⟨(keepOf hkh52 h52.known (kcons (keepAt (q := 0) (q' := 0) rfl rfl) knil)), ?_⟩
      clear h50
      refine dr_batch tabOk2 tabZ_ok2 (by repeat (first | with_reducible exact PF.body | with_reducible apply PF.inB | with_reducible apply PF.next)) [(6, {})] [3, 2, 1, 0, 8, 22, 24] (T' := [(3, .pointer (some ⟨b17, 0, none⟩)), (2, .pointer (some ⟨b8, 0, none⟩)), (1, .pointer (some ⟨b2, 0, none⟩)), (0, .agg #[.int .u8 op.kind, .int .i64 op.n, .int .i64 op.m, .int .u8 op.ev.kind, .int .u32 op.ev.pick, .int .u64 op.ev.arg]), (8, .int .u8 op.kind), (22, .int .i64 op.m), (24, .pointer (some ⟨b17, 2, none⟩))]) (φ := True) (fuel := 1) h52 (by kernel_rfl) rfl (by kernel_rfl) (by kernel_rfl) ⟨trivial, trivial⟩ trivial fun a53 h54 => ?_
      clear h52
      refine wpAnyK_one (i := 7) (fuel := 0) (by kernel_rfl) ?_
      refine op_store tabOk2 {k := 2} (L' := [(b2, ⟨[.int .u8 op.kind, .int .i64 op.n, .int .i64 op.m, .int .u8 op.ev.kind, .int .u32 op.ev.pick, .int .u64 op.ev.arg], 33, false⟩), (b8, ⟨[.int .u8 0, .int .i64 0, .int .i64 0, .int .u8 0, .int .u32 0, .int .u64 0], 33, false⟩), (b17, ⟨[.int .u8 op.kind, .int .i64 op.n, .int .i64 op.m, .int .u8 0, .int .u32 0, .int .u64 0], 33, false⟩)]) (φ := b17 = b17 ∧ Nat.ble (2 + 1) 6 = true) h54 rfl rfl rfl (by kernel_rfl) ⟨rfl, rfl⟩ fun w55 h56 => ?_
      have hkh56 := h54.known
      refine ⟨keepNil, ?_⟩
      clear h54
      refine wpAnyK_done (by kernel_rfl) ?_ _
      refine hK25 _ _ ?_
      clear hK25
      refine wp_seq_k fun K57 hK57 => ?_
      refine nd_start (l := [0, 1]) rfl ?_
      refine nd_batch tabOk2 tabZ_ok2 [(0, {k := 2})] [3, 2, 1, 0, 8, 28] (T' := [(3, .pointer (some ⟨b17, 0, none⟩)), (2, .pointer (some ⟨b8, 0, none⟩)), (1, .pointer (some ⟨b2, 0, none⟩)), (0, .agg #[.int .u8 op.kind, .int .i64 op.n, .int .i64 op.m, .int .u8 op.ev.kind, .int .u32 op.ev.pick, .int .u64 op.ev.arg]), (8, .int .u8 op.kind), (28, .agg #[.int .u8 op.kind, .int .i64 op.n, .int .i64 op.m, .int .u8 0, .int .u32 0, .int .u64 0])]) (φ := (b17 = b17 ∧ Nat.ble (0 + 6) 6 = true) ∧ True) (rest := [1]) h56 (by kernel_rfl) rfl ⟨⟨rfl, rfl⟩, trivial⟩ fun a58 h59 => ?_
      clear h56
      refine nd_op ?_
      refine op_store tabOk2 {k := 1} (L' := [(b2, ⟨[.int .u8 op.kind, .int .i64 op.n, .int .i64 op.m, .int .u8 op.ev.kind, .int .u32 op.ev.pick, .int .u64 op.ev.arg], 33, false⟩), (b8, ⟨[.int .u8 op.kind, .int .i64 op.n, .int .i64 op.m, .int .u8 0, .int .u32 0, .int .u64 0], 33, false⟩), (b17, ⟨[.int .u8 op.kind, .int .i64 op.n, .int .i64 op.m, .int .u8 0, .int .u32 0, .int .u64 0], 33, false⟩)]) (φ := b8 = b8 ∧ Nat.ble (0 + 6) 6 = true) h59 rfl rfl rfl (by kernel_rfl) ⟨rfl, rfl⟩ fun w60 h61 => ?_
      clear h59
      refine nd_done ?_
      refine hK57 _ _ ?_
      clear hK57
      refine wp_ret ?_
      try simp only [Exit.then, Exit.inBlock]
      try rw [if_pos trivial]
      exact s_ret tabOk2 tabZ_ok2 h61 [(.cell 2 33, {k := 1})] (vs := [.agg #[.int .u8 op.kind, .int .i64 op.n, .int .i64 op.m, .int .u8 0, .int .u32 0, .int .u64 0]]) (φ := (b8 = b8 ∧ Nat.ble (0 + 6) 6 = true) ∧ True) rfl (by kernel_rfl) ⟨⟨rfl, rfl⟩, trivial⟩ ⟨(by rw [show plainP op = ⟨op.kind, op.n, op.m, ⟨0, 0, 0⟩⟩ from by simp [plainP, hc32f, hc45f]]; rfl), h61.frame⟩
    ·
      have hc45f : op.kind ≠ 7 := by simpa using hc45
      refine wp_seq_k fun K62 hK62 => ?_
      refine wp_seq_k fun K63 hK63 => ?_
      refine nd_start (l := [0, 1]) rfl ?_
      refine nd_batch tabOk2 tabZ_ok2 [(0, {}), (1, {})] [3, 2, 1, 0, 8, 25] (T' := [(3, .pointer (some ⟨b17, 0, none⟩)), (2, .pointer (some ⟨b8, 0, none⟩)), (1, .pointer (some ⟨b2, 0, none⟩)), (0, .agg #[.int .u8 op.kind, .int .i64 op.n, .int .i64 op.m, .int .u8 op.ev.kind, .int .u32 op.ev.pick, .int .u64 op.ev.arg]), (8, .int .u8 op.kind), (25, .bool (op.kind == 5))]) (φ := True) (rest := []) h44 (by kernel_rfl) rfl trivial fun a64 h65 => ?_
      clear h44
      refine nd_done ?_
      refine hK63 _ _ ?_
      clear hK63
      refine c_split h65 (b := (op.kind == 5)) rfl (fun hc66 => ?_) (fun hc66 => ?_)
      ·
        have hc66f : op.kind = 5 := by simpa using hc66
        refine wp_skip ?_
        refine hK62 _ _ ?_
        clear hK62
        refine c_split h65 (b := (op.kind == 5)) rfl (fun hc67 => ?_) (fun hc67 => ?_)
        ·
          have hc67f : op.kind = 5 := by simpa using hc67
          refine wp_skip ?_
          refine hK25 _ _ ?_
          clear hK25
          refine wp_seq_k fun K68 hK68 => ?_
          refine nd_start (l := [0, 1]) rfl ?_
          refine nd_batch tabOk2 tabZ_ok2 [(0, {k := 2})] [3, 2, 1, 0, 8, 25, 28] (T' := [(3, .pointer (some ⟨b17, 0, none⟩)), (2, .pointer (some ⟨b8, 0, none⟩)), (1, .pointer (some ⟨b2, 0, none⟩)), (0, .agg #[.int .u8 op.kind, .int .i64 op.n, .int .i64 op.m, .int .u8 op.ev.kind, .int .u32 op.ev.pick, .int .u64 op.ev.arg]), (8, .int .u8 op.kind), (25, .bool (op.kind == 5)), (28, .agg #[.int .u8 op.kind, .int .i64 0, .int .i64 0, .int .u8 0, .int .u32 0, .int .u64 0])]) (φ := (b17 = b17 ∧ Nat.ble (0 + 6) 6 = true) ∧ True) (rest := [1]) h65 (by kernel_rfl) rfl ⟨⟨rfl, rfl⟩, trivial⟩ fun a69 h70 => ?_
          clear h65
          refine nd_op ?_
          refine op_store tabOk2 {k := 1} (L' := [(b2, ⟨[.int .u8 op.kind, .int .i64 op.n, .int .i64 op.m, .int .u8 op.ev.kind, .int .u32 op.ev.pick, .int .u64 op.ev.arg], 33, false⟩), (b8, ⟨[.int .u8 op.kind, .int .i64 0, .int .i64 0, .int .u8 0, .int .u32 0, .int .u64 0], 33, false⟩), (b17, ⟨[.int .u8 op.kind, .int .i64 0, .int .i64 0, .int .u8 0, .int .u32 0, .int .u64 0], 33, false⟩)]) (φ := b8 = b8 ∧ Nat.ble (0 + 6) 6 = true) h70 rfl rfl rfl (by kernel_rfl) ⟨rfl, rfl⟩ fun w71 h72 => ?_
          clear h70
          refine nd_done ?_
          refine hK68 _ _ ?_
          clear hK68
          refine wp_ret ?_
          try simp only [Exit.then, Exit.inBlock]
          try rw [if_pos trivial]
          exact s_ret tabOk2 tabZ_ok2 h72 [(.cell 2 33, {k := 1})] (vs := [.agg #[.int .u8 op.kind, .int .i64 0, .int .i64 0, .int .u8 0, .int .u32 0, .int .u64 0]]) (φ := (b8 = b8 ∧ Nat.ble (0 + 6) 6 = true) ∧ True) rfl (by kernel_rfl) ⟨⟨rfl, rfl⟩, trivial⟩ ⟨(by rw [show plainP op = ⟨op.kind, 0, 0, ⟨0, 0, 0⟩⟩ from by simp [plainP, hc32f, hc45f, hc66f, hc67f]]; rfl), h72.frame⟩
        ·
          exact absurd (hc67.symm.trans hc66) (by decide)
      ·
        have hc66f : op.kind ≠ 5 := by simpa using hc66
        refine nd_start (l := [0, 1]) rfl ?_
        refine nd_batch tabOk2 tabZ_ok2 [(0, {}), (1, {})] [3, 2, 1, 0, 8, 25] (T' := [(3, .pointer (some ⟨b17, 0, none⟩)), (2, .pointer (some ⟨b8, 0, none⟩)), (1, .pointer (some ⟨b2, 0, none⟩)), (0, .agg #[.int .u8 op.kind, .int .i64 op.n, .int .i64 op.m, .int .u8 op.ev.kind, .int .u32 op.ev.pick, .int .u64 op.ev.arg]), (8, .int .u8 op.kind), (25, .bool (op.kind == 8))]) (φ := True) (rest := []) h65 (by kernel_rfl) rfl trivial fun a73 h74 => ?_
        clear h65
        refine nd_done ?_
        refine hK62 _ _ ?_
        clear hK62
        refine c_split h74 (b := (op.kind == 8)) rfl (fun hc75 => ?_) (fun hc75 => ?_)
        ·
          have hc75f : op.kind = 8 := by simpa using hc75
          refine wp_skip ?_
          refine hK25 _ _ ?_
          clear hK25
          refine wp_seq_k fun K76 hK76 => ?_
          refine nd_start (l := [0, 1]) rfl ?_
          refine nd_batch tabOk2 tabZ_ok2 [(0, {k := 2})] [3, 2, 1, 0, 8, 25, 28] (T' := [(3, .pointer (some ⟨b17, 0, none⟩)), (2, .pointer (some ⟨b8, 0, none⟩)), (1, .pointer (some ⟨b2, 0, none⟩)), (0, .agg #[.int .u8 op.kind, .int .i64 op.n, .int .i64 op.m, .int .u8 op.ev.kind, .int .u32 op.ev.pick, .int .u64 op.ev.arg]), (8, .int .u8 op.kind), (25, .bool (op.kind == 8)), (28, .agg #[.int .u8 op.kind, .int .i64 0, .int .i64 0, .int .u8 0, .int .u32 0, .int .u64 0])]) (φ := (b17 = b17 ∧ Nat.ble (0 + 6) 6 = true) ∧ True) (rest := [1]) h74 (by kernel_rfl) rfl ⟨⟨rfl, rfl⟩, trivial⟩ fun a77 h78 => ?_
          clear h74
          refine nd_op ?_
          refine op_store tabOk2 {k := 1} (L' := [(b2, ⟨[.int .u8 op.kind, .int .i64 op.n, .int .i64 op.m, .int .u8 op.ev.kind, .int .u32 op.ev.pick, .int .u64 op.ev.arg], 33, false⟩), (b8, ⟨[.int .u8 op.kind, .int .i64 0, .int .i64 0, .int .u8 0, .int .u32 0, .int .u64 0], 33, false⟩), (b17, ⟨[.int .u8 op.kind, .int .i64 0, .int .i64 0, .int .u8 0, .int .u32 0, .int .u64 0], 33, false⟩)]) (φ := b8 = b8 ∧ Nat.ble (0 + 6) 6 = true) h78 rfl rfl rfl (by kernel_rfl) ⟨rfl, rfl⟩ fun w79 h80 => ?_
          clear h78
          refine nd_done ?_
          refine hK76 _ _ ?_
          clear hK76
          refine wp_ret ?_
          try simp only [Exit.then, Exit.inBlock]
          try rw [if_pos trivial]
          exact s_ret tabOk2 tabZ_ok2 h80 [(.cell 2 33, {k := 1})] (vs := [.agg #[.int .u8 op.kind, .int .i64 0, .int .i64 0, .int .u8 0, .int .u32 0, .int .u64 0]]) (φ := (b8 = b8 ∧ Nat.ble (0 + 6) 6 = true) ∧ True) rfl (by kernel_rfl) ⟨⟨rfl, rfl⟩, trivial⟩ ⟨(by rw [show plainP op = ⟨op.kind, 0, 0, ⟨0, 0, 0⟩⟩ from by simp [plainP, hc32f, hc45f, hc66f, hc75f]]; rfl), h80.frame⟩
        ·
          have hc75f : op.kind ≠ 8 := by simpa using hc75
          refine nd_start (l := [0, 1, 2, 3]) rfl ?_
          refine nd_batch tabOk2 tabZ_ok2 [(0, {}), (1, {k := 0}), (2, {})] [3, 2, 1, 0, 8, 25, 10, 11] (T' := [(3, .pointer (some ⟨b17, 0, none⟩)), (2, .pointer (some ⟨b8, 0, none⟩)), (1, .pointer (some ⟨b2, 0, none⟩)), (0, .agg #[.int .u8 op.kind, .int .i64 op.n, .int .i64 op.m, .int .u8 op.ev.kind, .int .u32 op.ev.pick, .int .u64 op.ev.arg]), (8, .int .u8 op.kind), (25, .bool (op.kind == 8)), (10, .int .i64 op.n), (11, .pointer (some ⟨b17, 1, none⟩))]) (φ := (b2 = b2 ∧ Nat.ble (1 + 1) 6 = true) ∧ True) (rest := [3]) h74 (by kernel_rfl) rfl ⟨⟨rfl, rfl⟩, trivial⟩ fun a81 h82 => ?_
          clear h74
          refine nd_op ?_
          refine op_store tabOk2 {k := 2} (L' := [(b2, ⟨[.int .u8 op.kind, .int .i64 op.n, .int .i64 op.m, .int .u8 op.ev.kind, .int .u32 op.ev.pick, .int .u64 op.ev.arg], 33, false⟩), (b8, ⟨[.int .u8 0, .int .i64 0, .int .i64 0, .int .u8 0, .int .u32 0, .int .u64 0], 33, false⟩), (b17, ⟨[.int .u8 op.kind, .int .i64 op.n, .int .i64 0, .int .u8 0, .int .u32 0, .int .u64 0], 33, false⟩)]) (φ := b17 = b17 ∧ Nat.ble (1 + 1) 6 = true) h82 rfl rfl rfl (by kernel_rfl) ⟨rfl, rfl⟩ fun w83 h84 => ?_
          clear h82
          refine nd_done ?_
          refine hK25 _ _ ?_
          clear hK25
          refine wp_seq_k fun K85 hK85 => ?_
          refine nd_start (l := [0, 1]) rfl ?_
          refine nd_batch tabOk2 tabZ_ok2 [(0, {k := 2})] [3, 2, 1, 0, 8, 25, 28] (T' := [(3, .pointer (some ⟨b17, 0, none⟩)), (2, .pointer (some ⟨b8, 0, none⟩)), (1, .pointer (some ⟨b2, 0, none⟩)), (0, .agg #[.int .u8 op.kind, .int .i64 op.n, .int .i64 op.m, .int .u8 op.ev.kind, .int .u32 op.ev.pick, .int .u64 op.ev.arg]), (8, .int .u8 op.kind), (25, .bool (op.kind == 8)), (28, .agg #[.int .u8 op.kind, .int .i64 op.n, .int .i64 0, .int .u8 0, .int .u32 0, .int .u64 0])]) (φ := (b17 = b17 ∧ Nat.ble (0 + 6) 6 = true) ∧ True) (rest := [1]) h84 (by kernel_rfl) rfl ⟨⟨rfl, rfl⟩, trivial⟩ fun a86 h87 => ?_
          clear h84
          refine nd_op ?_
          refine op_store tabOk2 {k := 1} (L' := [(b2, ⟨[.int .u8 op.kind, .int .i64 op.n, .int .i64 op.m, .int .u8 op.ev.kind, .int .u32 op.ev.pick, .int .u64 op.ev.arg], 33, false⟩), (b8, ⟨[.int .u8 op.kind, .int .i64 op.n, .int .i64 0, .int .u8 0, .int .u32 0, .int .u64 0], 33, false⟩), (b17, ⟨[.int .u8 op.kind, .int .i64 op.n, .int .i64 0, .int .u8 0, .int .u32 0, .int .u64 0], 33, false⟩)]) (φ := b8 = b8 ∧ Nat.ble (0 + 6) 6 = true) h87 rfl rfl rfl (by kernel_rfl) ⟨rfl, rfl⟩ fun w88 h89 => ?_
          clear h87
          refine nd_done ?_
          refine hK85 _ _ ?_
          clear hK85
          refine wp_ret ?_
          try simp only [Exit.then, Exit.inBlock]
          try rw [if_pos trivial]
          exact s_ret tabOk2 tabZ_ok2 h89 [(.cell 2 33, {k := 1})] (vs := [.agg #[.int .u8 op.kind, .int .i64 op.n, .int .i64 0, .int .u8 0, .int .u32 0, .int .u64 0]]) (φ := (b8 = b8 ∧ Nat.ble (0 + 6) 6 = true) ∧ True) rfl (by kernel_rfl) ⟨⟨rfl, rfl⟩, trivial⟩ ⟨(by rw [show plainP op = ⟨op.kind, op.n, 0, ⟨0, 0, 0⟩⟩ from by simp [plainP, hc32f, hc45f, hc66f, hc75f]]; rfl), h89.frame⟩

end Go.Proofs.Qxb6500919aFmt
