/-
  Format. (Made by program: a symbolic walk that prints its steps.)
-/
import Derived.Test.Qxb6500919aFmtV1
namespace Go.Proofs.Qxb6500919aFmt
open Go.Sx Go.Rp Go.Extern.Stop Go.Stop Go.Extern
set_option maxRecDepth 100000
set_option maxHeartbeats 4000000
set_option linter.unusedVariables false
set_option linter.unusedSimpArgs false

theorem ans_fr {F : Interp} {K : List Nat} {w w' : World} (h : F.told.answers w.tape) (hf : Fr K w w') : F.told.answers w'.tape := by rw [hf.tape]; exact h

theorem verbW_len (k : Nat) : (verbW k).length ≤ 8 := by unfold verbW; split <;> decide

theorem format_ok (F : Interp) (op : Opn) (hop : op.ok) (hn0 : -9223372036854775808 ≤ op.n) (hn1 : op.n ≤ 9223372036854775807) (hm0 : -9223372036854775808 ≤ op.m) (hm1 : op.m ≤ 9223372036854775807) (w : World) (hg : GV w) (hF : F.told.answers w.tape) :
    Calls Tryf.prog 6 #[.agg (opC op).toArray] w fun e w' => e = .returned (.tuple #[.string (bs (if op.kind < 9 then fmtP op else [])), .bool (decide (op.kind < 9))]) ∧ Fr [] w w' := by
  have hk0 := hop.1.1
  have hl0 := verbW_len op.kind.toNat
  have hl1 := FmtText.itoa_length_le (wf_i64 ⟨hn0, hn1⟩)
  have hl2 := FmtText.itoa_length_le (wf_i64 ⟨hm0, hm1⟩)
  have hl3 := txt1_len op.ev hop.2
  refine enter0 (n := 64) (K := []) (T := [(0, .agg #[.int .u8 op.kind, .int .i64 op.n, .int .i64 op.m, .int .u8 op.ev.kind, .int .u32 op.ev.pick, .int .u64 op.ev.arg])]) (L := []) (args := [.agg #[.int .u8 op.kind, .int .i64 op.n, .int .i64 op.m, .int .u8 op.ev.kind, .int .u32 op.ev.pick, .int .u64 op.ev.arg]]) Tryf.func6 rfl rfl rfl rfl knil (by simp) knil ?_
  intro a h
  refine wp_seq_k fun K1 hK1 => ?_
  refine nd_start (l := [0, 1, 2]) rfl ?_
  refine nd_op ?_
  refine op_new tabOk2 (cells := [.int .u8 op.kind, .int .i64 op.n, .int .i64 op.m, .int .u8 op.ev.kind, .int .u32 op.ev.pick, .int .u64 op.ev.arg]) (ty := 33) (ln := none) (L1 := fun b2 => [(b2, ⟨[.int .u8 op.kind, .int .i64 op.n, .int .i64 op.m, .int .u8 op.ev.kind, .int .u32 op.ev.pick, .int .u64 op.ev.arg], 33, false⟩)]) h rfl rfl rfl rfl (by kernel_rfl) (fun _ => rfl) fun b2 w3 a4 h5 hf6 hn7 => ?_
  clear h
  refine nd_batch tabOk2 tabZ_ok2 [(1, {}), (2, {})] [1, 0, 2, 3] (T' := [(1, .pointer (some ⟨b2, 0, none⟩)), (0, .agg #[.int .u8 op.kind, .int .i64 op.n, .int .i64 op.m, .int .u8 op.ev.kind, .int .u32 op.ev.pick, .int .u64 op.ev.arg]), (2, .string (bs ([] : List UInt8))), (3, .bool false)]) (φ := True) (rest := []) h5 (by kernel_rfl) rfl trivial fun a8 h9 => ?_
  clear h5
  refine nd_done ?_
  refine hK1 _ _ ?_
  clear hK1
  refine wp_seq_k fun K10 hK10 => ?_
  refine wp_seq_k fun K11 hK11 => ?_
  refine nd_start (l := [0, 1, 2]) rfl ?_
  refine nd_batch tabOk2 tabZ_ok2 [(0, {}), (1, {k := 0}), (2, {})] [1, 0, 2, 3, 6] (T' := [(1, .pointer (some ⟨b2, 0, none⟩)), (0, .agg #[.int .u8 op.kind, .int .i64 op.n, .int .i64 op.m, .int .u8 op.ev.kind, .int .u32 op.ev.pick, .int .u64 op.ev.arg]), (2, .string (bs ([] : List UInt8))), (3, .bool false), (6, .bool (decide (op.kind ≥ 9)))]) (φ := (b2 = b2 ∧ Nat.ble (0 + 1) 6 = true) ∧ True) (rest := []) h9 (by kernel_rfl) rfl ⟨⟨rfl, rfl⟩, trivial⟩ fun a12 h13 => ?_
  clear h9
  refine nd_done ?_
  refine hK11 _ _ ?_
  clear hK11
  refine c_split h13 (b := decide (op.kind ≥ 9)) rfl (fun hc14 => ?_) (fun hc14 => ?_)
  ·
    have hc14f : op.kind ≥ 9 := by simpa using hc14
    refine wp_seq_k fun K15 hK15 => ?_
    refine nd_start (l := [0, 1]) rfl ?_
    refine nd_batch tabOk2 tabZ_ok2 [(0, {}), (1, {})] [1, 0, 2, 3] (T' := [(1, .pointer (some ⟨b2, 0, none⟩)), (0, .agg #[.int .u8 op.kind, .int .i64 op.n, .int .i64 op.m, .int .u8 op.ev.kind, .int .u32 op.ev.pick, .int .u64 op.ev.arg]), (2, .string (bs ([] : List UInt8))), (3, .bool false)]) (φ := True) (rest := []) h13 (by kernel_rfl) rfl trivial fun a16 h17 => ?_
    clear h13
    refine nd_done ?_
    refine hK15 _ _ ?_
    clear hK15
    refine wp_ret ?_
    try simp only [Exit.then, Exit.inBlock]
    try rw [if_pos trivial]
    exact s_ret tabOk2 tabZ_ok2 h17 [(.tmp 2, {}), (.tmp 3, {})] (vs := [.string (bs ([] : List UInt8)), .bool false]) (φ := True) rfl (by kernel_rfl) trivial ⟨(by rw [if_neg (by omega), decide_eq_false (by omega)]; rfl), h17.frame⟩
  ·
    have hc14f : ¬ op.kind ≥ 9 := by simpa using hc14
    refine wp_skip ?_
    refine hK10 _ _ ?_
    clear hK10
    refine wp_seq_k fun K18 hK18 => ?_
    refine nd_start (l := [0, 1, 2, 3, 4, 5]) rfl ?_
    refine nd_batch tabOk2 tabZ_ok2 [(0, {}), (1, {k := 0}), (2, {}), (3, {})] [1, 0, 2, 3, 10] (T' := [(1, .pointer (some ⟨b2, 0, none⟩)), (0, .agg #[.int .u8 op.kind, .int .i64 op.n, .int .i64 op.m, .int .u8 op.ev.kind, .int .u32 op.ev.pick, .int .u64 op.ev.arg]), (2, .string (bs ([] : List UInt8))), (3, .bool false), (10, .pointer (some ⟨0, 0 + (op.kind.toNat * 2), none⟩))]) (φ := (b2 = b2 ∧ Nat.ble (0 + 1) 6 = true) ∧ (0 ≤ op.kind ∧ op.kind < 9) ∧ True) (rest := [4, 5]) h13 (by kernel_rfl) rfl ⟨⟨rfl, rfl⟩, ⟨by omega, by omega⟩, trivial⟩ fun a19 h20 => ?_
    clear h13
    refine nd_op ?_
    refine op_now (v := .string (bs (verbW op.kind.toNat))) h20 rfl rfl (run_cell tabOk2 h20.slots rfl rfl rfl rfl ((hg.fr h20.frame).word (k := op.kind.toNat) (by omega) rfl (by omega))) ?_
    have h21 := h20.put (d := some 11) (v := .string (bs (verbW op.kind.toNat))) (T' := [(11, .string (bs (verbW op.kind.toNat))), (1, .pointer (some ⟨b2, 0, none⟩)), (0, .agg #[.int .u8 op.kind, .int .i64 op.n, .int .i64 op.m, .int .u8 op.ev.kind, .int .u32 op.ev.pick, .int .u64 op.ev.arg]), (2, .string (bs ([] : List UInt8))), (3, .bool false), (10, .pointer (some ⟨0, 0 + (op.kind.toNat * 2), none⟩))]) rfl
    clear h20
    refine nd_batch tabOk2 tabZ_ok2 [(5, {})] [1, 0, 3, 2] (T' := [(1, .pointer (some ⟨b2, 0, none⟩)), (0, .agg #[.int .u8 op.kind, .int .i64 op.n, .int .i64 op.m, .int .u8 op.ev.kind, .int .u32 op.ev.pick, .int .u64 op.ev.arg]), (3, .bool false), (2, .string (bs (verbW op.kind.toNat)))]) (φ := True) (rest := []) h21 (by kernel_rfl) rfl trivial fun a22 h23 => ?_
    clear h21
    refine nd_done ?_
    refine hK18 _ _ ?_
    clear hK18
    refine wp_seq_k fun K24 hK24 => ?_
    refine wp_block ?_
    refine wp_seq_k fun K25 hK25 => ?_
    refine nd_start (l := [0, 1, 2, 3]) rfl ?_
    refine nd_batch tabOk2 tabZ_ok2 [(0, {}), (1, {k := 0}), (2, {}), (3, {})] [1, 0, 3, 2, 12] (T' := [(1, .pointer (some ⟨b2, 0, none⟩)), (0, .agg #[.int .u8 op.kind, .int .i64 op.n, .int .i64 op.m, .int .u8 op.ev.kind, .int .u32 op.ev.pick, .int .u64 op.ev.arg]), (3, .bool false), (2, .string (bs (verbW op.kind.toNat))), (12, .bool (op.kind == 0))]) (φ := (b2 = b2 ∧ Nat.ble (0 + 1) 6 = true) ∧ True) (rest := []) h23 (by kernel_rfl) rfl ⟨⟨rfl, rfl⟩, trivial⟩ fun a26 h27 => ?_
    clear h23
    refine nd_done ?_
    refine hK25 _ _ ?_
    clear hK25
    refine c_split h27 (b := (op.kind == 0)) rfl (fun hc28 => ?_) (fun hc28 => ?_)
    ·
      have hc28f : op.kind = 0 := by simpa using hc28
      refine nd_start (l := [0, 1, 2, 3, 4, 5, 6, 7, 8, 9, 10, 11, 12, 13, 14, 15, 16]) rfl ?_
      refine nd_batch tabOk2 tabZ_ok2 [(0, {}), (1, {}), (2, {}), (3, {k := 0})] [1, 0, 3, 2, 16, 19] (T' := [(1, .pointer (some ⟨b2, 0, none⟩)), (0, .agg #[.int .u8 op.kind, .int .i64 op.n, .int .i64 op.m, .int .u8 op.ev.kind, .int .u32 op.ev.pick, .int .u64 op.ev.arg]), (3, .bool false), (2, .string (bs (verbW op.kind.toNat))), (16, .string (bs (verbW op.kind.toNat))), (19, .int .u8 op.ev.kind)]) (φ := (b2 = b2 ∧ Nat.ble (3 + 1) 6 = true) ∧ True) (rest := [4, 5, 6, 7, 8, 9, 10, 11, 12, 13, 14, 15, 16]) h27 (by kernel_rfl) rfl ⟨⟨rfl, rfl⟩, trivial⟩ fun a29 h30 => ?_
      clear h27
      refine nd_op ?_
      refine op_pure (v := .iface 27 (.int .u8 op.ev.kind)) h30 rfl rfl (pure_iface tabOk2 h30.slots rfl rfl rfl (by intro fs hq; cases hq) (by intro fs hq; cases hq)) ?_
      have h31 := h30.put (d := some 20) (v := .iface 27 (.int .u8 op.ev.kind)) (T' := [(20, .iface 27 (.int .u8 op.ev.kind)), (1, .pointer (some ⟨b2, 0, none⟩)), (0, .agg #[.int .u8 op.kind, .int .i64 op.n, .int .i64 op.m, .int .u8 op.ev.kind, .int .u32 op.ev.pick, .int .u64 op.ev.arg]), (3, .bool false), (2, .string (bs (verbW op.kind.toNat))), (16, .string (bs (verbW op.kind.toNat))), (19, .int .u8 op.ev.kind)]) rfl
      clear h30
      refine nd_batch tabOk2 tabZ_ok2 [(5, {}), (6, {}), (7, {k := 0})] [20, 1, 0, 3, 2, 16, 23] (T' := [(20, .iface 27 (.int .u8 op.ev.kind)), (1, .pointer (some ⟨b2, 0, none⟩)), (0, .agg #[.int .u8 op.kind, .int .i64 op.n, .int .i64 op.m, .int .u8 op.ev.kind, .int .u32 op.ev.pick, .int .u64 op.ev.arg]), (3, .bool false), (2, .string (bs (verbW op.kind.toNat))), (16, .string (bs (verbW op.kind.toNat))), (23, .int .u32 op.ev.pick)]) (φ := (b2 = b2 ∧ Nat.ble (4 + 1) 6 = true) ∧ True) (rest := [8, 9, 10, 11, 12, 13, 14, 15, 16]) h31 (by kernel_rfl) rfl ⟨⟨rfl, rfl⟩, trivial⟩ fun a32 h33 => ?_
      clear h31
      refine nd_op ?_
      refine op_pure (v := .iface 28 (.int .u32 op.ev.pick)) h33 rfl rfl (pure_iface tabOk2 h33.slots rfl rfl rfl (by intro fs hq; cases hq) (by intro fs hq; cases hq)) ?_
      have h34 := h33.put (d := some 24) (v := .iface 28 (.int .u32 op.ev.pick)) (T' := [(24, .iface 28 (.int .u32 op.ev.pick)), (20, .iface 27 (.int .u8 op.ev.kind)), (1, .pointer (some ⟨b2, 0, none⟩)), (0, .agg #[.int .u8 op.kind, .int .i64 op.n, .int .i64 op.m, .int .u8 op.ev.kind, .int .u32 op.ev.pick, .int .u64 op.ev.arg]), (3, .bool false), (2, .string (bs (verbW op.kind.toNat))), (16, .string (bs (verbW op.kind.toNat))), (23, .int .u32 op.ev.pick)]) rfl
      clear h33
      refine nd_batch tabOk2 tabZ_ok2 [(9, {}), (10, {}), (11, {k := 0})] [24, 20, 1, 0, 3, 2, 16, 27] (T' := [(24, .iface 28 (.int .u32 op.ev.pick)), (20, .iface 27 (.int .u8 op.ev.kind)), (1, .pointer (some ⟨b2, 0, none⟩)), (0, .agg #[.int .u8 op.kind, .int .i64 op.n, .int .i64 op.m, .int .u8 op.ev.kind, .int .u32 op.ev.pick, .int .u64 op.ev.arg]), (3, .bool false), (2, .string (bs (verbW op.kind.toNat))), (16, .string (bs (verbW op.kind.toNat))), (27, .int .u64 op.ev.arg)]) (φ := (b2 = b2 ∧ Nat.ble (5 + 1) 6 = true) ∧ True) (rest := [12, 13, 14, 15, 16]) h34 (by kernel_rfl) rfl ⟨⟨rfl, rfl⟩, trivial⟩ fun a35 h36 => ?_
      clear h34
      refine nd_op ?_
      refine op_pure (v := .iface 29 (.int .u64 op.ev.arg)) h36 rfl rfl (pure_iface tabOk2 h36.slots rfl rfl rfl (by intro fs hq; cases hq) (by intro fs hq; cases hq)) ?_
      have h37 := h36.put (d := some 28) (v := .iface 29 (.int .u64 op.ev.arg)) (T' := [(28, .iface 29 (.int .u64 op.ev.arg)), (24, .iface 28 (.int .u32 op.ev.pick)), (20, .iface 27 (.int .u8 op.ev.kind)), (1, .pointer (some ⟨b2, 0, none⟩)), (0, .agg #[.int .u8 op.kind, .int .i64 op.n, .int .i64 op.m, .int .u8 op.ev.kind, .int .u32 op.ev.pick, .int .u64 op.ev.arg]), (3, .bool false), (2, .string (bs (verbW op.kind.toNat))), (16, .string (bs (verbW op.kind.toNat))), (27, .int .u64 op.ev.arg)]) rfl
      clear h36
      refine nd_op ?_
      refine op_new tabOk2 (cells := [.iface 27 (.int .u8 op.ev.kind), .iface 28 (.int .u32 op.ev.pick), .iface 29 (.int .u64 op.ev.arg)]) (ty := 20) (ln := (some 3)) (L1 := fun b38 => [(b2, ⟨[.int .u8 op.kind, .int .i64 op.n, .int .i64 op.m, .int .u8 op.ev.kind, .int .u32 op.ev.pick, .int .u64 op.ev.arg], 33, false⟩), (b38, ⟨[.iface 27 (.int .u8 op.ev.kind), .iface 28 (.int .u32 op.ev.pick), .iface 29 (.int .u64 op.ev.arg)], 20, false⟩)]) h37 rfl rfl rfl rfl (by kernel_rfl) (fun _ => rfl) fun b38 w39 a40 h41 hf42 hn43 => ?_
      clear h37
      refine nd_op ?_
      refine op_now (v := .string (bs (txt1 op.ev))) h41 rfl rfl (run_ext h41.slots rfl rfl (sprintf1 F op.ev hop.2 _ (ans_fr hF h41.frame) (h41.kn (k := 1) rfl))) ?_
      have h44q := h41.grow (fr_drew _)
      have h45 := h44q.put (d := some 30) (v := .string (bs (txt1 op.ev))) (T' := [(30, .string (bs (txt1 op.ev))), (29, .slice (some ⟨b38, 0, none⟩) 3 3), (28, .iface 29 (.int .u64 op.ev.arg)), (24, .iface 28 (.int .u32 op.ev.pick)), (20, .iface 27 (.int .u8 op.ev.kind)), (1, .pointer (some ⟨b2, 0, none⟩)), (0, .agg #[.int .u8 op.kind, .int .i64 op.n, .int .i64 op.m, .int .u8 op.ev.kind, .int .u32 op.ev.pick, .int .u64 op.ev.arg]), (3, .bool false), (2, .string (bs (verbW op.kind.toNat))), (16, .string (bs (verbW op.kind.toNat))), (27, .int .u64 op.ev.arg)]) rfl
      clear h41 h44q
      refine nd_op ?_
      refine op_pure (v := .string (bs ((verbW op.kind.toNat) ++ (txt1 op.ev)))) h45 rfl rfl (ps_add h45.slots rfl rfl rfl (by (try simp only [List.length_append, List.length_cons, List.length_nil]); omega)) ?_
      have h46 := h45.put (d := some 31) (v := .string (bs ((verbW op.kind.toNat) ++ (txt1 op.ev)))) (T' := [(31, .string (bs ((verbW op.kind.toNat) ++ (txt1 op.ev)))), (30, .string (bs (txt1 op.ev))), (29, .slice (some ⟨b38, 0, none⟩) 3 3), (28, .iface 29 (.int .u64 op.ev.arg)), (24, .iface 28 (.int .u32 op.ev.pick)), (20, .iface 27 (.int .u8 op.ev.kind)), (1, .pointer (some ⟨b2, 0, none⟩)), (0, .agg #[.int .u8 op.kind, .int .i64 op.n, .int .i64 op.m, .int .u8 op.ev.kind, .int .u32 op.ev.pick, .int .u64 op.ev.arg]), (3, .bool false), (2, .string (bs (verbW op.kind.toNat))), (16, .string (bs (verbW op.kind.toNat))), (27, .int .u64 op.ev.arg)]) rfl
      clear h45
      refine nd_batch tabOk2 tabZ_ok2 [(16, {})] [1, 0, 3, 2] (T' := [(1, .pointer (some ⟨b2, 0, none⟩)), (0, .agg #[.int .u8 op.kind, .int .i64 op.n, .int .i64 op.m, .int .u8 op.ev.kind, .int .u32 op.ev.pick, .int .u64 op.ev.arg]), (3, .bool false), (2, .string (bs ((verbW op.kind.toNat) ++ (txt1 op.ev))))]) (φ := True) (rest := []) h46 (by kernel_rfl) rfl trivial fun a47 h48 => ?_
      clear h46
      refine nd_done ?_
      refine hK24 _ _ ?_
      clear hK24
      refine wp_seq_k fun K49 hK49 => ?_
      refine nd_start (l := [0, 1, 2]) rfl ?_
      refine nd_batch tabOk2 tabZ_ok2 [(0, {}), (1, {}), (2, {})] [1, 0, 2, 3] (T' := [(1, .pointer (some ⟨b2, 0, none⟩)), (0, .agg #[.int .u8 op.kind, .int .i64 op.n, .int .i64 op.m, .int .u8 op.ev.kind, .int .u32 op.ev.pick, .int .u64 op.ev.arg]), (2, .string (bs ((verbW op.kind.toNat) ++ (txt1 op.ev)))), (3, .bool true)]) (φ := True) (rest := []) h48 (by kernel_rfl) rfl trivial fun a50 h51 => ?_
      clear h48
      refine nd_done ?_
      refine hK49 _ _ ?_
      clear hK49
      refine wp_ret ?_
      try simp only [Exit.then, Exit.inBlock]
      try rw [if_pos trivial]
      exact s_ret tabOk2 tabZ_ok2 h51 [(.tmp 2, {}), (.tmp 3, {})] (vs := [.string (bs ((verbW op.kind.toNat) ++ (txt1 op.ev))), .bool true]) (φ := True) rfl (by kernel_rfl) trivial ⟨(by rw [if_pos (by omega), decide_eq_true (by omega), show fmtP op = ((verbW op.kind.toNat) ++ (txt1 op.ev)) from by simp [fmtP, txt1, hc28f]]; rfl), h51.frame⟩
    ·
      have hc28f : op.kind ≠ 0 := by simpa using hc28
      refine wp_seq_k fun K52 hK52 => ?_
      refine nd_start (l := [0, 1, 2, 3, 4, 5, 6]) rfl ?_
      refine nd_batch tabOk2 tabZ_ok2 [(0, {}), (1, {k := 0}), (2, {}), (3, {})] [1, 0, 3, 2, 36] (T' := [(1, .pointer (some ⟨b2, 0, none⟩)), (0, .agg #[.int .u8 op.kind, .int .i64 op.n, .int .i64 op.m, .int .u8 op.ev.kind, .int .u32 op.ev.pick, .int .u64 op.ev.arg]), (3, .bool false), (2, .string (bs (verbW op.kind.toNat))), (36, .pointer (some ⟨0, 0 + (op.kind.toNat * 2) + 1, none⟩))]) (φ := (b2 = b2 ∧ Nat.ble (0 + 1) 6 = true) ∧ (0 ≤ op.kind ∧ op.kind < 9) ∧ True) (rest := [4, 5, 6]) h27 (by kernel_rfl) rfl ⟨⟨rfl, rfl⟩, ⟨by omega, by omega⟩, trivial⟩ fun a53 h54 => ?_
      clear h27
      refine nd_op ?_
      refine op_now (v := .int .i64 ((verbN op.kind.toNat : Nat) : Int)) h54 rfl rfl (run_cell tabOk2 h54.slots rfl rfl rfl rfl ((hg.fr h54.frame).args (k := op.kind.toNat) (by omega) rfl (by omega))) ?_
      have h55 := h54.put (d := some 37) (v := .int .i64 ((verbN op.kind.toNat : Nat) : Int)) (T' := [(37, .int .i64 ((verbN op.kind.toNat : Nat) : Int)), (1, .pointer (some ⟨b2, 0, none⟩)), (0, .agg #[.int .u8 op.kind, .int .i64 op.n, .int .i64 op.m, .int .u8 op.ev.kind, .int .u32 op.ev.pick, .int .u64 op.ev.arg]), (3, .bool false), (2, .string (bs (verbW op.kind.toNat))), (36, .pointer (some ⟨0, 0 + (op.kind.toNat * 2) + 1, none⟩))]) rfl
      clear h54
      refine nd_batch tabOk2 tabZ_ok2 [(5, {}), (6, {})] [1, 0, 3, 2, 32] (T' := [(1, .pointer (some ⟨b2, 0, none⟩)), (0, .agg #[.int .u8 op.kind, .int .i64 op.n, .int .i64 op.m, .int .u8 op.ev.kind, .int .u32 op.ev.pick, .int .u64 op.ev.arg]), (3, .bool false), (2, .string (bs (verbW op.kind.toNat))), (32, .bool (((verbN op.kind.toNat : Nat) : Int) == 1))]) (φ := True) (rest := []) h55 (by kernel_rfl) rfl trivial fun a56 h57 => ?_
      clear h55
      refine nd_done ?_
      refine hK52 _ _ ?_
      clear hK52
      refine c_split h57 (b := (((verbN op.kind.toNat : Nat) : Int) == 1)) rfl (fun hc58 => ?_) (fun hc58 => ?_)
      ·
        have hc58f : ((verbN op.kind.toNat : Nat) : Int) = 1 := by simpa using hc58
        have hvhc58 : verbN op.kind.toNat = 1 := by omega
        refine nd_start (l := [0, 1, 2, 3, 4, 5, 6]) rfl ?_
        refine nd_batch tabOk2 tabZ_ok2 [(0, {}), (1, {}), (2, {k := 0})] [1, 0, 3, 2, 39, 41] (T' := [(1, .pointer (some ⟨b2, 0, none⟩)), (0, .agg #[.int .u8 op.kind, .int .i64 op.n, .int .i64 op.m, .int .u8 op.ev.kind, .int .u32 op.ev.pick, .int .u64 op.ev.arg]), (3, .bool false), (2, .string (bs (verbW op.kind.toNat))), (39, .string (bs (verbW op.kind.toNat))), (41, .int .i64 op.n)]) (φ := (b2 = b2 ∧ Nat.ble (1 + 1) 6 = true) ∧ True) (rest := [3, 4, 5, 6]) h57 (by kernel_rfl) rfl ⟨⟨rfl, rfl⟩, trivial⟩ fun a59 h60 => ?_
        clear h57
        refine nd_op ?_
        refine op_call h60 rfl rfl rfl (callOk Tryf.func17 (by decide) rfl) (args := [.int .i64 op.n]) rfl (itoa_ok op.n hn0 hn1 _ (hg.fr h60.frame).lib) ?_
        rintro _ w61 ⟨rfl, hf63⟩
        refine ⟨_, rfl, ?_⟩
        have h62 := (h60.grow hf63).put (d := some 42) (v := .string (bs (Lib.itoa op.n))) (T' := [(42, .string (bs (Lib.itoa op.n))), (1, .pointer (some ⟨b2, 0, none⟩)), (0, .agg #[.int .u8 op.kind, .int .i64 op.n, .int .i64 op.m, .int .u8 op.ev.kind, .int .u32 op.ev.pick, .int .u64 op.ev.arg]), (3, .bool false), (2, .string (bs (verbW op.kind.toNat))), (39, .string (bs (verbW op.kind.toNat))), (41, .int .i64 op.n)]) rfl
        clear h60
        refine nd_op ?_
        refine op_pure (v := .string (bs ([32] ++ (Lib.itoa op.n)))) h62 rfl rfl (ps_add h62.slots rfl rfl rfl (by (try simp only [List.length_append, List.length_cons, List.length_nil]); omega)) ?_
        have h64 := h62.put (d := some 43) (v := .string (bs ([32] ++ (Lib.itoa op.n)))) (T' := [(43, .string (bs ([32] ++ (Lib.itoa op.n)))), (42, .string (bs (Lib.itoa op.n))), (1, .pointer (some ⟨b2, 0, none⟩)), (0, .agg #[.int .u8 op.kind, .int .i64 op.n, .int .i64 op.m, .int .u8 op.ev.kind, .int .u32 op.ev.pick, .int .u64 op.ev.arg]), (3, .bool false), (2, .string (bs (verbW op.kind.toNat))), (39, .string (bs (verbW op.kind.toNat))), (41, .int .i64 op.n)]) rfl
        clear h62
        refine nd_op ?_
        refine op_pure (v := .string (bs ((verbW op.kind.toNat) ++ ([32] ++ (Lib.itoa op.n))))) h64 rfl rfl (ps_add h64.slots rfl rfl rfl (by (try simp only [List.length_append, List.length_cons, List.length_nil]); omega)) ?_
        have h65 := h64.put (d := some 44) (v := .string (bs ((verbW op.kind.toNat) ++ ([32] ++ (Lib.itoa op.n))))) (T' := [(44, .string (bs ((verbW op.kind.toNat) ++ ([32] ++ (Lib.itoa op.n))))), (43, .string (bs ([32] ++ (Lib.itoa op.n)))), (42, .string (bs (Lib.itoa op.n))), (1, .pointer (some ⟨b2, 0, none⟩)), (0, .agg #[.int .u8 op.kind, .int .i64 op.n, .int .i64 op.m, .int .u8 op.ev.kind, .int .u32 op.ev.pick, .int .u64 op.ev.arg]), (3, .bool false), (2, .string (bs (verbW op.kind.toNat))), (39, .string (bs (verbW op.kind.toNat))), (41, .int .i64 op.n)]) rfl
        clear h64
        refine nd_batch tabOk2 tabZ_ok2 [(6, {})] [1, 0, 3, 2] (T' := [(1, .pointer (some ⟨b2, 0, none⟩)), (0, .agg #[.int .u8 op.kind, .int .i64 op.n, .int .i64 op.m, .int .u8 op.ev.kind, .int .u32 op.ev.pick, .int .u64 op.ev.arg]), (3, .bool false), (2, .string (bs ((verbW op.kind.toNat) ++ ([32] ++ (Lib.itoa op.n)))))]) (φ := True) (rest := []) h65 (by kernel_rfl) rfl trivial fun a66 h67 => ?_
        clear h65
        refine nd_done ?_
        refine hK24 _ _ ?_
        clear hK24
        refine wp_seq_k fun K68 hK68 => ?_
        refine nd_start (l := [0, 1, 2]) rfl ?_
        refine nd_batch tabOk2 tabZ_ok2 [(0, {}), (1, {}), (2, {})] [1, 0, 2, 3] (T' := [(1, .pointer (some ⟨b2, 0, none⟩)), (0, .agg #[.int .u8 op.kind, .int .i64 op.n, .int .i64 op.m, .int .u8 op.ev.kind, .int .u32 op.ev.pick, .int .u64 op.ev.arg]), (2, .string (bs ((verbW op.kind.toNat) ++ ([32] ++ (Lib.itoa op.n))))), (3, .bool true)]) (φ := True) (rest := []) h67 (by kernel_rfl) rfl trivial fun a69 h70 => ?_
        clear h67
        refine nd_done ?_
        refine hK68 _ _ ?_
        clear hK68
        refine wp_ret ?_
        try simp only [Exit.then, Exit.inBlock]
        try rw [if_pos trivial]
        exact s_ret tabOk2 tabZ_ok2 h70 [(.tmp 2, {}), (.tmp 3, {})] (vs := [.string (bs ((verbW op.kind.toNat) ++ ([32] ++ (Lib.itoa op.n)))), .bool true]) (φ := True) rfl (by kernel_rfl) trivial ⟨(by rw [if_pos (by omega), decide_eq_true (by omega), show fmtP op = ((verbW op.kind.toNat) ++ ([32] ++ (Lib.itoa op.n))) from by simp [fmtP, txt1, hc28f, hvhc58]]; rfl), h70.frame⟩
      ·
        have hc58f : ((verbN op.kind.toNat : Nat) : Int) ≠ 1 := by simpa using hc58
        have hvhc58 : verbN op.kind.toNat ≠ 1 := by omega
        refine wp_seq_k fun K71 hK71 => ?_
        refine nd_start (l := [0, 1, 2, 3, 4, 5, 6]) rfl ?_
        refine nd_batch tabOk2 tabZ_ok2 [(0, {}), (1, {k := 0}), (2, {}), (3, {})] [1, 0, 3, 2, 49] (T' := [(1, .pointer (some ⟨b2, 0, none⟩)), (0, .agg #[.int .u8 op.kind, .int .i64 op.n, .int .i64 op.m, .int .u8 op.ev.kind, .int .u32 op.ev.pick, .int .u64 op.ev.arg]), (3, .bool false), (2, .string (bs (verbW op.kind.toNat))), (49, .pointer (some ⟨0, 0 + (op.kind.toNat * 2) + 1, none⟩))]) (φ := (b2 = b2 ∧ Nat.ble (0 + 1) 6 = true) ∧ (0 ≤ op.kind ∧ op.kind < 9) ∧ True) (rest := [4, 5, 6]) h57 (by kernel_rfl) rfl ⟨⟨rfl, rfl⟩, ⟨by omega, by omega⟩, trivial⟩ fun a72 h73 => ?_
        clear h57
        refine nd_op ?_
        refine op_now (v := .int .i64 ((verbN op.kind.toNat : Nat) : Int)) h73 rfl rfl (run_cell tabOk2 h73.slots rfl rfl rfl rfl ((hg.fr h73.frame).args (k := op.kind.toNat) (by omega) rfl (by omega))) ?_
        have h74 := h73.put (d := some 50) (v := .int .i64 ((verbN op.kind.toNat : Nat) : Int)) (T' := [(50, .int .i64 ((verbN op.kind.toNat : Nat) : Int)), (1, .pointer (some ⟨b2, 0, none⟩)), (0, .agg #[.int .u8 op.kind, .int .i64 op.n, .int .i64 op.m, .int .u8 op.ev.kind, .int .u32 op.ev.pick, .int .u64 op.ev.arg]), (3, .bool false), (2, .string (bs (verbW op.kind.toNat))), (49, .pointer (some ⟨0, 0 + (op.kind.toNat * 2) + 1, none⟩))]) rfl
        clear h73
        refine nd_batch tabOk2 tabZ_ok2 [(5, {}), (6, {})] [1, 0, 3, 2, 45] (T' := [(1, .pointer (some ⟨b2, 0, none⟩)), (0, .agg #[.int .u8 op.kind, .int .i64 op.n, .int .i64 op.m, .int .u8 op.ev.kind, .int .u32 op.ev.pick, .int .u64 op.ev.arg]), (3, .bool false), (2, .string (bs (verbW op.kind.toNat))), (45, .bool (((verbN op.kind.toNat : Nat) : Int) == 2))]) (φ := True) (rest := []) h74 (by kernel_rfl) rfl trivial fun a75 h76 => ?_
        clear h74
        refine nd_done ?_
        refine hK71 _ _ ?_
        clear hK71
        refine c_split h76 (b := (((verbN op.kind.toNat : Nat) : Int) == 2)) rfl (fun hc77 => ?_) (fun hc77 => ?_)
        ·
          have hc77f : ((verbN op.kind.toNat : Nat) : Int) = 2 := by simpa using hc77
          have hvhc77 : verbN op.kind.toNat = 2 := by omega
          refine dr_start (KB := [b2]) (Bi := [[0], [0], [0], [0], [0], [0], [0], [0], [], [0], [0], [0]]) mixed h76 fun w78 h79 => ?_
          clear h76
          refine dr_batch tabOk2 tabZ_ok2 (by repeat (first | with_reducible exact PF.body | with_reducible apply PF.inB | with_reducible apply PF.next)) [(0, {}), (1, {}), (2, {k := 0, p := 0}), (6, {}), (7, {k := 0, p := 0})] [1, 0, 3, 2, 52, 54, 59] (T' := [(1, .pointer (some ⟨b2, 0, none⟩)), (0, .agg #[.int .u8 op.kind, .int .i64 op.n, .int .i64 op.m, .int .u8 op.ev.kind, .int .u32 op.ev.pick, .int .u64 op.ev.arg]), (3, .bool false), (2, .string (bs (verbW op.kind.toNat))), (52, .string (bs (verbW op.kind.toNat))), (54, .int .i64 op.n), (59, .int .i64 op.m)]) (φ := (b2 = b2 ∧ Nat.ble (1 + 1) 6 = true) ∧ (b2 = b2 ∧ Nat.ble (2 + 1) 6 = true) ∧ True) (fuel := 7) h79 (by kernel_rfl) rfl (by kernel_rfl) (by kernel_rfl) ⟨trivial, trivial, rfl, trivial, rfl, trivial⟩ ⟨⟨rfl, rfl⟩, ⟨rfl, rfl⟩, trivial⟩ fun a81 h82 => ?_
          clear h79
          refine wpAnyK_one (i := 3) (fuel := 6) (by kernel_rfl) ?_
          refine op_call h82 rfl rfl rfl (callOk Tryf.func17 (by decide) rfl) (args := [.int .i64 op.n]) rfl (itoa_ok op.n hn0 hn1 _ (hg.fr h82.frame).lib) ?_
          rintro _ w83 ⟨rfl, hf85⟩
          refine ⟨_, rfl, ?_⟩
          have h84 := (h82.grow hf85).put (d := some 55) (v := .string (bs (Lib.itoa op.n))) (T' := [(55, .string (bs (Lib.itoa op.n))), (1, .pointer (some ⟨b2, 0, none⟩)), (0, .agg #[.int .u8 op.kind, .int .i64 op.n, .int .i64 op.m, .int .u8 op.ev.kind, .int .u32 op.ev.pick, .int .u64 op.ev.arg]), (3, .bool false), (2, .string (bs (verbW op.kind.toNat))), (52, .string (bs (verbW op.kind.toNat))), (54, .int .i64 op.n), (59, .int .i64 op.m)]) rfl
          refine ⟨(h82.keepFr hf85 (kcons (by simp) knil)), ?_⟩
          clear h82
          refine dr_pure (i := 4) (v := .string (bs ([32] ++ (Lib.itoa op.n)))) (fuel := 5) (by repeat (first | with_reducible exact PF.body | with_reducible apply PF.inB | with_reducible apply PF.next)) h84 rfl rfl rfl (by kernel_rfl) (by kernel_rfl) (by kernel_rfl) (ps_add h84.slots rfl rfl rfl (by (try simp only [List.length_append, List.length_cons, List.length_nil]); omega)) ?_
          have h86 := h84.put (d := some 56) (v := .string (bs ([32] ++ (Lib.itoa op.n)))) (T' := [(56, .string (bs ([32] ++ (Lib.itoa op.n)))), (55, .string (bs (Lib.itoa op.n))), (1, .pointer (some ⟨b2, 0, none⟩)), (0, .agg #[.int .u8 op.kind, .int .i64 op.n, .int .i64 op.m, .int .u8 op.ev.kind, .int .u32 op.ev.pick, .int .u64 op.ev.arg]), (3, .bool false), (2, .string (bs (verbW op.kind.toNat))), (52, .string (bs (verbW op.kind.toNat))), (54, .int .i64 op.n), (59, .int .i64 op.m)]) rfl
          clear h84
          refine dr_pure (i := 5) (v := .string (bs (([32] ++ (Lib.itoa op.n)) ++ [32]))) (fuel := 4) (by repeat (first | with_reducible exact PF.body | with_reducible apply PF.inB | with_reducible apply PF.next)) h86 rfl rfl rfl (by kernel_rfl) (by kernel_rfl) (by kernel_rfl) (ps_add h86.slots rfl rfl rfl (by (try simp only [List.length_append, List.length_cons, List.length_nil]); omega)) ?_
          have h87 := h86.put (d := some 57) (v := .string (bs (([32] ++ (Lib.itoa op.n)) ++ [32]))) (T' := [(57, .string (bs (([32] ++ (Lib.itoa op.n)) ++ [32]))), (56, .string (bs ([32] ++ (Lib.itoa op.n)))), (55, .string (bs (Lib.itoa op.n))), (1, .pointer (some ⟨b2, 0, none⟩)), (0, .agg #[.int .u8 op.kind, .int .i64 op.n, .int .i64 op.m, .int .u8 op.ev.kind, .int .u32 op.ev.pick, .int .u64 op.ev.arg]), (3, .bool false), (2, .string (bs (verbW op.kind.toNat))), (52, .string (bs (verbW op.kind.toNat))), (54, .int .i64 op.n), (59, .int .i64 op.m)]) rfl
          clear h86
          refine wpAnyK_one (i := 8) (fuel := 3) (by kernel_rfl) ?_
          refine op_call h87 rfl rfl rfl (callOk Tryf.func17 (by decide) rfl) (args := [.int .i64 op.m]) rfl (itoa_ok op.m hm0 hm1 _ (hg.fr h87.frame).lib) ?_
          rintro _ w88 ⟨rfl, hf90⟩
          refine ⟨_, rfl, ?_⟩
          have h89 := (h87.grow hf90).put (d := some 60) (v := .string (bs (Lib.itoa op.m))) (T' := [(60, .string (bs (Lib.itoa op.m))), (57, .string (bs (([32] ++ (Lib.itoa op.n)) ++ [32]))), (56, .string (bs ([32] ++ (Lib.itoa op.n)))), (55, .string (bs (Lib.itoa op.n))), (1, .pointer (some ⟨b2, 0, none⟩)), (0, .agg #[.int .u8 op.kind, .int .i64 op.n, .int .i64 op.m, .int .u8 op.ev.kind, .int .u32 op.ev.pick, .int .u64 op.ev.arg]), (3, .bool false), (2, .string (bs (verbW op.kind.toNat))), (52, .string (bs (verbW op.kind.toNat))), (54, .int .i64 op.n), (59, .int .i64 op.m)]) rfl
          refine ⟨keepNil, ?_⟩
          clear h87
          refine dr_pure (i := 9) (v := .string (bs ((([32] ++ (Lib.itoa op.n)) ++ [32]) ++ (Lib.itoa op.m)))) (fuel := 2) (by repeat (first | with_reducible exact PF.body | with_reducible apply PF.inB | with_reducible apply PF.next)) h89 rfl rfl rfl (by kernel_rfl) (by kernel_rfl) (by kernel_rfl) (ps_add h89.slots rfl rfl rfl (by (try simp only [List.length_append, List.length_cons, List.length_nil]); omega)) ?_
          have h91 := h89.put (d := some 61) (v := .string (bs ((([32] ++ (Lib.itoa op.n)) ++ [32]) ++ (Lib.itoa op.m)))) (T' := [(61, .string (bs ((([32] ++ (Lib.itoa op.n)) ++ [32]) ++ (Lib.itoa op.m)))), (60, .string (bs (Lib.itoa op.m))), (57, .string (bs (([32] ++ (Lib.itoa op.n)) ++ [32]))), (56, .string (bs ([32] ++ (Lib.itoa op.n)))), (55, .string (bs (Lib.itoa op.n))), (1, .pointer (some ⟨b2, 0, none⟩)), (0, .agg #[.int .u8 op.kind, .int .i64 op.n, .int .i64 op.m, .int .u8 op.ev.kind, .int .u32 op.ev.pick, .int .u64 op.ev.arg]), (3, .bool false), (2, .string (bs (verbW op.kind.toNat))), (52, .string (bs (verbW op.kind.toNat))), (54, .int .i64 op.n), (59, .int .i64 op.m)]) rfl
          clear h89
          refine dr_pure (i := 10) (v := .string (bs ((verbW op.kind.toNat) ++ ((([32] ++ (Lib.itoa op.n)) ++ [32]) ++ (Lib.itoa op.m))))) (fuel := 1) (by repeat (first | with_reducible exact PF.body | with_reducible apply PF.inB | with_reducible apply PF.next)) h91 rfl rfl rfl (by kernel_rfl) (by kernel_rfl) (by kernel_rfl) (ps_add h91.slots rfl rfl rfl (by (try simp only [List.length_append, List.length_cons, List.length_nil]); omega)) ?_
          have h92 := h91.put (d := some 62) (v := .string (bs ((verbW op.kind.toNat) ++ ((([32] ++ (Lib.itoa op.n)) ++ [32]) ++ (Lib.itoa op.m))))) (T' := [(62, .string (bs ((verbW op.kind.toNat) ++ ((([32] ++ (Lib.itoa op.n)) ++ [32]) ++ (Lib.itoa op.m))))), (61, .string (bs ((([32] ++ (Lib.itoa op.n)) ++ [32]) ++ (Lib.itoa op.m)))), (60, .string (bs (Lib.itoa op.m))), (57, .string (bs (([32] ++ (Lib.itoa op.n)) ++ [32]))), (56, .string (bs ([32] ++ (Lib.itoa op.n)))), (55, .string (bs (Lib.itoa op.n))), (1, .pointer (some ⟨b2, 0, none⟩)), (0, .agg #[.int .u8 op.kind, .int .i64 op.n, .int .i64 op.m, .int .u8 op.ev.kind, .int .u32 op.ev.pick, .int .u64 op.ev.arg]), (3, .bool false), (2, .string (bs (verbW op.kind.toNat))), (52, .string (bs (verbW op.kind.toNat))), (54, .int .i64 op.n), (59, .int .i64 op.m)]) rfl
          clear h91
          refine dr_batch tabOk2 tabZ_ok2 (by repeat (first | with_reducible exact PF.body | with_reducible apply PF.inB | with_reducible apply PF.next)) [(11, {})] [1, 0, 3, 2] (T' := [(1, .pointer (some ⟨b2, 0, none⟩)), (0, .agg #[.int .u8 op.kind, .int .i64 op.n, .int .i64 op.m, .int .u8 op.ev.kind, .int .u32 op.ev.pick, .int .u64 op.ev.arg]), (3, .bool false), (2, .string (bs ((verbW op.kind.toNat) ++ ((([32] ++ (Lib.itoa op.n)) ++ [32]) ++ (Lib.itoa op.m)))))]) (φ := True) (fuel := 0) h92 (by kernel_rfl) rfl (by kernel_rfl) (by kernel_rfl) ⟨trivial, trivial⟩ trivial fun a93 h94 => ?_
          clear h92
          refine wpAnyK_done (by kernel_rfl) ?_ _
          refine hK24 _ _ ?_
          clear hK24
          refine wp_seq_k fun K95 hK95 => ?_
          refine nd_start (l := [0, 1, 2]) rfl ?_
          refine nd_batch tabOk2 tabZ_ok2 [(0, {}), (1, {}), (2, {})] [1, 0, 2, 3] (T' := [(1, .pointer (some ⟨b2, 0, none⟩)), (0, .agg #[.int .u8 op.kind, .int .i64 op.n, .int .i64 op.m, .int .u8 op.ev.kind, .int .u32 op.ev.pick, .int .u64 op.ev.arg]), (2, .string (bs ((verbW op.kind.toNat) ++ ((([32] ++ (Lib.itoa op.n)) ++ [32]) ++ (Lib.itoa op.m))))), (3, .bool true)]) (φ := True) (rest := []) h94 (by kernel_rfl) rfl trivial fun a96 h97 => ?_
          clear h94
          refine nd_done ?_
          refine hK95 _ _ ?_
          clear hK95
          refine wp_ret ?_
          try simp only [Exit.then, Exit.inBlock]
          try rw [if_pos trivial]
          exact s_ret tabOk2 tabZ_ok2 h97 [(.tmp 2, {}), (.tmp 3, {})] (vs := [.string (bs ((verbW op.kind.toNat) ++ ((([32] ++ (Lib.itoa op.n)) ++ [32]) ++ (Lib.itoa op.m)))), .bool true]) (φ := True) rfl (by kernel_rfl) trivial ⟨(by rw [if_pos (by omega), decide_eq_true (by omega), show fmtP op = ((verbW op.kind.toNat) ++ ((([32] ++ (Lib.itoa op.n)) ++ [32]) ++ (Lib.itoa op.m))) from by simp [fmtP, txt1, hc28f, hvhc58, hvhc77]]; rfl), h97.frame⟩
        ·
          have hc77f : ((verbN op.kind.toNat : Nat) : Int) ≠ 2 := by simpa using hc77
          have hvhc77 : verbN op.kind.toNat ≠ 2 := by omega
          refine wp_skip ?_
          refine hK24 _ _ ?_
          clear hK24
          refine wp_seq_k fun K98 hK98 => ?_
          refine nd_start (l := [0, 1, 2]) rfl ?_
          refine nd_batch tabOk2 tabZ_ok2 [(0, {}), (1, {}), (2, {})] [1, 0, 2, 3] (T' := [(1, .pointer (some ⟨b2, 0, none⟩)), (0, .agg #[.int .u8 op.kind, .int .i64 op.n, .int .i64 op.m, .int .u8 op.ev.kind, .int .u32 op.ev.pick, .int .u64 op.ev.arg]), (2, .string (bs (verbW op.kind.toNat))), (3, .bool true)]) (φ := True) (rest := []) h76 (by kernel_rfl) rfl trivial fun a99 h100 => ?_
          clear h76
          refine nd_done ?_
          refine hK98 _ _ ?_
          clear hK98
          refine wp_ret ?_
          try simp only [Exit.then, Exit.inBlock]
          try rw [if_pos trivial]
          exact s_ret tabOk2 tabZ_ok2 h100 [(.tmp 2, {}), (.tmp 3, {})] (vs := [.string (bs (verbW op.kind.toNat)), .bool true]) (φ := True) rfl (by kernel_rfl) trivial ⟨(by rw [if_pos (by omega), decide_eq_true (by omega), show fmtP op = (verbW op.kind.toNat) from by simp [fmtP, txt1, hc28f, hvhc58, hvhc77]]; rfl), h100.frame⟩

end Go.Proofs.Qxb6500919aFmt
