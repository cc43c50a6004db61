/-
  Exec. (Made by program: a symbolic walk that prints its steps.)
-/
import Derived.Test.Qxb6500919aFmtV3
import Derived.Test.Qxb6500919aFmtV4
namespace Go.Proofs.Qxb6500919aFmt
open Go.Sx Go.Rp Go.Extern.Stop Go.Stop Go.Extern
set_option maxRecDepth 100000
set_option maxHeartbeats 4000000
set_option linter.unusedVariables false
set_option linter.unusedSimpArgs false

theorem exec_no (sb : Nat) (l : List UInt8) (hl : l.length ≤ 1000000) (ha : ∀ b ∈ l, b.toNat < 128) (hp : parseP l = none) (w : World) (hg : GV w) :
    Calls Tryf.prog 10 #[.pointer (some ⟨sb, 0, none⟩), .string (bs l)] w fun e w' => (∃ t p, e = .returned (.tuple #[.string (bs []), .iface t p])) ∧ Fr [] w w' := by
  refine enter0 (n := 20) (K := []) (T := [(0, .pointer (some ⟨sb, 0, none⟩)), (1, .string (bs l))]) (L := []) (args := [.pointer (some ⟨sb, 0, none⟩), .string (bs l)]) Tryf.func10 rfl rfl rfl rfl knil (by simp) knil ?_
  intro a h
  refine wp_seq_k fun K1 hK1 => ?_
  refine nd_start (l := [0, 1]) rfl ?_
  refine nd_batch tabOk2 tabZ_ok2 [(0, {}), (1, {})] [0, 1, 4, 5] (T' := [(0, .pointer (some ⟨sb, 0, none⟩)), (1, .string (bs l)), (4, .string (bs ([] : List UInt8))), (5, .nilIface)]) (φ := True) (rest := []) h (by kernel_rfl) rfl trivial fun a2 h3 => ?_
  clear h
  refine nd_done ?_
  refine hK1 _ _ ?_
  clear hK1
  refine wp_seq_k fun K4 hK4 => ?_
  refine nd_start (l := [0, 1, 2, 3, 4, 5, 6, 7]) rfl ?_
  refine nd_batch tabOk2 tabZ_ok2 [(0, {})] [0, 1, 4, 5, 9] (T' := [(0, .pointer (some ⟨sb, 0, none⟩)), (1, .string (bs l)), (4, .string (bs ([] : List UInt8))), (5, .nilIface), (9, .string (bs l))]) (φ := True) (rest := [1, 2, 3, 4, 5, 6, 7]) h3 (by kernel_rfl) rfl trivial fun a5 h6 => ?_
  clear h3
  refine nd_op ?_
  refine op_call h6 rfl rfl rfl (callOk Tryf.func7 (by decide) rfl) (args := [.string (bs l)]) rfl (parse_ok l hl ha _ (hg.fr h6.frame)) ?_
  rintro _ w7 ⟨hf8, ⟨op1, hq9, rfl⟩ | ⟨hq9, t, p, rfl⟩⟩
  ·
    rw [hp] at hq9; cases hq9
  ·
    refine ⟨_, rfl, ?_⟩
    have h10 := (h6.grow hf8).put (d := some 10) (v := .tuple #[.agg #[.int .u8 0, .int .i64 0, .int .i64 0, .int .u8 0, .int .u32 0, .int .u64 0], .iface t (p)]) (T' := [(10, .tuple #[.agg #[.int .u8 0, .int .i64 0, .int .i64 0, .int .u8 0, .int .u32 0, .int .u64 0], .iface t (p)]), (0, .pointer (some ⟨sb, 0, none⟩)), (1, .string (bs l)), (4, .string (bs ([] : List UInt8))), (5, .nilIface), (9, .string (bs l))]) rfl
    clear h6
    refine nd_batch tabOk2 tabZ_ok2 [(2, {}), (3, {}), (4, {})] [0, 1, 4, 5, 11, 12] (T' := [(0, .pointer (some ⟨sb, 0, none⟩)), (1, .string (bs l)), (4, .string (bs ([] : List UInt8))), (5, .nilIface), (11, .agg #[.int .u8 0, .int .i64 0, .int .i64 0, .int .u8 0, .int .u32 0, .int .u64 0]), (12, .iface t (p))]) (φ := True) (rest := [5, 6, 7]) h10 (by kernel_rfl) rfl trivial fun a11 h12 => ?_
    clear h10
    refine nd_op ?_
    refine op_new tabOk2 (cells := [.int .u8 0, .int .i64 0, .int .i64 0, .int .u8 0, .int .u32 0, .int .u64 0]) (ty := 33) (ln := none) (L1 := fun b13 => [(b13, ⟨[.int .u8 0, .int .i64 0, .int .i64 0, .int .u8 0, .int .u32 0, .int .u64 0], 33, false⟩)]) h12 rfl rfl rfl rfl (by kernel_rfl) (fun _ => rfl) fun b13 w14 a15 h16 hf17 hn18 => ?_
    clear h12
    refine nd_op ?_
    refine op_store tabOk2 {k := 0} (L' := [(b13, ⟨[.int .u8 0, .int .i64 0, .int .i64 0, .int .u8 0, .int .u32 0, .int .u64 0], 33, false⟩)]) (φ := b13 = b13 ∧ Nat.ble (0 + 6) 6 = true) h16 rfl rfl rfl (by kernel_rfl) ⟨rfl, rfl⟩ fun w19 h20 => ?_
    clear h16
    refine nd_batch tabOk2 tabZ_ok2 [(7, {})] [6, 0, 1, 4, 5, 7] (T' := [(6, .pointer (some ⟨b13, 0, none⟩)), (0, .pointer (some ⟨sb, 0, none⟩)), (1, .string (bs l)), (4, .string (bs ([] : List UInt8))), (5, .nilIface), (7, .iface t (p))]) (φ := True) (rest := []) h20 (by kernel_rfl) rfl trivial fun a21 h22 => ?_
    clear h20
    refine nd_done ?_
    refine hK4 _ _ ?_
    clear hK4
    refine wp_seq_k fun K23 hK23 => ?_
    refine wp_seq_k fun K24 hK24 => ?_
    refine nd_start (l := [0, 1]) rfl ?_
    refine nd_batch tabOk2 tabZ_ok2 [(0, {})] [6, 0, 1, 4, 5, 7, 13] (T' := [(6, .pointer (some ⟨b13, 0, none⟩)), (0, .pointer (some ⟨sb, 0, none⟩)), (1, .string (bs l)), (4, .string (bs ([] : List UInt8))), (5, .nilIface), (7, .iface t (p)), (13, .iface t (p))]) (φ := True) (rest := [1]) h22 (by kernel_rfl) rfl trivial fun a25 h26 => ?_
    clear h22
    refine nd_op ?_
    refine op_pure (v := .bool true) h26 rfl rfl (p_nilne h26.slots rfl rfl (.inr ⟨_, _, rfl⟩) iface37) ?_
    have h27 := h26.put (d := some 14) (v := .bool true) (T' := [(14, .bool true), (6, .pointer (some ⟨b13, 0, none⟩)), (0, .pointer (some ⟨sb, 0, none⟩)), (1, .string (bs l)), (4, .string (bs ([] : List UInt8))), (5, .nilIface), (7, .iface t (p)), (13, .iface t (p))]) rfl
    clear h26
    refine nd_done ?_
    refine hK24 _ _ ?_
    clear hK24
    refine c_true h27 rfl ?_
    refine wp_seq_k fun K28 hK28 => ?_
    refine nd_start (l := [0, 1, 2]) rfl ?_
    refine nd_batch tabOk2 tabZ_ok2 [(0, {}), (1, {}), (2, {})] [6, 0, 1, 7, 4, 5] (T' := [(6, .pointer (some ⟨b13, 0, none⟩)), (0, .pointer (some ⟨sb, 0, none⟩)), (1, .string (bs l)), (7, .iface t (p)), (4, .string (bs ([] : List UInt8))), (5, .iface t (p))]) (φ := True) (rest := []) h27 (by kernel_rfl) rfl trivial fun a29 h30 => ?_
    clear h27
    refine nd_done ?_
    refine hK28 _ _ ?_
    clear hK28
    refine wp_ret ?_
    try simp only [Exit.then, Exit.inBlock]
    try rw [if_pos trivial]
    exact s_ret tabOk2 tabZ_ok2 h30 [(.tmp 4, {}), (.tmp 5, {})] (vs := [.string (bs ([] : List UInt8)), .iface t (p)]) (φ := True) rfl (by kernel_rfl) trivial ⟨⟨_, _, rfl⟩, h30.frame⟩

theorem exec_yes (F : Interp) (sb sl : Nat) (d : Hd) (s : Ss) (w : World) (hs : SessAt w sb sl d s) {B : Int} (hB : B ≤ 900000000) (hwf : s.wf B) (l : List UInt8) (hl : l.length ≤ 1000000) (ha : ∀ b ∈ l, b.toNat < 128) (op : Opn) (hp : parseP l = some op) (hop : op.ok)
    (hc0 : 0 ≤ (doR s op).1.code) (hc1 : (doR s op).1.code < 6) (hr : -128 ≤ (doR s op).1.out.running ∧ (doR s op).1.out.running ≤ 127) (w0 : World) (hg : GV w0) (hf0 : Fr [] w0 w) (hK : ∀ b ∈ sb :: sl :: d.F, w0.heap.size ≤ b) (hF : F.told.answers w.tape) :
    Calls Tryf.prog 10 #[.pointer (some ⟨sb, 0, none⟩), .string (bs l)] w fun e w' => ∃ d', e = .returned (.tuple #[.string (bs (descP (doR s op).1)), .nilIface]) ∧ SessAt w' sb sl d' (doR s op).2 ∧ Fr (sb :: sl :: d.F) w w' ∧ ∀ b ∈ d'.F, b ∈ d.F ∨ w.heap.size ≤ b := by
  refine enter (n := 20) (K := (sb :: sl :: d.F)) (A := fun w => SessAt w sb sl d s) (F := (sb :: sl :: d.F)) (T := [(0, .pointer (some ⟨sb, 0, none⟩)), (1, .string (bs l))]) (L := []) (args := [.pointer (some ⟨sb, 0, none⟩), .string (bs l)]) Tryf.func10 rfl rfl rfl rfl knil (by simp) knil hs SessAt.stable hs.low knil ?_
  intro a h
  refine wp_seq_k fun K1 hK1 => ?_
  refine nd_start (l := [0, 1]) rfl ?_
  refine nd_batch tabOk2 tabZ_ok2 [(0, {}), (1, {})] [0, 1, 4, 5] (T' := [(0, .pointer (some ⟨sb, 0, none⟩)), (1, .string (bs l)), (4, .string (bs ([] : List UInt8))), (5, .nilIface)]) (φ := True) (rest := []) h (by kernel_rfl) rfl trivial fun a2 h3 => ?_
  clear h
  refine nd_done ?_
  refine hK1 _ _ ?_
  clear hK1
  refine wp_seq_k fun K4 hK4 => ?_
  refine nd_start (l := [0, 1, 2, 3, 4, 5, 6, 7]) rfl ?_
  refine nd_batch tabOk2 tabZ_ok2 [(0, {})] [0, 1, 4, 5, 9] (T' := [(0, .pointer (some ⟨sb, 0, none⟩)), (1, .string (bs l)), (4, .string (bs ([] : List UInt8))), (5, .nilIface), (9, .string (bs l))]) (φ := True) (rest := [1, 2, 3, 4, 5, 6, 7]) h3 (by kernel_rfl) rfl trivial fun a5 h6 => ?_
  clear h3
  refine nd_op ?_
  refine op_call h6 rfl rfl rfl (callOk Tryf.func7 (by decide) rfl) (args := [.string (bs l)]) rfl (parse_ok l hl ha _ (hg.fr (hf0.trans h6.frame (fun b hb => .inr (hK b hb))))) ?_
  rintro _ w7 ⟨hf8, ⟨op1, hq9, rfl⟩ | ⟨hq9, t, p, rfl⟩⟩
  ·
    obtain rfl : op = op1 := by rw [hp] at hq9; exact Option.some.inj hq9
    refine ⟨_, rfl, ?_⟩
    have h10 := (h6.grow hf8).put (d := some 10) (v := .tuple #[.agg #[.int .u8 op.kind, .int .i64 op.n, .int .i64 op.m, .int .u8 op.ev.kind, .int .u32 op.ev.pick, .int .u64 op.ev.arg], .nilIface]) (T' := [(10, .tuple #[.agg #[.int .u8 op.kind, .int .i64 op.n, .int .i64 op.m, .int .u8 op.ev.kind, .int .u32 op.ev.pick, .int .u64 op.ev.arg], .nilIface]), (0, .pointer (some ⟨sb, 0, none⟩)), (1, .string (bs l)), (4, .string (bs ([] : List UInt8))), (5, .nilIface), (9, .string (bs l))]) rfl
    clear h6
    refine nd_batch tabOk2 tabZ_ok2 [(2, {}), (3, {}), (4, {})] [0, 1, 4, 5, 11, 12] (T' := [(0, .pointer (some ⟨sb, 0, none⟩)), (1, .string (bs l)), (4, .string (bs ([] : List UInt8))), (5, .nilIface), (11, .agg #[.int .u8 op.kind, .int .i64 op.n, .int .i64 op.m, .int .u8 op.ev.kind, .int .u32 op.ev.pick, .int .u64 op.ev.arg]), (12, .nilIface)]) (φ := True) (rest := [5, 6, 7]) h10 (by kernel_rfl) rfl trivial fun a11 h12 => ?_
    clear h10
    refine nd_op ?_
    refine op_new tabOk2 (cells := [.int .u8 0, .int .i64 0, .int .i64 0, .int .u8 0, .int .u32 0, .int .u64 0]) (ty := 33) (ln := none) (L1 := fun b13 => [(b13, ⟨[.int .u8 0, .int .i64 0, .int .i64 0, .int .u8 0, .int .u32 0, .int .u64 0], 33, false⟩)]) h12 rfl rfl rfl rfl (by kernel_rfl) (fun _ => rfl) fun b13 w14 a15 h16 hf17 hn18 => ?_
    clear h12
    refine nd_op ?_
    refine op_store tabOk2 {k := 0} (L' := [(b13, ⟨[.int .u8 op.kind, .int .i64 op.n, .int .i64 op.m, .int .u8 op.ev.kind, .int .u32 op.ev.pick, .int .u64 op.ev.arg], 33, false⟩)]) (φ := b13 = b13 ∧ Nat.ble (0 + 6) 6 = true) h16 rfl rfl rfl (by kernel_rfl) ⟨rfl, rfl⟩ fun w19 h20 => ?_
    clear h16
    refine nd_batch tabOk2 tabZ_ok2 [(7, {})] [6, 0, 1, 4, 5, 7] (T' := [(6, .pointer (some ⟨b13, 0, none⟩)), (0, .pointer (some ⟨sb, 0, none⟩)), (1, .string (bs l)), (4, .string (bs ([] : List UInt8))), (5, .nilIface), (7, .nilIface)]) (φ := True) (rest := []) h20 (by kernel_rfl) rfl trivial fun a21 h22 => ?_
    clear h20
    refine nd_done ?_
    refine hK4 _ _ ?_
    clear hK4
    refine wp_seq_k fun K23 hK23 => ?_
    refine wp_seq_k fun K24 hK24 => ?_
    refine nd_start (l := [0, 1]) rfl ?_
    refine nd_batch tabOk2 tabZ_ok2 [(0, {})] [6, 0, 1, 4, 5, 7, 13] (T' := [(6, .pointer (some ⟨b13, 0, none⟩)), (0, .pointer (some ⟨sb, 0, none⟩)), (1, .string (bs l)), (4, .string (bs ([] : List UInt8))), (5, .nilIface), (7, .nilIface), (13, .nilIface)]) (φ := True) (rest := [1]) h22 (by kernel_rfl) rfl trivial fun a25 h26 => ?_
    clear h22
    refine nd_op ?_
    refine op_pure (v := .bool false) h26 rfl rfl (p_nilne h26.slots rfl rfl (.inl rfl) iface37) ?_
    have h27 := h26.put (d := some 14) (v := .bool false) (T' := [(14, .bool false), (6, .pointer (some ⟨b13, 0, none⟩)), (0, .pointer (some ⟨sb, 0, none⟩)), (1, .string (bs l)), (4, .string (bs ([] : List UInt8))), (5, .nilIface), (7, .nilIface), (13, .nilIface)]) rfl
    clear h26
    refine nd_done ?_
    refine hK24 _ _ ?_
    clear hK24
    refine c_false h27 rfl ?_
    refine wp_skip ?_
    refine hK23 _ _ ?_
    clear hK23
    refine wp_seq_k fun K28 hK28 => ?_
    refine nd_start (l := [0, 1, 2, 3, 4, 5]) rfl ?_
    refine nd_batch tabOk2 tabZ_ok2 [(0, {}), (1, {k := 0})] [6, 0, 1, 4, 5, 7, 16, 17] (T' := [(6, .pointer (some ⟨b13, 0, none⟩)), (0, .pointer (some ⟨sb, 0, none⟩)), (1, .string (bs l)), (4, .string (bs ([] : List UInt8))), (5, .nilIface), (7, .nilIface), (16, .pointer (some ⟨sb, 0, none⟩)), (17, .agg #[.int .u8 op.kind, .int .i64 op.n, .int .i64 op.m, .int .u8 op.ev.kind, .int .u32 op.ev.pick, .int .u64 op.ev.arg])]) (φ := (b13 = b13 ∧ Nat.ble (0 + 6) 6 = true) ∧ True) (rest := [2, 3, 4, 5]) h27 (by kernel_rfl) rfl ⟨⟨rfl, rfl⟩, trivial⟩ fun a29 h30 => ?_
    clear h27
    refine nd_op ?_
    refine op_call h30 rfl rfl rfl (callOk Tryf.func9 (by decide) rfl) (args := [.pointer (some ⟨sb, 0, none⟩), .agg #[.int .u8 op.kind, .int .i64 op.n, .int .i64 op.m, .int .u8 op.ev.kind, .int .u32 op.ev.pick, .int .u64 op.ev.arg]]) rfl (do_ok sb sl d s _ h30.inv hB hwf op hop) ?_
    rintro _ w31 ⟨d2, rfl, hs2, hfd, hFd⟩
    refine ⟨_, rfl, ?_⟩
    have hsz := h30.frame.size
    have h32q := h30.callSub hfd (fun b hb => .inl hb) (A' := fun w => SessAt w sb sl d2 (doR s op).2) (F' := sb :: sl :: d2.F) (L' := [(b13, ⟨[.int .u8 op.kind, .int .i64 op.n, .int .i64 op.m, .int .u8 op.ev.kind, .int .u32 op.ev.pick, .int .u64 op.ev.arg], 33, false⟩)]) (List.Sublist.refl _) (kcons (h30.dj (k := 0) rfl rfl) knil) hs2 SessAt.stable hs2.low (fun b hb => by rcases List.mem_cons.1 hb with rfl | hb; exact .inl (by simp); rcases List.mem_cons.1 hb with rfl | hb; exact .inl (by simp); rcases hFd b hb with hq | hq; exact .inl (List.mem_cons_of_mem _ (List.mem_cons_of_mem _ hq)); exact .inr (.inr hq))
    have h32 := h32q.put (d := some 18) (v := .agg #[.int .u8 ((doR s op).1.code), .int .i64 ((doR s op).1.pos), .int .i64 ((doR s op).1.base), .int .i64 ((doR s op).1.fin), .bool ((doR s op).1.live), .bool ((doR s op).1.out.refused), .int .i8 ((doR s op).1.out.running), .int .u64 ((doR s op).1.out.value), .int .u64 ((doR s op).1.dig), .int .i64 ((doR s op).1.from_), .int .i64 ((doR s op).1.replayed), .int .i64 ((doR s op).1.at_)]) (T' := [(18, .agg #[.int .u8 ((doR s op).1.code), .int .i64 ((doR s op).1.pos), .int .i64 ((doR s op).1.base), .int .i64 ((doR s op).1.fin), .bool ((doR s op).1.live), .bool ((doR s op).1.out.refused), .int .i8 ((doR s op).1.out.running), .int .u64 ((doR s op).1.out.value), .int .u64 ((doR s op).1.dig), .int .i64 ((doR s op).1.from_), .int .i64 ((doR s op).1.replayed), .int .i64 ((doR s op).1.at_)]), (6, .pointer (some ⟨b13, 0, none⟩)), (0, .pointer (some ⟨sb, 0, none⟩)), (1, .string (bs l)), (4, .string (bs ([] : List UInt8))), (5, .nilIface), (7, .nilIface), (16, .pointer (some ⟨sb, 0, none⟩)), (17, .agg #[.int .u8 op.kind, .int .i64 op.n, .int .i64 op.m, .int .u8 op.ev.kind, .int .u32 op.ev.pick, .int .u64 op.ev.arg])]) rfl
    clear h30 h32q
    refine nd_op ?_
    refine op_call h32 rfl rfl rfl (callOk Tryf.func11 (by decide) rfl) (args := [.agg #[.int .u8 ((doR s op).1.code), .int .i64 ((doR s op).1.pos), .int .i64 ((doR s op).1.base), .int .i64 ((doR s op).1.fin), .bool ((doR s op).1.live), .bool ((doR s op).1.out.refused), .int .i8 ((doR s op).1.out.running), .int .u64 ((doR s op).1.out.value), .int .u64 ((doR s op).1.dig), .int .i64 ((doR s op).1.from_), .int .i64 ((doR s op).1.replayed), .int .i64 ((doR s op).1.at_)]]) rfl (describe_ok F (doR s op).1 hc0 hc1 hr _ (hg.fr (hf0.trans h32.frame (fun b hb => .inr (hK b hb)))) (ans_fr hF h32.frame)) ?_
    rintro _ w33 ⟨rfl, hf35⟩
    refine ⟨_, rfl, ?_⟩
    have h34 := (h32.grow hf35).put (d := some 19) (v := .string (bs (descP (doR s op).1))) (T' := [(19, .string (bs (descP (doR s op).1))), (18, .agg #[.int .u8 ((doR s op).1.code), .int .i64 ((doR s op).1.pos), .int .i64 ((doR s op).1.base), .int .i64 ((doR s op).1.fin), .bool ((doR s op).1.live), .bool ((doR s op).1.out.refused), .int .i8 ((doR s op).1.out.running), .int .u64 ((doR s op).1.out.value), .int .u64 ((doR s op).1.dig), .int .i64 ((doR s op).1.from_), .int .i64 ((doR s op).1.replayed), .int .i64 ((doR s op).1.at_)]), (6, .pointer (some ⟨b13, 0, none⟩)), (0, .pointer (some ⟨sb, 0, none⟩)), (1, .string (bs l)), (4, .string (bs ([] : List UInt8))), (5, .nilIface), (7, .nilIface), (16, .pointer (some ⟨sb, 0, none⟩)), (17, .agg #[.int .u8 op.kind, .int .i64 op.n, .int .i64 op.m, .int .u8 op.ev.kind, .int .u32 op.ev.pick, .int .u64 op.ev.arg])]) rfl
    clear h32
    refine nd_batch tabOk2 tabZ_ok2 [(4, {}), (5, {})] [6, 0, 1, 7, 4, 5] (T' := [(6, .pointer (some ⟨b13, 0, none⟩)), (0, .pointer (some ⟨sb, 0, none⟩)), (1, .string (bs l)), (7, .nilIface), (4, .string (bs (descP (doR s op).1))), (5, .nilIface)]) (φ := True) (rest := []) h34 (by kernel_rfl) rfl trivial fun a36 h37 => ?_
    clear h34
    refine nd_done ?_
    refine hK28 _ _ ?_
    clear hK28
    refine wp_ret ?_
    try simp only [Exit.then, Exit.inBlock]
    try rw [if_pos trivial]
    exact s_ret tabOk2 tabZ_ok2 h37 [(.tmp 4, {}), (.tmp 5, {})] (vs := [.string (bs (descP (doR s op).1)), .nilIface]) (φ := True) rfl (by kernel_rfl) trivial ⟨d2, rfl, h37.inv, h37.frame, fun b hb => (hFd b hb).imp id (Nat.le_trans hsz)⟩
  ·
    rw [hp] at hq9; cases hq9

end Go.Proofs.Qxb6500919aFmt
