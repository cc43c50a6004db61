/-
  Describe. (Made by program: a symbolic walk that prints its steps.)
-/
import Derived.Test.Qxb6500919aFmtV2
namespace Go.Proofs.Qxb6500919aFmt
open Go.Sx Go.Rp Go.Extern.Stop Go.Stop Go.Extern
set_option maxRecDepth 100000
set_option maxHeartbeats 4000000
set_option linter.unusedVariables false
set_option linter.unusedSimpArgs false

theorem describe_ok (F : Interp) (r : Res) (hc0 : 0 ≤ r.code) (hc1 : r.code < 6) (hr : -128 ≤ r.out.running ∧ r.out.running ≤ 127) (w : World) (hg : GV w) (hF : F.told.answers w.tape) :
    Calls Tryf.prog 11 #[.agg (resC r).toArray] w fun e w' => e = .returned (.string (bs (descP r))) ∧ Fr [] w w' := by
  have hl2 := txt2_len r hr
  have hl3 := txt3_len r
  have hl4 := txt4_len r
  refine enter0 (n := 60) (K := []) (T := [(0, .agg #[.int .u8 r.code, .int .i64 r.pos, .int .i64 r.base, .int .i64 r.fin, .bool r.live, .bool r.out.refused, .int .i8 r.out.running, .int .u64 r.out.value, .int .u64 r.dig, .int .i64 r.from_, .int .i64 r.replayed, .int .i64 r.at_])]) (L := []) (args := [.agg #[.int .u8 r.code, .int .i64 r.pos, .int .i64 r.base, .int .i64 r.fin, .bool r.live, .bool r.out.refused, .int .i8 r.out.running, .int .u64 r.out.value, .int .u64 r.dig, .int .i64 r.from_, .int .i64 r.replayed, .int .i64 r.at_]]) Tryf.func11 rfl rfl rfl rfl knil (by simp) knil ?_
  intro a h
  refine wp_seq_k fun K1 hK1 => ?_
  refine nd_start (l := [0, 1]) rfl ?_
  refine nd_op ?_
  refine op_new tabOk2 (cells := [.int .u8 r.code, .int .i64 r.pos, .int .i64 r.base, .int .i64 r.fin, .bool r.live, .bool r.out.refused, .int .i8 r.out.running, .int .u64 r.out.value, .int .u64 r.dig, .int .i64 r.from_, .int .i64 r.replayed, .int .i64 r.at_]) (ty := 46) (ln := none) (L1 := fun b2 => [(b2, ⟨[.int .u8 r.code, .int .i64 r.pos, .int .i64 r.base, .int .i64 r.fin, .bool r.live, .bool r.out.refused, .int .i8 r.out.running, .int .u64 r.out.value, .int .u64 r.dig, .int .i64 r.from_, .int .i64 r.replayed, .int .i64 r.at_], 46, false⟩)]) h rfl rfl rfl rfl (by kernel_rfl) (fun _ => rfl) fun b2 w3 a4 h5 hf6 hn7 => ?_
  clear h
  refine nd_batch tabOk2 tabZ_ok2 [(1, {})] [1, 0, 2] (T' := [(1, .pointer (some ⟨b2, 0, none⟩)), (0, .agg #[.int .u8 r.code, .int .i64 r.pos, .int .i64 r.base, .int .i64 r.fin, .bool r.live, .bool r.out.refused, .int .i8 r.out.running, .int .u64 r.out.value, .int .u64 r.dig, .int .i64 r.from_, .int .i64 r.replayed, .int .i64 r.at_]), (2, .string (bs ([] : List UInt8)))]) (φ := True) (rest := []) h5 (by kernel_rfl) rfl trivial fun a8 h9 => ?_
  clear h5
  refine nd_done ?_
  refine hK1 _ _ ?_
  clear hK1
  refine wp_seq_k fun K10 hK10 => ?_
  refine nd_start (l := [0]) rfl ?_
  refine nd_batch tabOk2 tabZ_ok2 [(0, {})] [1, 0, 2, 3] (T' := [(1, .pointer (some ⟨b2, 0, none⟩)), (0, .agg #[.int .u8 r.code, .int .i64 r.pos, .int .i64 r.base, .int .i64 r.fin, .bool r.live, .bool r.out.refused, .int .i8 r.out.running, .int .u64 r.out.value, .int .u64 r.dig, .int .i64 r.from_, .int .i64 r.replayed, .int .i64 r.at_]), (2, .string (bs ([] : List UInt8))), (3, .string (bs ([114, 101, 112, 108, 97, 121])))]) (φ := True) (rest := []) h9 (by kernel_rfl) rfl trivial fun a11 h12 => ?_
  clear h9
  refine nd_done ?_
  refine hK10 _ _ ?_
  clear hK10
  refine wp_seq_k fun K13 hK13 => ?_
  refine wp_seq_k fun K14 hK14 => ?_
  refine nd_start (l := [0, 1]) rfl ?_
  refine nd_batch tabOk2 tabZ_ok2 [(0, {}), (1, {k := 0})] [1, 0, 2, 3, 6] (T' := [(1, .pointer (some ⟨b2, 0, none⟩)), (0, .agg #[.int .u8 r.code, .int .i64 r.pos, .int .i64 r.base, .int .i64 r.fin, .bool r.live, .bool r.out.refused, .int .i8 r.out.running, .int .u64 r.out.value, .int .u64 r.dig, .int .i64 r.from_, .int .i64 r.replayed, .int .i64 r.at_]), (2, .string (bs ([] : List UInt8))), (3, .string (bs ([114, 101, 112, 108, 97, 121]))), (6, .bool r.live)]) (φ := (b2 = b2 ∧ Nat.ble (4 + 1) 12 = true) ∧ True) (rest := []) h12 (by kernel_rfl) rfl ⟨⟨rfl, rfl⟩, trivial⟩ fun a15 h16 => ?_
  clear h12
  refine nd_done ?_
  refine hK14 _ _ ?_
  clear hK14
  refine c_split h16 (b := r.live) rfl (fun hc17 => ?_) (fun hc17 => ?_)
  ·
    refine nd_start (l := [0]) rfl ?_
    refine nd_batch tabOk2 tabZ_ok2 [(0, {})] [1, 0, 2, 3] (T' := [(1, .pointer (some ⟨b2, 0, none⟩)), (0, .agg #[.int .u8 r.code, .int .i64 r.pos, .int .i64 r.base, .int .i64 r.fin, .bool r.live, .bool r.out.refused, .int .i8 r.out.running, .int .u64 r.out.value, .int .u64 r.dig, .int .i64 r.from_, .int .i64 r.replayed, .int .i64 r.at_]), (2, .string (bs ([] : List UInt8))), (3, .string (bs ([108, 105, 118, 101])))]) (φ := True) (rest := []) h16 (by kernel_rfl) rfl trivial fun a18 h19 => ?_
    clear h16
    refine nd_done ?_
    refine hK13 _ _ ?_
    clear hK13
    refine wp_seq_k fun K20 hK20 => ?_
    refine dr_start (KB := [b2]) (Bi := [[0], [0], [0], [0], [0], [0], [0], [0], [0], [0], [0], [0], [0], [0], [0], [0], [0], [0], [0], [0], [0], [0], [0], [0], [0], [0], [0], [0], [], [0]]) mixed h19 fun w21 h22 => ?_
    clear h19
    refine dr_batch tabOk2 tabZ_ok2 (by repeat (first | with_reducible exact PF.body | with_reducible apply PF.inB | with_reducible apply PF.next)) [(0, {}), (1, {k := 0, p := 0}), (2, {}), (5, {})] [1, 0, 2, 3, 9, 12] (T' := [(1, .pointer (some ⟨b2, 0, none⟩)), (0, .agg #[.int .u8 r.code, .int .i64 r.pos, .int .i64 r.base, .int .i64 r.fin, .bool r.live, .bool r.out.refused, .int .i8 r.out.running, .int .u64 r.out.value, .int .u64 r.dig, .int .i64 r.from_, .int .i64 r.replayed, .int .i64 r.at_]), (2, .string (bs ([] : List UInt8))), (3, .string (bs ([108, 105, 118, 101]))), (9, .pointer (some ⟨1, 0 + (r.code.toNat * 1), none⟩)), (12, .string (bs ([108, 105, 118, 101])))]) (φ := (b2 = b2 ∧ Nat.ble (0 + 1) 12 = true) ∧ (0 ≤ r.code ∧ r.code < 6) ∧ True) (fuel := 26) h22 (by kernel_rfl) rfl (by kernel_rfl) (by kernel_rfl) ⟨trivial, rfl, trivial, trivial, trivial⟩ ⟨⟨rfl, rfl⟩, ⟨by omega, by omega⟩, trivial⟩ fun a24 h25 => ?_
    clear h22
    refine dr_pure (i := 6) (v := .iface 9 (.string (bs ([108, 105, 118, 101])))) (fuel := 25) (by repeat (first | with_reducible exact PF.body | with_reducible apply PF.inB | with_reducible apply PF.next)) h25 rfl rfl rfl (by kernel_rfl) (by kernel_rfl) (by kernel_rfl) (pure_iface tabOk2 h25.slots rfl rfl rfl (by intro fs hq; cases hq) (by intro fs hq; cases hq)) ?_
    have h26 := h25.put (d := some 13) (v := .iface 9 (.string (bs ([108, 105, 118, 101])))) (T' := [(13, .iface 9 (.string (bs ([108, 105, 118, 101])))), (1, .pointer (some ⟨b2, 0, none⟩)), (0, .agg #[.int .u8 r.code, .int .i64 r.pos, .int .i64 r.base, .int .i64 r.fin, .bool r.live, .bool r.out.refused, .int .i8 r.out.running, .int .u64 r.out.value, .int .u64 r.dig, .int .i64 r.from_, .int .i64 r.replayed, .int .i64 r.at_]), (2, .string (bs ([] : List UInt8))), (3, .string (bs ([108, 105, 118, 101]))), (9, .pointer (some ⟨1, 0 + (r.code.toNat * 1), none⟩)), (12, .string (bs ([108, 105, 118, 101])))]) rfl
    clear h25
    refine dr_batch tabOk2 tabZ_ok2 (by repeat (first | with_reducible exact PF.body | with_reducible apply PF.inB | with_reducible apply PF.next)) [(7, {}), (8, {k := 0, p := 0})] [13, 1, 0, 2, 3, 9, 15] (T' := [(13, .iface 9 (.string (bs ([108, 105, 118, 101])))), (1, .pointer (some ⟨b2, 0, none⟩)), (0, .agg #[.int .u8 r.code, .int .i64 r.pos, .int .i64 r.base, .int .i64 r.fin, .bool r.live, .bool r.out.refused, .int .i8 r.out.running, .int .u64 r.out.value, .int .u64 r.dig, .int .i64 r.from_, .int .i64 r.replayed, .int .i64 r.at_]), (2, .string (bs ([] : List UInt8))), (3, .string (bs ([108, 105, 118, 101]))), (9, .pointer (some ⟨1, 0 + (r.code.toNat * 1), none⟩)), (15, .int .i64 r.pos)]) (φ := (b2 = b2 ∧ Nat.ble (1 + 1) 12 = true) ∧ True) (fuel := 23) h26 (by kernel_rfl) rfl (by kernel_rfl) (by kernel_rfl) ⟨trivial, rfl, trivial⟩ ⟨⟨rfl, rfl⟩, trivial⟩ fun a27 h28 => ?_
    clear h26
    refine dr_pure (i := 9) (v := .iface 3 (.int .i64 r.pos)) (fuel := 22) (by repeat (first | with_reducible exact PF.body | with_reducible apply PF.inB | with_reducible apply PF.next)) h28 rfl rfl rfl (by kernel_rfl) (by kernel_rfl) (by kernel_rfl) (pure_iface tabOk2 h28.slots rfl rfl rfl (by intro fs hq; cases hq) (by intro fs hq; cases hq)) ?_
    have h29 := h28.put (d := some 16) (v := .iface 3 (.int .i64 r.pos)) (T' := [(16, .iface 3 (.int .i64 r.pos)), (13, .iface 9 (.string (bs ([108, 105, 118, 101])))), (1, .pointer (some ⟨b2, 0, none⟩)), (0, .agg #[.int .u8 r.code, .int .i64 r.pos, .int .i64 r.base, .int .i64 r.fin, .bool r.live, .bool r.out.refused, .int .i8 r.out.running, .int .u64 r.out.value, .int .u64 r.dig, .int .i64 r.from_, .int .i64 r.replayed, .int .i64 r.at_]), (2, .string (bs ([] : List UInt8))), (3, .string (bs ([108, 105, 118, 101]))), (9, .pointer (some ⟨1, 0 + (r.code.toNat * 1), none⟩)), (15, .int .i64 r.pos)]) rfl
    clear h28
    refine dr_batch tabOk2 tabZ_ok2 (by repeat (first | with_reducible exact PF.body | with_reducible apply PF.inB | with_reducible apply PF.next)) [(10, {}), (11, {k := 0, p := 0})] [16, 13, 1, 0, 2, 3, 9, 18] (T' := [(16, .iface 3 (.int .i64 r.pos)), (13, .iface 9 (.string (bs ([108, 105, 118, 101])))), (1, .pointer (some ⟨b2, 0, none⟩)), (0, .agg #[.int .u8 r.code, .int .i64 r.pos, .int .i64 r.base, .int .i64 r.fin, .bool r.live, .bool r.out.refused, .int .i8 r.out.running, .int .u64 r.out.value, .int .u64 r.dig, .int .i64 r.from_, .int .i64 r.replayed, .int .i64 r.at_]), (2, .string (bs ([] : List UInt8))), (3, .string (bs ([108, 105, 118, 101]))), (9, .pointer (some ⟨1, 0 + (r.code.toNat * 1), none⟩)), (18, .int .i64 r.base)]) (φ := (b2 = b2 ∧ Nat.ble (2 + 1) 12 = true) ∧ True) (fuel := 20) h29 (by kernel_rfl) rfl (by kernel_rfl) (by kernel_rfl) ⟨trivial, rfl, trivial⟩ ⟨⟨rfl, rfl⟩, trivial⟩ fun a30 h31 => ?_
    clear h29
    refine dr_pure (i := 12) (v := .iface 3 (.int .i64 r.base)) (fuel := 19) (by repeat (first | with_reducible exact PF.body | with_reducible apply PF.inB | with_reducible apply PF.next)) h31 rfl rfl rfl (by kernel_rfl) (by kernel_rfl) (by kernel_rfl) (pure_iface tabOk2 h31.slots rfl rfl rfl (by intro fs hq; cases hq) (by intro fs hq; cases hq)) ?_
    have h32 := h31.put (d := some 19) (v := .iface 3 (.int .i64 r.base)) (T' := [(19, .iface 3 (.int .i64 r.base)), (16, .iface 3 (.int .i64 r.pos)), (13, .iface 9 (.string (bs ([108, 105, 118, 101])))), (1, .pointer (some ⟨b2, 0, none⟩)), (0, .agg #[.int .u8 r.code, .int .i64 r.pos, .int .i64 r.base, .int .i64 r.fin, .bool r.live, .bool r.out.refused, .int .i8 r.out.running, .int .u64 r.out.value, .int .u64 r.dig, .int .i64 r.from_, .int .i64 r.replayed, .int .i64 r.at_]), (2, .string (bs ([] : List UInt8))), (3, .string (bs ([108, 105, 118, 101]))), (9, .pointer (some ⟨1, 0 + (r.code.toNat * 1), none⟩)), (18, .int .i64 r.base)]) rfl
    clear h31
    refine dr_batch tabOk2 tabZ_ok2 (by repeat (first | with_reducible exact PF.body | with_reducible apply PF.inB | with_reducible apply PF.next)) [(13, {}), (14, {k := 0, p := 0})] [19, 16, 13, 1, 0, 2, 3, 9, 21] (T' := [(19, .iface 3 (.int .i64 r.base)), (16, .iface 3 (.int .i64 r.pos)), (13, .iface 9 (.string (bs ([108, 105, 118, 101])))), (1, .pointer (some ⟨b2, 0, none⟩)), (0, .agg #[.int .u8 r.code, .int .i64 r.pos, .int .i64 r.base, .int .i64 r.fin, .bool r.live, .bool r.out.refused, .int .i8 r.out.running, .int .u64 r.out.value, .int .u64 r.dig, .int .i64 r.from_, .int .i64 r.replayed, .int .i64 r.at_]), (2, .string (bs ([] : List UInt8))), (3, .string (bs ([108, 105, 118, 101]))), (9, .pointer (some ⟨1, 0 + (r.code.toNat * 1), none⟩)), (21, .int .i64 r.fin)]) (φ := (b2 = b2 ∧ Nat.ble (3 + 1) 12 = true) ∧ True) (fuel := 17) h32 (by kernel_rfl) rfl (by kernel_rfl) (by kernel_rfl) ⟨trivial, rfl, trivial⟩ ⟨⟨rfl, rfl⟩, trivial⟩ fun a33 h34 => ?_
    clear h32
    refine dr_pure (i := 15) (v := .iface 3 (.int .i64 r.fin)) (fuel := 16) (by repeat (first | with_reducible exact PF.body | with_reducible apply PF.inB | with_reducible apply PF.next)) h34 rfl rfl rfl (by kernel_rfl) (by kernel_rfl) (by kernel_rfl) (pure_iface tabOk2 h34.slots rfl rfl rfl (by intro fs hq; cases hq) (by intro fs hq; cases hq)) ?_
    have h35 := h34.put (d := some 22) (v := .iface 3 (.int .i64 r.fin)) (T' := [(22, .iface 3 (.int .i64 r.fin)), (19, .iface 3 (.int .i64 r.base)), (16, .iface 3 (.int .i64 r.pos)), (13, .iface 9 (.string (bs ([108, 105, 118, 101])))), (1, .pointer (some ⟨b2, 0, none⟩)), (0, .agg #[.int .u8 r.code, .int .i64 r.pos, .int .i64 r.base, .int .i64 r.fin, .bool r.live, .bool r.out.refused, .int .i8 r.out.running, .int .u64 r.out.value, .int .u64 r.dig, .int .i64 r.from_, .int .i64 r.replayed, .int .i64 r.at_]), (2, .string (bs ([] : List UInt8))), (3, .string (bs ([108, 105, 118, 101]))), (9, .pointer (some ⟨1, 0 + (r.code.toNat * 1), none⟩)), (21, .int .i64 r.fin)]) rfl
    clear h34
    refine dr_batch tabOk2 tabZ_ok2 (by repeat (first | with_reducible exact PF.body | with_reducible apply PF.inB | with_reducible apply PF.next)) [(16, {}), (17, {}), (18, {k := 0, p := 0})] [22, 19, 16, 13, 1, 0, 2, 3, 9, 25] (T' := [(22, .iface 3 (.int .i64 r.fin)), (19, .iface 3 (.int .i64 r.base)), (16, .iface 3 (.int .i64 r.pos)), (13, .iface 9 (.string (bs ([108, 105, 118, 101])))), (1, .pointer (some ⟨b2, 0, none⟩)), (0, .agg #[.int .u8 r.code, .int .i64 r.pos, .int .i64 r.base, .int .i64 r.fin, .bool r.live, .bool r.out.refused, .int .i8 r.out.running, .int .u64 r.out.value, .int .u64 r.dig, .int .i64 r.from_, .int .i64 r.replayed, .int .i64 r.at_]), (2, .string (bs ([] : List UInt8))), (3, .string (bs ([108, 105, 118, 101]))), (9, .pointer (some ⟨1, 0 + (r.code.toNat * 1), none⟩)), (25, .int .i8 r.out.running)]) (φ := (b2 = b2 ∧ Nat.ble (6 + 1) 12 = true) ∧ True) (fuel := 13) h35 (by kernel_rfl) rfl (by kernel_rfl) (by kernel_rfl) ⟨trivial, trivial, rfl, trivial⟩ ⟨⟨rfl, rfl⟩, trivial⟩ fun a36 h37 => ?_
    clear h35
    refine dr_pure (i := 19) (v := .iface 42 (.int .i8 r.out.running)) (fuel := 12) (by repeat (first | with_reducible exact PF.body | with_reducible apply PF.inB | with_reducible apply PF.next)) h37 rfl rfl rfl (by kernel_rfl) (by kernel_rfl) (by kernel_rfl) (pure_iface tabOk2 h37.slots rfl rfl rfl (by intro fs hq; cases hq) (by intro fs hq; cases hq)) ?_
    have h38 := h37.put (d := some 26) (v := .iface 42 (.int .i8 r.out.running)) (T' := [(26, .iface 42 (.int .i8 r.out.running)), (22, .iface 3 (.int .i64 r.fin)), (19, .iface 3 (.int .i64 r.base)), (16, .iface 3 (.int .i64 r.pos)), (13, .iface 9 (.string (bs ([108, 105, 118, 101])))), (1, .pointer (some ⟨b2, 0, none⟩)), (0, .agg #[.int .u8 r.code, .int .i64 r.pos, .int .i64 r.base, .int .i64 r.fin, .bool r.live, .bool r.out.refused, .int .i8 r.out.running, .int .u64 r.out.value, .int .u64 r.dig, .int .i64 r.from_, .int .i64 r.replayed, .int .i64 r.at_]), (2, .string (bs ([] : List UInt8))), (3, .string (bs ([108, 105, 118, 101]))), (9, .pointer (some ⟨1, 0 + (r.code.toNat * 1), none⟩)), (25, .int .i8 r.out.running)]) rfl
    clear h37
    refine dr_batch tabOk2 tabZ_ok2 (by repeat (first | with_reducible exact PF.body | with_reducible apply PF.inB | with_reducible apply PF.next)) [(20, {}), (21, {}), (22, {k := 0, p := 0})] [26, 22, 19, 16, 13, 1, 0, 2, 3, 9, 29] (T' := [(26, .iface 42 (.int .i8 r.out.running)), (22, .iface 3 (.int .i64 r.fin)), (19, .iface 3 (.int .i64 r.base)), (16, .iface 3 (.int .i64 r.pos)), (13, .iface 9 (.string (bs ([108, 105, 118, 101])))), (1, .pointer (some ⟨b2, 0, none⟩)), (0, .agg #[.int .u8 r.code, .int .i64 r.pos, .int .i64 r.base, .int .i64 r.fin, .bool r.live, .bool r.out.refused, .int .i8 r.out.running, .int .u64 r.out.value, .int .u64 r.dig, .int .i64 r.from_, .int .i64 r.replayed, .int .i64 r.at_]), (2, .string (bs ([] : List UInt8))), (3, .string (bs ([108, 105, 118, 101]))), (9, .pointer (some ⟨1, 0 + (r.code.toNat * 1), none⟩)), (29, .int .u64 r.out.value)]) (φ := (b2 = b2 ∧ Nat.ble (7 + 1) 12 = true) ∧ True) (fuel := 9) h38 (by kernel_rfl) rfl (by kernel_rfl) (by kernel_rfl) ⟨trivial, trivial, rfl, trivial⟩ ⟨⟨rfl, rfl⟩, trivial⟩ fun a39 h40 => ?_
    clear h38
    refine dr_pure (i := 23) (v := .iface 29 (.int .u64 r.out.value)) (fuel := 8) (by repeat (first | with_reducible exact PF.body | with_reducible apply PF.inB | with_reducible apply PF.next)) h40 rfl rfl rfl (by kernel_rfl) (by kernel_rfl) (by kernel_rfl) (pure_iface tabOk2 h40.slots rfl rfl rfl (by intro fs hq; cases hq) (by intro fs hq; cases hq)) ?_
    have h41 := h40.put (d := some 30) (v := .iface 29 (.int .u64 r.out.value)) (T' := [(30, .iface 29 (.int .u64 r.out.value)), (26, .iface 42 (.int .i8 r.out.running)), (22, .iface 3 (.int .i64 r.fin)), (19, .iface 3 (.int .i64 r.base)), (16, .iface 3 (.int .i64 r.pos)), (13, .iface 9 (.string (bs ([108, 105, 118, 101])))), (1, .pointer (some ⟨b2, 0, none⟩)), (0, .agg #[.int .u8 r.code, .int .i64 r.pos, .int .i64 r.base, .int .i64 r.fin, .bool r.live, .bool r.out.refused, .int .i8 r.out.running, .int .u64 r.out.value, .int .u64 r.dig, .int .i64 r.from_, .int .i64 r.replayed, .int .i64 r.at_]), (2, .string (bs ([] : List UInt8))), (3, .string (bs ([108, 105, 118, 101]))), (9, .pointer (some ⟨1, 0 + (r.code.toNat * 1), none⟩)), (29, .int .u64 r.out.value)]) rfl
    clear h40
    refine dr_batch tabOk2 tabZ_ok2 (by repeat (first | with_reducible exact PF.body | with_reducible apply PF.inB | with_reducible apply PF.next)) [(24, {}), (25, {k := 0, p := 0})] [30, 26, 22, 19, 16, 13, 1, 0, 2, 3, 9, 32] (T' := [(30, .iface 29 (.int .u64 r.out.value)), (26, .iface 42 (.int .i8 r.out.running)), (22, .iface 3 (.int .i64 r.fin)), (19, .iface 3 (.int .i64 r.base)), (16, .iface 3 (.int .i64 r.pos)), (13, .iface 9 (.string (bs ([108, 105, 118, 101])))), (1, .pointer (some ⟨b2, 0, none⟩)), (0, .agg #[.int .u8 r.code, .int .i64 r.pos, .int .i64 r.base, .int .i64 r.fin, .bool r.live, .bool r.out.refused, .int .i8 r.out.running, .int .u64 r.out.value, .int .u64 r.dig, .int .i64 r.from_, .int .i64 r.replayed, .int .i64 r.at_]), (2, .string (bs ([] : List UInt8))), (3, .string (bs ([108, 105, 118, 101]))), (9, .pointer (some ⟨1, 0 + (r.code.toNat * 1), none⟩)), (32, .int .u64 r.dig)]) (φ := (b2 = b2 ∧ Nat.ble (8 + 1) 12 = true) ∧ True) (fuel := 6) h41 (by kernel_rfl) rfl (by kernel_rfl) (by kernel_rfl) ⟨trivial, rfl, trivial⟩ ⟨⟨rfl, rfl⟩, trivial⟩ fun a42 h43 => ?_
    clear h41
    refine dr_pure (i := 26) (v := .iface 29 (.int .u64 r.dig)) (fuel := 5) (by repeat (first | with_reducible exact PF.body | with_reducible apply PF.inB | with_reducible apply PF.next)) h43 rfl rfl rfl (by kernel_rfl) (by kernel_rfl) (by kernel_rfl) (pure_iface tabOk2 h43.slots rfl rfl rfl (by intro fs hq; cases hq) (by intro fs hq; cases hq)) ?_
    have h44 := h43.put (d := some 33) (v := .iface 29 (.int .u64 r.dig)) (T' := [(33, .iface 29 (.int .u64 r.dig)), (30, .iface 29 (.int .u64 r.out.value)), (26, .iface 42 (.int .i8 r.out.running)), (22, .iface 3 (.int .i64 r.fin)), (19, .iface 3 (.int .i64 r.base)), (16, .iface 3 (.int .i64 r.pos)), (13, .iface 9 (.string (bs ([108, 105, 118, 101])))), (1, .pointer (some ⟨b2, 0, none⟩)), (0, .agg #[.int .u8 r.code, .int .i64 r.pos, .int .i64 r.base, .int .i64 r.fin, .bool r.live, .bool r.out.refused, .int .i8 r.out.running, .int .u64 r.out.value, .int .u64 r.dig, .int .i64 r.from_, .int .i64 r.replayed, .int .i64 r.at_]), (2, .string (bs ([] : List UInt8))), (3, .string (bs ([108, 105, 118, 101]))), (9, .pointer (some ⟨1, 0 + (r.code.toNat * 1), none⟩)), (32, .int .u64 r.dig)]) rfl
    clear h43
    refine wpAnyK_one (i := 3) (fuel := 4) (by kernel_rfl) ?_
    refine op_now (v := .string (bs (codeW r.code.toNat))) h44 rfl rfl (run_cell tabOk2 h44.slots rfl rfl rfl rfl ((hg.fr h44.frame).code (k := r.code.toNat) (by omega) rfl (by omega))) ?_
    refine ⟨Keep.refl _ _, ?_⟩
    have h45 := h44.put (d := some 10) (v := .string (bs (codeW r.code.toNat))) (T' := [(10, .string (bs (codeW r.code.toNat))), (33, .iface 29 (.int .u64 r.dig)), (30, .iface 29 (.int .u64 r.out.value)), (26, .iface 42 (.int .i8 r.out.running)), (22, .iface 3 (.int .i64 r.fin)), (19, .iface 3 (.int .i64 r.base)), (16, .iface 3 (.int .i64 r.pos)), (13, .iface 9 (.string (bs ([108, 105, 118, 101])))), (1, .pointer (some ⟨b2, 0, none⟩)), (0, .agg #[.int .u8 r.code, .int .i64 r.pos, .int .i64 r.base, .int .i64 r.fin, .bool r.live, .bool r.out.refused, .int .i8 r.out.running, .int .u64 r.out.value, .int .u64 r.dig, .int .i64 r.from_, .int .i64 r.replayed, .int .i64 r.at_]), (2, .string (bs ([] : List UInt8))), (3, .string (bs ([108, 105, 118, 101]))), (9, .pointer (some ⟨1, 0 + (r.code.toNat * 1), none⟩)), (32, .int .u64 r.dig)]) rfl
    clear h44
    refine dr_pure (i := 4) (v := .iface 9 (.string (bs (codeW r.code.toNat)))) (fuel := 3) (by repeat (first | with_reducible exact PF.body | with_reducible apply PF.inB | with_reducible apply PF.next)) h45 rfl rfl rfl (by kernel_rfl) (by kernel_rfl) (by kernel_rfl) (pure_iface tabOk2 h45.slots rfl rfl rfl (by intro fs hq; cases hq) (by intro fs hq; cases hq)) ?_
    have h46 := h45.put (d := some 11) (v := .iface 9 (.string (bs (codeW r.code.toNat)))) (T' := [(11, .iface 9 (.string (bs (codeW r.code.toNat)))), (10, .string (bs (codeW r.code.toNat))), (33, .iface 29 (.int .u64 r.dig)), (30, .iface 29 (.int .u64 r.out.value)), (26, .iface 42 (.int .i8 r.out.running)), (22, .iface 3 (.int .i64 r.fin)), (19, .iface 3 (.int .i64 r.base)), (16, .iface 3 (.int .i64 r.pos)), (13, .iface 9 (.string (bs ([108, 105, 118, 101])))), (1, .pointer (some ⟨b2, 0, none⟩)), (0, .agg #[.int .u8 r.code, .int .i64 r.pos, .int .i64 r.base, .int .i64 r.fin, .bool r.live, .bool r.out.refused, .int .i8 r.out.running, .int .u64 r.out.value, .int .u64 r.dig, .int .i64 r.from_, .int .i64 r.replayed, .int .i64 r.at_]), (2, .string (bs ([] : List UInt8))), (3, .string (bs ([108, 105, 118, 101]))), (9, .pointer (some ⟨1, 0 + (r.code.toNat * 1), none⟩)), (32, .int .u64 r.dig)]) rfl
    clear h45
    refine wpAnyK_one (i := 27) (fuel := 2) (by kernel_rfl) ?_
    refine op_new tabOk2 (cells := [.iface 9 (.string (bs (codeW r.code.toNat))), .iface 9 (.string (bs ([108, 105, 118, 101]))), .iface 3 (.int .i64 r.pos), .iface 3 (.int .i64 r.base), .iface 3 (.int .i64 r.fin), .iface 42 (.int .i8 r.out.running), .iface 29 (.int .u64 r.out.value), .iface 29 (.int .u64 r.dig)]) (ty := 20) (ln := (some 8)) (L1 := fun b47 => [(b2, ⟨[.int .u8 r.code, .int .i64 r.pos, .int .i64 r.base, .int .i64 r.fin, .bool r.live, .bool r.out.refused, .int .i8 r.out.running, .int .u64 r.out.value, .int .u64 r.dig, .int .i64 r.from_, .int .i64 r.replayed, .int .i64 r.at_], 46, false⟩), (b47, ⟨[.iface 9 (.string (bs (codeW r.code.toNat))), .iface 9 (.string (bs ([108, 105, 118, 101]))), .iface 3 (.int .i64 r.pos), .iface 3 (.int .i64 r.base), .iface 3 (.int .i64 r.fin), .iface 42 (.int .i8 r.out.running), .iface 29 (.int .u64 r.out.value), .iface 29 (.int .u64 r.dig)], 20, false⟩)]) h46 rfl rfl rfl rfl (by kernel_rfl) (fun _ => rfl) fun b47 w48 a49 h50 hf51 hn52 => ?_
    refine ⟨(h46.keepFr hf51 (kcons (by simp) knil)), ?_⟩
    clear h46
    refine wpAnyK_one (i := 28) (fuel := 1) (by kernel_rfl) ?_
    refine op_now (v := .string (bs (txt2 r))) h50 rfl rfl (run_ext h50.slots rfl rfl (sprintf2 F r hr _ (ans_fr hF h50.frame) (ro := false) (by rw [show args2 r = [.iface 9 (.string (bs (codeW r.code.toNat))), .iface 9 (.string (bs ([108, 105, 118, 101]))), .iface 3 (.int .i64 r.pos), .iface 3 (.int .i64 r.base), .iface 3 (.int .i64 r.fin), .iface 42 (.int .i8 r.out.running), .iface 29 (.int .u64 r.out.value), .iface 29 (.int .u64 r.dig)] from by simp [args2, modeW, hc17]]; exact h50.kn (k := 1) rfl))) ?_
    have h53q := h50.grow (fr_drew _)
    refine ⟨keepNil, ?_⟩
    have h54 := h53q.put (d := some 35) (v := .string (bs (txt2 r))) (T' := [(35, .string (bs (txt2 r))), (34, .slice (some ⟨b47, 0, none⟩) 8 8), (11, .iface 9 (.string (bs (codeW r.code.toNat)))), (10, .string (bs (codeW r.code.toNat))), (33, .iface 29 (.int .u64 r.dig)), (30, .iface 29 (.int .u64 r.out.value)), (26, .iface 42 (.int .i8 r.out.running)), (22, .iface 3 (.int .i64 r.fin)), (19, .iface 3 (.int .i64 r.base)), (16, .iface 3 (.int .i64 r.pos)), (13, .iface 9 (.string (bs ([108, 105, 118, 101])))), (1, .pointer (some ⟨b2, 0, none⟩)), (0, .agg #[.int .u8 r.code, .int .i64 r.pos, .int .i64 r.base, .int .i64 r.fin, .bool r.live, .bool r.out.refused, .int .i8 r.out.running, .int .u64 r.out.value, .int .u64 r.dig, .int .i64 r.from_, .int .i64 r.replayed, .int .i64 r.at_]), (2, .string (bs ([] : List UInt8))), (3, .string (bs ([108, 105, 118, 101]))), (9, .pointer (some ⟨1, 0 + (r.code.toNat * 1), none⟩)), (32, .int .u64 r.dig)]) rfl
    clear h50 h53q
    refine dr_batch tabOk2 tabZ_ok2 (by repeat (first | with_reducible exact PF.body | with_reducible apply PF.inB | with_reducible apply PF.next)) [(29, {})] [1, 0, 2, 3, 4] (T' := [(1, .pointer (some ⟨b2, 0, none⟩)), (0, .agg #[.int .u8 r.code, .int .i64 r.pos, .int .i64 r.base, .int .i64 r.fin, .bool r.live, .bool r.out.refused, .int .i8 r.out.running, .int .u64 r.out.value, .int .u64 r.dig, .int .i64 r.from_, .int .i64 r.replayed, .int .i64 r.at_]), (2, .string (bs ([] : List UInt8))), (3, .string (bs ([108, 105, 118, 101]))), (4, .string (bs (txt2 r)))]) (φ := True) (fuel := 0) h54 (by kernel_rfl) rfl (by kernel_rfl) (by kernel_rfl) ⟨trivial, trivial⟩ trivial fun a55 h56 => ?_
    clear h54
    refine wpAnyK_done (by kernel_rfl) ?_ _
    refine hK20 _ _ ?_
    clear hK20
    refine wp_seq_k fun K57 hK57 => ?_
    refine wp_seq_k fun K58 hK58 => ?_
    refine nd_start (l := [0, 1, 2]) rfl ?_
    refine nd_batch tabOk2 tabZ_ok2 [(0, {}), (1, {k := 0}), (2, {})] [1, 0, 2, 3, 4, 38] (T' := [(1, .pointer (some ⟨b2, 0, none⟩)), (0, .agg #[.int .u8 r.code, .int .i64 r.pos, .int .i64 r.base, .int .i64 r.fin, .bool r.live, .bool r.out.refused, .int .i8 r.out.running, .int .u64 r.out.value, .int .u64 r.dig, .int .i64 r.from_, .int .i64 r.replayed, .int .i64 r.at_]), (2, .string (bs ([] : List UInt8))), (3, .string (bs ([108, 105, 118, 101]))), (4, .string (bs (txt2 r))), (38, .bool (decide (r.replayed > 0)))]) (φ := (b2 = b2 ∧ Nat.ble (10 + 1) 12 = true) ∧ True) (rest := []) h56 (by kernel_rfl) rfl ⟨⟨rfl, rfl⟩, trivial⟩ fun a59 h60 => ?_
    clear h56
    refine nd_done ?_
    refine hK58 _ _ ?_
    clear hK58
    refine c_split h60 (b := decide (r.replayed > 0)) rfl (fun hc61 => ?_) (fun hc61 => ?_)
    ·
      have hc61f : r.replayed > 0 := by simpa using hc61
      refine nd_start (l := [0, 1, 2, 3, 4, 5, 6, 7, 8, 9, 10]) rfl ?_
      refine nd_batch tabOk2 tabZ_ok2 [(0, {}), (1, {}), (2, {k := 0})] [1, 0, 2, 3, 4, 39, 41] (T' := [(1, .pointer (some ⟨b2, 0, none⟩)), (0, .agg #[.int .u8 r.code, .int .i64 r.pos, .int .i64 r.base, .int .i64 r.fin, .bool r.live, .bool r.out.refused, .int .i8 r.out.running, .int .u64 r.out.value, .int .u64 r.dig, .int .i64 r.from_, .int .i64 r.replayed, .int .i64 r.at_]), (2, .string (bs ([] : List UInt8))), (3, .string (bs ([108, 105, 118, 101]))), (4, .string (bs (txt2 r))), (39, .string (bs (txt2 r))), (41, .int .i64 r.replayed)]) (φ := (b2 = b2 ∧ Nat.ble (10 + 1) 12 = true) ∧ True) (rest := [3, 4, 5, 6, 7, 8, 9, 10]) h60 (by kernel_rfl) rfl ⟨⟨rfl, rfl⟩, trivial⟩ fun a62 h63 => ?_
      clear h60
      refine nd_op ?_
      refine op_pure (v := .iface 3 (.int .i64 r.replayed)) h63 rfl rfl (pure_iface tabOk2 h63.slots rfl rfl rfl (by intro fs hq; cases hq) (by intro fs hq; cases hq)) ?_
      have h64 := h63.put (d := some 42) (v := .iface 3 (.int .i64 r.replayed)) (T' := [(42, .iface 3 (.int .i64 r.replayed)), (1, .pointer (some ⟨b2, 0, none⟩)), (0, .agg #[.int .u8 r.code, .int .i64 r.pos, .int .i64 r.base, .int .i64 r.fin, .bool r.live, .bool r.out.refused, .int .i8 r.out.running, .int .u64 r.out.value, .int .u64 r.dig, .int .i64 r.from_, .int .i64 r.replayed, .int .i64 r.at_]), (2, .string (bs ([] : List UInt8))), (3, .string (bs ([108, 105, 118, 101]))), (4, .string (bs (txt2 r))), (39, .string (bs (txt2 r))), (41, .int .i64 r.replayed)]) rfl
      clear h63
      refine nd_batch tabOk2 tabZ_ok2 [(4, {}), (5, {k := 0})] [42, 1, 0, 2, 3, 4, 39, 44] (T' := [(42, .iface 3 (.int .i64 r.replayed)), (1, .pointer (some ⟨b2, 0, none⟩)), (0, .agg #[.int .u8 r.code, .int .i64 r.pos, .int .i64 r.base, .int .i64 r.fin, .bool r.live, .bool r.out.refused, .int .i8 r.out.running, .int .u64 r.out.value, .int .u64 r.dig, .int .i64 r.from_, .int .i64 r.replayed, .int .i64 r.at_]), (2, .string (bs ([] : List UInt8))), (3, .string (bs ([108, 105, 118, 101]))), (4, .string (bs (txt2 r))), (39, .string (bs (txt2 r))), (44, .int .i64 r.from_)]) (φ := (b2 = b2 ∧ Nat.ble (9 + 1) 12 = true) ∧ True) (rest := [6, 7, 8, 9, 10]) h64 (by kernel_rfl) rfl ⟨⟨rfl, rfl⟩, trivial⟩ fun a65 h66 => ?_
      clear h64
      refine nd_op ?_
      refine op_pure (v := .iface 3 (.int .i64 r.from_)) h66 rfl rfl (pure_iface tabOk2 h66.slots rfl rfl rfl (by intro fs hq; cases hq) (by intro fs hq; cases hq)) ?_
      have h67 := h66.put (d := some 45) (v := .iface 3 (.int .i64 r.from_)) (T' := [(45, .iface 3 (.int .i64 r.from_)), (42, .iface 3 (.int .i64 r.replayed)), (1, .pointer (some ⟨b2, 0, none⟩)), (0, .agg #[.int .u8 r.code, .int .i64 r.pos, .int .i64 r.base, .int .i64 r.fin, .bool r.live, .bool r.out.refused, .int .i8 r.out.running, .int .u64 r.out.value, .int .u64 r.dig, .int .i64 r.from_, .int .i64 r.replayed, .int .i64 r.at_]), (2, .string (bs ([] : List UInt8))), (3, .string (bs ([108, 105, 118, 101]))), (4, .string (bs (txt2 r))), (39, .string (bs (txt2 r))), (44, .int .i64 r.from_)]) rfl
      clear h66
      refine nd_op ?_
      refine op_new tabOk2 (cells := [.iface 3 (.int .i64 r.replayed), .iface 3 (.int .i64 r.from_)]) (ty := 20) (ln := (some 2)) (L1 := fun b68 => [(b2, ⟨[.int .u8 r.code, .int .i64 r.pos, .int .i64 r.base, .int .i64 r.fin, .bool r.live, .bool r.out.refused, .int .i8 r.out.running, .int .u64 r.out.value, .int .u64 r.dig, .int .i64 r.from_, .int .i64 r.replayed, .int .i64 r.at_], 46, false⟩), (b47, ⟨[.iface 9 (.string (bs (codeW r.code.toNat))), .iface 9 (.string (bs ([108, 105, 118, 101]))), .iface 3 (.int .i64 r.pos), .iface 3 (.int .i64 r.base), .iface 3 (.int .i64 r.fin), .iface 42 (.int .i8 r.out.running), .iface 29 (.int .u64 r.out.value), .iface 29 (.int .u64 r.dig)], 20, false⟩), (b68, ⟨[.iface 3 (.int .i64 r.replayed), .iface 3 (.int .i64 r.from_)], 20, false⟩)]) h67 rfl rfl rfl rfl (by kernel_rfl) (fun _ => rfl) fun b68 w69 a70 h71 hf72 hn73 => ?_
      clear h67
      refine nd_op ?_
      refine op_now (v := .string (bs (txt3 r))) h71 rfl rfl (run_ext h71.slots rfl rfl (sprintf3 F r _ (ans_fr hF h71.frame) (ro := false) (by rw [show args3 r = [.iface 3 (.int .i64 r.replayed), .iface 3 (.int .i64 r.from_)] from by simp [args3]]; exact h71.kn (k := 2) rfl))) ?_
      have h74q := h71.grow (fr_drew _)
      have h75 := h74q.put (d := some 47) (v := .string (bs (txt3 r))) (T' := [(47, .string (bs (txt3 r))), (46, .slice (some ⟨b68, 0, none⟩) 2 2), (45, .iface 3 (.int .i64 r.from_)), (42, .iface 3 (.int .i64 r.replayed)), (1, .pointer (some ⟨b2, 0, none⟩)), (0, .agg #[.int .u8 r.code, .int .i64 r.pos, .int .i64 r.base, .int .i64 r.fin, .bool r.live, .bool r.out.refused, .int .i8 r.out.running, .int .u64 r.out.value, .int .u64 r.dig, .int .i64 r.from_, .int .i64 r.replayed, .int .i64 r.at_]), (2, .string (bs ([] : List UInt8))), (3, .string (bs ([108, 105, 118, 101]))), (4, .string (bs (txt2 r))), (39, .string (bs (txt2 r))), (44, .int .i64 r.from_)]) rfl
      clear h71 h74q
      refine nd_op ?_
      refine op_pure (v := .string (bs ((txt2 r) ++ (txt3 r)))) h75 rfl rfl (ps_add h75.slots rfl rfl rfl (by (try simp only [List.length_append, List.length_cons, List.length_nil]); omega)) ?_
      have h76 := h75.put (d := some 48) (v := .string (bs ((txt2 r) ++ (txt3 r)))) (T' := [(48, .string (bs ((txt2 r) ++ (txt3 r)))), (47, .string (bs (txt3 r))), (46, .slice (some ⟨b68, 0, none⟩) 2 2), (45, .iface 3 (.int .i64 r.from_)), (42, .iface 3 (.int .i64 r.replayed)), (1, .pointer (some ⟨b2, 0, none⟩)), (0, .agg #[.int .u8 r.code, .int .i64 r.pos, .int .i64 r.base, .int .i64 r.fin, .bool r.live, .bool r.out.refused, .int .i8 r.out.running, .int .u64 r.out.value, .int .u64 r.dig, .int .i64 r.from_, .int .i64 r.replayed, .int .i64 r.at_]), (2, .string (bs ([] : List UInt8))), (3, .string (bs ([108, 105, 118, 101]))), (4, .string (bs (txt2 r))), (39, .string (bs (txt2 r))), (44, .int .i64 r.from_)]) rfl
      clear h75
      refine nd_batch tabOk2 tabZ_ok2 [(10, {})] [1, 0, 2, 3, 4] (T' := [(1, .pointer (some ⟨b2, 0, none⟩)), (0, .agg #[.int .u8 r.code, .int .i64 r.pos, .int .i64 r.base, .int .i64 r.fin, .bool r.live, .bool r.out.refused, .int .i8 r.out.running, .int .u64 r.out.value, .int .u64 r.dig, .int .i64 r.from_, .int .i64 r.replayed, .int .i64 r.at_]), (2, .string (bs ([] : List UInt8))), (3, .string (bs ([108, 105, 118, 101]))), (4, .string (bs ((txt2 r) ++ (txt3 r))))]) (φ := True) (rest := []) h76 (by kernel_rfl) rfl trivial fun a77 h78 => ?_
      clear h76
      refine nd_done ?_
      refine hK57 _ _ ?_
      clear hK57
      refine wp_seq_k fun K79 hK79 => ?_
      refine wp_seq_k fun K80 hK80 => ?_
      refine nd_start (l := [0, 1, 2]) rfl ?_
      refine nd_batch tabOk2 tabZ_ok2 [(0, {}), (1, {k := 0}), (2, {})] [1, 0, 2, 3, 4, 51] (T' := [(1, .pointer (some ⟨b2, 0, none⟩)), (0, .agg #[.int .u8 r.code, .int .i64 r.pos, .int .i64 r.base, .int .i64 r.fin, .bool r.live, .bool r.out.refused, .int .i8 r.out.running, .int .u64 r.out.value, .int .u64 r.dig, .int .i64 r.from_, .int .i64 r.replayed, .int .i64 r.at_]), (2, .string (bs ([] : List UInt8))), (3, .string (bs ([108, 105, 118, 101]))), (4, .string (bs ((txt2 r) ++ (txt3 r)))), (51, .bool (decide (r.at_ ≥ 0)))]) (φ := (b2 = b2 ∧ Nat.ble (11 + 1) 12 = true) ∧ True) (rest := []) h78 (by kernel_rfl) rfl ⟨⟨rfl, rfl⟩, trivial⟩ fun a81 h82 => ?_
      clear h78
      refine nd_done ?_
      refine hK80 _ _ ?_
      clear hK80
      refine c_split h82 (b := decide (r.at_ ≥ 0)) rfl (fun hc83 => ?_) (fun hc83 => ?_)
      ·
        have hc83f : r.at_ ≥ 0 := by simpa using hc83
        refine nd_start (l := [0, 1, 2, 3, 4, 5, 6, 7]) rfl ?_
        refine nd_batch tabOk2 tabZ_ok2 [(0, {}), (1, {}), (2, {k := 0})] [1, 0, 2, 3, 4, 52, 54] (T' := [(1, .pointer (some ⟨b2, 0, none⟩)), (0, .agg #[.int .u8 r.code, .int .i64 r.pos, .int .i64 r.base, .int .i64 r.fin, .bool r.live, .bool r.out.refused, .int .i8 r.out.running, .int .u64 r.out.value, .int .u64 r.dig, .int .i64 r.from_, .int .i64 r.replayed, .int .i64 r.at_]), (2, .string (bs ([] : List UInt8))), (3, .string (bs ([108, 105, 118, 101]))), (4, .string (bs ((txt2 r) ++ (txt3 r)))), (52, .string (bs ((txt2 r) ++ (txt3 r)))), (54, .int .i64 r.at_)]) (φ := (b2 = b2 ∧ Nat.ble (11 + 1) 12 = true) ∧ True) (rest := [3, 4, 5, 6, 7]) h82 (by kernel_rfl) rfl ⟨⟨rfl, rfl⟩, trivial⟩ fun a84 h85 => ?_
        clear h82
        refine nd_op ?_
        refine op_pure (v := .iface 3 (.int .i64 r.at_)) h85 rfl rfl (pure_iface tabOk2 h85.slots rfl rfl rfl (by intro fs hq; cases hq) (by intro fs hq; cases hq)) ?_
        have h86 := h85.put (d := some 55) (v := .iface 3 (.int .i64 r.at_)) (T' := [(55, .iface 3 (.int .i64 r.at_)), (1, .pointer (some ⟨b2, 0, none⟩)), (0, .agg #[.int .u8 r.code, .int .i64 r.pos, .int .i64 r.base, .int .i64 r.fin, .bool r.live, .bool r.out.refused, .int .i8 r.out.running, .int .u64 r.out.value, .int .u64 r.dig, .int .i64 r.from_, .int .i64 r.replayed, .int .i64 r.at_]), (2, .string (bs ([] : List UInt8))), (3, .string (bs ([108, 105, 118, 101]))), (4, .string (bs ((txt2 r) ++ (txt3 r)))), (52, .string (bs ((txt2 r) ++ (txt3 r)))), (54, .int .i64 r.at_)]) rfl
        clear h85
        refine nd_op ?_
        refine op_new tabOk2 (cells := [.iface 3 (.int .i64 r.at_)]) (ty := 20) (ln := (some 1)) (L1 := fun b87 => [(b2, ⟨[.int .u8 r.code, .int .i64 r.pos, .int .i64 r.base, .int .i64 r.fin, .bool r.live, .bool r.out.refused, .int .i8 r.out.running, .int .u64 r.out.value, .int .u64 r.dig, .int .i64 r.from_, .int .i64 r.replayed, .int .i64 r.at_], 46, false⟩), (b47, ⟨[.iface 9 (.string (bs (codeW r.code.toNat))), .iface 9 (.string (bs ([108, 105, 118, 101]))), .iface 3 (.int .i64 r.pos), .iface 3 (.int .i64 r.base), .iface 3 (.int .i64 r.fin), .iface 42 (.int .i8 r.out.running), .iface 29 (.int .u64 r.out.value), .iface 29 (.int .u64 r.dig)], 20, false⟩), (b68, ⟨[.iface 3 (.int .i64 r.replayed), .iface 3 (.int .i64 r.from_)], 20, false⟩), (b87, ⟨[.iface 3 (.int .i64 r.at_)], 20, false⟩)]) h86 rfl rfl rfl rfl (by kernel_rfl) (fun _ => rfl) fun b87 w88 a89 h90 hf91 hn92 => ?_
        clear h86
        refine nd_op ?_
        refine op_now (v := .string (bs (txt4 r))) h90 rfl rfl (run_ext h90.slots rfl rfl (sprintf4 F r _ (ans_fr hF h90.frame) (ro := false) (by rw [show args4 r = [.iface 3 (.int .i64 r.at_)] from by simp [args4]]; exact h90.kn (k := 3) rfl))) ?_
        have h93q := h90.grow (fr_drew _)
        have h94 := h93q.put (d := some 57) (v := .string (bs (txt4 r))) (T' := [(57, .string (bs (txt4 r))), (56, .slice (some ⟨b87, 0, none⟩) 1 1), (55, .iface 3 (.int .i64 r.at_)), (1, .pointer (some ⟨b2, 0, none⟩)), (0, .agg #[.int .u8 r.code, .int .i64 r.pos, .int .i64 r.base, .int .i64 r.fin, .bool r.live, .bool r.out.refused, .int .i8 r.out.running, .int .u64 r.out.value, .int .u64 r.dig, .int .i64 r.from_, .int .i64 r.replayed, .int .i64 r.at_]), (2, .string (bs ([] : List UInt8))), (3, .string (bs ([108, 105, 118, 101]))), (4, .string (bs ((txt2 r) ++ (txt3 r)))), (52, .string (bs ((txt2 r) ++ (txt3 r)))), (54, .int .i64 r.at_)]) rfl
        clear h90 h93q
        refine nd_op ?_
        refine op_pure (v := .string (bs (((txt2 r) ++ (txt3 r)) ++ (txt4 r)))) h94 rfl rfl (ps_add h94.slots rfl rfl rfl (by (try simp only [List.length_append, List.length_cons, List.length_nil]); omega)) ?_
        have h95 := h94.put (d := some 58) (v := .string (bs (((txt2 r) ++ (txt3 r)) ++ (txt4 r)))) (T' := [(58, .string (bs (((txt2 r) ++ (txt3 r)) ++ (txt4 r)))), (57, .string (bs (txt4 r))), (56, .slice (some ⟨b87, 0, none⟩) 1 1), (55, .iface 3 (.int .i64 r.at_)), (1, .pointer (some ⟨b2, 0, none⟩)), (0, .agg #[.int .u8 r.code, .int .i64 r.pos, .int .i64 r.base, .int .i64 r.fin, .bool r.live, .bool r.out.refused, .int .i8 r.out.running, .int .u64 r.out.value, .int .u64 r.dig, .int .i64 r.from_, .int .i64 r.replayed, .int .i64 r.at_]), (2, .string (bs ([] : List UInt8))), (3, .string (bs ([108, 105, 118, 101]))), (4, .string (bs ((txt2 r) ++ (txt3 r)))), (52, .string (bs ((txt2 r) ++ (txt3 r)))), (54, .int .i64 r.at_)]) rfl
        clear h94
        refine nd_batch tabOk2 tabZ_ok2 [(7, {})] [1, 0, 2, 3, 4] (T' := [(1, .pointer (some ⟨b2, 0, none⟩)), (0, .agg #[.int .u8 r.code, .int .i64 r.pos, .int .i64 r.base, .int .i64 r.fin, .bool r.live, .bool r.out.refused, .int .i8 r.out.running, .int .u64 r.out.value, .int .u64 r.dig, .int .i64 r.from_, .int .i64 r.replayed, .int .i64 r.at_]), (2, .string (bs ([] : List UInt8))), (3, .string (bs ([108, 105, 118, 101]))), (4, .string (bs (((txt2 r) ++ (txt3 r)) ++ (txt4 r))))]) (φ := True) (rest := []) h95 (by kernel_rfl) rfl trivial fun a96 h97 => ?_
        clear h95
        refine nd_done ?_
        refine hK79 _ _ ?_
        clear hK79
        refine wp_seq_k fun K98 hK98 => ?_
        refine nd_start (l := [0, 1]) rfl ?_
        refine nd_batch tabOk2 tabZ_ok2 [(0, {}), (1, {})] [1, 0, 3, 4, 2] (T' := [(1, .pointer (some ⟨b2, 0, none⟩)), (0, .agg #[.int .u8 r.code, .int .i64 r.pos, .int .i64 r.base, .int .i64 r.fin, .bool r.live, .bool r.out.refused, .int .i8 r.out.running, .int .u64 r.out.value, .int .u64 r.dig, .int .i64 r.from_, .int .i64 r.replayed, .int .i64 r.at_]), (3, .string (bs ([108, 105, 118, 101]))), (4, .string (bs (((txt2 r) ++ (txt3 r)) ++ (txt4 r)))), (2, .string (bs (((txt2 r) ++ (txt3 r)) ++ (txt4 r))))]) (φ := True) (rest := []) h97 (by kernel_rfl) rfl trivial fun a99 h100 => ?_
        clear h97
        refine nd_done ?_
        refine hK98 _ _ ?_
        clear hK98
        refine wp_ret ?_
        try simp only [Exit.then, Exit.inBlock]
        try rw [if_pos trivial]
        exact s_ret tabOk2 tabZ_ok2 h100 [(.tmp 2, {})] (vs := [.string (bs (((txt2 r) ++ (txt3 r)) ++ (txt4 r)))]) (φ := True) rfl (by kernel_rfl) trivial ⟨(by rw [show descP r = (((txt2 r) ++ (txt3 r)) ++ (txt4 r)) from by simp [descP, hc61f, hc83f]]; rfl), h100.frame⟩
      ·
        have hc83f : ¬ r.at_ ≥ 0 := by simpa using hc83
        refine wp_skip ?_
        refine hK79 _ _ ?_
        clear hK79
        refine wp_seq_k fun K101 hK101 => ?_
        refine nd_start (l := [0, 1]) rfl ?_
        refine nd_batch tabOk2 tabZ_ok2 [(0, {}), (1, {})] [1, 0, 3, 4, 2] (T' := [(1, .pointer (some ⟨b2, 0, none⟩)), (0, .agg #[.int .u8 r.code, .int .i64 r.pos, .int .i64 r.base, .int .i64 r.fin, .bool r.live, .bool r.out.refused, .int .i8 r.out.running, .int .u64 r.out.value, .int .u64 r.dig, .int .i64 r.from_, .int .i64 r.replayed, .int .i64 r.at_]), (3, .string (bs ([108, 105, 118, 101]))), (4, .string (bs ((txt2 r) ++ (txt3 r)))), (2, .string (bs ((txt2 r) ++ (txt3 r))))]) (φ := True) (rest := []) h82 (by kernel_rfl) rfl trivial fun a102 h103 => ?_
        clear h82
        refine nd_done ?_
        refine hK101 _ _ ?_
        clear hK101
        refine wp_ret ?_
        try simp only [Exit.then, Exit.inBlock]
        try rw [if_pos trivial]
        exact s_ret tabOk2 tabZ_ok2 h103 [(.tmp 2, {})] (vs := [.string (bs ((txt2 r) ++ (txt3 r)))]) (φ := True) rfl (by kernel_rfl) trivial ⟨(by rw [show descP r = ((txt2 r) ++ (txt3 r)) from by simp [descP, hc61f, hc83f]]; rfl), h103.frame⟩
    ·
      have hc61f : ¬ r.replayed > 0 := by simpa using hc61
      refine wp_skip ?_
      refine hK57 _ _ ?_
      clear hK57
      refine wp_seq_k fun K104 hK104 => ?_
      refine wp_seq_k fun K105 hK105 => ?_
      refine nd_start (l := [0, 1, 2]) rfl ?_
      refine nd_batch tabOk2 tabZ_ok2 [(0, {}), (1, {k := 0}), (2, {})] [1, 0, 2, 3, 4, 51] (T' := [(1, .pointer (some ⟨b2, 0, none⟩)), (0, .agg #[.int .u8 r.code, .int .i64 r.pos, .int .i64 r.base, .int .i64 r.fin, .bool r.live, .bool r.out.refused, .int .i8 r.out.running, .int .u64 r.out.value, .int .u64 r.dig, .int .i64 r.from_, .int .i64 r.replayed, .int .i64 r.at_]), (2, .string (bs ([] : List UInt8))), (3, .string (bs ([108, 105, 118, 101]))), (4, .string (bs (txt2 r))), (51, .bool (decide (r.at_ ≥ 0)))]) (φ := (b2 = b2 ∧ Nat.ble (11 + 1) 12 = true) ∧ True) (rest := []) h60 (by kernel_rfl) rfl ⟨⟨rfl, rfl⟩, trivial⟩ fun a106 h107 => ?_
      clear h60
      refine nd_done ?_
      refine hK105 _ _ ?_
      clear hK105
      refine c_split h107 (b := decide (r.at_ ≥ 0)) rfl (fun hc108 => ?_) (fun hc108 => ?_)
      ·
        have hc108f : r.at_ ≥ 0 := by simpa using hc108
        refine nd_start (l := [0, 1, 2, 3, 4, 5, 6, 7]) rfl ?_
        refine nd_batch tabOk2 tabZ_ok2 [(0, {}), (1, {}), (2, {k := 0})] [1, 0, 2, 3, 4, 52, 54] (T' := [(1, .pointer (some ⟨b2, 0, none⟩)), (0, .agg #[.int .u8 r.code, .int .i64 r.pos, .int .i64 r.base, .int .i64 r.fin, .bool r.live, .bool r.out.refused, .int .i8 r.out.running, .int .u64 r.out.value, .int .u64 r.dig, .int .i64 r.from_, .int .i64 r.replayed, .int .i64 r.at_]), (2, .string (bs ([] : List UInt8))), (3, .string (bs ([108, 105, 118, 101]))), (4, .string (bs (txt2 r))), (52, .string (bs (txt2 r))), (54, .int .i64 r.at_)]) (φ := (b2 = b2 ∧ Nat.ble (11 + 1) 12 = true) ∧ True) (rest := [3, 4, 5, 6, 7]) h107 (by kernel_rfl) rfl ⟨⟨rfl, rfl⟩, trivial⟩ fun a109 h110 => ?_
        clear h107
        refine nd_op ?_
        refine op_pure (v := .iface 3 (.int .i64 r.at_)) h110 rfl rfl (pure_iface tabOk2 h110.slots rfl rfl rfl (by intro fs hq; cases hq) (by intro fs hq; cases hq)) ?_
        have h111 := h110.put (d := some 55) (v := .iface 3 (.int .i64 r.at_)) (T' := [(55, .iface 3 (.int .i64 r.at_)), (1, .pointer (some ⟨b2, 0, none⟩)), (0, .agg #[.int .u8 r.code, .int .i64 r.pos, .int .i64 r.base, .int .i64 r.fin, .bool r.live, .bool r.out.refused, .int .i8 r.out.running, .int .u64 r.out.value, .int .u64 r.dig, .int .i64 r.from_, .int .i64 r.replayed, .int .i64 r.at_]), (2, .string (bs ([] : List UInt8))), (3, .string (bs ([108, 105, 118, 101]))), (4, .string (bs (txt2 r))), (52, .string (bs (txt2 r))), (54, .int .i64 r.at_)]) rfl
        clear h110
        refine nd_op ?_
        refine op_new tabOk2 (cells := [.iface 3 (.int .i64 r.at_)]) (ty := 20) (ln := (some 1)) (L1 := fun b112 => [(b2, ⟨[.int .u8 r.code, .int .i64 r.pos, .int .i64 r.base, .int .i64 r.fin, .bool r.live, .bool r.out.refused, .int .i8 r.out.running, .int .u64 r.out.value, .int .u64 r.dig, .int .i64 r.from_, .int .i64 r.replayed, .int .i64 r.at_], 46, false⟩), (b47, ⟨[.iface 9 (.string (bs (codeW r.code.toNat))), .iface 9 (.string (bs ([108, 105, 118, 101]))), .iface 3 (.int .i64 r.pos), .iface 3 (.int .i64 r.base), .iface 3 (.int .i64 r.fin), .iface 42 (.int .i8 r.out.running), .iface 29 (.int .u64 r.out.value), .iface 29 (.int .u64 r.dig)], 20, false⟩), (b112, ⟨[.iface 3 (.int .i64 r.at_)], 20, false⟩)]) h111 rfl rfl rfl rfl (by kernel_rfl) (fun _ => rfl) fun b112 w113 a114 h115 hf116 hn117 => ?_
        clear h111
        refine nd_op ?_
        refine op_now (v := .string (bs (txt4 r))) h115 rfl rfl (run_ext h115.slots rfl rfl (sprintf4 F r _ (ans_fr hF h115.frame) (ro := false) (by rw [show args4 r = [.iface 3 (.int .i64 r.at_)] from by simp [args4]]; exact h115.kn (k := 2) rfl))) ?_
        have h118q := h115.grow (fr_drew _)
        have h119 := h118q.put (d := some 57) (v := .string (bs (txt4 r))) (T' := [(57, .string (bs (txt4 r))), (56, .slice (some ⟨b112, 0, none⟩) 1 1), (55, .iface 3 (.int .i64 r.at_)), (1, .pointer (some ⟨b2, 0, none⟩)), (0, .agg #[.int .u8 r.code, .int .i64 r.pos, .int .i64 r.base, .int .i64 r.fin, .bool r.live, .bool r.out.refused, .int .i8 r.out.running, .int .u64 r.out.value, .int .u64 r.dig, .int .i64 r.from_, .int .i64 r.replayed, .int .i64 r.at_]), (2, .string (bs ([] : List UInt8))), (3, .string (bs ([108, 105, 118, 101]))), (4, .string (bs (txt2 r))), (52, .string (bs (txt2 r))), (54, .int .i64 r.at_)]) rfl
        clear h115 h118q
        refine nd_op ?_
        refine op_pure (v := .string (bs ((txt2 r) ++ (txt4 r)))) h119 rfl rfl (ps_add h119.slots rfl rfl rfl (by (try simp only [List.length_append, List.length_cons, List.length_nil]); omega)) ?_
        have h120 := h119.put (d := some 58) (v := .string (bs ((txt2 r) ++ (txt4 r)))) (T' := [(58, .string (bs ((txt2 r) ++ (txt4 r)))), (57, .string (bs (txt4 r))), (56, .slice (some ⟨b112, 0, none⟩) 1 1), (55, .iface 3 (.int .i64 r.at_)), (1, .pointer (some ⟨b2, 0, none⟩)), (0, .agg #[.int .u8 r.code, .int .i64 r.pos, .int .i64 r.base, .int .i64 r.fin, .bool r.live, .bool r.out.refused, .int .i8 r.out.running, .int .u64 r.out.value, .int .u64 r.dig, .int .i64 r.from_, .int .i64 r.replayed, .int .i64 r.at_]), (2, .string (bs ([] : List UInt8))), (3, .string (bs ([108, 105, 118, 101]))), (4, .string (bs (txt2 r))), (52, .string (bs (txt2 r))), (54, .int .i64 r.at_)]) rfl
        clear h119
        refine nd_batch tabOk2 tabZ_ok2 [(7, {})] [1, 0, 2, 3, 4] (T' := [(1, .pointer (some ⟨b2, 0, none⟩)), (0, .agg #[.int .u8 r.code, .int .i64 r.pos, .int .i64 r.base, .int .i64 r.fin, .bool r.live, .bool r.out.refused, .int .i8 r.out.running, .int .u64 r.out.value, .int .u64 r.dig, .int .i64 r.from_, .int .i64 r.replayed, .int .i64 r.at_]), (2, .string (bs ([] : List UInt8))), (3, .string (bs ([108, 105, 118, 101]))), (4, .string (bs ((txt2 r) ++ (txt4 r))))]) (φ := True) (rest := []) h120 (by kernel_rfl) rfl trivial fun a121 h122 => ?_
        clear h120
        refine nd_done ?_
        refine hK104 _ _ ?_
        clear hK104
        refine wp_seq_k fun K123 hK123 => ?_
        refine nd_start (l := [0, 1]) rfl ?_
        refine nd_batch tabOk2 tabZ_ok2 [(0, {}), (1, {})] [1, 0, 3, 4, 2] (T' := [(1, .pointer (some ⟨b2, 0, none⟩)), (0, .agg #[.int .u8 r.code, .int .i64 r.pos, .int .i64 r.base, .int .i64 r.fin, .bool r.live, .bool r.out.refused, .int .i8 r.out.running, .int .u64 r.out.value, .int .u64 r.dig, .int .i64 r.from_, .int .i64 r.replayed, .int .i64 r.at_]), (3, .string (bs ([108, 105, 118, 101]))), (4, .string (bs ((txt2 r) ++ (txt4 r)))), (2, .string (bs ((txt2 r) ++ (txt4 r))))]) (φ := True) (rest := []) h122 (by kernel_rfl) rfl trivial fun a124 h125 => ?_
        clear h122
        refine nd_done ?_
        refine hK123 _ _ ?_
        clear hK123
        refine wp_ret ?_
        try simp only [Exit.then, Exit.inBlock]
        try rw [if_pos trivial]
        exact s_ret tabOk2 tabZ_ok2 h125 [(.tmp 2, {})] (vs := [.string (bs ((txt2 r) ++ (txt4 r)))]) (φ := True) rfl (by kernel_rfl) trivial ⟨(by rw [show descP r = ((txt2 r) ++ (txt4 r)) from by simp [descP, hc61f, hc108f]]; rfl), h125.frame⟩
      ·
        have hc108f : ¬ r.at_ ≥ 0 := by simpa using hc108
        refine wp_skip ?_
        refine hK104 _ _ ?_
        clear hK104
        refine wp_seq_k fun K126 hK126 => ?_
        refine nd_start (l := [0, 1]) rfl ?_
        refine nd_batch tabOk2 tabZ_ok2 [(0, {}), (1, {})] [1, 0, 3, 4, 2] (T' := [(1, .pointer (some ⟨b2, 0, none⟩)), (0, .agg #[.int .u8 r.code, .int .i64 r.pos, .int .i64 r.base, .int .i64 r.fin, .bool r.live, .bool r.out.refused, .int .i8 r.out.running, .int .u64 r.out.value, .int .u64 r.dig, .int .i64 r.from_, .int .i64 r.replayed, .int .i64 r.at_]), (3, .string (bs ([108, 105, 118, 101]))), (4, .string (bs (txt2 r))), (2, .string (bs (txt2 r)))]) (φ := True) (rest := []) h107 (by kernel_rfl) rfl trivial fun a127 h128 => ?_
        clear h107
        refine nd_done ?_
        refine hK126 _ _ ?_
        clear hK126
        refine wp_ret ?_
        try simp only [Exit.then, Exit.inBlock]
        try rw [if_pos trivial]
        exact s_ret tabOk2 tabZ_ok2 h128 [(.tmp 2, {})] (vs := [.string (bs (txt2 r))]) (φ := True) rfl (by kernel_rfl) trivial ⟨(by rw [show descP r = (txt2 r) from by simp [descP, hc61f, hc108f]]; rfl), h128.frame⟩
  ·
    refine wp_skip ?_
    refine hK13 _ _ ?_
    clear hK13
    refine wp_seq_k fun K129 hK129 => ?_
    refine dr_start (KB := [b2]) (Bi := [[0], [0], [0], [0], [0], [0], [0], [0], [0], [0], [0], [0], [0], [0], [0], [0], [0], [0], [0], [0], [0], [0], [0], [0], [0], [0], [0], [0], [], [0]]) mixed h16 fun w130 h131 => ?_
    clear h16
    refine dr_batch tabOk2 tabZ_ok2 (by repeat (first | with_reducible exact PF.body | with_reducible apply PF.inB | with_reducible apply PF.next)) [(0, {}), (1, {k := 0, p := 0}), (2, {}), (5, {})] [1, 0, 2, 3, 9, 12] (T' := [(1, .pointer (some ⟨b2, 0, none⟩)), (0, .agg #[.int .u8 r.code, .int .i64 r.pos, .int .i64 r.base, .int .i64 r.fin, .bool r.live, .bool r.out.refused, .int .i8 r.out.running, .int .u64 r.out.value, .int .u64 r.dig, .int .i64 r.from_, .int .i64 r.replayed, .int .i64 r.at_]), (2, .string (bs ([] : List UInt8))), (3, .string (bs ([114, 101, 112, 108, 97, 121]))), (9, .pointer (some ⟨1, 0 + (r.code.toNat * 1), none⟩)), (12, .string (bs ([114, 101, 112, 108, 97, 121])))]) (φ := (b2 = b2 ∧ Nat.ble (0 + 1) 12 = true) ∧ (0 ≤ r.code ∧ r.code < 6) ∧ True) (fuel := 26) h131 (by kernel_rfl) rfl (by kernel_rfl) (by kernel_rfl) ⟨trivial, rfl, trivial, trivial, trivial⟩ ⟨⟨rfl, rfl⟩, ⟨by omega, by omega⟩, trivial⟩ fun a133 h134 => ?_
    clear h131
    refine dr_pure (i := 6) (v := .iface 9 (.string (bs ([114, 101, 112, 108, 97, 121])))) (fuel := 25) (by repeat (first | with_reducible exact PF.body | with_reducible apply PF.inB | with_reducible apply PF.next)) h134 rfl rfl rfl (by kernel_rfl) (by kernel_rfl) (by kernel_rfl) (pure_iface tabOk2 h134.slots rfl rfl rfl (by intro fs hq; cases hq) (by intro fs hq; cases hq)) ?_
    have h135 := h134.put (d := some 13) (v := .iface 9 (.string (bs ([114, 101, 112, 108, 97, 121])))) (T' := [(13, .iface 9 (.string (bs ([114, 101, 112, 108, 97, 121])))), (1, .pointer (some ⟨b2, 0, none⟩)), (0, .agg #[.int .u8 r.code, .int .i64 r.pos, .int .i64 r.base, .int .i64 r.fin, .bool r.live, .bool r.out.refused, .int .i8 r.out.running, .int .u64 r.out.value, .int .u64 r.dig, .int .i64 r.from_, .int .i64 r.replayed, .int .i64 r.at_]), (2, .string (bs ([] : List UInt8))), (3, .string (bs ([114, 101, 112, 108, 97, 121]))), (9, .pointer (some ⟨1, 0 + (r.code.toNat * 1), none⟩)), (12, .string (bs ([114, 101, 112, 108, 97, 121])))]) rfl
    clear h134
    refine dr_batch tabOk2 tabZ_ok2 (by repeat (first | with_reducible exact PF.body | with_reducible apply PF.inB | with_reducible apply PF.next)) [(7, {}), (8, {k := 0, p := 0})] [13, 1, 0, 2, 3, 9, 15] (T' := [(13, .iface 9 (.string (bs ([114, 101, 112, 108, 97, 121])))), (1, .pointer (some ⟨b2, 0, none⟩)), (0, .agg #[.int .u8 r.code, .int .i64 r.pos, .int .i64 r.base, .int .i64 r.fin, .bool r.live, .bool r.out.refused, .int .i8 r.out.running, .int .u64 r.out.value, .int .u64 r.dig, .int .i64 r.from_, .int .i64 r.replayed, .int .i64 r.at_]), (2, .string (bs ([] : List UInt8))), (3, .string (bs ([114, 101, 112, 108, 97, 121]))), (9, .pointer (some ⟨1, 0 + (r.code.toNat * 1), none⟩)), (15, .int .i64 r.pos)]) (φ := (b2 = b2 ∧ Nat.ble (1 + 1) 12 = true) ∧ True) (fuel := 23) h135 (by kernel_rfl) rfl (by kernel_rfl) (by kernel_rfl) ⟨trivial, rfl, trivial⟩ ⟨⟨rfl, rfl⟩, trivial⟩ fun a136 h137 => ?_
    clear h135
    refine dr_pure (i := 9) (v := .iface 3 (.int .i64 r.pos)) (fuel := 22) (by repeat (first | with_reducible exact PF.body | with_reducible apply PF.inB | with_reducible apply PF.next)) h137 rfl rfl rfl (by kernel_rfl) (by kernel_rfl) (by kernel_rfl) (pure_iface tabOk2 h137.slots rfl rfl rfl (by intro fs hq; cases hq) (by intro fs hq; cases hq)) ?_
    have h138 := h137.put (d := some 16) (v := .iface 3 (.int .i64 r.pos)) (T' := [(16, .iface 3 (.int .i64 r.pos)), (13, .iface 9 (.string (bs ([114, 101, 112, 108, 97, 121])))), (1, .pointer (some ⟨b2, 0, none⟩)), (0, .agg #[.int .u8 r.code, .int .i64 r.pos, .int .i64 r.base, .int .i64 r.fin, .bool r.live, .bool r.out.refused, .int .i8 r.out.running, .int .u64 r.out.value, .int .u64 r.dig, .int .i64 r.from_, .int .i64 r.replayed, .int .i64 r.at_]), (2, .string (bs ([] : List UInt8))), (3, .string (bs ([114, 101, 112, 108, 97, 121]))), (9, .pointer (some ⟨1, 0 + (r.code.toNat * 1), none⟩)), (15, .int .i64 r.pos)]) rfl
    clear h137
    refine dr_batch tabOk2 tabZ_ok2 (by repeat (first | with_reducible exact PF.body | with_reducible apply PF.inB | with_reducible apply PF.next)) [(10, {}), (11, {k := 0, p := 0})] [16, 13, 1, 0, 2, 3, 9, 18] (T' := [(16, .iface 3 (.int .i64 r.pos)), (13, .iface 9 (.string (bs ([114, 101, 112, 108, 97, 121])))), (1, .pointer (some ⟨b2, 0, none⟩)), (0, .agg #[.int .u8 r.code, .int .i64 r.pos, .int .i64 r.base, .int .i64 r.fin, .bool r.live, .bool r.out.refused, .int .i8 r.out.running, .int .u64 r.out.value, .int .u64 r.dig, .int .i64 r.from_, .int .i64 r.replayed, .int .i64 r.at_]), (2, .string (bs ([] : List UInt8))), (3, .string (bs ([114, 101, 112, 108, 97, 121]))), (9, .pointer (some ⟨1, 0 + (r.code.toNat * 1), none⟩)), (18, .int .i64 r.base)]) (φ := (b2 = b2 ∧ Nat.ble (2 + 1) 12 = true) ∧ True) (fuel := 20) h138 (by kernel_rfl) rfl (by kernel_rfl) (by kernel_rfl) ⟨trivial, rfl, trivial⟩ ⟨⟨rfl, rfl⟩, trivial⟩ fun a139 h140 => ?_
    clear h138
    refine dr_pure (i := 12) (v := .iface 3 (.int .i64 r.base)) (fuel := 19) (by repeat (first | with_reducible exact PF.body | with_reducible apply PF.inB | with_reducible apply PF.next)) h140 rfl rfl rfl (by kernel_rfl) (by kernel_rfl) (by kernel_rfl) (pure_iface tabOk2 h140.slots rfl rfl rfl (by intro fs hq; cases hq) (by intro fs hq; cases hq)) ?_
    have h141 := h140.put (d := some 19) (v := .iface 3 (.int .i64 r.base)) (T' := [(19, .iface 3 (.int .i64 r.base)), (16, .iface 3 (.int .i64 r.pos)), (13, .iface 9 (.string (bs ([114, 101, 112, 108, 97, 121])))), (1, .pointer (some ⟨b2, 0, none⟩)), (0, .agg #[.int .u8 r.code, .int .i64 r.pos, .int .i64 r.base, .int .i64 r.fin, .bool r.live, .bool r.out.refused, .int .i8 r.out.running, .int .u64 r.out.value, .int .u64 r.dig, .int .i64 r.from_, .int .i64 r.replayed, .int .i64 r.at_]), (2, .string (bs ([] : List UInt8))), (3, .string (bs ([114, 101, 112, 108, 97, 121]))), (9, .pointer (some ⟨1, 0 + (r.code.toNat * 1), none⟩)), (18, .int .i64 r.base)]) rfl
    clear h140
    refine dr_batch tabOk2 tabZ_ok2 (by repeat (first | with_reducible exact PF.body | with_reducible apply PF.inB | with_reducible apply PF.next)) [(13, {}), (14, {k := 0, p := 0})] [19, 16, 13, 1, 0, 2, 3, 9, 21] (T' := [(19, .iface 3 (.int .i64 r.base)), (16, .iface 3 (.int .i64 r.pos)), (13, .iface 9 (.string (bs ([114, 101, 112, 108, 97, 121])))), (1, .pointer (some ⟨b2, 0, none⟩)), (0, .agg #[.int .u8 r.code, .int .i64 r.pos, .int .i64 r.base, .int .i64 r.fin, .bool r.live, .bool r.out.refused, .int .i8 r.out.running, .int .u64 r.out.value, .int .u64 r.dig, .int .i64 r.from_, .int .i64 r.replayed, .int .i64 r.at_]), (2, .string (bs ([] : List UInt8))), (3, .string (bs ([114, 101, 112, 108, 97, 121]))), (9, .pointer (some ⟨1, 0 + (r.code.toNat * 1), none⟩)), (21, .int .i64 r.fin)]) (φ := (b2 = b2 ∧ Nat.ble (3 + 1) 12 = true) ∧ True) (fuel := 17) h141 (by kernel_rfl) rfl (by kernel_rfl) (by kernel_rfl) ⟨trivial, rfl, trivial⟩ ⟨⟨rfl, rfl⟩, trivial⟩ fun a142 h143 => ?_
    clear h141
    refine dr_pure (i := 15) (v := .iface 3 (.int .i64 r.fin)) (fuel := 16) (by repeat (first | with_reducible exact PF.body | with_reducible apply PF.inB | with_reducible apply PF.next)) h143 rfl rfl rfl (by kernel_rfl) (by kernel_rfl) (by kernel_rfl) (pure_iface tabOk2 h143.slots rfl rfl rfl (by intro fs hq; cases hq) (by intro fs hq; cases hq)) ?_
    have h144 := h143.put (d := some 22) (v := .iface 3 (.int .i64 r.fin)) (T' := [(22, .iface 3 (.int .i64 r.fin)), (19, .iface 3 (.int .i64 r.base)), (16, .iface 3 (.int .i64 r.pos)), (13, .iface 9 (.string (bs ([114, 101, 112, 108, 97, 121])))), (1, .pointer (some ⟨b2, 0, none⟩)), (0, .agg #[.int .u8 r.code, .int .i64 r.pos, .int .i64 r.base, .int .i64 r.fin, .bool r.live, .bool r.out.refused, .int .i8 r.out.running, .int .u64 r.out.value, .int .u64 r.dig, .int .i64 r.from_, .int .i64 r.replayed, .int .i64 r.at_]), (2, .string (bs ([] : List UInt8))), (3, .string (bs ([114, 101, 112, 108, 97, 121]))), (9, .pointer (some ⟨1, 0 + (r.code.toNat * 1), none⟩)), (21, .int .i64 r.fin)]) rfl
    clear h143
    refine dr_batch tabOk2 tabZ_ok2 (by repeat (first | with_reducible exact PF.body | with_reducible apply PF.inB | with_reducible apply PF.next)) [(16, {}), (17, {}), (18, {k := 0, p := 0})] [22, 19, 16, 13, 1, 0, 2, 3, 9, 25] (T' := [(22, .iface 3 (.int .i64 r.fin)), (19, .iface 3 (.int .i64 r.base)), (16, .iface 3 (.int .i64 r.pos)), (13, .iface 9 (.string (bs ([114, 101, 112, 108, 97, 121])))), (1, .pointer (some ⟨b2, 0, none⟩)), (0, .agg #[.int .u8 r.code, .int .i64 r.pos, .int .i64 r.base, .int .i64 r.fin, .bool r.live, .bool r.out.refused, .int .i8 r.out.running, .int .u64 r.out.value, .int .u64 r.dig, .int .i64 r.from_, .int .i64 r.replayed, .int .i64 r.at_]), (2, .string (bs ([] : List UInt8))), (3, .string (bs ([114, 101, 112, 108, 97, 121]))), (9, .pointer (some ⟨1, 0 + (r.code.toNat * 1), none⟩)), (25, .int .i8 r.out.running)]) (φ := (b2 = b2 ∧ Nat.ble (6 + 1) 12 = true) ∧ True) (fuel := 13) h144 (by kernel_rfl) rfl (by kernel_rfl) (by kernel_rfl) ⟨trivial, trivial, rfl, trivial⟩ ⟨⟨rfl, rfl⟩, trivial⟩ fun a145 h146 => ?_
    clear h144
    refine dr_pure (i := 19) (v := .iface 42 (.int .i8 r.out.running)) (fuel := 12) (by repeat (first | with_reducible exact PF.body | with_reducible apply PF.inB | with_reducible apply PF.next)) h146 rfl rfl rfl (by kernel_rfl) (by kernel_rfl) (by kernel_rfl) (pure_iface tabOk2 h146.slots rfl rfl rfl (by intro fs hq; cases hq) (by intro fs hq; cases hq)) ?_
    have h147 := h146.put (d := some 26) (v := .iface 42 (.int .i8 r.out.running)) (T' := [(26, .iface 42 (.int .i8 r.out.running)), (22, .iface 3 (.int .i64 r.fin)), (19, .iface 3 (.int .i64 r.base)), (16, .iface 3 (.int .i64 r.pos)), (13, .iface 9 (.string (bs ([114, 101, 112, 108, 97, 121])))), (1, .pointer (some ⟨b2, 0, none⟩)), (0, .agg #[.int .u8 r.code, .int .i64 r.pos, .int .i64 r.base, .int .i64 r.fin, .bool r.live, .bool r.out.refused, .int .i8 r.out.running, .int .u64 r.out.value, .int .u64 r.dig, .int .i64 r.from_, .int .i64 r.replayed, .int .i64 r.at_]), (2, .string (bs ([] : List UInt8))), (3, .string (bs ([114, 101, 112, 108, 97, 121]))), (9, .pointer (some ⟨1, 0 + (r.code.toNat * 1), none⟩)), (25, .int .i8 r.out.running)]) rfl
    clear h146
    refine dr_batch tabOk2 tabZ_ok2 (by repeat (first | with_reducible exact PF.body | with_reducible apply PF.inB | with_reducible apply PF.next)) [(20, {}), (21, {}), (22, {k := 0, p := 0})] [26, 22, 19, 16, 13, 1, 0, 2, 3, 9, 29] (T' := [(26, .iface 42 (.int .i8 r.out.running)), (22, .iface 3 (.int .i64 r.fin)), (19, .iface 3 (.int .i64 r.base)), (16, .iface 3 (.int .i64 r.pos)), (13, .iface 9 (.string (bs ([114, 101, 112, 108, 97, 121])))), (1, .pointer (some ⟨b2, 0, none⟩)), (0, .agg #[.int .u8 r.code, .int .i64 r.pos, .int .i64 r.base, .int .i64 r.fin, .bool r.live, .bool r.out.refused, .int .i8 r.out.running, .int .u64 r.out.value, .int .u64 r.dig, .int .i64 r.from_, .int .i64 r.replayed, .int .i64 r.at_]), (2, .string (bs ([] : List UInt8))), (3, .string (bs ([114, 101, 112, 108, 97, 121]))), (9, .pointer (some ⟨1, 0 + (r.code.toNat * 1), none⟩)), (29, .int .u64 r.out.value)]) (φ := (b2 = b2 ∧ Nat.ble (7 + 1) 12 = true) ∧ True) (fuel := 9) h147 (by kernel_rfl) rfl (by kernel_rfl) (by kernel_rfl) ⟨trivial, trivial, rfl, trivial⟩ ⟨⟨rfl, rfl⟩, trivial⟩ fun a148 h149 => ?_
    clear h147
    refine dr_pure (i := 23) (v := .iface 29 (.int .u64 r.out.value)) (fuel := 8) (by repeat (first | with_reducible exact PF.body | with_reducible apply PF.inB | with_reducible apply PF.next)) h149 rfl rfl rfl (by kernel_rfl) (by kernel_rfl) (by kernel_rfl) (pure_iface tabOk2 h149.slots rfl rfl rfl (by intro fs hq; cases hq) (by intro fs hq; cases hq)) ?_
    have h150 := h149.put (d := some 30) (v := .iface 29 (.int .u64 r.out.value)) (T' := [(30, .iface 29 (.int .u64 r.out.value)), (26, .iface 42 (.int .i8 r.out.running)), (22, .iface 3 (.int .i64 r.fin)), (19, .iface 3 (.int .i64 r.base)), (16, .iface 3 (.int .i64 r.pos)), (13, .iface 9 (.string (bs ([114, 101, 112, 108, 97, 121])))), (1, .pointer (some ⟨b2, 0, none⟩)), (0, .agg #[.int .u8 r.code, .int .i64 r.pos, .int .i64 r.base, .int .i64 r.fin, .bool r.live, .bool r.out.refused, .int .i8 r.out.running, .int .u64 r.out.value, .int .u64 r.dig, .int .i64 r.from_, .int .i64 r.replayed, .int .i64 r.at_]), (2, .string (bs ([] : List UInt8))), (3, .string (bs ([114, 101, 112, 108, 97, 121]))), (9, .pointer (some ⟨1, 0 + (r.code.toNat * 1), none⟩)), (29, .int .u64 r.out.value)]) rfl
    clear h149
    refine dr_batch tabOk2 tabZ_ok2 (by repeat (first | with_reducible exact PF.body | with_reducible apply PF.inB | with_reducible apply PF.next)) [(24, {}), (25, {k := 0, p := 0})] [30, 26, 22, 19, 16, 13, 1, 0, 2, 3, 9, 32] (T' := [(30, .iface 29 (.int .u64 r.out.value)), (26, .iface 42 (.int .i8 r.out.running)), (22, .iface 3 (.int .i64 r.fin)), (19, .iface 3 (.int .i64 r.base)), (16, .iface 3 (.int .i64 r.pos)), (13, .iface 9 (.string (bs ([114, 101, 112, 108, 97, 121])))), (1, .pointer (some ⟨b2, 0, none⟩)), (0, .agg #[.int .u8 r.code, .int .i64 r.pos, .int .i64 r.base, .int .i64 r.fin, .bool r.live, .bool r.out.refused, .int .i8 r.out.running, .int .u64 r.out.value, .int .u64 r.dig, .int .i64 r.from_, .int .i64 r.replayed, .int .i64 r.at_]), (2, .string (bs ([] : List UInt8))), (3, .string (bs ([114, 101, 112, 108, 97, 121]))), (9, .pointer (some ⟨1, 0 + (r.code.toNat * 1), none⟩)), (32, .int .u64 r.dig)]) (φ := (b2 = b2 ∧ Nat.ble (8 + 1) 12 = true) ∧ True) (fuel := 6) h150 (by kernel_rfl) rfl (by kernel_rfl) (by kernel_rfl) ⟨trivial, rfl, trivial⟩ ⟨⟨rfl, rfl⟩, trivial⟩ fun a151 h152 => ?_
    clear h150
    refine dr_pure (i := 26) (v := .iface 29 (.int .u64 r.dig)) (fuel := 5) (by repeat (first | with_reducible exact PF.body | with_reducible apply PF.inB | with_reducible apply PF.next)) h152 rfl rfl rfl (by kernel_rfl) (by kernel_rfl) (by kernel_rfl) (pure_iface tabOk2 h152.slots rfl rfl rfl (by intro fs hq; cases hq) (by intro fs hq; cases hq)) ?_
    have h153 := h152.put (d := some 33) (v := .iface 29 (.int .u64 r.dig)) (T' := [(33, .iface 29 (.int .u64 r.dig)), (30, .iface 29 (.int .u64 r.out.value)), (26, .iface 42 (.int .i8 r.out.running)), (22, .iface 3 (.int .i64 r.fin)), (19, .iface 3 (.int .i64 r.base)), (16, .iface 3 (.int .i64 r.pos)), (13, .iface 9 (.string (bs ([114, 101, 112, 108, 97, 121])))), (1, .pointer (some ⟨b2, 0, none⟩)), (0, .agg #[.int .u8 r.code, .int .i64 r.pos, .int .i64 r.base, .int .i64 r.fin, .bool r.live, .bool r.out.refused, .int .i8 r.out.running, .int .u64 r.out.value, .int .u64 r.dig, .int .i64 r.from_, .int .i64 r.replayed, .int .i64 r.at_]), (2, .string (bs ([] : List UInt8))), (3, .string (bs ([114, 101, 112, 108, 97, 121]))), (9, .pointer (some ⟨1, 0 + (r.code.toNat * 1), none⟩)), (32, .int .u64 r.dig)]) rfl
    clear h152
    refine wpAnyK_one (i := 3) (fuel := 4) (by kernel_rfl) ?_
    refine op_now (v := .string (bs (codeW r.code.toNat))) h153 rfl rfl (run_cell tabOk2 h153.slots rfl rfl rfl rfl ((hg.fr h153.frame).code (k := r.code.toNat) (by omega) rfl (by omega))) ?_
    refine ⟨Keep.refl _ _, ?_⟩
    have h154 := h153.put (d := some 10) (v := .string (bs (codeW r.code.toNat))) (T' := [(10, .string (bs (codeW r.code.toNat))), (33, .iface 29 (.int .u64 r.dig)), (30, .iface 29 (.int .u64 r.out.value)), (26, .iface 42 (.int .i8 r.out.running)), (22, .iface 3 (.int .i64 r.fin)), (19, .iface 3 (.int .i64 r.base)), (16, .iface 3 (.int .i64 r.pos)), (13, .iface 9 (.string (bs ([114, 101, 112, 108, 97, 121])))), (1, .pointer (some ⟨b2, 0, none⟩)), (0, .agg #[.int .u8 r.code, .int .i64 r.pos, .int .i64 r.base, .int .i64 r.fin, .bool r.live, .bool r.out.refused, .int .i8 r.out.running, .int .u64 r.out.value, .int .u64 r.dig, .int .i64 r.from_, .int .i64 r.replayed, .int .i64 r.at_]), (2, .string (bs ([] : List UInt8))), (3, .string (bs ([114, 101, 112, 108, 97, 121]))), (9, .pointer (some ⟨1, 0 + (r.code.toNat * 1), none⟩)), (32, .int .u64 r.dig)]) rfl
    clear h153
    refine dr_pure (i := 4) (v := .iface 9 (.string (bs (codeW r.code.toNat)))) (fuel := 3) (by repeat (first | with_reducible exact PF.body | with_reducible apply PF.inB | with_reducible apply PF.next)) h154 rfl rfl rfl (by kernel_rfl) (by kernel_rfl) (by kernel_rfl) (pure_iface tabOk2 h154.slots rfl rfl rfl (by intro fs hq; cases hq) (by intro fs hq; cases hq)) ?_
    have h155 := h154.put (d := some 11) (v := .iface 9 (.string (bs (codeW r.code.toNat)))) (T' := [(11, .iface 9 (.string (bs (codeW r.code.toNat)))), (10, .string (bs (codeW r.code.toNat))), (33, .iface 29 (.int .u64 r.dig)), (30, .iface 29 (.int .u64 r.out.value)), (26, .iface 42 (.int .i8 r.out.running)), (22, .iface 3 (.int .i64 r.fin)), (19, .iface 3 (.int .i64 r.base)), (16, .iface 3 (.int .i64 r.pos)), (13, .iface 9 (.string (bs ([114, 101, 112, 108, 97, 121])))), (1, .pointer (some ⟨b2, 0, none⟩)), (0, .agg #[.int .u8 r.code, .int .i64 r.pos, .int .i64 r.base, .int .i64 r.fin, .bool r.live, .bool r.out.refused, .int .i8 r.out.running, .int .u64 r.out.value, .int .u64 r.dig, .int .i64 r.from_, .int .i64 r.replayed, .int .i64 r.at_]), (2, .string (bs ([] : List UInt8))), (3, .string (bs ([114, 101, 112, 108, 97, 121]))), (9, .pointer (some ⟨1, 0 + (r.code.toNat * 1), none⟩)), (32, .int .u64 r.dig)]) rfl
    clear h154
    refine wpAnyK_one (i := 27) (fuel := 2) (by kernel_rfl) ?_
    refine op_new tabOk2 (cells := [.iface 9 (.string (bs (codeW r.code.toNat))), .iface 9 (.string (bs ([114, 101, 112, 108, 97, 121]))), .iface 3 (.int .i64 r.pos), .iface 3 (.int .i64 r.base), .iface 3 (.int .i64 r.fin), .iface 42 (.int .i8 r.out.running), .iface 29 (.int .u64 r.out.value), .iface 29 (.int .u64 r.dig)]) (ty := 20) (ln := (some 8)) (L1 := fun b156 => [(b2, ⟨[.int .u8 r.code, .int .i64 r.pos, .int .i64 r.base, .int .i64 r.fin, .bool r.live, .bool r.out.refused, .int .i8 r.out.running, .int .u64 r.out.value, .int .u64 r.dig, .int .i64 r.from_, .int .i64 r.replayed, .int .i64 r.at_], 46, false⟩), (b156, ⟨[.iface 9 (.string (bs (codeW r.code.toNat))), .iface 9 (.string (bs ([114, 101, 112, 108, 97, 121]))), .iface 3 (.int .i64 r.pos), .iface 3 (.int .i64 r.base), .iface 3 (.int .i64 r.fin), .iface 42 (.int .i8 r.out.running), .iface 29 (.int .u64 r.out.value), .iface 29 (.int .u64 r.dig)], 20, false⟩)]) h155 rfl rfl rfl rfl (by kernel_rfl) (fun _ => rfl) fun b156 w157 a158 h159 hf160 hn161 => ?_
    refine ⟨(h155.keepFr hf160 (kcons (by simp) knil)), ?_⟩
    clear h155
    refine wpAnyK_one (i := 28) (fuel := 1) (by kernel_rfl) ?_
    refine op_now (v := .string (bs (txt2 r))) h159 rfl rfl (run_ext h159.slots rfl rfl (sprintf2 F r hr _ (ans_fr hF h159.frame) (ro := false) (by rw [show args2 r = [.iface 9 (.string (bs (codeW r.code.toNat))), .iface 9 (.string (bs ([114, 101, 112, 108, 97, 121]))), .iface 3 (.int .i64 r.pos), .iface 3 (.int .i64 r.base), .iface 3 (.int .i64 r.fin), .iface 42 (.int .i8 r.out.running), .iface 29 (.int .u64 r.out.value), .iface 29 (.int .u64 r.dig)] from by simp [args2, modeW, hc17]]; exact h159.kn (k := 1) rfl))) ?_
    have h162q := h159.grow (fr_drew _)
    refine ⟨keepNil, ?_⟩
    have h163 := h162q.put (d := some 35) (v := .string (bs (txt2 r))) (T' := [(35, .string (bs (txt2 r))), (34, .slice (some ⟨b156, 0, none⟩) 8 8), (11, .iface 9 (.string (bs (codeW r.code.toNat)))), (10, .string (bs (codeW r.code.toNat))), (33, .iface 29 (.int .u64 r.dig)), (30, .iface 29 (.int .u64 r.out.value)), (26, .iface 42 (.int .i8 r.out.running)), (22, .iface 3 (.int .i64 r.fin)), (19, .iface 3 (.int .i64 r.base)), (16, .iface 3 (.int .i64 r.pos)), (13, .iface 9 (.string (bs ([114, 101, 112, 108, 97, 121])))), (1, .pointer (some ⟨b2, 0, none⟩)), (0, .agg #[.int .u8 r.code, .int .i64 r.pos, .int .i64 r.base, .int .i64 r.fin, .bool r.live, .bool r.out.refused, .int .i8 r.out.running, .int .u64 r.out.value, .int .u64 r.dig, .int .i64 r.from_, .int .i64 r.replayed, .int .i64 r.at_]), (2, .string (bs ([] : List UInt8))), (3, .string (bs ([114, 101, 112, 108, 97, 121]))), (9, .pointer (some ⟨1, 0 + (r.code.toNat * 1), none⟩)), (32, .int .u64 r.dig)]) rfl
    clear h159 h162q
    refine dr_batch tabOk2 tabZ_ok2 (by repeat (first | with_reducible exact PF.body | with_reducible apply PF.inB | with_reducible apply PF.next)) [(29, {})] [1, 0, 2, 3, 4] (T' := [(1, .pointer (some ⟨b2, 0, none⟩)), (0, .agg #[.int .u8 r.code, .int .i64 r.pos, .int .i64 r.base, .int .i64 r.fin, .bool r.live, .bool r.out.refused, .int .i8 r.out.running, .int .u64 r.out.value, .int .u64 r.dig, .int .i64 r.from_, .int .i64 r.replayed, .int .i64 r.at_]), (2, .string (bs ([] : List UInt8))), (3, .string (bs ([114, 101, 112, 108, 97, 121]))), (4, .string (bs (txt2 r)))]) (φ := True) (fuel := 0) h163 (by kernel_rfl) rfl (by kernel_rfl) (by kernel_rfl) ⟨trivial, trivial⟩ trivial fun a164 h165 => ?_
    clear h163
    refine wpAnyK_done (by kernel_rfl) ?_ _
    refine hK129 _ _ ?_
    clear hK129
    refine wp_seq_k fun K166 hK166 => ?_
    refine wp_seq_k fun K167 hK167 => ?_
    refine nd_start (l := [0, 1, 2]) rfl ?_
    refine nd_batch tabOk2 tabZ_ok2 [(0, {}), (1, {k := 0}), (2, {})] [1, 0, 2, 3, 4, 38] (T' := [(1, .pointer (some ⟨b2, 0, none⟩)), (0, .agg #[.int .u8 r.code, .int .i64 r.pos, .int .i64 r.base, .int .i64 r.fin, .bool r.live, .bool r.out.refused, .int .i8 r.out.running, .int .u64 r.out.value, .int .u64 r.dig, .int .i64 r.from_, .int .i64 r.replayed, .int .i64 r.at_]), (2, .string (bs ([] : List UInt8))), (3, .string (bs ([114, 101, 112, 108, 97, 121]))), (4, .string (bs (txt2 r))), (38, .bool (decide (r.replayed > 0)))]) (φ := (b2 = b2 ∧ Nat.ble (10 + 1) 12 = true) ∧ True) (rest := []) h165 (by kernel_rfl) rfl ⟨⟨rfl, rfl⟩, trivial⟩ fun a168 h169 => ?_
    clear h165
    refine nd_done ?_
    refine hK167 _ _ ?_
    clear hK167
    refine c_split h169 (b := decide (r.replayed > 0)) rfl (fun hc170 => ?_) (fun hc170 => ?_)
    ·
      have hc170f : r.replayed > 0 := by simpa using hc170
      refine nd_start (l := [0, 1, 2, 3, 4, 5, 6, 7, 8, 9, 10]) rfl ?_
      refine nd_batch tabOk2 tabZ_ok2 [(0, {}), (1, {}), (2, {k := 0})] [1, 0, 2, 3, 4, 39, 41] (T' := [(1, .pointer (some ⟨b2, 0, none⟩)), (0, .agg #[.int .u8 r.code, .int .i64 r.pos, .int .i64 r.base, .int .i64 r.fin, .bool r.live, .bool r.out.refused, .int .i8 r.out.running, .int .u64 r.out.value, .int .u64 r.dig, .int .i64 r.from_, .int .i64 r.replayed, .int .i64 r.at_]), (2, .string (bs ([] : List UInt8))), (3, .string (bs ([114, 101, 112, 108, 97, 121]))), (4, .string (bs (txt2 r))), (39, .string (bs (txt2 r))), (41, .int .i64 r.replayed)]) (φ := (b2 = b2 ∧ Nat.ble (10 + 1) 12 = true) ∧ True) (rest := [3, 4, 5, 6, 7, 8, 9, 10]) h169 (by kernel_rfl) rfl ⟨⟨rfl, rfl⟩, trivial⟩ fun a171 h172 => ?_
      clear h169
      refine nd_op ?_
      refine op_pure (v := .iface 3 (.int .i64 r.replayed)) h172 rfl rfl (pure_iface tabOk2 h172.slots rfl rfl rfl (by intro fs hq; cases hq) (by intro fs hq; cases hq)) ?_
      have h173 := h172.put (d := some 42) (v := .iface 3 (.int .i64 r.replayed)) (T' := [(42, .iface 3 (.int .i64 r.replayed)), (1, .pointer (some ⟨b2, 0, none⟩)), (0, .agg #[.int .u8 r.code, .int .i64 r.pos, .int .i64 r.base, .int .i64 r.fin, .bool r.live, .bool r.out.refused, .int .i8 r.out.running, .int .u64 r.out.value, .int .u64 r.dig, .int .i64 r.from_, .int .i64 r.replayed, .int .i64 r.at_]), (2, .string (bs ([] : List UInt8))), (3, .string (bs ([114, 101, 112, 108, 97, 121]))), (4, .string (bs (txt2 r))), (39, .string (bs (txt2 r))), (41, .int .i64 r.replayed)]) rfl
      clear h172
      refine nd_batch tabOk2 tabZ_ok2 [(4, {}), (5, {k := 0})] [42, 1, 0, 2, 3, 4, 39, 44] (T' := [(42, .iface 3 (.int .i64 r.replayed)), (1, .pointer (some ⟨b2, 0, none⟩)), (0, .agg #[.int .u8 r.code, .int .i64 r.pos, .int .i64 r.base, .int .i64 r.fin, .bool r.live, .bool r.out.refused, .int .i8 r.out.running, .int .u64 r.out.value, .int .u64 r.dig, .int .i64 r.from_, .int .i64 r.replayed, .int .i64 r.at_]), (2, .string (bs ([] : List UInt8))), (3, .string (bs ([114, 101, 112, 108, 97, 121]))), (4, .string (bs (txt2 r))), (39, .string (bs (txt2 r))), (44, .int .i64 r.from_)]) (φ := (b2 = b2 ∧ Nat.ble (9 + 1) 12 = true) ∧ True) (rest := [6, 7, 8, 9, 10]) h173 (by kernel_rfl) rfl ⟨⟨rfl, rfl⟩, trivial⟩ fun a174 h175 => ?_
      clear h173
      refine nd_op ?_
      refine op_pure (v := .iface 3 (.int .i64 r.from_)) h175 rfl rfl (pure_iface tabOk2 h175.slots rfl rfl rfl (by intro fs hq; cases hq) (by intro fs hq; cases hq)) ?_
      have h176 := h175.put (d := some 45) (v := .iface 3 (.int .i64 r.from_)) (T' := [(45, .iface 3 (.int .i64 r.from_)), (42, .iface 3 (.int .i64 r.replayed)), (1, .pointer (some ⟨b2, 0, none⟩)), (0, .agg #[.int .u8 r.code, .int .i64 r.pos, .int .i64 r.base, .int .i64 r.fin, .bool r.live, .bool r.out.refused, .int .i8 r.out.running, .int .u64 r.out.value, .int .u64 r.dig, .int .i64 r.from_, .int .i64 r.replayed, .int .i64 r.at_]), (2, .string (bs ([] : List UInt8))), (3, .string (bs ([114, 101, 112, 108, 97, 121]))), (4, .string (bs (txt2 r))), (39, .string (bs (txt2 r))), (44, .int .i64 r.from_)]) rfl
      clear h175
      refine nd_op ?_
      refine op_new tabOk2 (cells := [.iface 3 (.int .i64 r.replayed), .iface 3 (.int .i64 r.from_)]) (ty := 20) (ln := (some 2)) (L1 := fun b177 => [(b2, ⟨[.int .u8 r.code, .int .i64 r.pos, .int .i64 r.base, .int .i64 r.fin, .bool r.live, .bool r.out.refused, .int .i8 r.out.running, .int .u64 r.out.value, .int .u64 r.dig, .int .i64 r.from_, .int .i64 r.replayed, .int .i64 r.at_], 46, false⟩), (b156, ⟨[.iface 9 (.string (bs (codeW r.code.toNat))), .iface 9 (.string (bs ([114, 101, 112, 108, 97, 121]))), .iface 3 (.int .i64 r.pos), .iface 3 (.int .i64 r.base), .iface 3 (.int .i64 r.fin), .iface 42 (.int .i8 r.out.running), .iface 29 (.int .u64 r.out.value), .iface 29 (.int .u64 r.dig)], 20, false⟩), (b177, ⟨[.iface 3 (.int .i64 r.replayed), .iface 3 (.int .i64 r.from_)], 20, false⟩)]) h176 rfl rfl rfl rfl (by kernel_rfl) (fun _ => rfl) fun b177 w178 a179 h180 hf181 hn182 => ?_
      clear h176
      refine nd_op ?_
      refine op_now (v := .string (bs (txt3 r))) h180 rfl rfl (run_ext h180.slots rfl rfl (sprintf3 F r _ (ans_fr hF h180.frame) (ro := false) (by rw [show args3 r = [.iface 3 (.int .i64 r.replayed), .iface 3 (.int .i64 r.from_)] from by simp [args3]]; exact h180.kn (k := 2) rfl))) ?_
      have h183q := h180.grow (fr_drew _)
      have h184 := h183q.put (d := some 47) (v := .string (bs (txt3 r))) (T' := [(47, .string (bs (txt3 r))), (46, .slice (some ⟨b177, 0, none⟩) 2 2), (45, .iface 3 (.int .i64 r.from_)), (42, .iface 3 (.int .i64 r.replayed)), (1, .pointer (some ⟨b2, 0, none⟩)), (0, .agg #[.int .u8 r.code, .int .i64 r.pos, .int .i64 r.base, .int .i64 r.fin, .bool r.live, .bool r.out.refused, .int .i8 r.out.running, .int .u64 r.out.value, .int .u64 r.dig, .int .i64 r.from_, .int .i64 r.replayed, .int .i64 r.at_]), (2, .string (bs ([] : List UInt8))), (3, .string (bs ([114, 101, 112, 108, 97, 121]))), (4, .string (bs (txt2 r))), (39, .string (bs (txt2 r))), (44, .int .i64 r.from_)]) rfl
      clear h180 h183q
      refine nd_op ?_
      refine op_pure (v := .string (bs ((txt2 r) ++ (txt3 r)))) h184 rfl rfl (ps_add h184.slots rfl rfl rfl (by (try simp only [List.length_append, List.length_cons, List.length_nil]); omega)) ?_
      have h185 := h184.put (d := some 48) (v := .string (bs ((txt2 r) ++ (txt3 r)))) (T' := [(48, .string (bs ((txt2 r) ++ (txt3 r)))), (47, .string (bs (txt3 r))), (46, .slice (some ⟨b177, 0, none⟩) 2 2), (45, .iface 3 (.int .i64 r.from_)), (42, .iface 3 (.int .i64 r.replayed)), (1, .pointer (some ⟨b2, 0, none⟩)), (0, .agg #[.int .u8 r.code, .int .i64 r.pos, .int .i64 r.base, .int .i64 r.fin, .bool r.live, .bool r.out.refused, .int .i8 r.out.running, .int .u64 r.out.value, .int .u64 r.dig, .int .i64 r.from_, .int .i64 r.replayed, .int .i64 r.at_]), (2, .string (bs ([] : List UInt8))), (3, .string (bs ([114, 101, 112, 108, 97, 121]))), (4, .string (bs (txt2 r))), (39, .string (bs (txt2 r))), (44, .int .i64 r.from_)]) rfl
      clear h184
      refine nd_batch tabOk2 tabZ_ok2 [(10, {})] [1, 0, 2, 3, 4] (T' := [(1, .pointer (some ⟨b2, 0, none⟩)), (0, .agg #[.int .u8 r.code, .int .i64 r.pos, .int .i64 r.base, .int .i64 r.fin, .bool r.live, .bool r.out.refused, .int .i8 r.out.running, .int .u64 r.out.value, .int .u64 r.dig, .int .i64 r.from_, .int .i64 r.replayed, .int .i64 r.at_]), (2, .string (bs ([] : List UInt8))), (3, .string (bs ([114, 101, 112, 108, 97, 121]))), (4, .string (bs ((txt2 r) ++ (txt3 r))))]) (φ := True) (rest := []) h185 (by kernel_rfl) rfl trivial fun a186 h187 => ?_
      clear h185
      refine nd_done ?_
      refine hK166 _ _ ?_
      clear hK166
      refine wp_seq_k fun K188 hK188 => ?_
      refine wp_seq_k fun K189 hK189 => ?_
      refine nd_start (l := [0, 1, 2]) rfl ?_
      refine nd_batch tabOk2 tabZ_ok2 [(0, {}), (1, {k := 0}), (2, {})] [1, 0, 2, 3, 4, 51] (T' := [(1, .pointer (some ⟨b2, 0, none⟩)), (0, .agg #[.int .u8 r.code, .int .i64 r.pos, .int .i64 r.base, .int .i64 r.fin, .bool r.live, .bool r.out.refused, .int .i8 r.out.running, .int .u64 r.out.value, .int .u64 r.dig, .int .i64 r.from_, .int .i64 r.replayed, .int .i64 r.at_]), (2, .string (bs ([] : List UInt8))), (3, .string (bs ([114, 101, 112, 108, 97, 121]))), (4, .string (bs ((txt2 r) ++ (txt3 r)))), (51, .bool (decide (r.at_ ≥ 0)))]) (φ := (b2 = b2 ∧ Nat.ble (11 + 1) 12 = true) ∧ True) (rest := []) h187 (by kernel_rfl) rfl ⟨⟨rfl, rfl⟩, trivial⟩ fun a190 h191 => ?_
      clear h187
      refine nd_done ?_
      refine hK189 _ _ ?_
      clear hK189
      refine c_split h191 (b := decide (r.at_ ≥ 0)) rfl (fun hc192 => ?_) (fun hc192 => ?_)
      ·
        have hc192f : r.at_ ≥ 0 := by simpa using hc192
        refine nd_start (l := [0, 1, 2, 3, 4, 5, 6, 7]) rfl ?_
        refine nd_batch tabOk2 tabZ_ok2 [(0, {}), (1, {}), (2, {k := 0})] [1, 0, 2, 3, 4, 52, 54] (T' := [(1, .pointer (some ⟨b2, 0, none⟩)), (0, .agg #[.int .u8 r.code, .int .i64 r.pos, .int .i64 r.base, .int .i64 r.fin, .bool r.live, .bool r.out.refused, .int .i8 r.out.running, .int .u64 r.out.value, .int .u64 r.dig, .int .i64 r.from_, .int .i64 r.replayed, .int .i64 r.at_]), (2, .string (bs ([] : List UInt8))), (3, .string (bs ([114, 101, 112, 108, 97, 121]))), (4, .string (bs ((txt2 r) ++ (txt3 r)))), (52, .string (bs ((txt2 r) ++ (txt3 r)))), (54, .int .i64 r.at_)]) (φ := (b2 = b2 ∧ Nat.ble (11 + 1) 12 = true) ∧ True) (rest := [3, 4, 5, 6, 7]) h191 (by kernel_rfl) rfl ⟨⟨rfl, rfl⟩, trivial⟩ fun a193 h194 => ?_
        clear h191
        refine nd_op ?_
        refine op_pure (v := .iface 3 (.int .i64 r.at_)) h194 rfl rfl (pure_iface tabOk2 h194.slots rfl rfl rfl (by intro fs hq; cases hq) (by intro fs hq; cases hq)) ?_
        have h195 := h194.put (d := some 55) (v := .iface 3 (.int .i64 r.at_)) (T' := [(55, .iface 3 (.int .i64 r.at_)), (1, .pointer (some ⟨b2, 0, none⟩)), (0, .agg #[.int .u8 r.code, .int .i64 r.pos, .int .i64 r.base, .int .i64 r.fin, .bool r.live, .bool r.out.refused, .int .i8 r.out.running, .int .u64 r.out.value, .int .u64 r.dig, .int .i64 r.from_, .int .i64 r.replayed, .int .i64 r.at_]), (2, .string (bs ([] : List UInt8))), (3, .string (bs ([114, 101, 112, 108, 97, 121]))), (4, .string (bs ((txt2 r) ++ (txt3 r)))), (52, .string (bs ((txt2 r) ++ (txt3 r)))), (54, .int .i64 r.at_)]) rfl
        clear h194
        refine nd_op ?_
        refine op_new tabOk2 (cells := [.iface 3 (.int .i64 r.at_)]) (ty := 20) (ln := (some 1)) (L1 := fun b196 => [(b2, ⟨[.int .u8 r.code, .int .i64 r.pos, .int .i64 r.base, .int .i64 r.fin, .bool r.live, .bool r.out.refused, .int .i8 r.out.running, .int .u64 r.out.value, .int .u64 r.dig, .int .i64 r.from_, .int .i64 r.replayed, .int .i64 r.at_], 46, false⟩), (b156, ⟨[.iface 9 (.string (bs (codeW r.code.toNat))), .iface 9 (.string (bs ([114, 101, 112, 108, 97, 121]))), .iface 3 (.int .i64 r.pos), .iface 3 (.int .i64 r.base), .iface 3 (.int .i64 r.fin), .iface 42 (.int .i8 r.out.running), .iface 29 (.int .u64 r.out.value), .iface 29 (.int .u64 r.dig)], 20, false⟩), (b177, ⟨[.iface 3 (.int .i64 r.replayed), .iface 3 (.int .i64 r.from_)], 20, false⟩), (b196, ⟨[.iface 3 (.int .i64 r.at_)], 20, false⟩)]) h195 rfl rfl rfl rfl (by kernel_rfl) (fun _ => rfl) fun b196 w197 a198 h199 hf200 hn201 => ?_
        clear h195
        refine nd_op ?_
        refine op_now (v := .string (bs (txt4 r))) h199 rfl rfl (run_ext h199.slots rfl rfl (sprintf4 F r _ (ans_fr hF h199.frame) (ro := false) (by rw [show args4 r = [.iface 3 (.int .i64 r.at_)] from by simp [args4]]; exact h199.kn (k := 3) rfl))) ?_
        have h202q := h199.grow (fr_drew _)
        have h203 := h202q.put (d := some 57) (v := .string (bs (txt4 r))) (T' := [(57, .string (bs (txt4 r))), (56, .slice (some ⟨b196, 0, none⟩) 1 1), (55, .iface 3 (.int .i64 r.at_)), (1, .pointer (some ⟨b2, 0, none⟩)), (0, .agg #[.int .u8 r.code, .int .i64 r.pos, .int .i64 r.base, .int .i64 r.fin, .bool r.live, .bool r.out.refused, .int .i8 r.out.running, .int .u64 r.out.value, .int .u64 r.dig, .int .i64 r.from_, .int .i64 r.replayed, .int .i64 r.at_]), (2, .string (bs ([] : List UInt8))), (3, .string (bs ([114, 101, 112, 108, 97, 121]))), (4, .string (bs ((txt2 r) ++ (txt3 r)))), (52, .string (bs ((txt2 r) ++ (txt3 r)))), (54, .int .i64 r.at_)]) rfl
        clear h199 h202q
        refine nd_op ?_
        refine op_pure (v := .string (bs (((txt2 r) ++ (txt3 r)) ++ (txt4 r)))) h203 rfl rfl (ps_add h203.slots rfl rfl rfl (by (try simp only [List.length_append, List.length_cons, List.length_nil]); omega)) ?_
        have h204 := h203.put (d := some 58) (v := .string (bs (((txt2 r) ++ (txt3 r)) ++ (txt4 r)))) (T' := [(58, .string (bs (((txt2 r) ++ (txt3 r)) ++ (txt4 r)))), (57, .string (bs (txt4 r))), (56, .slice (some ⟨b196, 0, none⟩) 1 1), (55, .iface 3 (.int .i64 r.at_)), (1, .pointer (some ⟨b2, 0, none⟩)), (0, .agg #[.int .u8 r.code, .int .i64 r.pos, .int .i64 r.base, .int .i64 r.fin, .bool r.live, .bool r.out.refused, .int .i8 r.out.running, .int .u64 r.out.value, .int .u64 r.dig, .int .i64 r.from_, .int .i64 r.replayed, .int .i64 r.at_]), (2, .string (bs ([] : List UInt8))), (3, .string (bs ([114, 101, 112, 108, 97, 121]))), (4, .string (bs ((txt2 r) ++ (txt3 r)))), (52, .string (bs ((txt2 r) ++ (txt3 r)))), (54, .int .i64 r.at_)]) rfl
        clear h203
        refine nd_batch tabOk2 tabZ_ok2 [(7, {})] [1, 0, 2, 3, 4] (T' := [(1, .pointer (some ⟨b2, 0, none⟩)), (0, .agg #[.int .u8 r.code, .int .i64 r.pos, .int .i64 r.base, .int .i64 r.fin, .bool r.live, .bool r.out.refused, .int .i8 r.out.running, .int .u64 r.out.value, .int .u64 r.dig, .int .i64 r.from_, .int .i64 r.replayed, .int .i64 r.at_]), (2, .string (bs ([] : List UInt8))), (3, .string (bs ([114, 101, 112, 108, 97, 121]))), (4, .string (bs (((txt2 r) ++ (txt3 r)) ++ (txt4 r))))]) (φ := True) (rest := []) h204 (by kernel_rfl) rfl trivial fun a205 h206 => ?_
        clear h204
        refine nd_done ?_
        refine hK188 _ _ ?_
        clear hK188
        refine wp_seq_k fun K207 hK207 => ?_
        refine nd_start (l := [0, 1]) rfl ?_
        refine nd_batch tabOk2 tabZ_ok2 [(0, {}), (1, {})] [1, 0, 3, 4, 2] (T' := [(1, .pointer (some ⟨b2, 0, none⟩)), (0, .agg #[.int .u8 r.code, .int .i64 r.pos, .int .i64 r.base, .int .i64 r.fin, .bool r.live, .bool r.out.refused, .int .i8 r.out.running, .int .u64 r.out.value, .int .u64 r.dig, .int .i64 r.from_, .int .i64 r.replayed, .int .i64 r.at_]), (3, .string (bs ([114, 101, 112, 108, 97, 121]))), (4, .string (bs (((txt2 r) ++ (txt3 r)) ++ (txt4 r)))), (2, .string (bs (((txt2 r) ++ (txt3 r)) ++ (txt4 r))))]) (φ := True) (rest := []) h206 (by kernel_rfl) rfl trivial fun a208 h209 => ?_
        clear h206
        refine nd_done ?_
        refine hK207 _ _ ?_
        clear hK207
        refine wp_ret ?_
        try simp only [Exit.then, Exit.inBlock]
        try rw [if_pos trivial]
        exact s_ret tabOk2 tabZ_ok2 h209 [(.tmp 2, {})] (vs := [.string (bs (((txt2 r) ++ (txt3 r)) ++ (txt4 r)))]) (φ := True) rfl (by kernel_rfl) trivial ⟨(by rw [show descP r = (((txt2 r) ++ (txt3 r)) ++ (txt4 r)) from by simp [descP, hc170f, hc192f]]; rfl), h209.frame⟩
      ·
        have hc192f : ¬ r.at_ ≥ 0 := by simpa using hc192
        refine wp_skip ?_
        refine hK188 _ _ ?_
        clear hK188
        refine wp_seq_k fun K210 hK210 => ?_
        refine nd_start (l := [0, 1]) rfl ?_
        refine nd_batch tabOk2 tabZ_ok2 [(0, {}), (1, {})] [1, 0, 3, 4, 2] (T' := [(1, .pointer (some ⟨b2, 0, none⟩)), (0, .agg #[.int .u8 r.code, .int .i64 r.pos, .int .i64 r.base, .int .i64 r.fin, .bool r.live, .bool r.out.refused, .int .i8 r.out.running, .int .u64 r.out.value, .int .u64 r.dig, .int .i64 r.from_, .int .i64 r.replayed, .int .i64 r.at_]), (3, .string (bs ([114, 101, 112, 108, 97, 121]))), (4, .string (bs ((txt2 r) ++ (txt3 r)))), (2, .string (bs ((txt2 r) ++ (txt3 r))))]) (φ := True) (rest := []) h191 (by kernel_rfl) rfl trivial fun a211 h212 => ?_
        clear h191
        refine nd_done ?_
        refine hK210 _ _ ?_
        clear hK210
        refine wp_ret ?_
        try simp only [Exit.then, Exit.inBlock]
        try rw [if_pos trivial]
        exact s_ret tabOk2 tabZ_ok2 h212 [(.tmp 2, {})] (vs := [.string (bs ((txt2 r) ++ (txt3 r)))]) (φ := True) rfl (by kernel_rfl) trivial ⟨(by rw [show descP r = ((txt2 r) ++ (txt3 r)) from by simp [descP, hc170f, hc192f]]; rfl), h212.frame⟩
    ·
      have hc170f : ¬ r.replayed > 0 := by simpa using hc170
      refine wp_skip ?_
      refine hK166 _ _ ?_
      clear hK166
      refine wp_seq_k fun K213 hK213 => ?_
      refine wp_seq_k fun K214 hK214 => ?_
      refine nd_start (l := [0, 1, 2]) rfl ?_
      refine nd_batch tabOk2 tabZ_ok2 [(0, {}), (1, {k := 0}), (2, {})] [1, 0, 2, 3, 4, 51] (T' := [(1, .pointer (some ⟨b2, 0, none⟩)), (0, .agg #[.int .u8 r.code, .int .i64 r.pos, .int .i64 r.base, .int .i64 r.fin, .bool r.live, .bool r.out.refused, .int .i8 r.out.running, .int .u64 r.out.value, .int .u64 r.dig, .int .i64 r.from_, .int .i64 r.replayed, .int .i64 r.at_]), (2, .string (bs ([] : List UInt8))), (3, .string (bs ([114, 101, 112, 108, 97, 121]))), (4, .string (bs (txt2 r))), (51, .bool (decide (r.at_ ≥ 0)))]) (φ := (b2 = b2 ∧ Nat.ble (11 + 1) 12 = true) ∧ True) (rest := []) h169 (by kernel_rfl) rfl ⟨⟨rfl, rfl⟩, trivial⟩ fun a215 h216 => ?_
      clear h169
      refine nd_done ?_
      refine hK214 _ _ ?_
      clear hK214
      refine c_split h216 (b := decide (r.at_ ≥ 0)) rfl (fun hc217 => ?_) (fun hc217 => ?_)
      ·
        have hc217f : r.at_ ≥ 0 := by simpa using hc217
        refine nd_start (l := [0, 1, 2, 3, 4, 5, 6, 7]) rfl ?_
        refine nd_batch tabOk2 tabZ_ok2 [(0, {}), (1, {}), (2, {k := 0})] [1, 0, 2, 3, 4, 52, 54] (T' := [(1, .pointer (some ⟨b2, 0, none⟩)), (0, .agg #[.int .u8 r.code, .int .i64 r.pos, .int .i64 r.base, .int .i64 r.fin, .bool r.live, .bool r.out.refused, .int .i8 r.out.running, .int .u64 r.out.value, .int .u64 r.dig, .int .i64 r.from_, .int .i64 r.replayed, .int .i64 r.at_]), (2, .string (bs ([] : List UInt8))), (3, .string (bs ([114, 101, 112, 108, 97, 121]))), (4, .string (bs (txt2 r))), (52, .string (bs (txt2 r))), (54, .int .i64 r.at_)]) (φ := (b2 = b2 ∧ Nat.ble (11 + 1) 12 = true) ∧ True) (rest := [3, 4, 5, 6, 7]) h216 (by kernel_rfl) rfl ⟨⟨rfl, rfl⟩, trivial⟩ fun a218 h219 => ?_
        clear h216
        refine nd_op ?_
        refine op_pure (v := .iface 3 (.int .i64 r.at_)) h219 rfl rfl (pure_iface tabOk2 h219.slots rfl rfl rfl (by intro fs hq; cases hq) (by intro fs hq; cases hq)) ?_
        have h220 := h219.put (d := some 55) (v := .iface 3 (.int .i64 r.at_)) (T' := [(55, .iface 3 (.int .i64 r.at_)), (1, .pointer (some ⟨b2, 0, none⟩)), (0, .agg #[.int .u8 r.code, .int .i64 r.pos, .int .i64 r.base, .int .i64 r.fin, .bool r.live, .bool r.out.refused, .int .i8 r.out.running, .int .u64 r.out.value, .int .u64 r.dig, .int .i64 r.from_, .int .i64 r.replayed, .int .i64 r.at_]), (2, .string (bs ([] : List UInt8))), (3, .string (bs ([114, 101, 112, 108, 97, 121]))), (4, .string (bs (txt2 r))), (52, .string (bs (txt2 r))), (54, .int .i64 r.at_)]) rfl
        clear h219
        refine nd_op ?_
        refine op_new tabOk2 (cells := [.iface 3 (.int .i64 r.at_)]) (ty := 20) (ln := (some 1)) (L1 := fun b221 => [(b2, ⟨[.int .u8 r.code, .int .i64 r.pos, .int .i64 r.base, .int .i64 r.fin, .bool r.live, .bool r.out.refused, .int .i8 r.out.running, .int .u64 r.out.value, .int .u64 r.dig, .int .i64 r.from_, .int .i64 r.replayed, .int .i64 r.at_], 46, false⟩), (b156, ⟨[.iface 9 (.string (bs (codeW r.code.toNat))), .iface 9 (.string (bs ([114, 101, 112, 108, 97, 121]))), .iface 3 (.int .i64 r.pos), .iface 3 (.int .i64 r.base), .iface 3 (.int .i64 r.fin), .iface 42 (.int .i8 r.out.running), .iface 29 (.int .u64 r.out.value), .iface 29 (.int .u64 r.dig)], 20, false⟩), (b221, ⟨[.iface 3 (.int .i64 r.at_)], 20, false⟩)]) h220 rfl rfl rfl rfl (by kernel_rfl) (fun _ => rfl) fun b221 w222 a223 h224 hf225 hn226 => ?_
        clear h220
        refine nd_op ?_
        refine op_now (v := .string (bs (txt4 r))) h224 rfl rfl (run_ext h224.slots rfl rfl (sprintf4 F r _ (ans_fr hF h224.frame) (ro := false) (by rw [show args4 r = [.iface 3 (.int .i64 r.at_)] from by simp [args4]]; exact h224.kn (k := 2) rfl))) ?_
        have h227q := h224.grow (fr_drew _)
        have h228 := h227q.put (d := some 57) (v := .string (bs (txt4 r))) (T' := [(57, .string (bs (txt4 r))), (56, .slice (some ⟨b221, 0, none⟩) 1 1), (55, .iface 3 (.int .i64 r.at_)), (1, .pointer (some ⟨b2, 0, none⟩)), (0, .agg #[.int .u8 r.code, .int .i64 r.pos, .int .i64 r.base, .int .i64 r.fin, .bool r.live, .bool r.out.refused, .int .i8 r.out.running, .int .u64 r.out.value, .int .u64 r.dig, .int .i64 r.from_, .int .i64 r.replayed, .int .i64 r.at_]), (2, .string (bs ([] : List UInt8))), (3, .string (bs ([114, 101, 112, 108, 97, 121]))), (4, .string (bs (txt2 r))), (52, .string (bs (txt2 r))), (54, .int .i64 r.at_)]) rfl
        clear h224 h227q
        refine nd_op ?_
        refine op_pure (v := .string (bs ((txt2 r) ++ (txt4 r)))) h228 rfl rfl (ps_add h228.slots rfl rfl rfl (by (try simp only [List.length_append, List.length_cons, List.length_nil]); omega)) ?_
        have h229 := h228.put (d := some 58) (v := .string (bs ((txt2 r) ++ (txt4 r)))) (T' := [(58, .string (bs ((txt2 r) ++ (txt4 r)))), (57, .string (bs (txt4 r))), (56, .slice (some ⟨b221, 0, none⟩) 1 1), (55, .iface 3 (.int .i64 r.at_)), (1, .pointer (some ⟨b2, 0, none⟩)), (0, .agg #[.int .u8 r.code, .int .i64 r.pos, .int .i64 r.base, .int .i64 r.fin, .bool r.live, .bool r.out.refused, .int .i8 r.out.running, .int .u64 r.out.value, .int .u64 r.dig, .int .i64 r.from_, .int .i64 r.replayed, .int .i64 r.at_]), (2, .string (bs ([] : List UInt8))), (3, .string (bs ([114, 101, 112, 108, 97, 121]))), (4, .string (bs (txt2 r))), (52, .string (bs (txt2 r))), (54, .int .i64 r.at_)]) rfl
        clear h228
        refine nd_batch tabOk2 tabZ_ok2 [(7, {})] [1, 0, 2, 3, 4] (T' := [(1, .pointer (some ⟨b2, 0, none⟩)), (0, .agg #[.int .u8 r.code, .int .i64 r.pos, .int .i64 r.base, .int .i64 r.fin, .bool r.live, .bool r.out.refused, .int .i8 r.out.running, .int .u64 r.out.value, .int .u64 r.dig, .int .i64 r.from_, .int .i64 r.replayed, .int .i64 r.at_]), (2, .string (bs ([] : List UInt8))), (3, .string (bs ([114, 101, 112, 108, 97, 121]))), (4, .string (bs ((txt2 r) ++ (txt4 r))))]) (φ := True) (rest := []) h229 (by kernel_rfl) rfl trivial fun a230 h231 => ?_
        clear h229
        refine nd_done ?_
        refine hK213 _ _ ?_
        clear hK213
        refine wp_seq_k fun K232 hK232 => ?_
        refine nd_start (l := [0, 1]) rfl ?_
        refine nd_batch tabOk2 tabZ_ok2 [(0, {}), (1, {})] [1, 0, 3, 4, 2] (T' := [(1, .pointer (some ⟨b2, 0, none⟩)), (0, .agg #[.int .u8 r.code, .int .i64 r.pos, .int .i64 r.base, .int .i64 r.fin, .bool r.live, .bool r.out.refused, .int .i8 r.out.running, .int .u64 r.out.value, .int .u64 r.dig, .int .i64 r.from_, .int .i64 r.replayed, .int .i64 r.at_]), (3, .string (bs ([114, 101, 112, 108, 97, 121]))), (4, .string (bs ((txt2 r) ++ (txt4 r)))), (2, .string (bs ((txt2 r) ++ (txt4 r))))]) (φ := True) (rest := []) h231 (by kernel_rfl) rfl trivial fun a233 h234 => ?_
        clear h231
        refine nd_done ?_
        refine hK232 _ _ ?_
        clear hK232
        refine wp_ret ?_
        try simp only [Exit.then, Exit.inBlock]
        try rw [if_pos trivial]
        exact s_ret tabOk2 tabZ_ok2 h234 [(.tmp 2, {})] (vs := [.string (bs ((txt2 r) ++ (txt4 r)))]) (φ := True) rfl (by kernel_rfl) trivial ⟨(by rw [show descP r = ((txt2 r) ++ (txt4 r)) from by simp [descP, hc170f, hc217f]]; rfl), h234.frame⟩
      ·
        have hc217f : ¬ r.at_ ≥ 0 := by simpa using hc217
        refine wp_skip ?_
        refine hK213 _ _ ?_
        clear hK213
        refine wp_seq_k fun K235 hK235 => ?_
        refine nd_start (l := [0, 1]) rfl ?_
        refine nd_batch tabOk2 tabZ_ok2 [(0, {}), (1, {})] [1, 0, 3, 4, 2] (T' := [(1, .pointer (some ⟨b2, 0, none⟩)), (0, .agg #[.int .u8 r.code, .int .i64 r.pos, .int .i64 r.base, .int .i64 r.fin, .bool r.live, .bool r.out.refused, .int .i8 r.out.running, .int .u64 r.out.value, .int .u64 r.dig, .int .i64 r.from_, .int .i64 r.replayed, .int .i64 r.at_]), (3, .string (bs ([114, 101, 112, 108, 97, 121]))), (4, .string (bs (txt2 r))), (2, .string (bs (txt2 r)))]) (φ := True) (rest := []) h216 (by kernel_rfl) rfl trivial fun a236 h237 => ?_
        clear h216
        refine nd_done ?_
        refine hK235 _ _ ?_
        clear hK235
        refine wp_ret ?_
        try simp only [Exit.then, Exit.inBlock]
        try rw [if_pos trivial]
        exact s_ret tabOk2 tabZ_ok2 h237 [(.tmp 2, {})] (vs := [.string (bs (txt2 r))]) (φ := True) rfl (by kernel_rfl) trivial ⟨(by rw [show descP r = (txt2 r) from by simp [descP, hc170f, hc217f]]; rfl), h237.frame⟩

end Go.Proofs.Qxb6500919aFmt
