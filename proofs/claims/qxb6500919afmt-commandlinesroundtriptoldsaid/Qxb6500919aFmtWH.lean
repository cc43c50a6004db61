/-
  The session: Do. (Made by program: a symbolic walk that prints its steps.)
-/
import Derived.Test.Qxb6500919aFmtTab
import Derived.Test.Qxb6500919aFmtSeX
import Derived.Test.Qxb6500919aFmtW1
import Derived.Test.Qxb6500919aFmtW2
import Derived.Test.Qxb6500919aFmtW3
import Derived.Test.Qxb6500919aFmtW4
import Derived.Test.Qxb6500919aFmtW5
import Derived.Test.Qxb6500919aFmtW6
import Derived.Test.Qxb6500919aFmtW7
import Derived.Test.Qxb6500919aFmtW8
import Derived.Test.Qxb6500919aFmtW9
import Derived.Test.Qxb6500919aFmtWC
import Derived.Test.Qxb6500919aFmtWD
import Derived.Test.Qxb6500919aFmtWE
import Derived.Test.Qxb6500919aFmtWF
import Derived.Test.Qxb6500919aFmtWG
namespace Go.Proofs.Qxb6500919aFmt
open Go.Sx Go.Rp
set_option maxRecDepth 100000
set_option maxHeartbeats 4000000
set_option linter.unusedVariables false
set_option linter.unusedSimpArgs false

def _root_.Go.Rp.Opn.ok (o : Opn) : Prop := (0 ≤ o.kind ∧ o.kind ≤ 255) ∧ o.ev.ok


theorem do_ok (bs bl : Nat) (d : Hd) (s : Ss) (w : World) (hs : SessAt w bs bl d s) {B : Int} (hB : B ≤ 900000000) (hwf : s.wf B) (op : Opn) (hop : op.ok) :
    Calls Tryf.prog 9 #[.pointer (some ⟨bs, 0, none⟩), .agg (opC op).toArray] w (SOK w bs bl d (doR s op).1 (doR s op).2) := by
  have hb0 := hwf.lg.b0
  have hfB := hwf.lg.fin
  have hlen := hwf.lg.len
  have hfq : s.lg.fin = s.lg.base.idx + (s.lg.evs.length : Int) := rfl
  refine enter (n := 61) (K := bs :: bl :: d.F) (A := fun w => SessAt w bs bl d s) (F := bs :: bl :: d.F) (T := [(0, .pointer (some ⟨bs, 0, none⟩)), (1, .agg #[.int .u8 op.kind, .int .i64 op.n, .int .i64 op.m, .int .u8 op.ev.kind, .int .u32 op.ev.pick, .int .u64 op.ev.arg])]) (L := []) (args := [.pointer (some ⟨bs, 0, none⟩), .agg #[.int .u8 op.kind, .int .i64 op.n, .int .i64 op.m, .int .u8 op.ev.kind, .int .u32 op.ev.pick, .int .u64 op.ev.arg]]) Tryf.func9 rfl rfl rfl rfl knil (by simp) knil hs SessAt.stable hs.low knil ?_
  intro a h
  refine wp_seq_k fun K1 hK1 => ?_
  refine nd_start (l := [0, 1]) rfl ?_
  refine nd_op ?_
  refine op_new tabOk (cells := [.int .u8 op.kind, .int .i64 op.n, .int .i64 op.m, .int .u8 op.ev.kind, .int .u32 op.ev.pick, .int .u64 op.ev.arg]) (ty := 33) (ln := none) (L1 := fun b2 => [(b2, ⟨[.int .u8 op.kind, .int .i64 op.n, .int .i64 op.m, .int .u8 op.ev.kind, .int .u32 op.ev.pick, .int .u64 op.ev.arg], 33, false⟩)]) h rfl rfl rfl rfl (by kernel_rfl) (fun _ => rfl) fun b2 w3 a4 h5 hf6 hn7 => ?_
  clear h
  refine nd_op ?_
  refine op_new tabOk (cells := [.int .u8 0, .int .i64 0, .int .i64 0, .int .i64 0, .bool false, .bool false, .int .i8 0, .int .u64 0, .int .u64 0, .int .i64 0, .int .i64 0, .int .i64 0]) (ty := 46) (ln := none) (L1 := fun b8 => [(b2, ⟨[.int .u8 op.kind, .int .i64 op.n, .int .i64 op.m, .int .u8 op.ev.kind, .int .u32 op.ev.pick, .int .u64 op.ev.arg], 33, false⟩), (b8, ⟨[.int .u8 0, .int .i64 0, .int .i64 0, .int .i64 0, .bool false, .bool false, .int .i8 0, .int .u64 0, .int .u64 0, .int .i64 0, .int .i64 0, .int .i64 0], 46, false⟩)]) h5 rfl rfl rfl rfl (by kernel_rfl) (fun _ => rfl) fun b8 w9 a10 h11 hf12 hn13 => ?_
  clear h5
  refine nd_done ?_
  refine hK1 _ _ ?_
  clear hK1
  refine wp_seq_k fun K14 hK14 => ?_
  refine wp_seq_k fun K15 hK15 => ?_
  refine nd_start (l := [0, 1]) rfl ?_
  refine nd_batch tabOk tabZ_ok [(0, {}), (1, {k := 0})] [4, 3, 0, 1, 6] (T' := [(4, .pointer (some ⟨b8, 0, none⟩)), (3, .pointer (some ⟨b2, 0, none⟩)), (0, .pointer (some ⟨bs, 0, none⟩)), (1, .agg #[.int .u8 op.kind, .int .i64 op.n, .int .i64 op.m, .int .u8 op.ev.kind, .int .u32 op.ev.pick, .int .u64 op.ev.arg]), (6, .int .u8 op.kind)]) (φ := (b2 = b2 ∧ Nat.ble (0 + 1) 6 = true) ∧ True) (rest := []) h11 (by kernel_rfl) rfl ⟨⟨rfl, rfl⟩, trivial⟩ fun a16 h17 => ?_
  clear h11
  refine nd_done ?_
  refine hK15 _ _ ?_
  clear hK15
  refine wp_block ?_
  refine wp_seq_k fun K18 hK18 => ?_
  refine nd_start (l := [0, 1]) rfl ?_
  refine nd_batch tabOk tabZ_ok [(0, {}), (1, {})] [4, 3, 0, 1, 6, 7] (T' := [(4, .pointer (some ⟨b8, 0, none⟩)), (3, .pointer (some ⟨b2, 0, none⟩)), (0, .pointer (some ⟨bs, 0, none⟩)), (1, .agg #[.int .u8 op.kind, .int .i64 op.n, .int .i64 op.m, .int .u8 op.ev.kind, .int .u32 op.ev.pick, .int .u64 op.ev.arg]), (6, .int .u8 op.kind), (7, .bool (op.kind == 0))]) (φ := True) (rest := []) h17 (by kernel_rfl) rfl trivial fun a19 h20 => ?_
  clear h17
  refine nd_done ?_
  refine hK18 _ _ ?_
  clear hK18
  refine c_split h20 (b := (op.kind == 0)) rfl (fun hc21 => ?_) (fun hc21 => ?_)
  ·
    have hc21f : op.kind = 0 := by simpa using hc21
    have hk0 : op.kind = 0 := hc21f
    refine wp_seq_k fun K22 hK22 => ?_
    refine nd_start (l := [0, 1, 2, 3, 4]) rfl ?_
    refine nd_batch tabOk tabZ_ok [(0, {}), (1, {}), (2, {k := 0})] [4, 3, 0, 1, 6, 9, 11] (T' := [(4, .pointer (some ⟨b8, 0, none⟩)), (3, .pointer (some ⟨b2, 0, none⟩)), (0, .pointer (some ⟨bs, 0, none⟩)), (1, .agg #[.int .u8 op.kind, .int .i64 op.n, .int .i64 op.m, .int .u8 op.ev.kind, .int .u32 op.ev.pick, .int .u64 op.ev.arg]), (6, .int .u8 op.kind), (9, .pointer (some ⟨bs, 0, none⟩)), (11, .agg #[.int .u8 op.ev.kind, .int .u32 op.ev.pick, .int .u64 op.ev.arg])]) (φ := (b2 = b2 ∧ Nat.ble (3 + 3) 6 = true) ∧ True) (rest := [3, 4]) h20 (by kernel_rfl) rfl ⟨⟨rfl, rfl⟩, trivial⟩ fun a23 h24 => ?_
    clear h20
    refine nd_op ?_
    refine op_call h24 rfl rfl rfl (callOk Tryf.func21 (by decide) rfl) (args := [.pointer (some ⟨bs, 0, none⟩), .agg #[.int .u8 op.ev.kind, .int .u32 op.ev.pick, .int .u64 op.ev.arg]]) rfl (sstep_ok bs bl d s _ h24.inv hB hwf op.ev hop.2) ?_
    rintro _ w25 ⟨d30, rfl, hs27, hf28, hF29⟩
    refine ⟨_, rfl, ?_⟩
    have h26q := h24.callSub hf28 (fun b hb => .inl hb) (A' := fun w => SessAt w bs bl d30 (stepR s op.ev).2) (F' := bs :: bl :: d30.F) (L' := [(b2, ⟨[.int .u8 op.kind, .int .i64 op.n, .int .i64 op.m, .int .u8 op.ev.kind, .int .u32 op.ev.pick, .int .u64 op.ev.arg], 33, false⟩), (b8, ⟨[.int .u8 0, .int .i64 0, .int .i64 0, .int .i64 0, .bool false, .bool false, .int .i8 0, .int .u64 0, .int .u64 0, .int .i64 0, .int .i64 0, .int .i64 0], 46, false⟩)]) (List.Sublist.cons_cons _ (List.Sublist.cons_cons _ List.Sublist.slnil)) (kcons (h24.dj (k := 0) rfl rfl) (kcons (h24.dj (k := 1) rfl rfl) knil)) hs27 SessAt.stable hs27.low (fun b hb => by rcases List.mem_cons.1 hb with rfl | hb; exact .inl (by simp); rcases List.mem_cons.1 hb with rfl | hb; exact .inl (by simp); rcases hF29 b hb with hq | hq; exact .inl (List.mem_cons_of_mem _ (List.mem_cons_of_mem _ hq)); exact .inr (.inr hq))
    have h26 := h26q.put (d := some 12) (v := .agg #[.int .u8 ((stepR s op.ev).1.code), .int .i64 ((stepR s op.ev).1.pos), .int .i64 ((stepR s op.ev).1.base), .int .i64 ((stepR s op.ev).1.fin), .bool ((stepR s op.ev).1.live), .bool ((stepR s op.ev).1.out.refused), .int .i8 ((stepR s op.ev).1.out.running), .int .u64 ((stepR s op.ev).1.out.value), .int .u64 ((stepR s op.ev).1.dig), .int .i64 ((stepR s op.ev).1.from_), .int .i64 ((stepR s op.ev).1.replayed), .int .i64 ((stepR s op.ev).1.at_)]) (T' := [(12, .agg #[.int .u8 ((stepR s op.ev).1.code), .int .i64 ((stepR s op.ev).1.pos), .int .i64 ((stepR s op.ev).1.base), .int .i64 ((stepR s op.ev).1.fin), .bool ((stepR s op.ev).1.live), .bool ((stepR s op.ev).1.out.refused), .int .i8 ((stepR s op.ev).1.out.running), .int .u64 ((stepR s op.ev).1.out.value), .int .u64 ((stepR s op.ev).1.dig), .int .i64 ((stepR s op.ev).1.from_), .int .i64 ((stepR s op.ev).1.replayed), .int .i64 ((stepR s op.ev).1.at_)]), (4, .pointer (some ⟨b8, 0, none⟩)), (3, .pointer (some ⟨b2, 0, none⟩)), (0, .pointer (some ⟨bs, 0, none⟩)), (1, .agg #[.int .u8 op.kind, .int .i64 op.n, .int .i64 op.m, .int .u8 op.ev.kind, .int .u32 op.ev.pick, .int .u64 op.ev.arg]), (6, .int .u8 op.kind), (9, .pointer (some ⟨bs, 0, none⟩)), (11, .agg #[.int .u8 op.ev.kind, .int .u32 op.ev.pick, .int .u64 op.ev.arg])]) rfl
    have hszh26 := h24.frame.size
    clear h24 h26q
    refine nd_op ?_
    refine op_store tabOk {k := 1} (L' := [(b2, ⟨[.int .u8 op.kind, .int .i64 op.n, .int .i64 op.m, .int .u8 op.ev.kind, .int .u32 op.ev.pick, .int .u64 op.ev.arg], 33, false⟩), (b8, ⟨[.int .u8 ((stepR s op.ev).1.code), .int .i64 ((stepR s op.ev).1.pos), .int .i64 ((stepR s op.ev).1.base), .int .i64 ((stepR s op.ev).1.fin), .bool ((stepR s op.ev).1.live), .bool ((stepR s op.ev).1.out.refused), .int .i8 ((stepR s op.ev).1.out.running), .int .u64 ((stepR s op.ev).1.out.value), .int .u64 ((stepR s op.ev).1.dig), .int .i64 ((stepR s op.ev).1.from_), .int .i64 ((stepR s op.ev).1.replayed), .int .i64 ((stepR s op.ev).1.at_)], 46, false⟩)]) (φ := b8 = b8 ∧ Nat.ble (0 + 12) 12 = true) h26 rfl rfl rfl (by kernel_rfl) ⟨rfl, rfl⟩ fun w31 h32 => ?_
    clear h26
    refine nd_done ?_
    refine hK22 _ _ ?_
    clear hK22
    refine wp_ret ?_
    have hR : doR s op = (stepR s op.ev) := by unfold doR; rw [if_pos hk0]
    try simp only [Exit.then, Exit.inBlock]
    try rw [if_pos trivial]
    exact s_ret tabOk tabZ_ok h32 [(.cell 4 46, {k := 1})] (vs := [.agg #[.int .u8 ((stepR s op.ev).1.code), .int .i64 ((stepR s op.ev).1.pos), .int .i64 ((stepR s op.ev).1.base), .int .i64 ((stepR s op.ev).1.fin), .bool ((stepR s op.ev).1.live), .bool ((stepR s op.ev).1.out.refused), .int .i8 ((stepR s op.ev).1.out.running), .int .u64 ((stepR s op.ev).1.out.value), .int .u64 ((stepR s op.ev).1.dig), .int .i64 ((stepR s op.ev).1.from_), .int .i64 ((stepR s op.ev).1.replayed), .int .i64 ((stepR s op.ev).1.at_)]]) (φ := (b8 = b8 ∧ Nat.ble (0 + 12) 12 = true) ∧ True) rfl (by kernel_rfl) ⟨⟨rfl, rfl⟩, trivial⟩ (by rw [hR]; exact ⟨d30, rfl, h32.inv, h32.frame, fun b hb => by rcases hF29 b hb with hq | hq; exact .inl hq; exact .inr (Nat.le_trans hszh26 hq)⟩)
  ·
    have hc21f : op.kind ≠ 0 := by simpa using hc21
    have hk0 : op.kind ≠ 0 := hc21f
    refine wp_seq_k fun K33 hK33 => ?_
    refine nd_start (l := [0, 1]) rfl ?_
    refine nd_batch tabOk tabZ_ok [(0, {}), (1, {})] [4, 3, 0, 1, 6, 13] (T' := [(4, .pointer (some ⟨b8, 0, none⟩)), (3, .pointer (some ⟨b2, 0, none⟩)), (0, .pointer (some ⟨bs, 0, none⟩)), (1, .agg #[.int .u8 op.kind, .int .i64 op.n, .int .i64 op.m, .int .u8 op.ev.kind, .int .u32 op.ev.pick, .int .u64 op.ev.arg]), (6, .int .u8 op.kind), (13, .bool (op.kind == 1))]) (φ := True) (rest := []) h20 (by kernel_rfl) rfl trivial fun a34 h35 => ?_
    clear h20
    refine nd_done ?_
    refine hK33 _ _ ?_
    clear hK33
    refine c_split h35 (b := (op.kind == 1)) rfl (fun hc36 => ?_) (fun hc36 => ?_)
    ·
      have hc36f : op.kind = 1 := by simpa using hc36
      have hk1 : op.kind = 1 := hc36f
      refine wp_seq_k fun K37 hK37 => ?_
      refine nd_start (l := [0, 1, 2, 3, 4]) rfl ?_
      refine nd_batch tabOk tabZ_ok [(0, {}), (1, {}), (2, {k := 0})] [4, 3, 0, 1, 6, 15, 17] (T' := [(4, .pointer (some ⟨b8, 0, none⟩)), (3, .pointer (some ⟨b2, 0, none⟩)), (0, .pointer (some ⟨bs, 0, none⟩)), (1, .agg #[.int .u8 op.kind, .int .i64 op.n, .int .i64 op.m, .int .u8 op.ev.kind, .int .u32 op.ev.pick, .int .u64 op.ev.arg]), (6, .int .u8 op.kind), (15, .pointer (some ⟨bs, 0, none⟩)), (17, .int .i64 op.n)]) (φ := (b2 = b2 ∧ Nat.ble (1 + 1) 6 = true) ∧ True) (rest := [3, 4]) h35 (by kernel_rfl) rfl ⟨⟨rfl, rfl⟩, trivial⟩ fun a38 h39 => ?_
      clear h35
      refine nd_op ?_
      refine op_call h39 rfl rfl rfl (callOk Tryf.func22 (by decide) rfl) (args := [.pointer (some ⟨bs, 0, none⟩), .int .i64 op.n]) rfl (seek_ok bs bl d s _ h39.inv hB hwf op.n) ?_
      rintro _ w40 ⟨d45, rfl, hs42, hf43, hF44⟩
      refine ⟨_, rfl, ?_⟩
      have h41q := h39.callSub hf43 (fun b hb => .inl hb) (A' := fun w => SessAt w bs bl d45 (seekR s op.n).2) (F' := bs :: bl :: d45.F) (L' := [(b2, ⟨[.int .u8 op.kind, .int .i64 op.n, .int .i64 op.m, .int .u8 op.ev.kind, .int .u32 op.ev.pick, .int .u64 op.ev.arg], 33, false⟩), (b8, ⟨[.int .u8 0, .int .i64 0, .int .i64 0, .int .i64 0, .bool false, .bool false, .int .i8 0, .int .u64 0, .int .u64 0, .int .i64 0, .int .i64 0, .int .i64 0], 46, false⟩)]) (List.Sublist.cons_cons _ (List.Sublist.cons_cons _ List.Sublist.slnil)) (kcons (h39.dj (k := 0) rfl rfl) (kcons (h39.dj (k := 1) rfl rfl) knil)) hs42 SessAt.stable hs42.low (fun b hb => by rcases List.mem_cons.1 hb with rfl | hb; exact .inl (by simp); rcases List.mem_cons.1 hb with rfl | hb; exact .inl (by simp); rcases hF44 b hb with hq | hq; exact .inl (List.mem_cons_of_mem _ (List.mem_cons_of_mem _ hq)); exact .inr (.inr hq))
      have h41 := h41q.put (d := some 18) (v := .agg #[.int .u8 ((seekR s op.n).1.code), .int .i64 ((seekR s op.n).1.pos), .int .i64 ((seekR s op.n).1.base), .int .i64 ((seekR s op.n).1.fin), .bool ((seekR s op.n).1.live), .bool ((seekR s op.n).1.out.refused), .int .i8 ((seekR s op.n).1.out.running), .int .u64 ((seekR s op.n).1.out.value), .int .u64 ((seekR s op.n).1.dig), .int .i64 ((seekR s op.n).1.from_), .int .i64 ((seekR s op.n).1.replayed), .int .i64 ((seekR s op.n).1.at_)]) (T' := [(18, .agg #[.int .u8 ((seekR s op.n).1.code), .int .i64 ((seekR s op.n).1.pos), .int .i64 ((seekR s op.n).1.base), .int .i64 ((seekR s op.n).1.fin), .bool ((seekR s op.n).1.live), .bool ((seekR s op.n).1.out.refused), .int .i8 ((seekR s op.n).1.out.running), .int .u64 ((seekR s op.n).1.out.value), .int .u64 ((seekR s op.n).1.dig), .int .i64 ((seekR s op.n).1.from_), .int .i64 ((seekR s op.n).1.replayed), .int .i64 ((seekR s op.n).1.at_)]), (4, .pointer (some ⟨b8, 0, none⟩)), (3, .pointer (some ⟨b2, 0, none⟩)), (0, .pointer (some ⟨bs, 0, none⟩)), (1, .agg #[.int .u8 op.kind, .int .i64 op.n, .int .i64 op.m, .int .u8 op.ev.kind, .int .u32 op.ev.pick, .int .u64 op.ev.arg]), (6, .int .u8 op.kind), (15, .pointer (some ⟨bs, 0, none⟩)), (17, .int .i64 op.n)]) rfl
      have hszh41 := h39.frame.size
      clear h39 h41q
      refine nd_op ?_
      refine op_store tabOk {k := 1} (L' := [(b2, ⟨[.int .u8 op.kind, .int .i64 op.n, .int .i64 op.m, .int .u8 op.ev.kind, .int .u32 op.ev.pick, .int .u64 op.ev.arg], 33, false⟩), (b8, ⟨[.int .u8 ((seekR s op.n).1.code), .int .i64 ((seekR s op.n).1.pos), .int .i64 ((seekR s op.n).1.base), .int .i64 ((seekR s op.n).1.fin), .bool ((seekR s op.n).1.live), .bool ((seekR s op.n).1.out.refused), .int .i8 ((seekR s op.n).1.out.running), .int .u64 ((seekR s op.n).1.out.value), .int .u64 ((seekR s op.n).1.dig), .int .i64 ((seekR s op.n).1.from_), .int .i64 ((seekR s op.n).1.replayed), .int .i64 ((seekR s op.n).1.at_)], 46, false⟩)]) (φ := b8 = b8 ∧ Nat.ble (0 + 12) 12 = true) h41 rfl rfl rfl (by kernel_rfl) ⟨rfl, rfl⟩ fun w46 h47 => ?_
      clear h41
      refine nd_done ?_
      refine hK37 _ _ ?_
      clear hK37
      refine wp_ret ?_
      have hR : doR s op = (seekR s op.n) := by unfold doR; rw [if_neg hk0, if_pos hk1]
      try simp only [Exit.then, Exit.inBlock]
      try rw [if_pos trivial]
      exact s_ret tabOk tabZ_ok h47 [(.cell 4 46, {k := 1})] (vs := [.agg #[.int .u8 ((seekR s op.n).1.code), .int .i64 ((seekR s op.n).1.pos), .int .i64 ((seekR s op.n).1.base), .int .i64 ((seekR s op.n).1.fin), .bool ((seekR s op.n).1.live), .bool ((seekR s op.n).1.out.refused), .int .i8 ((seekR s op.n).1.out.running), .int .u64 ((seekR s op.n).1.out.value), .int .u64 ((seekR s op.n).1.dig), .int .i64 ((seekR s op.n).1.from_), .int .i64 ((seekR s op.n).1.replayed), .int .i64 ((seekR s op.n).1.at_)]]) (φ := (b8 = b8 ∧ Nat.ble (0 + 12) 12 = true) ∧ True) rfl (by kernel_rfl) ⟨⟨rfl, rfl⟩, trivial⟩ (by rw [hR]; exact ⟨d45, rfl, h47.inv, h47.frame, fun b hb => by rcases hF44 b hb with hq | hq; exact .inl hq; exact .inr (Nat.le_trans hszh41 hq)⟩)
    ·
      have hc36f : op.kind ≠ 1 := by simpa using hc36
      have hk1 : op.kind ≠ 1 := hc36f
      refine wp_seq_k fun K48 hK48 => ?_
      refine nd_start (l := [0, 1]) rfl ?_
      refine nd_batch tabOk tabZ_ok [(0, {}), (1, {})] [4, 3, 0, 1, 6, 19] (T' := [(4, .pointer (some ⟨b8, 0, none⟩)), (3, .pointer (some ⟨b2, 0, none⟩)), (0, .pointer (some ⟨bs, 0, none⟩)), (1, .agg #[.int .u8 op.kind, .int .i64 op.n, .int .i64 op.m, .int .u8 op.ev.kind, .int .u32 op.ev.pick, .int .u64 op.ev.arg]), (6, .int .u8 op.kind), (19, .bool (op.kind == 2))]) (φ := True) (rest := []) h35 (by kernel_rfl) rfl trivial fun a49 h50 => ?_
      clear h35
      refine nd_done ?_
      refine hK48 _ _ ?_
      clear hK48
      refine c_split h50 (b := (op.kind == 2)) rfl (fun hc51 => ?_) (fun hc51 => ?_)
      ·
        have hc51f : op.kind = 2 := by simpa using hc51
        have hk2 : op.kind = 2 := hc51f
        refine wp_seq_k fun K52 hK52 => ?_
        refine nd_start (l := [0, 1, 2, 3, 4]) rfl ?_
        refine nd_batch tabOk tabZ_ok [(0, {}), (1, {}), (2, {k := 0})] [4, 3, 0, 1, 6, 21, 23] (T' := [(4, .pointer (some ⟨b8, 0, none⟩)), (3, .pointer (some ⟨b2, 0, none⟩)), (0, .pointer (some ⟨bs, 0, none⟩)), (1, .agg #[.int .u8 op.kind, .int .i64 op.n, .int .i64 op.m, .int .u8 op.ev.kind, .int .u32 op.ev.pick, .int .u64 op.ev.arg]), (6, .int .u8 op.kind), (21, .pointer (some ⟨bs, 0, none⟩)), (23, .int .i64 op.n)]) (φ := (b2 = b2 ∧ Nat.ble (1 + 1) 6 = true) ∧ True) (rest := [3, 4]) h50 (by kernel_rfl) rfl ⟨⟨rfl, rfl⟩, trivial⟩ fun a53 h54 => ?_
        clear h50
        refine nd_op ?_
        refine op_call h54 rfl rfl rfl (callOk Tryf.func23 (by decide) rfl) (args := [.pointer (some ⟨bs, 0, none⟩), .int .i64 op.n]) rfl (back_ok bs bl d s _ h54.inv hB hwf op.n) ?_
        rintro _ w55 ⟨d60, rfl, hs57, hf58, hF59⟩
        refine ⟨_, rfl, ?_⟩
        have h56q := h54.callSub hf58 (fun b hb => .inl hb) (A' := fun w => SessAt w bs bl d60 (backR s op.n).2) (F' := bs :: bl :: d60.F) (L' := [(b2, ⟨[.int .u8 op.kind, .int .i64 op.n, .int .i64 op.m, .int .u8 op.ev.kind, .int .u32 op.ev.pick, .int .u64 op.ev.arg], 33, false⟩), (b8, ⟨[.int .u8 0, .int .i64 0, .int .i64 0, .int .i64 0, .bool false, .bool false, .int .i8 0, .int .u64 0, .int .u64 0, .int .i64 0, .int .i64 0, .int .i64 0], 46, false⟩)]) (List.Sublist.cons_cons _ (List.Sublist.cons_cons _ List.Sublist.slnil)) (kcons (h54.dj (k := 0) rfl rfl) (kcons (h54.dj (k := 1) rfl rfl) knil)) hs57 SessAt.stable hs57.low (fun b hb => by rcases List.mem_cons.1 hb with rfl | hb; exact .inl (by simp); rcases List.mem_cons.1 hb with rfl | hb; exact .inl (by simp); rcases hF59 b hb with hq | hq; exact .inl (List.mem_cons_of_mem _ (List.mem_cons_of_mem _ hq)); exact .inr (.inr hq))
        have h56 := h56q.put (d := some 24) (v := .agg #[.int .u8 ((backR s op.n).1.code), .int .i64 ((backR s op.n).1.pos), .int .i64 ((backR s op.n).1.base), .int .i64 ((backR s op.n).1.fin), .bool ((backR s op.n).1.live), .bool ((backR s op.n).1.out.refused), .int .i8 ((backR s op.n).1.out.running), .int .u64 ((backR s op.n).1.out.value), .int .u64 ((backR s op.n).1.dig), .int .i64 ((backR s op.n).1.from_), .int .i64 ((backR s op.n).1.replayed), .int .i64 ((backR s op.n).1.at_)]) (T' := [(24, .agg #[.int .u8 ((backR s op.n).1.code), .int .i64 ((backR s op.n).1.pos), .int .i64 ((backR s op.n).1.base), .int .i64 ((backR s op.n).1.fin), .bool ((backR s op.n).1.live), .bool ((backR s op.n).1.out.refused), .int .i8 ((backR s op.n).1.out.running), .int .u64 ((backR s op.n).1.out.value), .int .u64 ((backR s op.n).1.dig), .int .i64 ((backR s op.n).1.from_), .int .i64 ((backR s op.n).1.replayed), .int .i64 ((backR s op.n).1.at_)]), (4, .pointer (some ⟨b8, 0, none⟩)), (3, .pointer (some ⟨b2, 0, none⟩)), (0, .pointer (some ⟨bs, 0, none⟩)), (1, .agg #[.int .u8 op.kind, .int .i64 op.n, .int .i64 op.m, .int .u8 op.ev.kind, .int .u32 op.ev.pick, .int .u64 op.ev.arg]), (6, .int .u8 op.kind), (21, .pointer (some ⟨bs, 0, none⟩)), (23, .int .i64 op.n)]) rfl
        have hszh56 := h54.frame.size
        clear h54 h56q
        refine nd_op ?_
        refine op_store tabOk {k := 1} (L' := [(b2, ⟨[.int .u8 op.kind, .int .i64 op.n, .int .i64 op.m, .int .u8 op.ev.kind, .int .u32 op.ev.pick, .int .u64 op.ev.arg], 33, false⟩), (b8, ⟨[.int .u8 ((backR s op.n).1.code), .int .i64 ((backR s op.n).1.pos), .int .i64 ((backR s op.n).1.base), .int .i64 ((backR s op.n).1.fin), .bool ((backR s op.n).1.live), .bool ((backR s op.n).1.out.refused), .int .i8 ((backR s op.n).1.out.running), .int .u64 ((backR s op.n).1.out.value), .int .u64 ((backR s op.n).1.dig), .int .i64 ((backR s op.n).1.from_), .int .i64 ((backR s op.n).1.replayed), .int .i64 ((backR s op.n).1.at_)], 46, false⟩)]) (φ := b8 = b8 ∧ Nat.ble (0 + 12) 12 = true) h56 rfl rfl rfl (by kernel_rfl) ⟨rfl, rfl⟩ fun w61 h62 => ?_
        clear h56
        refine nd_done ?_
        refine hK52 _ _ ?_
        clear hK52
        refine wp_ret ?_
        have hR : doR s op = (backR s op.n) := by unfold doR; rw [if_neg hk0, if_neg hk1, if_pos hk2]
        try simp only [Exit.then, Exit.inBlock]
        try rw [if_pos trivial]
        exact s_ret tabOk tabZ_ok h62 [(.cell 4 46, {k := 1})] (vs := [.agg #[.int .u8 ((backR s op.n).1.code), .int .i64 ((backR s op.n).1.pos), .int .i64 ((backR s op.n).1.base), .int .i64 ((backR s op.n).1.fin), .bool ((backR s op.n).1.live), .bool ((backR s op.n).1.out.refused), .int .i8 ((backR s op.n).1.out.running), .int .u64 ((backR s op.n).1.out.value), .int .u64 ((backR s op.n).1.dig), .int .i64 ((backR s op.n).1.from_), .int .i64 ((backR s op.n).1.replayed), .int .i64 ((backR s op.n).1.at_)]]) (φ := (b8 = b8 ∧ Nat.ble (0 + 12) 12 = true) ∧ True) rfl (by kernel_rfl) ⟨⟨rfl, rfl⟩, trivial⟩ (by rw [hR]; exact ⟨d60, rfl, h62.inv, h62.frame, fun b hb => by rcases hF59 b hb with hq | hq; exact .inl hq; exact .inr (Nat.le_trans hszh56 hq)⟩)
      ·
        have hc51f : op.kind ≠ 2 := by simpa using hc51
        have hk2 : op.kind ≠ 2 := hc51f
        refine wp_seq_k fun K63 hK63 => ?_
        refine nd_start (l := [0, 1]) rfl ?_
        refine nd_batch tabOk tabZ_ok [(0, {}), (1, {})] [4, 3, 0, 1, 6, 25] (T' := [(4, .pointer (some ⟨b8, 0, none⟩)), (3, .pointer (some ⟨b2, 0, none⟩)), (0, .pointer (some ⟨bs, 0, none⟩)), (1, .agg #[.int .u8 op.kind, .int .i64 op.n, .int .i64 op.m, .int .u8 op.ev.kind, .int .u32 op.ev.pick, .int .u64 op.ev.arg]), (6, .int .u8 op.kind), (25, .bool (op.kind == 3))]) (φ := True) (rest := []) h50 (by kernel_rfl) rfl trivial fun a64 h65 => ?_
        clear h50
        refine nd_done ?_
        refine hK63 _ _ ?_
        clear hK63
        refine c_split h65 (b := (op.kind == 3)) rfl (fun hc66 => ?_) (fun hc66 => ?_)
        ·
          have hc66f : op.kind = 3 := by simpa using hc66
          have hk3 : op.kind = 3 := hc66f
          refine wp_seq_k fun K67 hK67 => ?_
          refine nd_start (l := [0, 1, 2, 3, 4]) rfl ?_
          refine nd_batch tabOk tabZ_ok [(0, {}), (1, {}), (2, {k := 0})] [4, 3, 0, 1, 6, 27, 29] (T' := [(4, .pointer (some ⟨b8, 0, none⟩)), (3, .pointer (some ⟨b2, 0, none⟩)), (0, .pointer (some ⟨bs, 0, none⟩)), (1, .agg #[.int .u8 op.kind, .int .i64 op.n, .int .i64 op.m, .int .u8 op.ev.kind, .int .u32 op.ev.pick, .int .u64 op.ev.arg]), (6, .int .u8 op.kind), (27, .pointer (some ⟨bs, 0, none⟩)), (29, .int .i64 op.n)]) (φ := (b2 = b2 ∧ Nat.ble (1 + 1) 6 = true) ∧ True) (rest := [3, 4]) h65 (by kernel_rfl) rfl ⟨⟨rfl, rfl⟩, trivial⟩ fun a68 h69 => ?_
          clear h65
          refine nd_op ?_
          refine op_call h69 rfl rfl rfl (callOk Tryf.func24 (by decide) rfl) (args := [.pointer (some ⟨bs, 0, none⟩), .int .i64 op.n]) rfl (forw_ok bs bl d s _ h69.inv hB hwf op.n) ?_
          rintro _ w70 ⟨d75, rfl, hs72, hf73, hF74⟩
          refine ⟨_, rfl, ?_⟩
          have h71q := h69.callSub hf73 (fun b hb => .inl hb) (A' := fun w => SessAt w bs bl d75 (forwR s op.n).2) (F' := bs :: bl :: d75.F) (L' := [(b2, ⟨[.int .u8 op.kind, .int .i64 op.n, .int .i64 op.m, .int .u8 op.ev.kind, .int .u32 op.ev.pick, .int .u64 op.ev.arg], 33, false⟩), (b8, ⟨[.int .u8 0, .int .i64 0, .int .i64 0, .int .i64 0, .bool false, .bool false, .int .i8 0, .int .u64 0, .int .u64 0, .int .i64 0, .int .i64 0, .int .i64 0], 46, false⟩)]) (List.Sublist.cons_cons _ (List.Sublist.cons_cons _ List.Sublist.slnil)) (kcons (h69.dj (k := 0) rfl rfl) (kcons (h69.dj (k := 1) rfl rfl) knil)) hs72 SessAt.stable hs72.low (fun b hb => by rcases List.mem_cons.1 hb with rfl | hb; exact .inl (by simp); rcases List.mem_cons.1 hb with rfl | hb; exact .inl (by simp); rcases hF74 b hb with hq | hq; exact .inl (List.mem_cons_of_mem _ (List.mem_cons_of_mem _ hq)); exact .inr (.inr hq))
          have h71 := h71q.put (d := some 30) (v := .agg #[.int .u8 ((forwR s op.n).1.code), .int .i64 ((forwR s op.n).1.pos), .int .i64 ((forwR s op.n).1.base), .int .i64 ((forwR s op.n).1.fin), .bool ((forwR s op.n).1.live), .bool ((forwR s op.n).1.out.refused), .int .i8 ((forwR s op.n).1.out.running), .int .u64 ((forwR s op.n).1.out.value), .int .u64 ((forwR s op.n).1.dig), .int .i64 ((forwR s op.n).1.from_), .int .i64 ((forwR s op.n).1.replayed), .int .i64 ((forwR s op.n).1.at_)]) (T' := [(30, .agg #[.int .u8 ((forwR s op.n).1.code), .int .i64 ((forwR s op.n).1.pos), .int .i64 ((forwR s op.n).1.base), .int .i64 ((forwR s op.n).1.fin), .bool ((forwR s op.n).1.live), .bool ((forwR s op.n).1.out.refused), .int .i8 ((forwR s op.n).1.out.running), .int .u64 ((forwR s op.n).1.out.value), .int .u64 ((forwR s op.n).1.dig), .int .i64 ((forwR s op.n).1.from_), .int .i64 ((forwR s op.n).1.replayed), .int .i64 ((forwR s op.n).1.at_)]), (4, .pointer (some ⟨b8, 0, none⟩)), (3, .pointer (some ⟨b2, 0, none⟩)), (0, .pointer (some ⟨bs, 0, none⟩)), (1, .agg #[.int .u8 op.kind, .int .i64 op.n, .int .i64 op.m, .int .u8 op.ev.kind, .int .u32 op.ev.pick, .int .u64 op.ev.arg]), (6, .int .u8 op.kind), (27, .pointer (some ⟨bs, 0, none⟩)), (29, .int .i64 op.n)]) rfl
          have hszh71 := h69.frame.size
          clear h69 h71q
          refine nd_op ?_
          refine op_store tabOk {k := 1} (L' := [(b2, ⟨[.int .u8 op.kind, .int .i64 op.n, .int .i64 op.m, .int .u8 op.ev.kind, .int .u32 op.ev.pick, .int .u64 op.ev.arg], 33, false⟩), (b8, ⟨[.int .u8 ((forwR s op.n).1.code), .int .i64 ((forwR s op.n).1.pos), .int .i64 ((forwR s op.n).1.base), .int .i64 ((forwR s op.n).1.fin), .bool ((forwR s op.n).1.live), .bool ((forwR s op.n).1.out.refused), .int .i8 ((forwR s op.n).1.out.running), .int .u64 ((forwR s op.n).1.out.value), .int .u64 ((forwR s op.n).1.dig), .int .i64 ((forwR s op.n).1.from_), .int .i64 ((forwR s op.n).1.replayed), .int .i64 ((forwR s op.n).1.at_)], 46, false⟩)]) (φ := b8 = b8 ∧ Nat.ble (0 + 12) 12 = true) h71 rfl rfl rfl (by kernel_rfl) ⟨rfl, rfl⟩ fun w76 h77 => ?_
          clear h71
          refine nd_done ?_
          refine hK67 _ _ ?_
          clear hK67
          refine wp_ret ?_
          have hR : doR s op = (forwR s op.n) := by unfold doR; rw [if_neg hk0, if_neg hk1, if_neg hk2, if_pos hk3]
          try simp only [Exit.then, Exit.inBlock]
          try rw [if_pos trivial]
          exact s_ret tabOk tabZ_ok h77 [(.cell 4 46, {k := 1})] (vs := [.agg #[.int .u8 ((forwR s op.n).1.code), .int .i64 ((forwR s op.n).1.pos), .int .i64 ((forwR s op.n).1.base), .int .i64 ((forwR s op.n).1.fin), .bool ((forwR s op.n).1.live), .bool ((forwR s op.n).1.out.refused), .int .i8 ((forwR s op.n).1.out.running), .int .u64 ((forwR s op.n).1.out.value), .int .u64 ((forwR s op.n).1.dig), .int .i64 ((forwR s op.n).1.from_), .int .i64 ((forwR s op.n).1.replayed), .int .i64 ((forwR s op.n).1.at_)]]) (φ := (b8 = b8 ∧ Nat.ble (0 + 12) 12 = true) ∧ True) rfl (by kernel_rfl) ⟨⟨rfl, rfl⟩, trivial⟩ (by rw [hR]; exact ⟨d75, rfl, h77.inv, h77.frame, fun b hb => by rcases hF74 b hb with hq | hq; exact .inl hq; exact .inr (Nat.le_trans hszh71 hq)⟩)
        ·
          have hc66f : op.kind ≠ 3 := by simpa using hc66
          have hk3 : op.kind ≠ 3 := hc66f
          refine wp_seq_k fun K78 hK78 => ?_
          refine nd_start (l := [0, 1]) rfl ?_
          refine nd_batch tabOk tabZ_ok [(0, {}), (1, {})] [4, 3, 0, 1, 6, 31] (T' := [(4, .pointer (some ⟨b8, 0, none⟩)), (3, .pointer (some ⟨b2, 0, none⟩)), (0, .pointer (some ⟨bs, 0, none⟩)), (1, .agg #[.int .u8 op.kind, .int .i64 op.n, .int .i64 op.m, .int .u8 op.ev.kind, .int .u32 op.ev.pick, .int .u64 op.ev.arg]), (6, .int .u8 op.kind), (31, .bool (op.kind == 4))]) (φ := True) (rest := []) h65 (by kernel_rfl) rfl trivial fun a79 h80 => ?_
          clear h65
          refine nd_done ?_
          refine hK78 _ _ ?_
          clear hK78
          refine c_split h80 (b := (op.kind == 4)) rfl (fun hc81 => ?_) (fun hc81 => ?_)
          ·
            have hc81f : op.kind = 4 := by simpa using hc81
            have hk4 : op.kind = 4 := hc81f
            refine wp_seq_k fun K82 hK82 => ?_
            refine nd_start (l := [0, 1, 2, 3, 4]) rfl ?_
            refine nd_batch tabOk tabZ_ok [(0, {}), (1, {}), (2, {k := 0})] [4, 3, 0, 1, 6, 33, 35] (T' := [(4, .pointer (some ⟨b8, 0, none⟩)), (3, .pointer (some ⟨b2, 0, none⟩)), (0, .pointer (some ⟨bs, 0, none⟩)), (1, .agg #[.int .u8 op.kind, .int .i64 op.n, .int .i64 op.m, .int .u8 op.ev.kind, .int .u32 op.ev.pick, .int .u64 op.ev.arg]), (6, .int .u8 op.kind), (33, .pointer (some ⟨bs, 0, none⟩)), (35, .int .i64 op.n)]) (φ := (b2 = b2 ∧ Nat.ble (1 + 1) 6 = true) ∧ True) (rest := [3, 4]) h80 (by kernel_rfl) rfl ⟨⟨rfl, rfl⟩, trivial⟩ fun a83 h84 => ?_
            clear h80
            refine nd_op ?_
            refine op_call h84 rfl rfl rfl (callOk Tryf.func25 (by decide) rfl) (args := [.pointer (some ⟨bs, 0, none⟩), .int .i64 op.n]) rfl (trunc_ok bs bl d s _ h84.inv hB hwf op.n) ?_
            rintro _ w85 ⟨d90, rfl, hs87, hf88, hF89⟩
            refine ⟨_, rfl, ?_⟩
            have h86q := h84.callSub hf88 (fun b hb => .inl hb) (A' := fun w => SessAt w bs bl d90 (truncR s op.n).2) (F' := bs :: bl :: d90.F) (L' := [(b2, ⟨[.int .u8 op.kind, .int .i64 op.n, .int .i64 op.m, .int .u8 op.ev.kind, .int .u32 op.ev.pick, .int .u64 op.ev.arg], 33, false⟩), (b8, ⟨[.int .u8 0, .int .i64 0, .int .i64 0, .int .i64 0, .bool false, .bool false, .int .i8 0, .int .u64 0, .int .u64 0, .int .i64 0, .int .i64 0, .int .i64 0], 46, false⟩)]) (List.Sublist.cons_cons _ (List.Sublist.cons_cons _ List.Sublist.slnil)) (kcons (h84.dj (k := 0) rfl rfl) (kcons (h84.dj (k := 1) rfl rfl) knil)) hs87 SessAt.stable hs87.low (fun b hb => by rcases List.mem_cons.1 hb with rfl | hb; exact .inl (by simp); rcases List.mem_cons.1 hb with rfl | hb; exact .inl (by simp); rcases hF89 b hb with hq | hq; exact .inl (List.mem_cons_of_mem _ (List.mem_cons_of_mem _ hq)); exact .inr (.inr hq))
            have h86 := h86q.put (d := some 36) (v := .agg #[.int .u8 ((truncR s op.n).1.code), .int .i64 ((truncR s op.n).1.pos), .int .i64 ((truncR s op.n).1.base), .int .i64 ((truncR s op.n).1.fin), .bool ((truncR s op.n).1.live), .bool ((truncR s op.n).1.out.refused), .int .i8 ((truncR s op.n).1.out.running), .int .u64 ((truncR s op.n).1.out.value), .int .u64 ((truncR s op.n).1.dig), .int .i64 ((truncR s op.n).1.from_), .int .i64 ((truncR s op.n).1.replayed), .int .i64 ((truncR s op.n).1.at_)]) (T' := [(36, .agg #[.int .u8 ((truncR s op.n).1.code), .int .i64 ((truncR s op.n).1.pos), .int .i64 ((truncR s op.n).1.base), .int .i64 ((truncR s op.n).1.fin), .bool ((truncR s op.n).1.live), .bool ((truncR s op.n).1.out.refused), .int .i8 ((truncR s op.n).1.out.running), .int .u64 ((truncR s op.n).1.out.value), .int .u64 ((truncR s op.n).1.dig), .int .i64 ((truncR s op.n).1.from_), .int .i64 ((truncR s op.n).1.replayed), .int .i64 ((truncR s op.n).1.at_)]), (4, .pointer (some ⟨b8, 0, none⟩)), (3, .pointer (some ⟨b2, 0, none⟩)), (0, .pointer (some ⟨bs, 0, none⟩)), (1, .agg #[.int .u8 op.kind, .int .i64 op.n, .int .i64 op.m, .int .u8 op.ev.kind, .int .u32 op.ev.pick, .int .u64 op.ev.arg]), (6, .int .u8 op.kind), (33, .pointer (some ⟨bs, 0, none⟩)), (35, .int .i64 op.n)]) rfl
            have hszh86 := h84.frame.size
            clear h84 h86q
            refine nd_op ?_
            refine op_store tabOk {k := 1} (L' := [(b2, ⟨[.int .u8 op.kind, .int .i64 op.n, .int .i64 op.m, .int .u8 op.ev.kind, .int .u32 op.ev.pick, .int .u64 op.ev.arg], 33, false⟩), (b8, ⟨[.int .u8 ((truncR s op.n).1.code), .int .i64 ((truncR s op.n).1.pos), .int .i64 ((truncR s op.n).1.base), .int .i64 ((truncR s op.n).1.fin), .bool ((truncR s op.n).1.live), .bool ((truncR s op.n).1.out.refused), .int .i8 ((truncR s op.n).1.out.running), .int .u64 ((truncR s op.n).1.out.value), .int .u64 ((truncR s op.n).1.dig), .int .i64 ((truncR s op.n).1.from_), .int .i64 ((truncR s op.n).1.replayed), .int .i64 ((truncR s op.n).1.at_)], 46, false⟩)]) (φ := b8 = b8 ∧ Nat.ble (0 + 12) 12 = true) h86 rfl rfl rfl (by kernel_rfl) ⟨rfl, rfl⟩ fun w91 h92 => ?_
            clear h86
            refine nd_done ?_
            refine hK82 _ _ ?_
            clear hK82
            refine wp_ret ?_
            have hR : doR s op = (truncR s op.n) := by unfold doR; rw [if_neg hk0, if_neg hk1, if_neg hk2, if_neg hk3, if_pos hk4]
            try simp only [Exit.then, Exit.inBlock]
            try rw [if_pos trivial]
            exact s_ret tabOk tabZ_ok h92 [(.cell 4 46, {k := 1})] (vs := [.agg #[.int .u8 ((truncR s op.n).1.code), .int .i64 ((truncR s op.n).1.pos), .int .i64 ((truncR s op.n).1.base), .int .i64 ((truncR s op.n).1.fin), .bool ((truncR s op.n).1.live), .bool ((truncR s op.n).1.out.refused), .int .i8 ((truncR s op.n).1.out.running), .int .u64 ((truncR s op.n).1.out.value), .int .u64 ((truncR s op.n).1.dig), .int .i64 ((truncR s op.n).1.from_), .int .i64 ((truncR s op.n).1.replayed), .int .i64 ((truncR s op.n).1.at_)]]) (φ := (b8 = b8 ∧ Nat.ble (0 + 12) 12 = true) ∧ True) rfl (by kernel_rfl) ⟨⟨rfl, rfl⟩, trivial⟩ (by rw [hR]; exact ⟨d90, rfl, h92.inv, h92.frame, fun b hb => by rcases hF89 b hb with hq | hq; exact .inl hq; exact .inr (Nat.le_trans hszh86 hq)⟩)
          ·
            have hc81f : op.kind ≠ 4 := by simpa using hc81
            have hk4 : op.kind ≠ 4 := hc81f
            refine wp_seq_k fun K93 hK93 => ?_
            refine nd_start (l := [0, 1]) rfl ?_
            refine nd_batch tabOk tabZ_ok [(0, {}), (1, {})] [4, 3, 0, 1, 6, 37] (T' := [(4, .pointer (some ⟨b8, 0, none⟩)), (3, .pointer (some ⟨b2, 0, none⟩)), (0, .pointer (some ⟨bs, 0, none⟩)), (1, .agg #[.int .u8 op.kind, .int .i64 op.n, .int .i64 op.m, .int .u8 op.ev.kind, .int .u32 op.ev.pick, .int .u64 op.ev.arg]), (6, .int .u8 op.kind), (37, .bool (op.kind == 5))]) (φ := True) (rest := []) h80 (by kernel_rfl) rfl trivial fun a94 h95 => ?_
            clear h80
            refine nd_done ?_
            refine hK93 _ _ ?_
            clear hK93
            refine c_split h95 (b := (op.kind == 5)) rfl (fun hc96 => ?_) (fun hc96 => ?_)
            ·
              have hc96f : op.kind = 5 := by simpa using hc96
              have hk5 : op.kind = 5 := hc96f
              refine wp_seq_k fun K97 hK97 => ?_
              refine nd_start (l := [0, 1, 2]) rfl ?_
              refine nd_batch tabOk tabZ_ok [(0, {})] [4, 3, 0, 1, 6, 39] (T' := [(4, .pointer (some ⟨b8, 0, none⟩)), (3, .pointer (some ⟨b2, 0, none⟩)), (0, .pointer (some ⟨bs, 0, none⟩)), (1, .agg #[.int .u8 op.kind, .int .i64 op.n, .int .i64 op.m, .int .u8 op.ev.kind, .int .u32 op.ev.pick, .int .u64 op.ev.arg]), (6, .int .u8 op.kind), (39, .pointer (some ⟨bs, 0, none⟩))]) (φ := True) (rest := [1, 2]) h95 (by kernel_rfl) rfl trivial fun a98 h99 => ?_
              clear h95
              refine nd_op ?_
              refine op_call h99 rfl rfl rfl (callOk Tryf.func26 (by decide) rfl) (args := [.pointer (some ⟨bs, 0, none⟩)]) rfl (resume_ok bs bl d s _ h99.inv hB hwf ) ?_
              rintro _ w100 ⟨d105, rfl, hs102, hf103, hF104⟩
              refine ⟨_, rfl, ?_⟩
              have h101q := h99.callSub hf103 (fun b hb => .inl hb) (A' := fun w => SessAt w bs bl d105 (resumeR s).2) (F' := bs :: bl :: d105.F) (L' := [(b2, ⟨[.int .u8 op.kind, .int .i64 op.n, .int .i64 op.m, .int .u8 op.ev.kind, .int .u32 op.ev.pick, .int .u64 op.ev.arg], 33, false⟩), (b8, ⟨[.int .u8 0, .int .i64 0, .int .i64 0, .int .i64 0, .bool false, .bool false, .int .i8 0, .int .u64 0, .int .u64 0, .int .i64 0, .int .i64 0, .int .i64 0], 46, false⟩)]) (List.Sublist.cons_cons _ (List.Sublist.cons_cons _ List.Sublist.slnil)) (kcons (h99.dj (k := 0) rfl rfl) (kcons (h99.dj (k := 1) rfl rfl) knil)) hs102 SessAt.stable hs102.low (fun b hb => by rcases List.mem_cons.1 hb with rfl | hb; exact .inl (by simp); rcases List.mem_cons.1 hb with rfl | hb; exact .inl (by simp); rcases hF104 b hb with hq | hq; exact .inl (List.mem_cons_of_mem _ (List.mem_cons_of_mem _ hq)); exact .inr (.inr hq))
              have h101 := h101q.put (d := some 40) (v := .agg #[.int .u8 ((resumeR s).1.code), .int .i64 ((resumeR s).1.pos), .int .i64 ((resumeR s).1.base), .int .i64 ((resumeR s).1.fin), .bool ((resumeR s).1.live), .bool ((resumeR s).1.out.refused), .int .i8 ((resumeR s).1.out.running), .int .u64 ((resumeR s).1.out.value), .int .u64 ((resumeR s).1.dig), .int .i64 ((resumeR s).1.from_), .int .i64 ((resumeR s).1.replayed), .int .i64 ((resumeR s).1.at_)]) (T' := [(40, .agg #[.int .u8 ((resumeR s).1.code), .int .i64 ((resumeR s).1.pos), .int .i64 ((resumeR s).1.base), .int .i64 ((resumeR s).1.fin), .bool ((resumeR s).1.live), .bool ((resumeR s).1.out.refused), .int .i8 ((resumeR s).1.out.running), .int .u64 ((resumeR s).1.out.value), .int .u64 ((resumeR s).1.dig), .int .i64 ((resumeR s).1.from_), .int .i64 ((resumeR s).1.replayed), .int .i64 ((resumeR s).1.at_)]), (4, .pointer (some ⟨b8, 0, none⟩)), (3, .pointer (some ⟨b2, 0, none⟩)), (0, .pointer (some ⟨bs, 0, none⟩)), (1, .agg #[.int .u8 op.kind, .int .i64 op.n, .int .i64 op.m, .int .u8 op.ev.kind, .int .u32 op.ev.pick, .int .u64 op.ev.arg]), (6, .int .u8 op.kind), (39, .pointer (some ⟨bs, 0, none⟩))]) rfl
              have hszh101 := h99.frame.size
              clear h99 h101q
              refine nd_op ?_
              refine op_store tabOk {k := 1} (L' := [(b2, ⟨[.int .u8 op.kind, .int .i64 op.n, .int .i64 op.m, .int .u8 op.ev.kind, .int .u32 op.ev.pick, .int .u64 op.ev.arg], 33, false⟩), (b8, ⟨[.int .u8 ((resumeR s).1.code), .int .i64 ((resumeR s).1.pos), .int .i64 ((resumeR s).1.base), .int .i64 ((resumeR s).1.fin), .bool ((resumeR s).1.live), .bool ((resumeR s).1.out.refused), .int .i8 ((resumeR s).1.out.running), .int .u64 ((resumeR s).1.out.value), .int .u64 ((resumeR s).1.dig), .int .i64 ((resumeR s).1.from_), .int .i64 ((resumeR s).1.replayed), .int .i64 ((resumeR s).1.at_)], 46, false⟩)]) (φ := b8 = b8 ∧ Nat.ble (0 + 12) 12 = true) h101 rfl rfl rfl (by kernel_rfl) ⟨rfl, rfl⟩ fun w106 h107 => ?_
              clear h101
              refine nd_done ?_
              refine hK97 _ _ ?_
              clear hK97
              refine wp_ret ?_
              have hR : doR s op = (resumeR s) := by unfold doR; rw [if_neg hk0, if_neg hk1, if_neg hk2, if_neg hk3, if_neg hk4, if_pos hk5]
              try simp only [Exit.then, Exit.inBlock]
              try rw [if_pos trivial]
              exact s_ret tabOk tabZ_ok h107 [(.cell 4 46, {k := 1})] (vs := [.agg #[.int .u8 ((resumeR s).1.code), .int .i64 ((resumeR s).1.pos), .int .i64 ((resumeR s).1.base), .int .i64 ((resumeR s).1.fin), .bool ((resumeR s).1.live), .bool ((resumeR s).1.out.refused), .int .i8 ((resumeR s).1.out.running), .int .u64 ((resumeR s).1.out.value), .int .u64 ((resumeR s).1.dig), .int .i64 ((resumeR s).1.from_), .int .i64 ((resumeR s).1.replayed), .int .i64 ((resumeR s).1.at_)]]) (φ := (b8 = b8 ∧ Nat.ble (0 + 12) 12 = true) ∧ True) rfl (by kernel_rfl) ⟨⟨rfl, rfl⟩, trivial⟩ (by rw [hR]; exact ⟨d105, rfl, h107.inv, h107.frame, fun b hb => by rcases hF104 b hb with hq | hq; exact .inl hq; exact .inr (Nat.le_trans hszh101 hq)⟩)
            ·
              have hc96f : op.kind ≠ 5 := by simpa using hc96
              have hk5 : op.kind ≠ 5 := hc96f
              refine wp_seq_k fun K108 hK108 => ?_
              refine nd_start (l := [0, 1]) rfl ?_
              refine nd_batch tabOk tabZ_ok [(0, {}), (1, {})] [4, 3, 0, 1, 6, 41] (T' := [(4, .pointer (some ⟨b8, 0, none⟩)), (3, .pointer (some ⟨b2, 0, none⟩)), (0, .pointer (some ⟨bs, 0, none⟩)), (1, .agg #[.int .u8 op.kind, .int .i64 op.n, .int .i64 op.m, .int .u8 op.ev.kind, .int .u32 op.ev.pick, .int .u64 op.ev.arg]), (6, .int .u8 op.kind), (41, .bool (op.kind == 6))]) (φ := True) (rest := []) h95 (by kernel_rfl) rfl trivial fun a109 h110 => ?_
              clear h95
              refine nd_done ?_
              refine hK108 _ _ ?_
              clear hK108
              refine c_split h110 (b := (op.kind == 6)) rfl (fun hc111 => ?_) (fun hc111 => ?_)
              ·
                have hc111f : op.kind = 6 := by simpa using hc111
                have hk6 : op.kind = 6 := hc111f
                refine wp_seq_k fun K112 hK112 => ?_
                refine nd_start (l := [0, 1, 2, 3, 4]) rfl ?_
                refine nd_batch tabOk tabZ_ok [(0, {}), (1, {}), (2, {k := 0})] [4, 3, 0, 1, 6, 43, 45] (T' := [(4, .pointer (some ⟨b8, 0, none⟩)), (3, .pointer (some ⟨b2, 0, none⟩)), (0, .pointer (some ⟨bs, 0, none⟩)), (1, .agg #[.int .u8 op.kind, .int .i64 op.n, .int .i64 op.m, .int .u8 op.ev.kind, .int .u32 op.ev.pick, .int .u64 op.ev.arg]), (6, .int .u8 op.kind), (43, .pointer (some ⟨bs, 0, none⟩)), (45, .int .i64 op.n)]) (φ := (b2 = b2 ∧ Nat.ble (1 + 1) 6 = true) ∧ True) (rest := [3, 4]) h110 (by kernel_rfl) rfl ⟨⟨rfl, rfl⟩, trivial⟩ fun a113 h114 => ?_
                clear h110
                refine nd_op ?_
                refine op_call h114 rfl rfl rfl (callOk Tryf.func27 (by decide) rfl) (args := [.pointer (some ⟨bs, 0, none⟩), .int .i64 op.n]) rfl (check_ok bs bl d s _ h114.inv hB hwf op.n) ?_
                rintro _ w115 ⟨d120, rfl, hs117, hf118, hF119⟩
                refine ⟨_, rfl, ?_⟩
                have h116q := h114.callSub hf118 (fun b hb => .inl hb) (A' := fun w => SessAt w bs bl d120 (checkR s op.n, s).2) (F' := bs :: bl :: d120.F) (L' := [(b2, ⟨[.int .u8 op.kind, .int .i64 op.n, .int .i64 op.m, .int .u8 op.ev.kind, .int .u32 op.ev.pick, .int .u64 op.ev.arg], 33, false⟩), (b8, ⟨[.int .u8 0, .int .i64 0, .int .i64 0, .int .i64 0, .bool false, .bool false, .int .i8 0, .int .u64 0, .int .u64 0, .int .i64 0, .int .i64 0, .int .i64 0], 46, false⟩)]) (List.Sublist.cons_cons _ (List.Sublist.cons_cons _ List.Sublist.slnil)) (kcons (h114.dj (k := 0) rfl rfl) (kcons (h114.dj (k := 1) rfl rfl) knil)) hs117 SessAt.stable hs117.low (fun b hb => by rcases List.mem_cons.1 hb with rfl | hb; exact .inl (by simp); rcases List.mem_cons.1 hb with rfl | hb; exact .inl (by simp); rcases hF119 b hb with hq | hq; exact .inl (List.mem_cons_of_mem _ (List.mem_cons_of_mem _ hq)); exact .inr (.inr hq))
                have h116 := h116q.put (d := some 46) (v := .agg #[.int .u8 ((checkR s op.n, s).1.code), .int .i64 ((checkR s op.n, s).1.pos), .int .i64 ((checkR s op.n, s).1.base), .int .i64 ((checkR s op.n, s).1.fin), .bool ((checkR s op.n, s).1.live), .bool ((checkR s op.n, s).1.out.refused), .int .i8 ((checkR s op.n, s).1.out.running), .int .u64 ((checkR s op.n, s).1.out.value), .int .u64 ((checkR s op.n, s).1.dig), .int .i64 ((checkR s op.n, s).1.from_), .int .i64 ((checkR s op.n, s).1.replayed), .int .i64 ((checkR s op.n, s).1.at_)]) (T' := [(46, .agg #[.int .u8 ((checkR s op.n, s).1.code), .int .i64 ((checkR s op.n, s).1.pos), .int .i64 ((checkR s op.n, s).1.base), .int .i64 ((checkR s op.n, s).1.fin), .bool ((checkR s op.n, s).1.live), .bool ((checkR s op.n, s).1.out.refused), .int .i8 ((checkR s op.n, s).1.out.running), .int .u64 ((checkR s op.n, s).1.out.value), .int .u64 ((checkR s op.n, s).1.dig), .int .i64 ((checkR s op.n, s).1.from_), .int .i64 ((checkR s op.n, s).1.replayed), .int .i64 ((checkR s op.n, s).1.at_)]), (4, .pointer (some ⟨b8, 0, none⟩)), (3, .pointer (some ⟨b2, 0, none⟩)), (0, .pointer (some ⟨bs, 0, none⟩)), (1, .agg #[.int .u8 op.kind, .int .i64 op.n, .int .i64 op.m, .int .u8 op.ev.kind, .int .u32 op.ev.pick, .int .u64 op.ev.arg]), (6, .int .u8 op.kind), (43, .pointer (some ⟨bs, 0, none⟩)), (45, .int .i64 op.n)]) rfl
                have hszh116 := h114.frame.size
                clear h114 h116q
                refine nd_op ?_
                refine op_store tabOk {k := 1} (L' := [(b2, ⟨[.int .u8 op.kind, .int .i64 op.n, .int .i64 op.m, .int .u8 op.ev.kind, .int .u32 op.ev.pick, .int .u64 op.ev.arg], 33, false⟩), (b8, ⟨[.int .u8 ((checkR s op.n, s).1.code), .int .i64 ((checkR s op.n, s).1.pos), .int .i64 ((checkR s op.n, s).1.base), .int .i64 ((checkR s op.n, s).1.fin), .bool ((checkR s op.n, s).1.live), .bool ((checkR s op.n, s).1.out.refused), .int .i8 ((checkR s op.n, s).1.out.running), .int .u64 ((checkR s op.n, s).1.out.value), .int .u64 ((checkR s op.n, s).1.dig), .int .i64 ((checkR s op.n, s).1.from_), .int .i64 ((checkR s op.n, s).1.replayed), .int .i64 ((checkR s op.n, s).1.at_)], 46, false⟩)]) (φ := b8 = b8 ∧ Nat.ble (0 + 12) 12 = true) h116 rfl rfl rfl (by kernel_rfl) ⟨rfl, rfl⟩ fun w121 h122 => ?_
                clear h116
                refine nd_done ?_
                refine hK112 _ _ ?_
                clear hK112
                refine wp_ret ?_
                have hR : doR s op = (checkR s op.n, s) := by unfold doR; rw [if_neg hk0, if_neg hk1, if_neg hk2, if_neg hk3, if_neg hk4, if_neg hk5, if_pos hk6]
                try simp only [Exit.then, Exit.inBlock]
                try rw [if_pos trivial]
                exact s_ret tabOk tabZ_ok h122 [(.cell 4 46, {k := 1})] (vs := [.agg #[.int .u8 ((checkR s op.n, s).1.code), .int .i64 ((checkR s op.n, s).1.pos), .int .i64 ((checkR s op.n, s).1.base), .int .i64 ((checkR s op.n, s).1.fin), .bool ((checkR s op.n, s).1.live), .bool ((checkR s op.n, s).1.out.refused), .int .i8 ((checkR s op.n, s).1.out.running), .int .u64 ((checkR s op.n, s).1.out.value), .int .u64 ((checkR s op.n, s).1.dig), .int .i64 ((checkR s op.n, s).1.from_), .int .i64 ((checkR s op.n, s).1.replayed), .int .i64 ((checkR s op.n, s).1.at_)]]) (φ := (b8 = b8 ∧ Nat.ble (0 + 12) 12 = true) ∧ True) rfl (by kernel_rfl) ⟨⟨rfl, rfl⟩, trivial⟩ (by rw [hR]; exact ⟨d120, rfl, h122.inv, h122.frame, fun b hb => by rcases hF119 b hb with hq | hq; exact .inl hq; exact .inr (Nat.le_trans hszh116 hq)⟩)
              ·
                have hc111f : op.kind ≠ 6 := by simpa using hc111
                have hk6 : op.kind ≠ 6 := hc111f
                refine wp_seq_k fun K123 hK123 => ?_
                refine nd_start (l := [0, 1]) rfl ?_
                refine nd_batch tabOk tabZ_ok [(0, {}), (1, {})] [4, 3, 0, 1, 6, 47] (T' := [(4, .pointer (some ⟨b8, 0, none⟩)), (3, .pointer (some ⟨b2, 0, none⟩)), (0, .pointer (some ⟨bs, 0, none⟩)), (1, .agg #[.int .u8 op.kind, .int .i64 op.n, .int .i64 op.m, .int .u8 op.ev.kind, .int .u32 op.ev.pick, .int .u64 op.ev.arg]), (6, .int .u8 op.kind), (47, .bool (op.kind == 7))]) (φ := True) (rest := []) h110 (by kernel_rfl) rfl trivial fun a124 h125 => ?_
                clear h110
                refine nd_done ?_
                refine hK123 _ _ ?_
                clear hK123
                refine c_split h125 (b := (op.kind == 7)) rfl (fun hc126 => ?_) (fun hc126 => ?_)
                ·
                  have hc126f : op.kind = 7 := by simpa using hc126
                  have hk7 : op.kind = 7 := hc126f
                  refine wp_seq_k fun K127 hK127 => ?_
                  refine nd_start (l := [0, 1, 2, 3, 4, 5, 6]) rfl ?_
                  refine nd_batch tabOk tabZ_ok [(0, {}), (1, {}), (2, {k := 0}), (3, {}), (4, {k := 0})] [4, 3, 0, 1, 6, 49, 51, 53] (T' := [(4, .pointer (some ⟨b8, 0, none⟩)), (3, .pointer (some ⟨b2, 0, none⟩)), (0, .pointer (some ⟨bs, 0, none⟩)), (1, .agg #[.int .u8 op.kind, .int .i64 op.n, .int .i64 op.m, .int .u8 op.ev.kind, .int .u32 op.ev.pick, .int .u64 op.ev.arg]), (6, .int .u8 op.kind), (49, .pointer (some ⟨bs, 0, none⟩)), (51, .int .i64 op.n), (53, .int .i64 op.m)]) (φ := (b2 = b2 ∧ Nat.ble (1 + 1) 6 = true) ∧ (b2 = b2 ∧ Nat.ble (2 + 1) 6 = true) ∧ True) (rest := [5, 6]) h125 (by kernel_rfl) rfl ⟨⟨rfl, rfl⟩, ⟨rfl, rfl⟩, trivial⟩ fun a128 h129 => ?_
                  clear h125
                  refine nd_op ?_
                  refine op_call h129 rfl rfl rfl (callOk Tryf.func28 (by decide) rfl) (args := [.pointer (some ⟨bs, 0, none⟩), .int .i64 op.n, .int .i64 op.m]) rfl (replay_ok bs bl d s _ h129.inv hB hwf op.n op.m) ?_
                  rintro _ w130 ⟨d135, rfl, hs132, hf133, hF134⟩
                  refine ⟨_, rfl, ?_⟩
                  have h131q := h129.callSub hf133 (fun b hb => .inl hb) (A' := fun w => SessAt w bs bl d135 (replayR s op.n op.m, s).2) (F' := bs :: bl :: d135.F) (L' := [(b2, ⟨[.int .u8 op.kind, .int .i64 op.n, .int .i64 op.m, .int .u8 op.ev.kind, .int .u32 op.ev.pick, .int .u64 op.ev.arg], 33, false⟩), (b8, ⟨[.int .u8 0, .int .i64 0, .int .i64 0, .int .i64 0, .bool false, .bool false, .int .i8 0, .int .u64 0, .int .u64 0, .int .i64 0, .int .i64 0, .int .i64 0], 46, false⟩)]) (List.Sublist.cons_cons _ (List.Sublist.cons_cons _ List.Sublist.slnil)) (kcons (h129.dj (k := 0) rfl rfl) (kcons (h129.dj (k := 1) rfl rfl) knil)) hs132 SessAt.stable hs132.low (fun b hb => by rcases List.mem_cons.1 hb with rfl | hb; exact .inl (by simp); rcases List.mem_cons.1 hb with rfl | hb; exact .inl (by simp); rcases hF134 b hb with hq | hq; exact .inl (List.mem_cons_of_mem _ (List.mem_cons_of_mem _ hq)); exact .inr (.inr hq))
                  have h131 := h131q.put (d := some 54) (v := .agg #[.int .u8 ((replayR s op.n op.m, s).1.code), .int .i64 ((replayR s op.n op.m, s).1.pos), .int .i64 ((replayR s op.n op.m, s).1.base), .int .i64 ((replayR s op.n op.m, s).1.fin), .bool ((replayR s op.n op.m, s).1.live), .bool ((replayR s op.n op.m, s).1.out.refused), .int .i8 ((replayR s op.n op.m, s).1.out.running), .int .u64 ((replayR s op.n op.m, s).1.out.value), .int .u64 ((replayR s op.n op.m, s).1.dig), .int .i64 ((replayR s op.n op.m, s).1.from_), .int .i64 ((replayR s op.n op.m, s).1.replayed), .int .i64 ((replayR s op.n op.m, s).1.at_)]) (T' := [(54, .agg #[.int .u8 ((replayR s op.n op.m, s).1.code), .int .i64 ((replayR s op.n op.m, s).1.pos), .int .i64 ((replayR s op.n op.m, s).1.base), .int .i64 ((replayR s op.n op.m, s).1.fin), .bool ((replayR s op.n op.m, s).1.live), .bool ((replayR s op.n op.m, s).1.out.refused), .int .i8 ((replayR s op.n op.m, s).1.out.running), .int .u64 ((replayR s op.n op.m, s).1.out.value), .int .u64 ((replayR s op.n op.m, s).1.dig), .int .i64 ((replayR s op.n op.m, s).1.from_), .int .i64 ((replayR s op.n op.m, s).1.replayed), .int .i64 ((replayR s op.n op.m, s).1.at_)]), (4, .pointer (some ⟨b8, 0, none⟩)), (3, .pointer (some ⟨b2, 0, none⟩)), (0, .pointer (some ⟨bs, 0, none⟩)), (1, .agg #[.int .u8 op.kind, .int .i64 op.n, .int .i64 op.m, .int .u8 op.ev.kind, .int .u32 op.ev.pick, .int .u64 op.ev.arg]), (6, .int .u8 op.kind), (49, .pointer (some ⟨bs, 0, none⟩)), (51, .int .i64 op.n), (53, .int .i64 op.m)]) rfl
                  have hszh131 := h129.frame.size
                  clear h129 h131q
                  refine nd_op ?_
                  refine op_store tabOk {k := 1} (L' := [(b2, ⟨[.int .u8 op.kind, .int .i64 op.n, .int .i64 op.m, .int .u8 op.ev.kind, .int .u32 op.ev.pick, .int .u64 op.ev.arg], 33, false⟩), (b8, ⟨[.int .u8 ((replayR s op.n op.m, s).1.code), .int .i64 ((replayR s op.n op.m, s).1.pos), .int .i64 ((replayR s op.n op.m, s).1.base), .int .i64 ((replayR s op.n op.m, s).1.fin), .bool ((replayR s op.n op.m, s).1.live), .bool ((replayR s op.n op.m, s).1.out.refused), .int .i8 ((replayR s op.n op.m, s).1.out.running), .int .u64 ((replayR s op.n op.m, s).1.out.value), .int .u64 ((replayR s op.n op.m, s).1.dig), .int .i64 ((replayR s op.n op.m, s).1.from_), .int .i64 ((replayR s op.n op.m, s).1.replayed), .int .i64 ((replayR s op.n op.m, s).1.at_)], 46, false⟩)]) (φ := b8 = b8 ∧ Nat.ble (0 + 12) 12 = true) h131 rfl rfl rfl (by kernel_rfl) ⟨rfl, rfl⟩ fun w136 h137 => ?_
                  clear h131
                  refine nd_done ?_
                  refine hK127 _ _ ?_
                  clear hK127
                  refine wp_ret ?_
                  have hR : doR s op = (replayR s op.n op.m, s) := by unfold doR; rw [if_neg hk0, if_neg hk1, if_neg hk2, if_neg hk3, if_neg hk4, if_neg hk5, if_neg hk6, if_pos hk7]
                  try simp only [Exit.then, Exit.inBlock]
                  try rw [if_pos trivial]
                  exact s_ret tabOk tabZ_ok h137 [(.cell 4 46, {k := 1})] (vs := [.agg #[.int .u8 ((replayR s op.n op.m, s).1.code), .int .i64 ((replayR s op.n op.m, s).1.pos), .int .i64 ((replayR s op.n op.m, s).1.base), .int .i64 ((replayR s op.n op.m, s).1.fin), .bool ((replayR s op.n op.m, s).1.live), .bool ((replayR s op.n op.m, s).1.out.refused), .int .i8 ((replayR s op.n op.m, s).1.out.running), .int .u64 ((replayR s op.n op.m, s).1.out.value), .int .u64 ((replayR s op.n op.m, s).1.dig), .int .i64 ((replayR s op.n op.m, s).1.from_), .int .i64 ((replayR s op.n op.m, s).1.replayed), .int .i64 ((replayR s op.n op.m, s).1.at_)]]) (φ := (b8 = b8 ∧ Nat.ble (0 + 12) 12 = true) ∧ True) rfl (by kernel_rfl) ⟨⟨rfl, rfl⟩, trivial⟩ (by rw [hR]; exact ⟨d135, rfl, h137.inv, h137.frame, fun b hb => by rcases hF134 b hb with hq | hq; exact .inl hq; exact .inr (Nat.le_trans hszh131 hq)⟩)
                ·
                  have hc126f : op.kind ≠ 7 := by simpa using hc126
                  have hk7 : op.kind ≠ 7 := hc126f
                  refine wp_seq_k fun K138 hK138 => ?_
                  refine nd_start (l := [0, 1]) rfl ?_
                  refine nd_batch tabOk tabZ_ok [(0, {}), (1, {})] [4, 3, 0, 1, 6, 55] (T' := [(4, .pointer (some ⟨b8, 0, none⟩)), (3, .pointer (some ⟨b2, 0, none⟩)), (0, .pointer (some ⟨bs, 0, none⟩)), (1, .agg #[.int .u8 op.kind, .int .i64 op.n, .int .i64 op.m, .int .u8 op.ev.kind, .int .u32 op.ev.pick, .int .u64 op.ev.arg]), (6, .int .u8 op.kind), (55, .bool (op.kind == 8))]) (φ := True) (rest := []) h125 (by kernel_rfl) rfl trivial fun a139 h140 => ?_
                  clear h125
                  refine nd_done ?_
                  refine hK138 _ _ ?_
                  clear hK138
                  refine c_split h140 (b := (op.kind == 8)) rfl (fun hc141 => ?_) (fun hc141 => ?_)
                  ·
                    have hc141f : op.kind = 8 := by simpa using hc141
                    have hk8 : op.kind = 8 := hc141f
                    refine wp_seq_k fun K142 hK142 => ?_
                    refine nd_start (l := [0, 1, 2]) rfl ?_
                    refine nd_batch tabOk tabZ_ok [(0, {})] [4, 3, 0, 1, 6, 57] (T' := [(4, .pointer (some ⟨b8, 0, none⟩)), (3, .pointer (some ⟨b2, 0, none⟩)), (0, .pointer (some ⟨bs, 0, none⟩)), (1, .agg #[.int .u8 op.kind, .int .i64 op.n, .int .i64 op.m, .int .u8 op.ev.kind, .int .u32 op.ev.pick, .int .u64 op.ev.arg]), (6, .int .u8 op.kind), (57, .pointer (some ⟨bs, 0, none⟩))]) (φ := True) (rest := [1, 2]) h140 (by kernel_rfl) rfl trivial fun a143 h144 => ?_
                    clear h140
                    refine nd_op ?_
                    refine op_call h144 rfl rfl rfl (callOk Tryf.func29 (by decide) rfl) (args := [.pointer (some ⟨bs, 0, none⟩), .int .u8 0]) rfl (status_ok bs bl s.m hwf.m s.out s.pos s.live s.lg.base d.eo s.lg.evs.length d.ec _ _ 0 _ false false h144.inv.blk h144.inv.log.blk h144.inv.ne hb0 (by omega) (by omega)) ?_
                    rintro _ w145 ⟨rfl, hf147⟩
                    refine ⟨_, rfl, ?_⟩
                    have h146 := (h144.grow hf147).put (d := some 58) (v := .agg #[.int .u8 0, .int .i64 s.pos, .int .i64 s.lg.base.idx, .int .i64 (s.lg.base.idx + (s.lg.evs.length : Int)), .bool s.live, .bool s.out.refused, .int .i8 s.out.running, .int .u64 s.out.value, .int .u64 (dig s.m), .int .i64 s.pos, .int .i64 0, .int .i64 (-1)]) (T' := [(58, .agg #[.int .u8 0, .int .i64 s.pos, .int .i64 s.lg.base.idx, .int .i64 (s.lg.base.idx + (s.lg.evs.length : Int)), .bool s.live, .bool s.out.refused, .int .i8 s.out.running, .int .u64 s.out.value, .int .u64 (dig s.m), .int .i64 s.pos, .int .i64 0, .int .i64 (-1)]), (4, .pointer (some ⟨b8, 0, none⟩)), (3, .pointer (some ⟨b2, 0, none⟩)), (0, .pointer (some ⟨bs, 0, none⟩)), (1, .agg #[.int .u8 op.kind, .int .i64 op.n, .int .i64 op.m, .int .u8 op.ev.kind, .int .u32 op.ev.pick, .int .u64 op.ev.arg]), (6, .int .u8 op.kind), (57, .pointer (some ⟨bs, 0, none⟩))]) rfl
                    clear h144
                    refine nd_op ?_
                    refine op_store tabOk {k := 1} (L' := [(b2, ⟨[.int .u8 op.kind, .int .i64 op.n, .int .i64 op.m, .int .u8 op.ev.kind, .int .u32 op.ev.pick, .int .u64 op.ev.arg], 33, false⟩), (b8, ⟨[.int .u8 0, .int .i64 s.pos, .int .i64 s.lg.base.idx, .int .i64 (s.lg.base.idx + (s.lg.evs.length : Int)), .bool s.live, .bool s.out.refused, .int .i8 s.out.running, .int .u64 s.out.value, .int .u64 (dig s.m), .int .i64 s.pos, .int .i64 0, .int .i64 (-1)], 46, false⟩)]) (φ := b8 = b8 ∧ Nat.ble (0 + 12) 12 = true) h146 rfl rfl rfl (by kernel_rfl) ⟨rfl, rfl⟩ fun w148 h149 => ?_
                    clear h146
                    refine nd_done ?_
                    refine hK142 _ _ ?_
                    clear hK142
                    refine wp_ret ?_
                    have hR : doR s op = (s.stat 0, s) := by unfold doR; rw [if_neg hk0, if_neg hk1, if_neg hk2, if_neg hk3, if_neg hk4, if_neg hk5, if_neg hk6, if_neg hk7, if_pos hk8]
                    try simp only [Exit.then, Exit.inBlock]
                    try rw [if_pos trivial]
                    exact s_ret tabOk tabZ_ok h149 [(.cell 4 46, {k := 1})] (vs := [.agg #[.int .u8 0, .int .i64 s.pos, .int .i64 s.lg.base.idx, .int .i64 (s.lg.base.idx + (s.lg.evs.length : Int)), .bool s.live, .bool s.out.refused, .int .i8 s.out.running, .int .u64 s.out.value, .int .u64 (dig s.m), .int .i64 s.pos, .int .i64 0, .int .i64 (-1)]]) (φ := (b8 = b8 ∧ Nat.ble (0 + 12) 12 = true) ∧ True) rfl (by kernel_rfl) ⟨⟨rfl, rfl⟩, trivial⟩ (by rw [hR]; exact ⟨d, rfl, h149.inv, h149.frame, fun b hb => .inl hb⟩)
                  ·
                    have hc141f : op.kind ≠ 8 := by simpa using hc141
                    have hk8 : op.kind ≠ 8 := hc141f
                    refine wp_skip ?_
                    refine hK14 _ _ ?_
                    clear hK14
                    refine wp_seq_k fun K150 hK150 => ?_
                    refine nd_start (l := [0, 1, 2]) rfl ?_
                    refine nd_batch tabOk tabZ_ok [(0, {})] [4, 3, 0, 1, 6, 59] (T' := [(4, .pointer (some ⟨b8, 0, none⟩)), (3, .pointer (some ⟨b2, 0, none⟩)), (0, .pointer (some ⟨bs, 0, none⟩)), (1, .agg #[.int .u8 op.kind, .int .i64 op.n, .int .i64 op.m, .int .u8 op.ev.kind, .int .u32 op.ev.pick, .int .u64 op.ev.arg]), (6, .int .u8 op.kind), (59, .pointer (some ⟨bs, 0, none⟩))]) (φ := True) (rest := [1, 2]) h140 (by kernel_rfl) rfl trivial fun a151 h152 => ?_
                    clear h140
                    refine nd_op ?_
                    refine op_call h152 rfl rfl rfl (callOk Tryf.func29 (by decide) rfl) (args := [.pointer (some ⟨bs, 0, none⟩), .int .u8 5]) rfl (status_ok bs bl s.m hwf.m s.out s.pos s.live s.lg.base d.eo s.lg.evs.length d.ec _ _ 5 _ false false h152.inv.blk h152.inv.log.blk h152.inv.ne hb0 (by omega) (by omega)) ?_
                    rintro _ w153 ⟨rfl, hf155⟩
                    refine ⟨_, rfl, ?_⟩
                    have h154 := (h152.grow hf155).put (d := some 60) (v := .agg #[.int .u8 5, .int .i64 s.pos, .int .i64 s.lg.base.idx, .int .i64 (s.lg.base.idx + (s.lg.evs.length : Int)), .bool s.live, .bool s.out.refused, .int .i8 s.out.running, .int .u64 s.out.value, .int .u64 (dig s.m), .int .i64 s.pos, .int .i64 0, .int .i64 (-1)]) (T' := [(60, .agg #[.int .u8 5, .int .i64 s.pos, .int .i64 s.lg.base.idx, .int .i64 (s.lg.base.idx + (s.lg.evs.length : Int)), .bool s.live, .bool s.out.refused, .int .i8 s.out.running, .int .u64 s.out.value, .int .u64 (dig s.m), .int .i64 s.pos, .int .i64 0, .int .i64 (-1)]), (4, .pointer (some ⟨b8, 0, none⟩)), (3, .pointer (some ⟨b2, 0, none⟩)), (0, .pointer (some ⟨bs, 0, none⟩)), (1, .agg #[.int .u8 op.kind, .int .i64 op.n, .int .i64 op.m, .int .u8 op.ev.kind, .int .u32 op.ev.pick, .int .u64 op.ev.arg]), (6, .int .u8 op.kind), (59, .pointer (some ⟨bs, 0, none⟩))]) rfl
                    clear h152
                    refine nd_op ?_
                    refine op_store tabOk {k := 1} (L' := [(b2, ⟨[.int .u8 op.kind, .int .i64 op.n, .int .i64 op.m, .int .u8 op.ev.kind, .int .u32 op.ev.pick, .int .u64 op.ev.arg], 33, false⟩), (b8, ⟨[.int .u8 5, .int .i64 s.pos, .int .i64 s.lg.base.idx, .int .i64 (s.lg.base.idx + (s.lg.evs.length : Int)), .bool s.live, .bool s.out.refused, .int .i8 s.out.running, .int .u64 s.out.value, .int .u64 (dig s.m), .int .i64 s.pos, .int .i64 0, .int .i64 (-1)], 46, false⟩)]) (φ := b8 = b8 ∧ Nat.ble (0 + 12) 12 = true) h154 rfl rfl rfl (by kernel_rfl) ⟨rfl, rfl⟩ fun w156 h157 => ?_
                    clear h154
                    refine nd_done ?_
                    refine hK150 _ _ ?_
                    clear hK150
                    refine wp_ret ?_
                    have hR : doR s op = (s.stat 5, s) := by unfold doR; rw [if_neg hk0, if_neg hk1, if_neg hk2, if_neg hk3, if_neg hk4, if_neg hk5, if_neg hk6, if_neg hk7, if_neg hk8]
                    try simp only [Exit.then, Exit.inBlock]
                    try rw [if_pos trivial]
                    exact s_ret tabOk tabZ_ok h157 [(.cell 4 46, {k := 1})] (vs := [.agg #[.int .u8 5, .int .i64 s.pos, .int .i64 s.lg.base.idx, .int .i64 (s.lg.base.idx + (s.lg.evs.length : Int)), .bool s.live, .bool s.out.refused, .int .i8 s.out.running, .int .u64 s.out.value, .int .u64 (dig s.m), .int .i64 s.pos, .int .i64 0, .int .i64 (-1)]]) (φ := (b8 = b8 ∧ Nat.ble (0 + 12) 12 = true) ∧ True) rfl (by kernel_rfl) ⟨⟨rfl, rfl⟩, trivial⟩ (by rw [hR]; exact ⟨d, rfl, h157.inv, h157.frame, fun b hb => .inl hb⟩)

end Go.Proofs.Qxb6500919aFmt
