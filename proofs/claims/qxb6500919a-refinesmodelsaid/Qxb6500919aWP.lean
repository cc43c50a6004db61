/-
  The model: Do. (Made by program: a symbolic walk that prints its steps.)
-/
import Derived.Test.Qxb6500919aTab
import Derived.Test.Qxb6500919aLib
import Derived.Test.Qxb6500919aMq
import Derived.Test.Qxb6500919aW1
import Derived.Test.Qxb6500919aW2
import Derived.Test.Qxb6500919aW3
import Derived.Test.Qxb6500919aW4
import Derived.Test.Qxb6500919aW7
import Derived.Test.Qxb6500919aW8
import Derived.Test.Qxb6500919aWH
import Derived.Test.Qxb6500919aWJ
import Derived.Test.Qxb6500919aWO
namespace Go.Proofs.Qxb6500919a
open Go.Sx Go.Rp
set_option maxRecDepth 100000
set_option maxHeartbeats 4000000
set_option linter.unusedVariables false
set_option linter.unusedSimpArgs false

theorem mdo_ok (bm bl : Nat) (d : Hd) (a : Ah) (s : Ss) (all : List Ev) (w : World) (hm : ModAt w bm bl d a (mdOf all s)) {B : Int} (hB : B ≤ 900000) (hwf : s.wf B) (hon : Hon all s) (hev : ∀ e ∈ all, e.ok)
    (op : Opn) (hop : op.ok) (hn : op.n ≤ 9223372036854775807) :
    Calls Try.prog 13 #[.pointer (some ⟨bm, 0, none⟩), .agg (opC op).toArray] w (MOK w bm bl d a (doR s op).1 (mdOf (nextAll s all op) (doR s op).2)) := by
  obtain ⟨ao, ac, aF⟩ := a
  have hfin := hon_fin hon.lg hwf.lg.b0
  have hb0 := hwf.lg.b0
  have hfB := hwf.lg.fin
  have hlen := hwf.lg.len
  have hml := hwf.lg.mlen
  have hsl := hwf.lg.slen
  have hlo := hwf.lo
  have hhi := hwf.hi
  have hal : all.length ≤ 1000000 := by omega
  have hcap : all.length ≤ ac := rl_cap hm.row
  have hfq : s.lg.fin = s.lg.base.idx + (s.lg.evs.length : Int) := rfl
  have hlt : (all.take s.pos.toNat).length = s.pos.toNat := by rw [List.length_take]; omega
  have hB := Int.le_trans hB (show (900000 : Int) ≤ 900000000 by decide)
  refine enter (n := 296) (K := (MF bm bl d ⟨ao, ac, aF⟩)) (A := Pq (MF bm bl d ⟨ao, ac, aF⟩) w.heap.size [pRow (rl evC 33 3 all ao ac aF), pLog bl d s.lg]) (F := Pf [pRow (rl evC 33 3 all ao ac aF), pLog bl d s.lg]) (T := [(0, .pointer (some ⟨bm, 0, none⟩)), (1, .agg #[.int .u8 op.kind, .int .i64 op.n, .int .i64 op.m, .int .u8 op.ev.kind, .int .u32 op.ev.pick, .int .u64 op.ev.arg])]) (L := [(bm, ⟨modC (.slice ao all.length ac) (.pointer (some ⟨bl, 0, none⟩)) s.pos s.live, 52, false⟩)]) (args := [.pointer (some ⟨bm, 0, none⟩), .agg #[.int .u8 op.kind, .int .i64 op.n, .int .i64 op.m, .int .u8 op.ev.kind, .int .u32 op.ev.pick, .int .u64 op.ev.arg]]) Try.func13 rfl rfl rfl rfl (kcons hm.blk knil) (by simp) (kcons (by simp) knil) hm.pq Pq.stable hm.pq.low (kcons (fun _ => hm.dis) knil) ?_
  intro a h
  refine wp_seq_k fun K1 hK1 => ?_
  refine nd_start (l := [0, 1]) rfl ?_
  refine nd_op ?_
  refine op_new tabOk (cells := [.int .u8 op.kind, .int .i64 op.n, .int .i64 op.m, .int .u8 op.ev.kind, .int .u32 op.ev.pick, .int .u64 op.ev.arg]) (ty := 35) (ln := none) (L1 := fun b2 => [(bm, ⟨modC (.slice ao all.length ac) (.pointer (some ⟨bl, 0, none⟩)) s.pos s.live, 52, false⟩), (b2, ⟨[.int .u8 op.kind, .int .i64 op.n, .int .i64 op.m, .int .u8 op.ev.kind, .int .u32 op.ev.pick, .int .u64 op.ev.arg], 35, false⟩)]) h rfl rfl rfl rfl (by kernel_rfl) (fun _ => rfl) fun b2 w3 a4 h5 hf6 hn7 => ?_
  clear h
  refine nd_op ?_
  refine op_new tabOk (cells := [.int .u8 0, .int .i64 0, .int .i64 0, .int .i64 0, .bool false, .bool false, .int .i8 0, .int .u64 0, .int .u64 0, .int .i64 0, .int .i64 0, .int .i64 0]) (ty := 41) (ln := none) (L1 := fun b8 => [(bm, ⟨modC (.slice ao all.length ac) (.pointer (some ⟨bl, 0, none⟩)) s.pos s.live, 52, false⟩), (b2, ⟨[.int .u8 op.kind, .int .i64 op.n, .int .i64 op.m, .int .u8 op.ev.kind, .int .u32 op.ev.pick, .int .u64 op.ev.arg], 35, false⟩), (b8, ⟨[.int .u8 0, .int .i64 0, .int .i64 0, .int .i64 0, .bool false, .bool false, .int .i8 0, .int .u64 0, .int .u64 0, .int .i64 0, .int .i64 0, .int .i64 0], 41, false⟩)]) h5 rfl rfl rfl rfl (by kernel_rfl) (fun _ => rfl) fun b8 w9 a10 h11 hf12 hn13 => ?_
  clear h5
  refine nd_done ?_
  refine hK1 _ _ ?_
  clear hK1
  refine wp_seq_k fun K14 hK14 => ?_
  refine wp_seq_k fun K15 hK15 => ?_
  refine nd_start (l := [0, 1]) rfl ?_
  refine nd_batch tabOk tabZ_ok [(0, {}), (1, {k := 1})] [4, 3, 0, 1, 14] (T' := [(4, .pointer (some ⟨b8, 0, none⟩)), (3, .pointer (some ⟨b2, 0, none⟩)), (0, .pointer (some ⟨bm, 0, none⟩)), (1, .agg #[.int .u8 op.kind, .int .i64 op.n, .int .i64 op.m, .int .u8 op.ev.kind, .int .u32 op.ev.pick, .int .u64 op.ev.arg]), (14, .int .u8 op.kind)]) (φ := (b2 = b2 ∧ Nat.ble (0 + 1) 6 = true) ∧ True) (rest := []) h11 (by kernel_rfl) rfl ⟨⟨rfl, rfl⟩, trivial⟩ fun a16 h17 => ?_
  clear h11
  refine nd_done ?_
  refine hK15 _ _ ?_
  clear hK15
  refine wp_block ?_
  refine wp_seq_k fun K18 hK18 => ?_
  refine nd_start (l := [0, 1]) rfl ?_
  refine nd_batch tabOk tabZ_ok [(0, {}), (1, {})] [4, 3, 0, 1, 14, 15] (T' := [(4, .pointer (some ⟨b8, 0, none⟩)), (3, .pointer (some ⟨b2, 0, none⟩)), (0, .pointer (some ⟨bm, 0, none⟩)), (1, .agg #[.int .u8 op.kind, .int .i64 op.n, .int .i64 op.m, .int .u8 op.ev.kind, .int .u32 op.ev.pick, .int .u64 op.ev.arg]), (14, .int .u8 op.kind), (15, .bool (op.kind == 0))]) (φ := True) (rest := []) h17 (by kernel_rfl) rfl trivial fun a19 h20 => ?_
  clear h17
  refine nd_done ?_
  refine hK18 _ _ ?_
  clear hK18
  refine c_split h20 (b := (op.kind == 0)) rfl (fun hc21 => ?_) (fun hc21 => ?_)
  ·
    have hc21f : op.kind = 0 := by simpa using hc21
    have hk0 : op.kind = 0 := hc21f
    refine wp_seq_k fun K22 hK22 => ?_
    refine wp_seq_k fun K23 hK23 => ?_
    refine nd_start (l := [0, 1, 2, 3, 4]) rfl ?_
    refine nd_batch tabOk tabZ_ok [(0, {}), (1, {}), (2, {}), (3, {k := 0}), (4, {})] [4, 3, 0, 1, 14, 21] (T' := [(4, .pointer (some ⟨b8, 0, none⟩)), (3, .pointer (some ⟨b2, 0, none⟩)), (0, .pointer (some ⟨bm, 0, none⟩)), (1, .agg #[.int .u8 op.kind, .int .i64 op.n, .int .i64 op.m, .int .u8 op.ev.kind, .int .u32 op.ev.pick, .int .u64 op.ev.arg]), (14, .int .u8 op.kind), (21, .bool (!s.live))]) (φ := (bm = bm ∧ Nat.ble (3 + 1) 4 = true) ∧ True) (rest := []) h20 (by kernel_rfl) rfl ⟨⟨rfl, rfl⟩, trivial⟩ fun a24 h25 => ?_
    clear h20
    refine nd_done ?_
    refine hK23 _ _ ?_
    clear hK23
    refine c_split h25 (b := !s.live) rfl (fun hc26 => ?_) (fun hc26 => ?_)
    ·
      have hlive : s.live = false := by simpa using hc26
      refine wp_seq_k fun K27 hK27 => ?_
      refine nd_start (l := [0, 1, 2]) rfl ?_
      refine nd_batch tabOk tabZ_ok [(0, {})] [4, 3, 0, 1, 14, 22] (T' := [(4, .pointer (some ⟨b8, 0, none⟩)), (3, .pointer (some ⟨b2, 0, none⟩)), (0, .pointer (some ⟨bm, 0, none⟩)), (1, .agg #[.int .u8 op.kind, .int .i64 op.n, .int .i64 op.m, .int .u8 op.ev.kind, .int .u32 op.ev.pick, .int .u64 op.ev.arg]), (14, .int .u8 op.kind), (22, .pointer (some ⟨bm, 0, none⟩))]) (φ := True) (rest := [1, 2]) h25 (by kernel_rfl) rfl trivial fun a28 h29 => ?_
      clear h25
      refine nd_op ?_
      refine op_call h29 rfl rfl rfl (callOk Try.func40 (by decide) rfl) (args := [.pointer (some ⟨bm, 0, none⟩), .int .u8 3]) rfl (refuse_ok bm bl _ _ _ _ (ModAt.ofQ h29 (k := 0) rfl rfl (pos := s.pos) (live := s.live) (h29.kn (k := 0) (blk := ⟨modC (.slice ao all.length ac) (.pointer (some ⟨bl, 0, none⟩)) s.pos s.live, 52, false⟩) rfl)) 3 (by show 0 ≤ s.pos; omega) (by show s.pos ≤ (all.length : Int); omega) hev hal) ?_
      rintro _ w30 ⟨rfl, hf32⟩
      refine ⟨_, rfl, ?_⟩
      have h31 := (h29.grow hf32).put (d := some 23) (v := .agg #[.int .u8 3, .int .i64 s.pos, .int .i64 s.lg.base.idx, .int .i64 ((all.length : Nat) : Int), .bool s.live, .bool ((stAt all s.pos).2.refused), .int .i8 ((stAt all s.pos).2.running), .int .u64 ((stAt all s.pos).2.value), .int .u64 (dig (stAt all s.pos).1), .int .i64 s.pos, .int .i64 0, .int .i64 (-1)]) (T' := [(23, .agg #[.int .u8 3, .int .i64 s.pos, .int .i64 s.lg.base.idx, .int .i64 ((all.length : Nat) : Int), .bool s.live, .bool ((stAt all s.pos).2.refused), .int .i8 ((stAt all s.pos).2.running), .int .u64 ((stAt all s.pos).2.value), .int .u64 (dig (stAt all s.pos).1), .int .i64 s.pos, .int .i64 0, .int .i64 (-1)]), (4, .pointer (some ⟨b8, 0, none⟩)), (3, .pointer (some ⟨b2, 0, none⟩)), (0, .pointer (some ⟨bm, 0, none⟩)), (1, .agg #[.int .u8 op.kind, .int .i64 op.n, .int .i64 op.m, .int .u8 op.ev.kind, .int .u32 op.ev.pick, .int .u64 op.ev.arg]), (14, .int .u8 op.kind), (22, .pointer (some ⟨bm, 0, none⟩))]) rfl
      clear h29
      refine nd_op ?_
      refine op_store tabOk {k := 2} (L' := [(bm, ⟨modC (.slice ao all.length ac) (.pointer (some ⟨bl, 0, none⟩)) s.pos s.live, 52, false⟩), (b2, ⟨[.int .u8 op.kind, .int .i64 op.n, .int .i64 op.m, .int .u8 op.ev.kind, .int .u32 op.ev.pick, .int .u64 op.ev.arg], 35, false⟩), (b8, ⟨[.int .u8 3, .int .i64 s.pos, .int .i64 s.lg.base.idx, .int .i64 ((all.length : Nat) : Int), .bool s.live, .bool ((stAt all s.pos).2.refused), .int .i8 ((stAt all s.pos).2.running), .int .u64 ((stAt all s.pos).2.value), .int .u64 (dig (stAt all s.pos).1), .int .i64 s.pos, .int .i64 0, .int .i64 (-1)], 41, false⟩)]) (φ := b8 = b8 ∧ Nat.ble (0 + 12) 12 = true) h31 rfl rfl rfl (by kernel_rfl) ⟨rfl, rfl⟩ fun w33 h34 => ?_
      clear h31
      refine nd_done ?_
      refine hK27 _ _ ?_
      clear hK27
      refine wp_ret ?_
      obtain ⟨hR1, hR2⟩ := do3_dead hwf hon hk0 hlive
      skip
      try simp only [Exit.then, Exit.inBlock]
      try rw [if_pos trivial]
      exact s_ret tabOk tabZ_ok h34 [(.cell 4 41, {k := 2})] (vs := [.agg #[.int .u8 3, .int .i64 s.pos, .int .i64 s.lg.base.idx, .int .i64 ((all.length : Nat) : Int), .bool s.live, .bool ((stAt all s.pos).2.refused), .int .i8 ((stAt all s.pos).2.running), .int .u64 ((stAt all s.pos).2.value), .int .u64 (dig (stAt all s.pos).1), .int .i64 s.pos, .int .i64 0, .int .i64 (-1)]]) (φ := (b8 = b8 ∧ Nat.ble (0 + 12) 12 = true) ∧ True) rfl (by kernel_rfl) ⟨⟨rfl, rfl⟩, trivial⟩ (by rw [hR1, hR2]; exact ⟨bl, d, ⟨ao, ac, aF⟩, rfl, (by skip; exact (ModAt.ofQ h34 (k := 0) rfl rfl (pos := s.pos) (live := s.live) (h34.kn (k := 0) (blk := ⟨modC (.slice ao all.length ac) (.pointer (some ⟨bl, 0, none⟩)) s.pos s.live, 52, false⟩) rfl))), h34.frame, ModAt.subQ h34 (k := 0) rfl rfl⟩)
    ·
      have hlive : s.live = true := by simpa using hc26
      refine wp_skip ?_
      refine hK22 _ _ ?_
      clear hK22
      refine wp_seq_k fun K35 hK35 => ?_
      refine nd_start (l := [0, 1, 2, 3, 4, 5, 6, 7, 8, 9, 10, 11]) rfl ?_
      refine nd_batch tabOk tabZ_ok [(0, {}), (1, {}), (2, {}), (3, {k := 0})] [4, 3, 0, 1, 14, 28] (T' := [(4, .pointer (some ⟨b8, 0, none⟩)), (3, .pointer (some ⟨b2, 0, none⟩)), (0, .pointer (some ⟨bm, 0, none⟩)), (1, .agg #[.int .u8 op.kind, .int .i64 op.n, .int .i64 op.m, .int .u8 op.ev.kind, .int .u32 op.ev.pick, .int .u64 op.ev.arg]), (14, .int .u8 op.kind), (28, .slice ao all.length ac)]) (φ := (bm = bm ∧ Nat.ble (0 + 1) 4 = true) ∧ True) (rest := [4, 5, 6, 7, 8, 9, 10, 11]) h25 (by kernel_rfl) rfl ⟨⟨rfl, rfl⟩, trivial⟩ fun a36 h37 => ?_
      clear h25
      refine nd_op ?_
      have hpf := hwf.live hlive
      have hfold : runF all (mach0, out0) = (s.m, s.out) := by have hq := hon.cur; unfold stAt at hq; rw [List.take_of_length_le (by omega)] at hq; exact hq.symm
      refine op_call h37 rfl rfl rfl (callOk Try.func14 (by decide) rfl) (args := [.slice ao all.length ac]) rfl ((by have hq := fold_ok all ao ac aF _ (rws1 (h37.inv.get (j := 0) (p := pRow (rl evC 33 3 all ao ac aF)) rfl)) hev hal; rw [hfold] at hq; exact hq)) ?_
      rintro _ w38 ⟨rfl, hf40⟩
      refine ⟨_, rfl, ?_⟩
      have h39 := (h37.grow hf40).put (d := some 29) (v := .tuple #[.agg #[.int .u64 s.m.now, .int .i8 s.m.cur, .int .u8 s.m.s0, .int .u8 s.m.s1, .int .u8 s.m.s2, .int .u8 s.m.s3, .int .u64 s.m.r0, .int .u64 s.m.r1, .int .u64 s.m.r2, .int .u64 s.m.r3, .int .u64 s.m.word], .agg #[.bool s.out.refused, .int .i8 s.out.running, .int .u64 s.out.value]]) (T' := [(29, .tuple #[.agg #[.int .u64 s.m.now, .int .i8 s.m.cur, .int .u8 s.m.s0, .int .u8 s.m.s1, .int .u8 s.m.s2, .int .u8 s.m.s3, .int .u64 s.m.r0, .int .u64 s.m.r1, .int .u64 s.m.r2, .int .u64 s.m.r3, .int .u64 s.m.word], .agg #[.bool s.out.refused, .int .i8 s.out.running, .int .u64 s.out.value]]), (4, .pointer (some ⟨b8, 0, none⟩)), (3, .pointer (some ⟨b2, 0, none⟩)), (0, .pointer (some ⟨bm, 0, none⟩)), (1, .agg #[.int .u8 op.kind, .int .i64 op.n, .int .i64 op.m, .int .u8 op.ev.kind, .int .u32 op.ev.pick, .int .u64 op.ev.arg]), (14, .int .u8 op.kind), (28, .slice ao all.length ac)]) rfl
      clear h37
      refine nd_batch tabOk tabZ_ok [(5, {}), (6, {}), (7, {})] [4, 3, 0, 1, 14, 30, 31] (T' := [(4, .pointer (some ⟨b8, 0, none⟩)), (3, .pointer (some ⟨b2, 0, none⟩)), (0, .pointer (some ⟨bm, 0, none⟩)), (1, .agg #[.int .u8 op.kind, .int .i64 op.n, .int .i64 op.m, .int .u8 op.ev.kind, .int .u32 op.ev.pick, .int .u64 op.ev.arg]), (14, .int .u8 op.kind), (30, .agg #[.int .u64 s.m.now, .int .i8 s.m.cur, .int .u8 s.m.s0, .int .u8 s.m.s1, .int .u8 s.m.s2, .int .u8 s.m.s3, .int .u64 s.m.r0, .int .u64 s.m.r1, .int .u64 s.m.r2, .int .u64 s.m.r3, .int .u64 s.m.word]), (31, .agg #[.bool s.out.refused, .int .i8 s.out.running, .int .u64 s.out.value])]) (φ := True) (rest := [8, 9, 10, 11]) h39 (by kernel_rfl) rfl trivial fun a41 h42 => ?_
      clear h39
      refine nd_op ?_
      refine op_new tabOk (cells := [.int .u64 0, .int .i8 0, .int .u8 0, .int .u8 0, .int .u8 0, .int .u8 0, .int .u64 0, .int .u64 0, .int .u64 0, .int .u64 0, .int .u64 0]) (ty := 46) (ln := none) (L1 := fun b43 => [(bm, ⟨modC (.slice ao all.length ac) (.pointer (some ⟨bl, 0, none⟩)) s.pos s.live, 52, false⟩), (b2, ⟨[.int .u8 op.kind, .int .i64 op.n, .int .i64 op.m, .int .u8 op.ev.kind, .int .u32 op.ev.pick, .int .u64 op.ev.arg], 35, false⟩), (b8, ⟨[.int .u8 0, .int .i64 0, .int .i64 0, .int .i64 0, .bool false, .bool false, .int .i8 0, .int .u64 0, .int .u64 0, .int .i64 0, .int .i64 0, .int .i64 0], 41, false⟩), (b43, ⟨[.int .u64 0, .int .i8 0, .int .u8 0, .int .u8 0, .int .u8 0, .int .u8 0, .int .u64 0, .int .u64 0, .int .u64 0, .int .u64 0, .int .u64 0], 46, false⟩)]) h42 rfl rfl rfl rfl (by kernel_rfl) (fun _ => rfl) fun b43 w44 a45 h46 hf47 hn48 => ?_
      clear h42
      refine nd_op ?_
      refine op_new tabOk (cells := [.bool false, .int .i8 0, .int .u64 0]) (ty := 39) (ln := none) (L1 := fun b49 => [(bm, ⟨modC (.slice ao all.length ac) (.pointer (some ⟨bl, 0, none⟩)) s.pos s.live, 52, false⟩), (b2, ⟨[.int .u8 op.kind, .int .i64 op.n, .int .i64 op.m, .int .u8 op.ev.kind, .int .u32 op.ev.pick, .int .u64 op.ev.arg], 35, false⟩), (b8, ⟨[.int .u8 0, .int .i64 0, .int .i64 0, .int .i64 0, .bool false, .bool false, .int .i8 0, .int .u64 0, .int .u64 0, .int .i64 0, .int .i64 0, .int .i64 0], 41, false⟩), (b43, ⟨[.int .u64 0, .int .i8 0, .int .u8 0, .int .u8 0, .int .u8 0, .int .u8 0, .int .u64 0, .int .u64 0, .int .u64 0, .int .u64 0, .int .u64 0], 46, false⟩), (b49, ⟨[.bool false, .int .i8 0, .int .u64 0], 39, false⟩)]) h46 rfl rfl rfl rfl (by kernel_rfl) (fun _ => rfl) fun b49 w50 a51 h52 hf53 hn54 => ?_
      clear h46
      refine nd_op ?_
      refine op_store tabOk {k := 3} (L' := [(bm, ⟨modC (.slice ao all.length ac) (.pointer (some ⟨bl, 0, none⟩)) s.pos s.live, 52, false⟩), (b2, ⟨[.int .u8 op.kind, .int .i64 op.n, .int .i64 op.m, .int .u8 op.ev.kind, .int .u32 op.ev.pick, .int .u64 op.ev.arg], 35, false⟩), (b8, ⟨[.int .u8 0, .int .i64 0, .int .i64 0, .int .i64 0, .bool false, .bool false, .int .i8 0, .int .u64 0, .int .u64 0, .int .i64 0, .int .i64 0, .int .i64 0], 41, false⟩), (b43, ⟨[.int .u64 s.m.now, .int .i8 s.m.cur, .int .u8 s.m.s0, .int .u8 s.m.s1, .int .u8 s.m.s2, .int .u8 s.m.s3, .int .u64 s.m.r0, .int .u64 s.m.r1, .int .u64 s.m.r2, .int .u64 s.m.r3, .int .u64 s.m.word], 46, false⟩), (b49, ⟨[.bool false, .int .i8 0, .int .u64 0], 39, false⟩)]) (φ := b43 = b43 ∧ Nat.ble (0 + 11) 11 = true) h52 rfl rfl rfl (by kernel_rfl) ⟨rfl, rfl⟩ fun w55 h56 => ?_
      clear h52
      refine nd_op ?_
      refine op_store tabOk {k := 4} (L' := [(bm, ⟨modC (.slice ao all.length ac) (.pointer (some ⟨bl, 0, none⟩)) s.pos s.live, 52, false⟩), (b2, ⟨[.int .u8 op.kind, .int .i64 op.n, .int .i64 op.m, .int .u8 op.ev.kind, .int .u32 op.ev.pick, .int .u64 op.ev.arg], 35, false⟩), (b8, ⟨[.int .u8 0, .int .i64 0, .int .i64 0, .int .i64 0, .bool false, .bool false, .int .i8 0, .int .u64 0, .int .u64 0, .int .i64 0, .int .i64 0, .int .i64 0], 41, false⟩), (b43, ⟨[.int .u64 s.m.now, .int .i8 s.m.cur, .int .u8 s.m.s0, .int .u8 s.m.s1, .int .u8 s.m.s2, .int .u8 s.m.s3, .int .u64 s.m.r0, .int .u64 s.m.r1, .int .u64 s.m.r2, .int .u64 s.m.r3, .int .u64 s.m.word], 46, false⟩), (b49, ⟨[.bool s.out.refused, .int .i8 s.out.running, .int .u64 s.out.value], 39, false⟩)]) (φ := b49 = b49 ∧ Nat.ble (0 + 3) 3 = true) h56 rfl rfl rfl (by kernel_rfl) ⟨rfl, rfl⟩ fun w57 h58 => ?_
      clear h56
      refine nd_done ?_
      refine hK35 _ _ ?_
      clear hK35
      refine wp_seq_k fun K59 hK59 => ?_
      refine wp_seq_k fun K60 hK60 => ?_
      refine dr_start (KB := [bm, b2, b8, b49]) (Bi := [[0, 1, 2, 3], [0, 1, 2, 3], [0, 1, 2, 3], [0, 1, 2, 3], [0, 1, 2, 3], [0, 1, 2, 3], [], [0, 1, 2, 3], [0, 1, 2, 3], [0, 1, 2, 3], [0, 1, 2, 3], [], [0, 1, 2, 3]]) mixed h58 fun w61 h62 => ?_
      clear h58
      refine dr_batch tabOk tabZ_ok (by repeat (first | with_reducible exact PF.body | with_reducible apply PF.inB | with_reducible apply PF.next)) [(0, {}), (1, {}), (2, {}), (3, {k := 0, p := 0}), (4, {}), (5, {k := 1, p := 1})] [5, 4, 3, 0, 1, 14, 36, 38] (T' := [(5, .pointer (some ⟨b43, 0, none⟩)), (4, .pointer (some ⟨b8, 0, none⟩)), (3, .pointer (some ⟨b2, 0, none⟩)), (0, .pointer (some ⟨bm, 0, none⟩)), (1, .agg #[.int .u8 op.kind, .int .i64 op.n, .int .i64 op.m, .int .u8 op.ev.kind, .int .u32 op.ev.pick, .int .u64 op.ev.arg]), (14, .int .u8 op.kind), (36, .pointer (some ⟨bl, 0, none⟩)), (38, .agg #[.int .u8 op.ev.kind, .int .u32 op.ev.pick, .int .u64 op.ev.arg])]) (φ := (bm = bm ∧ Nat.ble (1 + 1) 4 = true) ∧ (b2 = b2 ∧ Nat.ble (3 + 3) 6 = true) ∧ True) (fuel := 7) h62 (by kernel_rfl) rfl (by kernel_rfl) (by kernel_rfl) ⟨trivial, trivial, trivial, rfl, trivial, rfl, trivial⟩ ⟨⟨rfl, rfl⟩, ⟨rfl, rfl⟩, trivial⟩ fun a64 h65 => ?_
      clear h62
      refine wpAnyK_two (i := 6) (j := 10) (fuel := 6) (by kernel_rfl) ?_ ?_
      ·
        refine op_call h65 rfl rfl rfl (callOk Try.func41 (by decide) rfl) (args := [.pointer (some ⟨bl, 0, none⟩), .pointer (some ⟨b43, 0, none⟩), .agg #[.int .u8 op.ev.kind, .int .u32 op.ev.pick, .int .u64 op.ev.arg]]) rfl (record_or bl d s.lg _ (h65.inv.get (j := 1) (p := pLog bl d s.lg) rfl) [] [] s.m hwf.m op.ev hop.2 b43 46 (h65.kn (k := 3) (blk := ⟨machC s.m, 46, false⟩) rfl) (fun hqq => h65.dj (k := 3) rfl rfl (by rw [hqq]; simp [Pf])) (fun hqq => h65.dj (k := 3) rfl rfl (by simp [Pf, hqq])) hwf.lg.evs hb0 (by omega) hlen hml (by omega)) ?_
        rintro _ w66 (⟨hfull, rfl, hbk, hlgr, hfrr⟩ | ⟨hnf, dr, rfl, hbk, hlgr, hfrr, hFr⟩)
        ·
          refine ⟨_, rfl, ?_⟩
          have h67 := (h65.qSetX (k := 3) (L' := [(bm, ⟨modC (.slice ao all.length ac) (.pointer (some ⟨bl, 0, none⟩)) s.pos s.live, 52, false⟩), (b2, ⟨[.int .u8 op.kind, .int .i64 op.n, .int .i64 op.m, .int .u8 op.ev.kind, .int .u32 op.ev.pick, .int .u64 op.ev.arg], 35, false⟩), (b8, ⟨[.int .u8 0, .int .i64 0, .int .i64 0, .int .i64 0, .bool false, .bool false, .int .i8 0, .int .u64 0, .int .u64 0, .int .i64 0, .int .i64 0, .int .i64 0], 41, false⟩), (b49, ⟨[.bool s.out.refused, .int .i8 s.out.running, .int .u64 s.out.value], 39, false⟩)]) rfl rfl (j := 1) (p := pLog bl d s.lg) (p' := pLog bl d s.lg) (ps' := [pRow (rl evC 33 3 all ao ac aF), pLog bl d s.lg]) rfl (pLog_ok hlgr) hfrr (fun b hb => by rcases List.mem_cons.1 hb with h1 | h1; exact .inl h1; exact .inr h1) (fun b hb => .inl hb) (List.Sublist.cons_cons _ (List.Sublist.cons_cons _ (List.Sublist.cons_cons _ (List.Sublist.cons _ (List.Sublist.cons_cons _ List.Sublist.slnil))))) (kcons (h65.ne 0 3 rfl rfl rfl) (kcons (h65.ne 1 3 rfl rfl rfl) (kcons (h65.ne 2 3 rfl rfl rfl) (kcons (h65.ne 4 3 rfl rfl rfl) knil)))) (kcons (by intro hq; cases hq) (kcons (by intro hq; cases hq) (kcons (by intro hq; cases hq) (kcons (by intro hq; cases hq) knil)))) rfl).put (d := some 39) (v := .tuple #[.agg #[.bool out0.refused, .int .i8 out0.running, .int .u64 out0.value], .bool false]) (T' := [(39, .tuple #[.agg #[.bool out0.refused, .int .i8 out0.running, .int .u64 out0.value], .bool false]), (5, .pointer (some ⟨b43, 0, none⟩)), (4, .pointer (some ⟨b8, 0, none⟩)), (3, .pointer (some ⟨b2, 0, none⟩)), (0, .pointer (some ⟨bm, 0, none⟩)), (1, .agg #[.int .u8 op.kind, .int .i64 op.n, .int .i64 op.m, .int .u8 op.ev.kind, .int .u32 op.ev.pick, .int .u64 op.ev.arg]), (14, .int .u8 op.kind), (36, .pointer (some ⟨bl, 0, none⟩)), (38, .agg #[.int .u8 op.ev.kind, .int .u32 op.ev.pick, .int .u64 op.ev.arg])]) rfl
          have hkh67 := h65.known
          refine ⟨keepNil, ?_⟩
          clear h65
          refine dr_batch tabOk tabZ_ok (by repeat (first | with_reducible exact PF.body | with_reducible apply PF.inB | with_reducible apply PF.next)) [(7, {}), (8, {}), (9, {})] [5, 4, 3, 0, 1, 14, 40, 41] (T' := [(5, .pointer (some ⟨b43, 0, none⟩)), (4, .pointer (some ⟨b8, 0, none⟩)), (3, .pointer (some ⟨b2, 0, none⟩)), (0, .pointer (some ⟨bm, 0, none⟩)), (1, .agg #[.int .u8 op.kind, .int .i64 op.n, .int .i64 op.m, .int .u8 op.ev.kind, .int .u32 op.ev.pick, .int .u64 op.ev.arg]), (14, .int .u8 op.kind), (40, .agg #[.bool out0.refused, .int .i8 out0.running, .int .u64 out0.value]), (41, .bool false)]) (φ := True) (fuel := 3) h67 (by kernel_rfl) rfl (by kernel_rfl) (by kernel_rfl) ⟨trivial, trivial, trivial, trivial⟩ trivial fun a68 h69 => ?_
          clear h67
          refine wpAnyK_one (i := 10) (fuel := 2) (by kernel_rfl) ?_
          refine op_new tabOk (cells := [.bool false, .int .i8 0, .int .u64 0]) (ty := 39) (ln := none) (L1 := fun b70 => [(bm, ⟨modC (.slice ao all.length ac) (.pointer (some ⟨bl, 0, none⟩)) s.pos s.live, 52, false⟩), (b2, ⟨[.int .u8 op.kind, .int .i64 op.n, .int .i64 op.m, .int .u8 op.ev.kind, .int .u32 op.ev.pick, .int .u64 op.ev.arg], 35, false⟩), (b8, ⟨[.int .u8 0, .int .i64 0, .int .i64 0, .int .i64 0, .bool false, .bool false, .int .i8 0, .int .u64 0, .int .u64 0, .int .i64 0, .int .i64 0, .int .i64 0], 41, false⟩), (b49, ⟨[.bool s.out.refused, .int .i8 s.out.running, .int .u64 s.out.value], 39, false⟩), (b70, ⟨[.bool false, .int .i8 0, .int .u64 0], 39, false⟩)]) h69 rfl rfl rfl rfl (by kernel_rfl) (fun _ => rfl) fun b70 w71 a72 h73 hf74 hn75 => ?_
          refine ⟨(h69.keepFr hf74 (kcons (by simp) (kcons (by simp) (kcons (by simp) (kcons (by simp) knil))))), ?_⟩
          clear h69
          refine wpAnyK_one (i := 11) (fuel := 1) (by kernel_rfl) ?_
          refine op_store tabOk {k := 4} (L' := [(bm, ⟨modC (.slice ao all.length ac) (.pointer (some ⟨bl, 0, none⟩)) s.pos s.live, 52, false⟩), (b2, ⟨[.int .u8 op.kind, .int .i64 op.n, .int .i64 op.m, .int .u8 op.ev.kind, .int .u32 op.ev.pick, .int .u64 op.ev.arg], 35, false⟩), (b8, ⟨[.int .u8 0, .int .i64 0, .int .i64 0, .int .i64 0, .bool false, .bool false, .int .i8 0, .int .u64 0, .int .u64 0, .int .i64 0, .int .i64 0, .int .i64 0], 41, false⟩), (b49, ⟨[.bool s.out.refused, .int .i8 s.out.running, .int .u64 s.out.value], 39, false⟩), (b70, ⟨[.bool out0.refused, .int .i8 out0.running, .int .u64 out0.value], 39, false⟩)]) (φ := b70 = b70 ∧ Nat.ble (0 + 3) 3 = true) h73 rfl rfl rfl (by kernel_rfl) ⟨rfl, rfl⟩ fun w76 h77 => ?_
          have hkh77 := h73.known
          refine ⟨keepNil, ?_⟩
          clear h73
          refine dr_batch tabOk tabZ_ok (by repeat (first | with_reducible exact PF.body | with_reducible apply PF.inB | with_reducible apply PF.next)) [(12, {})] [5, 4, 3, 0, 1, 14, 8] (T' := [(5, .pointer (some ⟨b43, 0, none⟩)), (4, .pointer (some ⟨b8, 0, none⟩)), (3, .pointer (some ⟨b2, 0, none⟩)), (0, .pointer (some ⟨bm, 0, none⟩)), (1, .agg #[.int .u8 op.kind, .int .i64 op.n, .int .i64 op.m, .int .u8 op.ev.kind, .int .u32 op.ev.pick, .int .u64 op.ev.arg]), (14, .int .u8 op.kind), (8, .bool false)]) (φ := True) (fuel := 0) h77 (by kernel_rfl) rfl (by kernel_rfl) (by kernel_rfl) ⟨trivial, trivial⟩ trivial fun a78 h79 => ?_
          clear h77
          refine wpAnyK_done (by kernel_rfl) ?_ _
          refine hK60 _ _ ?_
          clear hK60
          refine wp_seq_k fun K80 hK80 => ?_
          refine nd_start (l := [0, 1]) rfl ?_
          refine nd_batch tabOk tabZ_ok [(0, {}), (1, {})] [5, 4, 3, 0, 1, 14, 8, 43] (T' := [(5, .pointer (some ⟨b43, 0, none⟩)), (4, .pointer (some ⟨b8, 0, none⟩)), (3, .pointer (some ⟨b2, 0, none⟩)), (0, .pointer (some ⟨bm, 0, none⟩)), (1, .agg #[.int .u8 op.kind, .int .i64 op.n, .int .i64 op.m, .int .u8 op.ev.kind, .int .u32 op.ev.pick, .int .u64 op.ev.arg]), (14, .int .u8 op.kind), (8, .bool false), (43, .bool true)]) (φ := True) (rest := []) h79 (by kernel_rfl) rfl trivial fun a81 h82 => ?_
          clear h79
          refine nd_done ?_
          refine hK80 _ _ ?_
          clear hK80
          refine c_true h82 rfl ?_
          refine wp_seq_k fun K83 hK83 => ?_
          refine nd_start (l := [0, 1, 2]) rfl ?_
          refine nd_batch tabOk tabZ_ok [(0, {})] [5, 4, 3, 0, 1, 14, 8, 44] (T' := [(5, .pointer (some ⟨b43, 0, none⟩)), (4, .pointer (some ⟨b8, 0, none⟩)), (3, .pointer (some ⟨b2, 0, none⟩)), (0, .pointer (some ⟨bm, 0, none⟩)), (1, .agg #[.int .u8 op.kind, .int .i64 op.n, .int .i64 op.m, .int .u8 op.ev.kind, .int .u32 op.ev.pick, .int .u64 op.ev.arg]), (14, .int .u8 op.kind), (8, .bool false), (44, .pointer (some ⟨bm, 0, none⟩))]) (φ := True) (rest := [1, 2]) h82 (by kernel_rfl) rfl trivial fun a84 h85 => ?_
          clear h82
          refine nd_op ?_
          refine op_call h85 rfl rfl rfl (callOk Try.func40 (by decide) rfl) (args := [.pointer (some ⟨bm, 0, none⟩), .int .u8 4]) rfl (refuse_ok bm bl _ _ _ _ (ModAt.ofQ h85 (k := 0) rfl rfl (pos := s.pos) (live := s.live) (h85.kn (k := 0) (blk := ⟨modC (.slice ao all.length ac) (.pointer (some ⟨bl, 0, none⟩)) s.pos s.live, 52, false⟩) rfl)) 4 (by show 0 ≤ s.pos; omega) (by show s.pos ≤ (all.length : Int); omega) hev hal) ?_
          rintro _ w86 ⟨rfl, hf88⟩
          refine ⟨_, rfl, ?_⟩
          have h87 := (h85.grow hf88).put (d := some 45) (v := .agg #[.int .u8 4, .int .i64 s.pos, .int .i64 s.lg.base.idx, .int .i64 ((all.length : Nat) : Int), .bool s.live, .bool ((stAt all s.pos).2.refused), .int .i8 ((stAt all s.pos).2.running), .int .u64 ((stAt all s.pos).2.value), .int .u64 (dig (stAt all s.pos).1), .int .i64 s.pos, .int .i64 0, .int .i64 (-1)]) (T' := [(45, .agg #[.int .u8 4, .int .i64 s.pos, .int .i64 s.lg.base.idx, .int .i64 ((all.length : Nat) : Int), .bool s.live, .bool ((stAt all s.pos).2.refused), .int .i8 ((stAt all s.pos).2.running), .int .u64 ((stAt all s.pos).2.value), .int .u64 (dig (stAt all s.pos).1), .int .i64 s.pos, .int .i64 0, .int .i64 (-1)]), (5, .pointer (some ⟨b43, 0, none⟩)), (4, .pointer (some ⟨b8, 0, none⟩)), (3, .pointer (some ⟨b2, 0, none⟩)), (0, .pointer (some ⟨bm, 0, none⟩)), (1, .agg #[.int .u8 op.kind, .int .i64 op.n, .int .i64 op.m, .int .u8 op.ev.kind, .int .u32 op.ev.pick, .int .u64 op.ev.arg]), (14, .int .u8 op.kind), (8, .bool false), (44, .pointer (some ⟨bm, 0, none⟩))]) rfl
          clear h85
          refine nd_op ?_
          refine op_store tabOk {k := 2} (L' := [(bm, ⟨modC (.slice ao all.length ac) (.pointer (some ⟨bl, 0, none⟩)) s.pos s.live, 52, false⟩), (b2, ⟨[.int .u8 op.kind, .int .i64 op.n, .int .i64 op.m, .int .u8 op.ev.kind, .int .u32 op.ev.pick, .int .u64 op.ev.arg], 35, false⟩), (b8, ⟨[.int .u8 4, .int .i64 s.pos, .int .i64 s.lg.base.idx, .int .i64 ((all.length : Nat) : Int), .bool s.live, .bool ((stAt all s.pos).2.refused), .int .i8 ((stAt all s.pos).2.running), .int .u64 ((stAt all s.pos).2.value), .int .u64 (dig (stAt all s.pos).1), .int .i64 s.pos, .int .i64 0, .int .i64 (-1)], 41, false⟩), (b49, ⟨[.bool s.out.refused, .int .i8 s.out.running, .int .u64 s.out.value], 39, false⟩), (b70, ⟨[.bool out0.refused, .int .i8 out0.running, .int .u64 out0.value], 39, false⟩)]) (φ := b8 = b8 ∧ Nat.ble (0 + 12) 12 = true) h87 rfl rfl rfl (by kernel_rfl) ⟨rfl, rfl⟩ fun w89 h90 => ?_
          clear h87
          refine nd_done ?_
          refine hK83 _ _ ?_
          clear hK83
          refine wp_ret ?_
          obtain ⟨hR1, hR2⟩ := do3_full hwf hon hk0 hlive hfull
          skip
          try simp only [Exit.then, Exit.inBlock]
          try rw [if_pos trivial]
          exact s_ret tabOk tabZ_ok h90 [(.cell 4 41, {k := 2})] (vs := [.agg #[.int .u8 4, .int .i64 s.pos, .int .i64 s.lg.base.idx, .int .i64 ((all.length : Nat) : Int), .bool s.live, .bool ((stAt all s.pos).2.refused), .int .i8 ((stAt all s.pos).2.running), .int .u64 ((stAt all s.pos).2.value), .int .u64 (dig (stAt all s.pos).1), .int .i64 s.pos, .int .i64 0, .int .i64 (-1)]]) (φ := (b8 = b8 ∧ Nat.ble (0 + 12) 12 = true) ∧ True) rfl (by kernel_rfl) ⟨⟨rfl, rfl⟩, trivial⟩ (by rw [hR1, hR2]; exact ⟨bl, d, ⟨ao, ac, aF⟩, rfl, (by skip; exact (ModAt.ofQ h90 (k := 0) rfl rfl (pos := s.pos) (live := s.live) (h90.kn (k := 0) (blk := ⟨modC (.slice ao all.length ac) (.pointer (some ⟨bl, 0, none⟩)) s.pos s.live, 52, false⟩) rfl))), h90.frame, ModAt.subQ h90 (k := 0) rfl rfl⟩)
        ·
          refine ⟨_, rfl, ?_⟩
          generalize (kstep s.m op.ev).2 = ko
          have h91 := (h65.qSetX (k := 3) (L' := [(bm, ⟨modC (.slice ao all.length ac) (.pointer (some ⟨bl, 0, none⟩)) s.pos s.live, 52, false⟩), (b2, ⟨[.int .u8 op.kind, .int .i64 op.n, .int .i64 op.m, .int .u8 op.ev.kind, .int .u32 op.ev.pick, .int .u64 op.ev.arg], 35, false⟩), (b8, ⟨[.int .u8 0, .int .i64 0, .int .i64 0, .int .i64 0, .bool false, .bool false, .int .i8 0, .int .u64 0, .int .u64 0, .int .i64 0, .int .i64 0, .int .i64 0], 41, false⟩), (b49, ⟨[.bool s.out.refused, .int .i8 s.out.running, .int .u64 s.out.value], 39, false⟩)]) rfl rfl (j := 1) (p := pLog bl d s.lg) (p' := pLog bl dr (s.lg.recd s.m op.ev)) (ps' := [pRow (rl evC 33 3 all ao ac aF), pLog bl dr (s.lg.recd s.m op.ev)]) rfl (pLog_ok hlgr) hfrr (fun b hb => by rcases List.mem_cons.1 hb with h1 | h1; exact .inl h1; exact .inr h1) (fun b hb => by rcases List.mem_cons.1 hb with rfl | hb; exact .inl (by simp); rcases hFr b hb with h1 | h1; exact .inl (List.mem_cons_of_mem _ h1); exact .inr h1) (List.Sublist.cons_cons _ (List.Sublist.cons_cons _ (List.Sublist.cons_cons _ (List.Sublist.cons _ (List.Sublist.cons_cons _ List.Sublist.slnil))))) (kcons (h65.ne 0 3 rfl rfl rfl) (kcons (h65.ne 1 3 rfl rfl rfl) (kcons (h65.ne 2 3 rfl rfl rfl) (kcons (h65.ne 4 3 rfl rfl rfl) knil)))) (kcons (by intro hq; cases hq) (kcons (by intro hq; cases hq) (kcons (by intro hq; cases hq) (kcons (by intro hq; cases hq) knil)))) rfl).put (d := some 39) (v := .tuple #[.agg #[.bool ko.refused, .int .i8 ko.running, .int .u64 ko.value], .bool true]) (T' := [(39, .tuple #[.agg #[.bool ko.refused, .int .i8 ko.running, .int .u64 ko.value], .bool true]), (5, .pointer (some ⟨b43, 0, none⟩)), (4, .pointer (some ⟨b8, 0, none⟩)), (3, .pointer (some ⟨b2, 0, none⟩)), (0, .pointer (some ⟨bm, 0, none⟩)), (1, .agg #[.int .u8 op.kind, .int .i64 op.n, .int .i64 op.m, .int .u8 op.ev.kind, .int .u32 op.ev.pick, .int .u64 op.ev.arg]), (14, .int .u8 op.kind), (36, .pointer (some ⟨bl, 0, none⟩)), (38, .agg #[.int .u8 op.ev.kind, .int .u32 op.ev.pick, .int .u64 op.ev.arg])]) rfl
          have hkh91 := h65.known
          refine ⟨keepNil, ?_⟩
          clear h65
          refine dr_batch tabOk tabZ_ok (by repeat (first | with_reducible exact PF.body | with_reducible apply PF.inB | with_reducible apply PF.next)) [(7, {}), (8, {}), (9, {})] [5, 4, 3, 0, 1, 14, 40, 41] (T' := [(5, .pointer (some ⟨b43, 0, none⟩)), (4, .pointer (some ⟨b8, 0, none⟩)), (3, .pointer (some ⟨b2, 0, none⟩)), (0, .pointer (some ⟨bm, 0, none⟩)), (1, .agg #[.int .u8 op.kind, .int .i64 op.n, .int .i64 op.m, .int .u8 op.ev.kind, .int .u32 op.ev.pick, .int .u64 op.ev.arg]), (14, .int .u8 op.kind), (40, .agg #[.bool ko.refused, .int .i8 ko.running, .int .u64 ko.value]), (41, .bool true)]) (φ := True) (fuel := 3) h91 (by kernel_rfl) rfl (by kernel_rfl) (by kernel_rfl) ⟨trivial, trivial, trivial, trivial⟩ trivial fun a92 h93 => ?_
          clear h91
          refine wpAnyK_one (i := 10) (fuel := 2) (by kernel_rfl) ?_
          refine op_new tabOk (cells := [.bool false, .int .i8 0, .int .u64 0]) (ty := 39) (ln := none) (L1 := fun b94 => [(bm, ⟨modC (.slice ao all.length ac) (.pointer (some ⟨bl, 0, none⟩)) s.pos s.live, 52, false⟩), (b2, ⟨[.int .u8 op.kind, .int .i64 op.n, .int .i64 op.m, .int .u8 op.ev.kind, .int .u32 op.ev.pick, .int .u64 op.ev.arg], 35, false⟩), (b8, ⟨[.int .u8 0, .int .i64 0, .int .i64 0, .int .i64 0, .bool false, .bool false, .int .i8 0, .int .u64 0, .int .u64 0, .int .i64 0, .int .i64 0, .int .i64 0], 41, false⟩), (b49, ⟨[.bool s.out.refused, .int .i8 s.out.running, .int .u64 s.out.value], 39, false⟩), (b94, ⟨[.bool false, .int .i8 0, .int .u64 0], 39, false⟩)]) h93 rfl rfl rfl rfl (by kernel_rfl) (fun _ => rfl) fun b94 w95 a96 h97 hf98 hn99 => ?_
          refine ⟨(h93.keepFr hf98 (kcons (by simp) (kcons (by simp) (kcons (by simp) (kcons (by simp) knil))))), ?_⟩
          clear h93
          refine wpAnyK_one (i := 11) (fuel := 1) (by kernel_rfl) ?_
          refine op_store tabOk {k := 4} (L' := [(bm, ⟨modC (.slice ao all.length ac) (.pointer (some ⟨bl, 0, none⟩)) s.pos s.live, 52, false⟩), (b2, ⟨[.int .u8 op.kind, .int .i64 op.n, .int .i64 op.m, .int .u8 op.ev.kind, .int .u32 op.ev.pick, .int .u64 op.ev.arg], 35, false⟩), (b8, ⟨[.int .u8 0, .int .i64 0, .int .i64 0, .int .i64 0, .bool false, .bool false, .int .i8 0, .int .u64 0, .int .u64 0, .int .i64 0, .int .i64 0, .int .i64 0], 41, false⟩), (b49, ⟨[.bool s.out.refused, .int .i8 s.out.running, .int .u64 s.out.value], 39, false⟩), (b94, ⟨[.bool ko.refused, .int .i8 ko.running, .int .u64 ko.value], 39, false⟩)]) (φ := b94 = b94 ∧ Nat.ble (0 + 3) 3 = true) h97 rfl rfl rfl (by kernel_rfl) ⟨rfl, rfl⟩ fun w100 h101 => ?_
          have hkh101 := h97.known
          refine ⟨keepNil, ?_⟩
          clear h97
          refine dr_batch tabOk tabZ_ok (by repeat (first | with_reducible exact PF.body | with_reducible apply PF.inB | with_reducible apply PF.next)) [(12, {})] [5, 4, 3, 0, 1, 14, 8] (T' := [(5, .pointer (some ⟨b43, 0, none⟩)), (4, .pointer (some ⟨b8, 0, none⟩)), (3, .pointer (some ⟨b2, 0, none⟩)), (0, .pointer (some ⟨bm, 0, none⟩)), (1, .agg #[.int .u8 op.kind, .int .i64 op.n, .int .i64 op.m, .int .u8 op.ev.kind, .int .u32 op.ev.pick, .int .u64 op.ev.arg]), (14, .int .u8 op.kind), (8, .bool true)]) (φ := True) (fuel := 0) h101 (by kernel_rfl) rfl (by kernel_rfl) (by kernel_rfl) ⟨trivial, trivial⟩ trivial fun a102 h103 => ?_
          clear h101
          refine wpAnyK_done (by kernel_rfl) ?_ _
          refine hK60 _ _ ?_
          clear hK60
          refine wp_seq_k fun K104 hK104 => ?_
          refine nd_start (l := [0, 1]) rfl ?_
          refine nd_batch tabOk tabZ_ok [(0, {}), (1, {})] [5, 4, 3, 0, 1, 14, 8, 43] (T' := [(5, .pointer (some ⟨b43, 0, none⟩)), (4, .pointer (some ⟨b8, 0, none⟩)), (3, .pointer (some ⟨b2, 0, none⟩)), (0, .pointer (some ⟨bm, 0, none⟩)), (1, .agg #[.int .u8 op.kind, .int .i64 op.n, .int .i64 op.m, .int .u8 op.ev.kind, .int .u32 op.ev.pick, .int .u64 op.ev.arg]), (14, .int .u8 op.kind), (8, .bool true), (43, .bool false)]) (φ := True) (rest := []) h103 (by kernel_rfl) rfl trivial fun a105 h106 => ?_
          clear h103
          refine nd_done ?_
          refine hK104 _ _ ?_
          clear hK104
          refine c_false h106 rfl ?_
          refine wp_skip ?_
          refine hK59 _ _ ?_
          clear hK59
          refine wp_seq_k fun K107 hK107 => ?_
          refine dr_start (KB := [bm, b2, b8, b49, b94]) (Bi := [[0, 1, 2, 3, 4], [0, 1, 2, 3, 4], [0, 1, 2, 3, 4], [0, 1, 2, 3, 4], [0, 1, 2, 3, 4], [0, 1, 2, 3, 4], [0, 1, 2, 3, 4], [0, 1, 2, 3, 4], [], [0, 1, 2, 3, 4], [0, 1, 2, 3, 4], []]) mixed h106 fun w108 h109 => ?_
          clear h106
          refine dr_batch tabOk tabZ_ok (by repeat (first | with_reducible exact PF.body | with_reducible apply PF.inB | with_reducible apply PF.next)) [(0, {}), (1, {}), (2, {}), (3, {}), (4, {k := 0, p := 0}), (5, {}), (6, {k := 1, p := 1})] [5, 4, 3, 0, 1, 14, 8, 46, 50, 52] (T' := [(5, .pointer (some ⟨b43, 0, none⟩)), (4, .pointer (some ⟨b8, 0, none⟩)), (3, .pointer (some ⟨b2, 0, none⟩)), (0, .pointer (some ⟨bm, 0, none⟩)), (1, .agg #[.int .u8 op.kind, .int .i64 op.n, .int .i64 op.m, .int .u8 op.ev.kind, .int .u32 op.ev.pick, .int .u64 op.ev.arg]), (14, .int .u8 op.kind), (8, .bool true), (46, .pointer (some ⟨bm, 0, none⟩)), (50, .slice ao all.length ac), (52, .agg #[.int .u8 op.ev.kind, .int .u32 op.ev.pick, .int .u64 op.ev.arg])]) (φ := (bm = bm ∧ Nat.ble (0 + 1) 4 = true) ∧ (b2 = b2 ∧ Nat.ble (3 + 3) 6 = true) ∧ True) (fuel := 5) h109 (by kernel_rfl) rfl (by kernel_rfl) (by kernel_rfl) ⟨trivial, trivial, trivial, trivial, rfl, trivial, rfl, trivial⟩ ⟨⟨rfl, rfl⟩, ⟨rfl, rfl⟩, trivial⟩ fun a111 h112 => ?_
          clear h109
          refine wpAnyK_one (i := 7) (fuel := 4) (by kernel_rfl) ?_
          refine op_new tabOk (cells := [.int .u8 op.ev.kind, .int .u32 op.ev.pick, .int .u64 op.ev.arg]) (ty := 33) (ln := (some 1)) (L1 := fun b113 => [(bm, ⟨modC (.slice ao all.length ac) (.pointer (some ⟨bl, 0, none⟩)) s.pos s.live, 52, false⟩), (b2, ⟨[.int .u8 op.kind, .int .i64 op.n, .int .i64 op.m, .int .u8 op.ev.kind, .int .u32 op.ev.pick, .int .u64 op.ev.arg], 35, false⟩), (b8, ⟨[.int .u8 0, .int .i64 0, .int .i64 0, .int .i64 0, .bool false, .bool false, .int .i8 0, .int .u64 0, .int .u64 0, .int .i64 0, .int .i64 0, .int .i64 0], 41, false⟩), (b49, ⟨[.bool s.out.refused, .int .i8 s.out.running, .int .u64 s.out.value], 39, false⟩), (b94, ⟨[.bool ko.refused, .int .i8 ko.running, .int .u64 ko.value], 39, false⟩), (b113, ⟨[.int .u8 op.ev.kind, .int .u32 op.ev.pick, .int .u64 op.ev.arg], 33, false⟩)]) h112 rfl rfl rfl rfl (by kernel_rfl) (fun _ => rfl) fun b113 w114 a115 h116 hf117 hn118 => ?_
          refine ⟨(h112.keepFr hf117 (kcons (by simp) (kcons (by simp) (kcons (by simp) (kcons (by simp) (kcons (by simp) knil)))))), ?_⟩
          clear h112
          refine wpAnyK_one (i := 8) (fuel := 3) (by kernel_rfl) ?_
          have hev2 : ∀ e ∈ all ++ [op.ev], e.ok := by intro e he; rcases List.mem_append.1 he with h1 | h1; exact hev e h1; simp at h1; subst h1; exact hop.2
          have hal2 : (all ++ [op.ev]).length ≤ 1000000 := by simp; omega
          refine op_append tabOk (e := 33) (so := ao) (n := all.length) (c := ac) (xo := some ⟨b113, 0, none⟩) (m := 1) (cx := 1) (vals := all.flatMap evC) (vs := [.int .u8 op.ev.kind, .int .u32 op.ev.pick, .int .u64 op.ev.arg]) (F := aF) h116 rfl rfl rfl rfl rfl rfl rfl rfl rfl rfl rfl rfl (h116.inv.get (j := 0) (p := pRow (rl evC 33 3 all ao ac aF)) rfl) (src_one (h116.kn (k := 5) rfl) rfl ⟨rfl, rfl, rfl, trivial⟩) (by omega) rfl ?_
          intro o119 c120 F121 w122 hr123 hf124 hF125
          have hr1232 := rl_app1 (enc := evC) (xs := all) (y := op.ev) hr123
          rw [show all.length + 1 = (all ++ [op.ev]).length by simp]
          have h126 := (h116.qSet (j := 0) (p := pRow (rl evC 33 3 all ao ac aF)) (p' := pRow (rl evC 33 3 (all ++ [op.ev]) o119 c120 F121)) (ps' := [pRow (rl evC 33 3 (all ++ [op.ev]) o119 c120 F121), pLog bl dr (s.lg.recd s.m op.ev)]) rfl (pRow_ok hr1232) hf124 (fun _ h => h) hF125 (kcons (by intro hq; cases hq) (kcons (by intro hq; cases hq) (kcons (by intro hq; cases hq) (kcons (by intro hq; cases hq) (kcons (by intro hq; cases hq) (kcons (by intro hq; cases hq) knil)))))) rfl).put (d := some 54) (v := .slice o119 ((all ++ [op.ev]).length) c120) (T' := [(54, .slice o119 ((all ++ [op.ev]).length) c120), (53, .slice (some ⟨b113, 0, none⟩) 1 1), (5, .pointer (some ⟨b43, 0, none⟩)), (4, .pointer (some ⟨b8, 0, none⟩)), (3, .pointer (some ⟨b2, 0, none⟩)), (0, .pointer (some ⟨bm, 0, none⟩)), (1, .agg #[.int .u8 op.kind, .int .i64 op.n, .int .i64 op.m, .int .u8 op.ev.kind, .int .u32 op.ev.pick, .int .u64 op.ev.arg]), (14, .int .u8 op.kind), (8, .bool true), (46, .pointer (some ⟨bm, 0, none⟩)), (50, .slice ao all.length ac), (52, .agg #[.int .u8 op.ev.kind, .int .u32 op.ev.pick, .int .u64 op.ev.arg])]) rfl
          have hkh126 := h116.known
          refine ⟨keepNil, ?_⟩
          have hszh126 : w.heap.size ≤ _ := h116.frame.size
          clear h116
          refine dr_batch tabOk tabZ_ok (by repeat (first | with_reducible exact PF.body | with_reducible apply PF.inB | with_reducible apply PF.next)) [(9, {}), (10, {})] [54, 5, 4, 3, 0, 1, 14, 8, 56] (T' := [(54, .slice o119 ((all ++ [op.ev]).length) c120), (5, .pointer (some ⟨b43, 0, none⟩)), (4, .pointer (some ⟨b8, 0, none⟩)), (3, .pointer (some ⟨b2, 0, none⟩)), (0, .pointer (some ⟨bm, 0, none⟩)), (1, .agg #[.int .u8 op.kind, .int .i64 op.n, .int .i64 op.m, .int .u8 op.ev.kind, .int .u32 op.ev.pick, .int .u64 op.ev.arg]), (14, .int .u8 op.kind), (8, .bool true), (56, .pointer (some ⟨bm, 0, none⟩))]) (φ := True) (fuel := 1) h126 (by kernel_rfl) rfl (by kernel_rfl) (by kernel_rfl) ⟨trivial, trivial, trivial⟩ trivial fun a127 h128 => ?_
          clear h126
          refine wpAnyK_one (i := 11) (fuel := 0) (by kernel_rfl) ?_
          refine op_store tabOk {k := 0} (L' := [(bm, ⟨[.slice o119 ((all ++ [op.ev]).length) c120, .pointer (some ⟨bl, 0, none⟩), .int .i64 s.pos, .bool s.live], 52, false⟩), (b2, ⟨[.int .u8 op.kind, .int .i64 op.n, .int .i64 op.m, .int .u8 op.ev.kind, .int .u32 op.ev.pick, .int .u64 op.ev.arg], 35, false⟩), (b8, ⟨[.int .u8 0, .int .i64 0, .int .i64 0, .int .i64 0, .bool false, .bool false, .int .i8 0, .int .u64 0, .int .u64 0, .int .i64 0, .int .i64 0, .int .i64 0], 41, false⟩), (b49, ⟨[.bool s.out.refused, .int .i8 s.out.running, .int .u64 s.out.value], 39, false⟩), (b94, ⟨[.bool ko.refused, .int .i8 ko.running, .int .u64 ko.value], 39, false⟩), (b113, ⟨[.int .u8 op.ev.kind, .int .u32 op.ev.pick, .int .u64 op.ev.arg], 33, false⟩)]) (φ := bm = bm ∧ Nat.ble (0 + 1) 4 = true) h128 rfl rfl rfl (by kernel_rfl) ⟨rfl, rfl⟩ fun w129 h130 => ?_
          have hkh130 := h128.known
          refine ⟨keepNil, ?_⟩
          clear h128
          refine wpAnyK_done (by kernel_rfl) ?_ _
          refine hK107 _ _ ?_
          clear hK107
          refine wp_seq_k fun K131 hK131 => ?_
          refine nd_start (l := [0, 1, 2, 3, 4, 5, 6, 7]) rfl ?_
          refine nd_batch tabOk tabZ_ok [(0, {}), (1, {}), (2, {}), (3, {k := 0}), (4, {}), (5, {}), (6, {})] [5, 4, 3, 0, 1, 14, 8, 61, 63] (T' := [(5, .pointer (some ⟨b43, 0, none⟩)), (4, .pointer (some ⟨b8, 0, none⟩)), (3, .pointer (some ⟨b2, 0, none⟩)), (0, .pointer (some ⟨bm, 0, none⟩)), (1, .agg #[.int .u8 op.kind, .int .i64 op.n, .int .i64 op.m, .int .u8 op.ev.kind, .int .u32 op.ev.pick, .int .u64 op.ev.arg]), (14, .int .u8 op.kind), (8, .bool true), (61, .int .i64 (s.pos + 1)), (63, .pointer (some ⟨bm, 2, none⟩))]) (φ := (bm = bm ∧ Nat.ble (2 + 1) 4 = true) ∧ inR .i64 (s.pos + 1) ∧ True) (rest := [7]) h130 (by kernel_rfl) rfl ⟨⟨rfl, rfl⟩, ⟨by omega, by omega⟩, trivial⟩ fun a132 h133 => ?_
          clear h130
          refine nd_op ?_
          refine op_store tabOk {k := 0} (L' := [(bm, ⟨[.slice o119 ((all ++ [op.ev]).length) c120, .pointer (some ⟨bl, 0, none⟩), .int .i64 (s.pos + 1), .bool s.live], 52, false⟩), (b2, ⟨[.int .u8 op.kind, .int .i64 op.n, .int .i64 op.m, .int .u8 op.ev.kind, .int .u32 op.ev.pick, .int .u64 op.ev.arg], 35, false⟩), (b8, ⟨[.int .u8 0, .int .i64 0, .int .i64 0, .int .i64 0, .bool false, .bool false, .int .i8 0, .int .u64 0, .int .u64 0, .int .i64 0, .int .i64 0, .int .i64 0], 41, false⟩), (b49, ⟨[.bool s.out.refused, .int .i8 s.out.running, .int .u64 s.out.value], 39, false⟩), (b94, ⟨[.bool ko.refused, .int .i8 ko.running, .int .u64 ko.value], 39, false⟩), (b113, ⟨[.int .u8 op.ev.kind, .int .u32 op.ev.pick, .int .u64 op.ev.arg], 33, false⟩)]) (φ := bm = bm ∧ Nat.ble (2 + 1) 4 = true) h133 rfl rfl rfl (by kernel_rfl) ⟨rfl, rfl⟩ fun w134 h135 => ?_
          clear h133
          refine nd_done ?_
          refine hK131 _ _ ?_
          clear hK131
          refine wp_seq_k fun K136 hK136 => ?_
          refine nd_start (l := [0, 1, 2, 3, 4, 5, 6, 7]) rfl ?_
          refine nd_batch tabOk tabZ_ok [(0, {}), (1, {}), (2, {}), (3, {}), (4, {k := 0})] [5, 4, 3, 0, 1, 14, 8, 64, 68] (T' := [(5, .pointer (some ⟨b43, 0, none⟩)), (4, .pointer (some ⟨b8, 0, none⟩)), (3, .pointer (some ⟨b2, 0, none⟩)), (0, .pointer (some ⟨bm, 0, none⟩)), (1, .agg #[.int .u8 op.kind, .int .i64 op.n, .int .i64 op.m, .int .u8 op.ev.kind, .int .u32 op.ev.pick, .int .u64 op.ev.arg]), (14, .int .u8 op.kind), (8, .bool true), (64, .pointer (some ⟨bm, 0, none⟩)), (68, .int .i64 (s.pos + 1))]) (φ := (bm = bm ∧ Nat.ble (2 + 1) 4 = true) ∧ True) (rest := [5, 6, 7]) h135 (by kernel_rfl) rfl ⟨⟨rfl, rfl⟩, trivial⟩ fun a137 h138 => ?_
          clear h135
          refine nd_op ?_
          refine op_call h138 rfl rfl rfl (callOk Try.func42 (by decide) rfl) (args := [.pointer (some ⟨bm, 0, none⟩), .int .u8 0, .int .i64 (s.pos + 1)]) rfl (answer_ok bm _ _ _ _ _ (ModAt.ofQ h138 (k := 0) rfl rfl (pos := (s.pos + 1)) (live := s.live) (h138.kn (k := 0) (blk := ⟨modC (.slice o119 (all ++ [op.ev]).length c120) (.pointer (some ⟨bl, 0, none⟩)) (s.pos + 1) s.live, 52, false⟩) rfl)) 0 (s.pos + 1) (by omega) (by show s.pos + 1 ≤ ((all ++ [op.ev]).length : Int); rw [List.length_append]; simp; omega) hev2 hal2) ?_
          rintro _ w139 ⟨rfl, hf141⟩
          refine ⟨_, rfl, ?_⟩
          have h140 := (h138.grow hf141).put (d := some 69) (v := .agg #[.int .u8 0, .int .i64 (s.pos + 1), .int .i64 ((s.lg.recd s.m op.ev).base.idx), .int .i64 (((all ++ [op.ev]).length : Nat) : Int), .bool s.live, .bool ((stAt (all ++ [op.ev]) (s.pos + 1)).2.refused), .int .i8 ((stAt (all ++ [op.ev]) (s.pos + 1)).2.running), .int .u64 ((stAt (all ++ [op.ev]) (s.pos + 1)).2.value), .int .u64 (dig (stAt (all ++ [op.ev]) (s.pos + 1)).1), .int .i64 (s.pos + 1), .int .i64 0, .int .i64 (-1)]) (T' := [(69, .agg #[.int .u8 0, .int .i64 (s.pos + 1), .int .i64 ((s.lg.recd s.m op.ev).base.idx), .int .i64 (((all ++ [op.ev]).length : Nat) : Int), .bool s.live, .bool ((stAt (all ++ [op.ev]) (s.pos + 1)).2.refused), .int .i8 ((stAt (all ++ [op.ev]) (s.pos + 1)).2.running), .int .u64 ((stAt (all ++ [op.ev]) (s.pos + 1)).2.value), .int .u64 (dig (stAt (all ++ [op.ev]) (s.pos + 1)).1), .int .i64 (s.pos + 1), .int .i64 0, .int .i64 (-1)]), (5, .pointer (some ⟨b43, 0, none⟩)), (4, .pointer (some ⟨b8, 0, none⟩)), (3, .pointer (some ⟨b2, 0, none⟩)), (0, .pointer (some ⟨bm, 0, none⟩)), (1, .agg #[.int .u8 op.kind, .int .i64 op.n, .int .i64 op.m, .int .u8 op.ev.kind, .int .u32 op.ev.pick, .int .u64 op.ev.arg]), (14, .int .u8 op.kind), (8, .bool true), (64, .pointer (some ⟨bm, 0, none⟩)), (68, .int .i64 (s.pos + 1))]) rfl
          clear h138
          refine nd_op ?_
          refine op_new tabOk (cells := [.int .u8 0, .int .i64 0, .int .i64 0, .int .i64 0, .bool false, .bool false, .int .i8 0, .int .u64 0, .int .u64 0, .int .i64 0, .int .i64 0, .int .i64 0]) (ty := 41) (ln := none) (L1 := fun b142 => [(bm, ⟨[.slice o119 ((all ++ [op.ev]).length) c120, .pointer (some ⟨bl, 0, none⟩), .int .i64 (s.pos + 1), .bool s.live], 52, false⟩), (b2, ⟨[.int .u8 op.kind, .int .i64 op.n, .int .i64 op.m, .int .u8 op.ev.kind, .int .u32 op.ev.pick, .int .u64 op.ev.arg], 35, false⟩), (b8, ⟨[.int .u8 0, .int .i64 0, .int .i64 0, .int .i64 0, .bool false, .bool false, .int .i8 0, .int .u64 0, .int .u64 0, .int .i64 0, .int .i64 0, .int .i64 0], 41, false⟩), (b49, ⟨[.bool s.out.refused, .int .i8 s.out.running, .int .u64 s.out.value], 39, false⟩), (b94, ⟨[.bool ko.refused, .int .i8 ko.running, .int .u64 ko.value], 39, false⟩), (b113, ⟨[.int .u8 op.ev.kind, .int .u32 op.ev.pick, .int .u64 op.ev.arg], 33, false⟩), (b142, ⟨[.int .u8 0, .int .i64 0, .int .i64 0, .int .i64 0, .bool false, .bool false, .int .i8 0, .int .u64 0, .int .u64 0, .int .i64 0, .int .i64 0, .int .i64 0], 41, false⟩)]) h140 rfl rfl rfl rfl (by kernel_rfl) (fun _ => rfl) fun b142 w143 a144 h145 hf146 hn147 => ?_
          clear h140
          refine nd_op ?_
          refine op_store tabOk {k := 6} (L' := [(bm, ⟨[.slice o119 ((all ++ [op.ev]).length) c120, .pointer (some ⟨bl, 0, none⟩), .int .i64 (s.pos + 1), .bool s.live], 52, false⟩), (b2, ⟨[.int .u8 op.kind, .int .i64 op.n, .int .i64 op.m, .int .u8 op.ev.kind, .int .u32 op.ev.pick, .int .u64 op.ev.arg], 35, false⟩), (b8, ⟨[.int .u8 0, .int .i64 0, .int .i64 0, .int .i64 0, .bool false, .bool false, .int .i8 0, .int .u64 0, .int .u64 0, .int .i64 0, .int .i64 0, .int .i64 0], 41, false⟩), (b49, ⟨[.bool s.out.refused, .int .i8 s.out.running, .int .u64 s.out.value], 39, false⟩), (b94, ⟨[.bool ko.refused, .int .i8 ko.running, .int .u64 ko.value], 39, false⟩), (b113, ⟨[.int .u8 op.ev.kind, .int .u32 op.ev.pick, .int .u64 op.ev.arg], 33, false⟩), (b142, ⟨[.int .u8 0, .int .i64 (s.pos + 1), .int .i64 ((s.lg.recd s.m op.ev).base.idx), .int .i64 (((all ++ [op.ev]).length : Nat) : Int), .bool s.live, .bool ((stAt (all ++ [op.ev]) (s.pos + 1)).2.refused), .int .i8 ((stAt (all ++ [op.ev]) (s.pos + 1)).2.running), .int .u64 ((stAt (all ++ [op.ev]) (s.pos + 1)).2.value), .int .u64 (dig (stAt (all ++ [op.ev]) (s.pos + 1)).1), .int .i64 (s.pos + 1), .int .i64 0, .int .i64 (-1)], 41, false⟩)]) (φ := b142 = b142 ∧ Nat.ble (0 + 12) 12 = true) h145 rfl rfl rfl (by kernel_rfl) ⟨rfl, rfl⟩ fun w148 h149 => ?_
          clear h145
          refine nd_done ?_
          refine hK136 _ _ ?_
          clear hK136
          refine wp_seq_k fun K150 hK150 => ?_
          refine nd_start (l := [0, 1, 2, 3, 4, 5, 6, 7, 8]) rfl ?_
          refine nd_batch tabOk tabZ_ok [(0, {}), (1, {}), (2, {}), (3, {k := 0}), (4, {}), (5, {})] [9, 5, 4, 3, 0, 1, 14, 8, 74, 75] (T' := [(9, .pointer (some ⟨b142, 0, none⟩)), (5, .pointer (some ⟨b43, 0, none⟩)), (4, .pointer (some ⟨b8, 0, none⟩)), (3, .pointer (some ⟨b2, 0, none⟩)), (0, .pointer (some ⟨bm, 0, none⟩)), (1, .agg #[.int .u8 op.kind, .int .i64 op.n, .int .i64 op.m, .int .u8 op.ev.kind, .int .u32 op.ev.pick, .int .u64 op.ev.arg]), (14, .int .u8 op.kind), (8, .bool true), (74, .int .i64 ((s.pos + 1) - 1)), (75, .pointer (some ⟨b142, 9, none⟩))]) (φ := (bm = bm ∧ Nat.ble (2 + 1) 4 = true) ∧ inR .i64 ((s.pos + 1) - 1) ∧ True) (rest := [6, 7, 8]) h149 (by kernel_rfl) rfl ⟨⟨rfl, rfl⟩, ⟨by omega, by omega⟩, trivial⟩ fun a151 h152 => ?_
          clear h149
          refine nd_op ?_
          refine op_store tabOk {k := 6} (L' := [(bm, ⟨[.slice o119 ((all ++ [op.ev]).length) c120, .pointer (some ⟨bl, 0, none⟩), .int .i64 (s.pos + 1), .bool s.live], 52, false⟩), (b2, ⟨[.int .u8 op.kind, .int .i64 op.n, .int .i64 op.m, .int .u8 op.ev.kind, .int .u32 op.ev.pick, .int .u64 op.ev.arg], 35, false⟩), (b8, ⟨[.int .u8 0, .int .i64 0, .int .i64 0, .int .i64 0, .bool false, .bool false, .int .i8 0, .int .u64 0, .int .u64 0, .int .i64 0, .int .i64 0, .int .i64 0], 41, false⟩), (b49, ⟨[.bool s.out.refused, .int .i8 s.out.running, .int .u64 s.out.value], 39, false⟩), (b94, ⟨[.bool ko.refused, .int .i8 ko.running, .int .u64 ko.value], 39, false⟩), (b113, ⟨[.int .u8 op.ev.kind, .int .u32 op.ev.pick, .int .u64 op.ev.arg], 33, false⟩), (b142, ⟨[.int .u8 0, .int .i64 (s.pos + 1), .int .i64 ((s.lg.recd s.m op.ev).base.idx), .int .i64 (((all ++ [op.ev]).length : Nat) : Int), .bool s.live, .bool ((stAt (all ++ [op.ev]) (s.pos + 1)).2.refused), .int .i8 ((stAt (all ++ [op.ev]) (s.pos + 1)).2.running), .int .u64 ((stAt (all ++ [op.ev]) (s.pos + 1)).2.value), .int .u64 (dig (stAt (all ++ [op.ev]) (s.pos + 1)).1), .int .i64 ((s.pos + 1) - 1), .int .i64 0, .int .i64 (-1)], 41, false⟩)]) (φ := b142 = b142 ∧ Nat.ble (9 + 1) 12 = true) h152 rfl rfl rfl (by kernel_rfl) ⟨rfl, rfl⟩ fun w153 h154 => ?_
          clear h152
          refine nd_batch tabOk tabZ_ok [(7, {})] [9, 5, 4, 3, 0, 1, 14, 8, 76] (T' := [(9, .pointer (some ⟨b142, 0, none⟩)), (5, .pointer (some ⟨b43, 0, none⟩)), (4, .pointer (some ⟨b8, 0, none⟩)), (3, .pointer (some ⟨b2, 0, none⟩)), (0, .pointer (some ⟨bm, 0, none⟩)), (1, .agg #[.int .u8 op.kind, .int .i64 op.n, .int .i64 op.m, .int .u8 op.ev.kind, .int .u32 op.ev.pick, .int .u64 op.ev.arg]), (14, .int .u8 op.kind), (8, .bool true), (76, .pointer (some ⟨b142, 10, none⟩))]) (φ := True) (rest := [8]) h154 (by kernel_rfl) rfl trivial fun a155 h156 => ?_
          clear h154
          refine nd_op ?_
          refine op_store tabOk {k := 6} (L' := [(bm, ⟨[.slice o119 ((all ++ [op.ev]).length) c120, .pointer (some ⟨bl, 0, none⟩), .int .i64 (s.pos + 1), .bool s.live], 52, false⟩), (b2, ⟨[.int .u8 op.kind, .int .i64 op.n, .int .i64 op.m, .int .u8 op.ev.kind, .int .u32 op.ev.pick, .int .u64 op.ev.arg], 35, false⟩), (b8, ⟨[.int .u8 0, .int .i64 0, .int .i64 0, .int .i64 0, .bool false, .bool false, .int .i8 0, .int .u64 0, .int .u64 0, .int .i64 0, .int .i64 0, .int .i64 0], 41, false⟩), (b49, ⟨[.bool s.out.refused, .int .i8 s.out.running, .int .u64 s.out.value], 39, false⟩), (b94, ⟨[.bool ko.refused, .int .i8 ko.running, .int .u64 ko.value], 39, false⟩), (b113, ⟨[.int .u8 op.ev.kind, .int .u32 op.ev.pick, .int .u64 op.ev.arg], 33, false⟩), (b142, ⟨[.int .u8 0, .int .i64 (s.pos + 1), .int .i64 ((s.lg.recd s.m op.ev).base.idx), .int .i64 (((all ++ [op.ev]).length : Nat) : Int), .bool s.live, .bool ((stAt (all ++ [op.ev]) (s.pos + 1)).2.refused), .int .i8 ((stAt (all ++ [op.ev]) (s.pos + 1)).2.running), .int .u64 ((stAt (all ++ [op.ev]) (s.pos + 1)).2.value), .int .u64 (dig (stAt (all ++ [op.ev]) (s.pos + 1)).1), .int .i64 ((s.pos + 1) - 1), .int .i64 1, .int .i64 (-1)], 41, false⟩)]) (φ := b142 = b142 ∧ Nat.ble (10 + 1) 12 = true) h156 rfl rfl rfl (by kernel_rfl) ⟨rfl, rfl⟩ fun w157 h158 => ?_
          clear h156
          refine nd_done ?_
          refine hK150 _ _ ?_
          clear hK150
          refine wp_seq_k fun K159 hK159 => ?_
          refine nd_start (l := [0, 1]) rfl ?_
          refine nd_batch tabOk tabZ_ok [(0, {k := 6})] [9, 5, 4, 3, 0, 1, 14, 8, 77] (T' := [(9, .pointer (some ⟨b142, 0, none⟩)), (5, .pointer (some ⟨b43, 0, none⟩)), (4, .pointer (some ⟨b8, 0, none⟩)), (3, .pointer (some ⟨b2, 0, none⟩)), (0, .pointer (some ⟨bm, 0, none⟩)), (1, .agg #[.int .u8 op.kind, .int .i64 op.n, .int .i64 op.m, .int .u8 op.ev.kind, .int .u32 op.ev.pick, .int .u64 op.ev.arg]), (14, .int .u8 op.kind), (8, .bool true), (77, .agg #[.int .u8 0, .int .i64 (s.pos + 1), .int .i64 ((s.lg.recd s.m op.ev).base.idx), .int .i64 (((all ++ [op.ev]).length : Nat) : Int), .bool s.live, .bool ((stAt (all ++ [op.ev]) (s.pos + 1)).2.refused), .int .i8 ((stAt (all ++ [op.ev]) (s.pos + 1)).2.running), .int .u64 ((stAt (all ++ [op.ev]) (s.pos + 1)).2.value), .int .u64 (dig (stAt (all ++ [op.ev]) (s.pos + 1)).1), .int .i64 ((s.pos + 1) - 1), .int .i64 1, .int .i64 (-1)])]) (φ := (b142 = b142 ∧ Nat.ble (0 + 12) 12 = true) ∧ True) (rest := [1]) h158 (by kernel_rfl) rfl ⟨⟨rfl, rfl⟩, trivial⟩ fun a160 h161 => ?_
          clear h158
          refine nd_op ?_
          refine op_store tabOk {k := 2} (L' := [(bm, ⟨[.slice o119 ((all ++ [op.ev]).length) c120, .pointer (some ⟨bl, 0, none⟩), .int .i64 (s.pos + 1), .bool s.live], 52, false⟩), (b2, ⟨[.int .u8 op.kind, .int .i64 op.n, .int .i64 op.m, .int .u8 op.ev.kind, .int .u32 op.ev.pick, .int .u64 op.ev.arg], 35, false⟩), (b8, ⟨[.int .u8 0, .int .i64 (s.pos + 1), .int .i64 ((s.lg.recd s.m op.ev).base.idx), .int .i64 (((all ++ [op.ev]).length : Nat) : Int), .bool s.live, .bool ((stAt (all ++ [op.ev]) (s.pos + 1)).2.refused), .int .i8 ((stAt (all ++ [op.ev]) (s.pos + 1)).2.running), .int .u64 ((stAt (all ++ [op.ev]) (s.pos + 1)).2.value), .int .u64 (dig (stAt (all ++ [op.ev]) (s.pos + 1)).1), .int .i64 ((s.pos + 1) - 1), .int .i64 1, .int .i64 (-1)], 41, false⟩), (b49, ⟨[.bool s.out.refused, .int .i8 s.out.running, .int .u64 s.out.value], 39, false⟩), (b94, ⟨[.bool ko.refused, .int .i8 ko.running, .int .u64 ko.value], 39, false⟩), (b113, ⟨[.int .u8 op.ev.kind, .int .u32 op.ev.pick, .int .u64 op.ev.arg], 33, false⟩), (b142, ⟨[.int .u8 0, .int .i64 (s.pos + 1), .int .i64 ((s.lg.recd s.m op.ev).base.idx), .int .i64 (((all ++ [op.ev]).length : Nat) : Int), .bool s.live, .bool ((stAt (all ++ [op.ev]) (s.pos + 1)).2.refused), .int .i8 ((stAt (all ++ [op.ev]) (s.pos + 1)).2.running), .int .u64 ((stAt (all ++ [op.ev]) (s.pos + 1)).2.value), .int .u64 (dig (stAt (all ++ [op.ev]) (s.pos + 1)).1), .int .i64 ((s.pos + 1) - 1), .int .i64 1, .int .i64 (-1)], 41, false⟩)]) (φ := b8 = b8 ∧ Nat.ble (0 + 12) 12 = true) h161 rfl rfl rfl (by kernel_rfl) ⟨rfl, rfl⟩ fun w162 h163 => ?_
          clear h161
          refine nd_done ?_
          refine hK159 _ _ ?_
          clear hK159
          refine wp_ret ?_
          obtain ⟨hR1, hR2⟩ := do3_step hwf hon hop.2 hk0 hlive hnf
          skip
          try simp only [Exit.then, Exit.inBlock]
          try rw [if_pos trivial]
          exact s_ret tabOk tabZ_ok h163 [(.cell 4 41, {k := 2})] (vs := [.agg #[.int .u8 0, .int .i64 (s.pos + 1), .int .i64 ((s.lg.recd s.m op.ev).base.idx), .int .i64 (((all ++ [op.ev]).length : Nat) : Int), .bool s.live, .bool ((stAt (all ++ [op.ev]) (s.pos + 1)).2.refused), .int .i8 ((stAt (all ++ [op.ev]) (s.pos + 1)).2.running), .int .u64 ((stAt (all ++ [op.ev]) (s.pos + 1)).2.value), .int .u64 (dig (stAt (all ++ [op.ev]) (s.pos + 1)).1), .int .i64 ((s.pos + 1) - 1), .int .i64 1, .int .i64 (-1)]]) (φ := (b8 = b8 ∧ Nat.ble (0 + 12) 12 = true) ∧ True) rfl (by kernel_rfl) ⟨⟨rfl, rfl⟩, trivial⟩ (by rw [hR1, hR2]; exact ⟨bl, dr, ⟨o119, c120, F121⟩, rfl, (by skip; exact (ModAt.ofQ h163 (k := 0) rfl rfl (pos := (s.pos + 1)) (live := s.live) (h163.kn (k := 0) (blk := ⟨modC (.slice o119 (all ++ [op.ev]).length c120) (.pointer (some ⟨bl, 0, none⟩)) (s.pos + 1) s.live, 52, false⟩) rfl))), h163.frame, ModAt.subQ h163 (k := 0) rfl rfl⟩)
      ·
        refine op_new tabOk (cells := [.bool false, .int .i8 0, .int .u64 0]) (ty := 39) (ln := none) (L1 := fun b164 => [(bm, ⟨modC (.slice ao all.length ac) (.pointer (some ⟨bl, 0, none⟩)) s.pos s.live, 52, false⟩), (b2, ⟨[.int .u8 op.kind, .int .i64 op.n, .int .i64 op.m, .int .u8 op.ev.kind, .int .u32 op.ev.pick, .int .u64 op.ev.arg], 35, false⟩), (b8, ⟨[.int .u8 0, .int .i64 0, .int .i64 0, .int .i64 0, .bool false, .bool false, .int .i8 0, .int .u64 0, .int .u64 0, .int .i64 0, .int .i64 0, .int .i64 0], 41, false⟩), (b43, ⟨[.int .u64 s.m.now, .int .i8 s.m.cur, .int .u8 s.m.s0, .int .u8 s.m.s1, .int .u8 s.m.s2, .int .u8 s.m.s3, .int .u64 s.m.r0, .int .u64 s.m.r1, .int .u64 s.m.r2, .int .u64 s.m.r3, .int .u64 s.m.word], 46, false⟩), (b49, ⟨[.bool s.out.refused, .int .i8 s.out.running, .int .u64 s.out.value], 39, false⟩), (b164, ⟨[.bool false, .int .i8 0, .int .u64 0], 39, false⟩)]) h65 rfl rfl rfl rfl (by kernel_rfl) (fun _ => rfl) fun b164 w165 a166 h167 hf168 hn169 => ?_
        refine ⟨(h65.keepFr hf168 (kcons (by simp) (kcons (by simp) (kcons (by simp) (kcons (by simp) knil))))), ?_⟩
        clear h65
        refine wpAnyK_one (i := 6) (fuel := 5) (by kernel_rfl) ?_
        refine op_call h167 rfl rfl rfl (callOk Try.func41 (by decide) rfl) (args := [.pointer (some ⟨bl, 0, none⟩), .pointer (some ⟨b43, 0, none⟩), .agg #[.int .u8 op.ev.kind, .int .u32 op.ev.pick, .int .u64 op.ev.arg]]) rfl (record_or bl d s.lg _ (h167.inv.get (j := 1) (p := pLog bl d s.lg) rfl) [] [] s.m hwf.m op.ev hop.2 b43 46 (h167.kn (k := 3) (blk := ⟨machC s.m, 46, false⟩) rfl) (fun hqq => h167.dj (k := 3) rfl rfl (by rw [hqq]; simp [Pf])) (fun hqq => h167.dj (k := 3) rfl rfl (by simp [Pf, hqq])) hwf.lg.evs hb0 (by omega) hlen hml (by omega)) ?_
        rintro _ w170 (⟨hfull, rfl, hbk, hlgr, hfrr⟩ | ⟨hnf, dr, rfl, hbk, hlgr, hfrr, hFr⟩)
        ·
          refine ⟨_, rfl, ?_⟩
          have h171 := (h167.qSetX (k := 3) (L' := [(bm, ⟨modC (.slice ao all.length ac) (.pointer (some ⟨bl, 0, none⟩)) s.pos s.live, 52, false⟩), (b2, ⟨[.int .u8 op.kind, .int .i64 op.n, .int .i64 op.m, .int .u8 op.ev.kind, .int .u32 op.ev.pick, .int .u64 op.ev.arg], 35, false⟩), (b8, ⟨[.int .u8 0, .int .i64 0, .int .i64 0, .int .i64 0, .bool false, .bool false, .int .i8 0, .int .u64 0, .int .u64 0, .int .i64 0, .int .i64 0, .int .i64 0], 41, false⟩), (b49, ⟨[.bool s.out.refused, .int .i8 s.out.running, .int .u64 s.out.value], 39, false⟩), (b164, ⟨[.bool false, .int .i8 0, .int .u64 0], 39, false⟩)]) rfl rfl (j := 1) (p := pLog bl d s.lg) (p' := pLog bl d s.lg) (ps' := [pRow (rl evC 33 3 all ao ac aF), pLog bl d s.lg]) rfl (pLog_ok hlgr) hfrr (fun b hb => by rcases List.mem_cons.1 hb with h1 | h1; exact .inl h1; exact .inr h1) (fun b hb => .inl hb) (List.Sublist.cons_cons _ (List.Sublist.cons_cons _ (List.Sublist.cons_cons _ (List.Sublist.cons _ (List.Sublist.cons_cons _ (List.Sublist.cons_cons _ List.Sublist.slnil)))))) (kcons (h167.ne 0 3 rfl rfl rfl) (kcons (h167.ne 1 3 rfl rfl rfl) (kcons (h167.ne 2 3 rfl rfl rfl) (kcons (h167.ne 4 3 rfl rfl rfl) (kcons (h167.ne 5 3 rfl rfl rfl) knil))))) (kcons (by intro hq; cases hq) (kcons (by intro hq; cases hq) (kcons (by intro hq; cases hq) (kcons (by intro hq; cases hq) (kcons (by intro hq; cases hq) knil))))) rfl).put (d := some 39) (v := .tuple #[.agg #[.bool out0.refused, .int .i8 out0.running, .int .u64 out0.value], .bool false]) (T' := [(39, .tuple #[.agg #[.bool out0.refused, .int .i8 out0.running, .int .u64 out0.value], .bool false]), (7, .pointer (some ⟨b164, 0, none⟩)), (5, .pointer (some ⟨b43, 0, none⟩)), (4, .pointer (some ⟨b8, 0, none⟩)), (3, .pointer (some ⟨b2, 0, none⟩)), (0, .pointer (some ⟨bm, 0, none⟩)), (1, .agg #[.int .u8 op.kind, .int .i64 op.n, .int .i64 op.m, .int .u8 op.ev.kind, .int .u32 op.ev.pick, .int .u64 op.ev.arg]), (14, .int .u8 op.kind), (36, .pointer (some ⟨bl, 0, none⟩)), (38, .agg #[.int .u8 op.ev.kind, .int .u32 op.ev.pick, .int .u64 op.ev.arg])]) rfl
          have hkh171 := h167.known
          refine ⟨keepNil, ?_⟩
          clear h167
          refine dr_batch tabOk tabZ_ok (by repeat (first | with_reducible exact PF.body | with_reducible apply PF.inB | with_reducible apply PF.next)) [(7, {}), (8, {}), (9, {})] [7, 5, 4, 3, 0, 1, 14, 40, 41] (T' := [(7, .pointer (some ⟨b164, 0, none⟩)), (5, .pointer (some ⟨b43, 0, none⟩)), (4, .pointer (some ⟨b8, 0, none⟩)), (3, .pointer (some ⟨b2, 0, none⟩)), (0, .pointer (some ⟨bm, 0, none⟩)), (1, .agg #[.int .u8 op.kind, .int .i64 op.n, .int .i64 op.m, .int .u8 op.ev.kind, .int .u32 op.ev.pick, .int .u64 op.ev.arg]), (14, .int .u8 op.kind), (40, .agg #[.bool out0.refused, .int .i8 out0.running, .int .u64 out0.value]), (41, .bool false)]) (φ := True) (fuel := 2) h171 (by kernel_rfl) rfl (by kernel_rfl) (by kernel_rfl) ⟨trivial, trivial, trivial, trivial⟩ trivial fun a172 h173 => ?_
          clear h171
          refine wpAnyK_one (i := 11) (fuel := 1) (by kernel_rfl) ?_
          refine op_store tabOk {k := 4} (L' := [(bm, ⟨modC (.slice ao all.length ac) (.pointer (some ⟨bl, 0, none⟩)) s.pos s.live, 52, false⟩), (b2, ⟨[.int .u8 op.kind, .int .i64 op.n, .int .i64 op.m, .int .u8 op.ev.kind, .int .u32 op.ev.pick, .int .u64 op.ev.arg], 35, false⟩), (b8, ⟨[.int .u8 0, .int .i64 0, .int .i64 0, .int .i64 0, .bool false, .bool false, .int .i8 0, .int .u64 0, .int .u64 0, .int .i64 0, .int .i64 0, .int .i64 0], 41, false⟩), (b49, ⟨[.bool s.out.refused, .int .i8 s.out.running, .int .u64 s.out.value], 39, false⟩), (b164, ⟨[.bool out0.refused, .int .i8 out0.running, .int .u64 out0.value], 39, false⟩)]) (φ := b164 = b164 ∧ Nat.ble (0 + 3) 3 = true) h173 rfl rfl rfl (by kernel_rfl) ⟨rfl, rfl⟩ fun w174 h175 => ?_
          have hkh175 := h173.known
          refine ⟨keepNil, ?_⟩
          clear h173
          refine dr_batch tabOk tabZ_ok (by repeat (first | with_reducible exact PF.body | with_reducible apply PF.inB | with_reducible apply PF.next)) [(12, {})] [5, 4, 3, 0, 1, 14, 8] (T' := [(5, .pointer (some ⟨b43, 0, none⟩)), (4, .pointer (some ⟨b8, 0, none⟩)), (3, .pointer (some ⟨b2, 0, none⟩)), (0, .pointer (some ⟨bm, 0, none⟩)), (1, .agg #[.int .u8 op.kind, .int .i64 op.n, .int .i64 op.m, .int .u8 op.ev.kind, .int .u32 op.ev.pick, .int .u64 op.ev.arg]), (14, .int .u8 op.kind), (8, .bool false)]) (φ := True) (fuel := 0) h175 (by kernel_rfl) rfl (by kernel_rfl) (by kernel_rfl) ⟨trivial, trivial⟩ trivial fun a176 h177 => ?_
          clear h175
          refine wpAnyK_done (by kernel_rfl) ?_ _
          refine hK60 _ _ ?_
          clear hK60
          refine wp_seq_k fun K178 hK178 => ?_
          refine nd_start (l := [0, 1]) rfl ?_
          refine nd_batch tabOk tabZ_ok [(0, {}), (1, {})] [5, 4, 3, 0, 1, 14, 8, 43] (T' := [(5, .pointer (some ⟨b43, 0, none⟩)), (4, .pointer (some ⟨b8, 0, none⟩)), (3, .pointer (some ⟨b2, 0, none⟩)), (0, .pointer (some ⟨bm, 0, none⟩)), (1, .agg #[.int .u8 op.kind, .int .i64 op.n, .int .i64 op.m, .int .u8 op.ev.kind, .int .u32 op.ev.pick, .int .u64 op.ev.arg]), (14, .int .u8 op.kind), (8, .bool false), (43, .bool true)]) (φ := True) (rest := []) h177 (by kernel_rfl) rfl trivial fun a179 h180 => ?_
          clear h177
          refine nd_done ?_
          refine hK178 _ _ ?_
          clear hK178
          refine c_true h180 rfl ?_
          refine wp_seq_k fun K181 hK181 => ?_
          refine nd_start (l := [0, 1, 2]) rfl ?_
          refine nd_batch tabOk tabZ_ok [(0, {})] [5, 4, 3, 0, 1, 14, 8, 44] (T' := [(5, .pointer (some ⟨b43, 0, none⟩)), (4, .pointer (some ⟨b8, 0, none⟩)), (3, .pointer (some ⟨b2, 0, none⟩)), (0, .pointer (some ⟨bm, 0, none⟩)), (1, .agg #[.int .u8 op.kind, .int .i64 op.n, .int .i64 op.m, .int .u8 op.ev.kind, .int .u32 op.ev.pick, .int .u64 op.ev.arg]), (14, .int .u8 op.kind), (8, .bool false), (44, .pointer (some ⟨bm, 0, none⟩))]) (φ := True) (rest := [1, 2]) h180 (by kernel_rfl) rfl trivial fun a182 h183 => ?_
          clear h180
          refine nd_op ?_
          refine op_call h183 rfl rfl rfl (callOk Try.func40 (by decide) rfl) (args := [.pointer (some ⟨bm, 0, none⟩), .int .u8 4]) rfl (refuse_ok bm bl _ _ _ _ (ModAt.ofQ h183 (k := 0) rfl rfl (pos := s.pos) (live := s.live) (h183.kn (k := 0) (blk := ⟨modC (.slice ao all.length ac) (.pointer (some ⟨bl, 0, none⟩)) s.pos s.live, 52, false⟩) rfl)) 4 (by show 0 ≤ s.pos; omega) (by show s.pos ≤ (all.length : Int); omega) hev hal) ?_
          rintro _ w184 ⟨rfl, hf186⟩
          refine ⟨_, rfl, ?_⟩
          have h185 := (h183.grow hf186).put (d := some 45) (v := .agg #[.int .u8 4, .int .i64 s.pos, .int .i64 s.lg.base.idx, .int .i64 ((all.length : Nat) : Int), .bool s.live, .bool ((stAt all s.pos).2.refused), .int .i8 ((stAt all s.pos).2.running), .int .u64 ((stAt all s.pos).2.value), .int .u64 (dig (stAt all s.pos).1), .int .i64 s.pos, .int .i64 0, .int .i64 (-1)]) (T' := [(45, .agg #[.int .u8 4, .int .i64 s.pos, .int .i64 s.lg.base.idx, .int .i64 ((all.length : Nat) : Int), .bool s.live, .bool ((stAt all s.pos).2.refused), .int .i8 ((stAt all s.pos).2.running), .int .u64 ((stAt all s.pos).2.value), .int .u64 (dig (stAt all s.pos).1), .int .i64 s.pos, .int .i64 0, .int .i64 (-1)]), (5, .pointer (some ⟨b43, 0, none⟩)), (4, .pointer (some ⟨b8, 0, none⟩)), (3, .pointer (some ⟨b2, 0, none⟩)), (0, .pointer (some ⟨bm, 0, none⟩)), (1, .agg #[.int .u8 op.kind, .int .i64 op.n, .int .i64 op.m, .int .u8 op.ev.kind, .int .u32 op.ev.pick, .int .u64 op.ev.arg]), (14, .int .u8 op.kind), (8, .bool false), (44, .pointer (some ⟨bm, 0, none⟩))]) rfl
          clear h183
          refine nd_op ?_
          refine op_store tabOk {k := 2} (L' := [(bm, ⟨modC (.slice ao all.length ac) (.pointer (some ⟨bl, 0, none⟩)) s.pos s.live, 52, false⟩), (b2, ⟨[.int .u8 op.kind, .int .i64 op.n, .int .i64 op.m, .int .u8 op.ev.kind, .int .u32 op.ev.pick, .int .u64 op.ev.arg], 35, false⟩), (b8, ⟨[.int .u8 4, .int .i64 s.pos, .int .i64 s.lg.base.idx, .int .i64 ((all.length : Nat) : Int), .bool s.live, .bool ((stAt all s.pos).2.refused), .int .i8 ((stAt all s.pos).2.running), .int .u64 ((stAt all s.pos).2.value), .int .u64 (dig (stAt all s.pos).1), .int .i64 s.pos, .int .i64 0, .int .i64 (-1)], 41, false⟩), (b49, ⟨[.bool s.out.refused, .int .i8 s.out.running, .int .u64 s.out.value], 39, false⟩), (b164, ⟨[.bool out0.refused, .int .i8 out0.running, .int .u64 out0.value], 39, false⟩)]) (φ := b8 = b8 ∧ Nat.ble (0 + 12) 12 = true) h185 rfl rfl rfl (by kernel_rfl) ⟨rfl, rfl⟩ fun w187 h188 => ?_
          clear h185
          refine nd_done ?_
          refine hK181 _ _ ?_
          clear hK181
          refine wp_ret ?_
          obtain ⟨hR1, hR2⟩ := do3_full hwf hon hk0 hlive hfull
          skip
          try simp only [Exit.then, Exit.inBlock]
          try rw [if_pos trivial]
          exact s_ret tabOk tabZ_ok h188 [(.cell 4 41, {k := 2})] (vs := [.agg #[.int .u8 4, .int .i64 s.pos, .int .i64 s.lg.base.idx, .int .i64 ((all.length : Nat) : Int), .bool s.live, .bool ((stAt all s.pos).2.refused), .int .i8 ((stAt all s.pos).2.running), .int .u64 ((stAt all s.pos).2.value), .int .u64 (dig (stAt all s.pos).1), .int .i64 s.pos, .int .i64 0, .int .i64 (-1)]]) (φ := (b8 = b8 ∧ Nat.ble (0 + 12) 12 = true) ∧ True) rfl (by kernel_rfl) ⟨⟨rfl, rfl⟩, trivial⟩ (by rw [hR1, hR2]; exact ⟨bl, d, ⟨ao, ac, aF⟩, rfl, (by skip; exact (ModAt.ofQ h188 (k := 0) rfl rfl (pos := s.pos) (live := s.live) (h188.kn (k := 0) (blk := ⟨modC (.slice ao all.length ac) (.pointer (some ⟨bl, 0, none⟩)) s.pos s.live, 52, false⟩) rfl))), h188.frame, ModAt.subQ h188 (k := 0) rfl rfl⟩)
        ·
          refine ⟨_, rfl, ?_⟩
          generalize (kstep s.m op.ev).2 = ko
          have h189 := (h167.qSetX (k := 3) (L' := [(bm, ⟨modC (.slice ao all.length ac) (.pointer (some ⟨bl, 0, none⟩)) s.pos s.live, 52, false⟩), (b2, ⟨[.int .u8 op.kind, .int .i64 op.n, .int .i64 op.m, .int .u8 op.ev.kind, .int .u32 op.ev.pick, .int .u64 op.ev.arg], 35, false⟩), (b8, ⟨[.int .u8 0, .int .i64 0, .int .i64 0, .int .i64 0, .bool false, .bool false, .int .i8 0, .int .u64 0, .int .u64 0, .int .i64 0, .int .i64 0, .int .i64 0], 41, false⟩), (b49, ⟨[.bool s.out.refused, .int .i8 s.out.running, .int .u64 s.out.value], 39, false⟩), (b164, ⟨[.bool false, .int .i8 0, .int .u64 0], 39, false⟩)]) rfl rfl (j := 1) (p := pLog bl d s.lg) (p' := pLog bl dr (s.lg.recd s.m op.ev)) (ps' := [pRow (rl evC 33 3 all ao ac aF), pLog bl dr (s.lg.recd s.m op.ev)]) rfl (pLog_ok hlgr) hfrr (fun b hb => by rcases List.mem_cons.1 hb with h1 | h1; exact .inl h1; exact .inr h1) (fun b hb => by rcases List.mem_cons.1 hb with rfl | hb; exact .inl (by simp); rcases hFr b hb with h1 | h1; exact .inl (List.mem_cons_of_mem _ h1); exact .inr h1) (List.Sublist.cons_cons _ (List.Sublist.cons_cons _ (List.Sublist.cons_cons _ (List.Sublist.cons _ (List.Sublist.cons_cons _ (List.Sublist.cons_cons _ List.Sublist.slnil)))))) (kcons (h167.ne 0 3 rfl rfl rfl) (kcons (h167.ne 1 3 rfl rfl rfl) (kcons (h167.ne 2 3 rfl rfl rfl) (kcons (h167.ne 4 3 rfl rfl rfl) (kcons (h167.ne 5 3 rfl rfl rfl) knil))))) (kcons (by intro hq; cases hq) (kcons (by intro hq; cases hq) (kcons (by intro hq; cases hq) (kcons (by intro hq; cases hq) (kcons (by intro hq; cases hq) knil))))) rfl).put (d := some 39) (v := .tuple #[.agg #[.bool ko.refused, .int .i8 ko.running, .int .u64 ko.value], .bool true]) (T' := [(39, .tuple #[.agg #[.bool ko.refused, .int .i8 ko.running, .int .u64 ko.value], .bool true]), (7, .pointer (some ⟨b164, 0, none⟩)), (5, .pointer (some ⟨b43, 0, none⟩)), (4, .pointer (some ⟨b8, 0, none⟩)), (3, .pointer (some ⟨b2, 0, none⟩)), (0, .pointer (some ⟨bm, 0, none⟩)), (1, .agg #[.int .u8 op.kind, .int .i64 op.n, .int .i64 op.m, .int .u8 op.ev.kind, .int .u32 op.ev.pick, .int .u64 op.ev.arg]), (14, .int .u8 op.kind), (36, .pointer (some ⟨bl, 0, none⟩)), (38, .agg #[.int .u8 op.ev.kind, .int .u32 op.ev.pick, .int .u64 op.ev.arg])]) rfl
          have hkh189 := h167.known
          refine ⟨keepNil, ?_⟩
          clear h167
          refine dr_batch tabOk tabZ_ok (by repeat (first | with_reducible exact PF.body | with_reducible apply PF.inB | with_reducible apply PF.next)) [(7, {}), (8, {}), (9, {})] [7, 5, 4, 3, 0, 1, 14, 40, 41] (T' := [(7, .pointer (some ⟨b164, 0, none⟩)), (5, .pointer (some ⟨b43, 0, none⟩)), (4, .pointer (some ⟨b8, 0, none⟩)), (3, .pointer (some ⟨b2, 0, none⟩)), (0, .pointer (some ⟨bm, 0, none⟩)), (1, .agg #[.int .u8 op.kind, .int .i64 op.n, .int .i64 op.m, .int .u8 op.ev.kind, .int .u32 op.ev.pick, .int .u64 op.ev.arg]), (14, .int .u8 op.kind), (40, .agg #[.bool ko.refused, .int .i8 ko.running, .int .u64 ko.value]), (41, .bool true)]) (φ := True) (fuel := 2) h189 (by kernel_rfl) rfl (by kernel_rfl) (by kernel_rfl) ⟨trivial, trivial, trivial, trivial⟩ trivial fun a190 h191 => ?_
          clear h189
          refine wpAnyK_one (i := 11) (fuel := 1) (by kernel_rfl) ?_
          refine op_store tabOk {k := 4} (L' := [(bm, ⟨modC (.slice ao all.length ac) (.pointer (some ⟨bl, 0, none⟩)) s.pos s.live, 52, false⟩), (b2, ⟨[.int .u8 op.kind, .int .i64 op.n, .int .i64 op.m, .int .u8 op.ev.kind, .int .u32 op.ev.pick, .int .u64 op.ev.arg], 35, false⟩), (b8, ⟨[.int .u8 0, .int .i64 0, .int .i64 0, .int .i64 0, .bool false, .bool false, .int .i8 0, .int .u64 0, .int .u64 0, .int .i64 0, .int .i64 0, .int .i64 0], 41, false⟩), (b49, ⟨[.bool s.out.refused, .int .i8 s.out.running, .int .u64 s.out.value], 39, false⟩), (b164, ⟨[.bool ko.refused, .int .i8 ko.running, .int .u64 ko.value], 39, false⟩)]) (φ := b164 = b164 ∧ Nat.ble (0 + 3) 3 = true) h191 rfl rfl rfl (by kernel_rfl) ⟨rfl, rfl⟩ fun w192 h193 => ?_
          have hkh193 := h191.known
          refine ⟨keepNil, ?_⟩
          clear h191
          refine dr_batch tabOk tabZ_ok (by repeat (first | with_reducible exact PF.body | with_reducible apply PF.inB | with_reducible apply PF.next)) [(12, {})] [5, 4, 3, 0, 1, 14, 8] (T' := [(5, .pointer (some ⟨b43, 0, none⟩)), (4, .pointer (some ⟨b8, 0, none⟩)), (3, .pointer (some ⟨b2, 0, none⟩)), (0, .pointer (some ⟨bm, 0, none⟩)), (1, .agg #[.int .u8 op.kind, .int .i64 op.n, .int .i64 op.m, .int .u8 op.ev.kind, .int .u32 op.ev.pick, .int .u64 op.ev.arg]), (14, .int .u8 op.kind), (8, .bool true)]) (φ := True) (fuel := 0) h193 (by kernel_rfl) rfl (by kernel_rfl) (by kernel_rfl) ⟨trivial, trivial⟩ trivial fun a194 h195 => ?_
          clear h193
          refine wpAnyK_done (by kernel_rfl) ?_ _
          refine hK60 _ _ ?_
          clear hK60
          refine wp_seq_k fun K196 hK196 => ?_
          refine nd_start (l := [0, 1]) rfl ?_
          refine nd_batch tabOk tabZ_ok [(0, {}), (1, {})] [5, 4, 3, 0, 1, 14, 8, 43] (T' := [(5, .pointer (some ⟨b43, 0, none⟩)), (4, .pointer (some ⟨b8, 0, none⟩)), (3, .pointer (some ⟨b2, 0, none⟩)), (0, .pointer (some ⟨bm, 0, none⟩)), (1, .agg #[.int .u8 op.kind, .int .i64 op.n, .int .i64 op.m, .int .u8 op.ev.kind, .int .u32 op.ev.pick, .int .u64 op.ev.arg]), (14, .int .u8 op.kind), (8, .bool true), (43, .bool false)]) (φ := True) (rest := []) h195 (by kernel_rfl) rfl trivial fun a197 h198 => ?_
          clear h195
          refine nd_done ?_
          refine hK196 _ _ ?_
          clear hK196
          refine c_false h198 rfl ?_
          refine wp_skip ?_
          refine hK59 _ _ ?_
          clear hK59
          refine wp_seq_k fun K199 hK199 => ?_
          refine dr_start (KB := [bm, b2, b8, b49, b164]) (Bi := [[0, 1, 2, 3, 4], [0, 1, 2, 3, 4], [0, 1, 2, 3, 4], [0, 1, 2, 3, 4], [0, 1, 2, 3, 4], [0, 1, 2, 3, 4], [0, 1, 2, 3, 4], [0, 1, 2, 3, 4], [], [0, 1, 2, 3, 4], [0, 1, 2, 3, 4], []]) mixed h198 fun w200 h201 => ?_
          clear h198
          refine dr_batch tabOk tabZ_ok (by repeat (first | with_reducible exact PF.body | with_reducible apply PF.inB | with_reducible apply PF.next)) [(0, {}), (1, {}), (2, {}), (3, {}), (4, {k := 0, p := 0}), (5, {}), (6, {k := 1, p := 1})] [5, 4, 3, 0, 1, 14, 8, 46, 50, 52] (T' := [(5, .pointer (some ⟨b43, 0, none⟩)), (4, .pointer (some ⟨b8, 0, none⟩)), (3, .pointer (some ⟨b2, 0, none⟩)), (0, .pointer (some ⟨bm, 0, none⟩)), (1, .agg #[.int .u8 op.kind, .int .i64 op.n, .int .i64 op.m, .int .u8 op.ev.kind, .int .u32 op.ev.pick, .int .u64 op.ev.arg]), (14, .int .u8 op.kind), (8, .bool true), (46, .pointer (some ⟨bm, 0, none⟩)), (50, .slice ao all.length ac), (52, .agg #[.int .u8 op.ev.kind, .int .u32 op.ev.pick, .int .u64 op.ev.arg])]) (φ := (bm = bm ∧ Nat.ble (0 + 1) 4 = true) ∧ (b2 = b2 ∧ Nat.ble (3 + 3) 6 = true) ∧ True) (fuel := 5) h201 (by kernel_rfl) rfl (by kernel_rfl) (by kernel_rfl) ⟨trivial, trivial, trivial, trivial, rfl, trivial, rfl, trivial⟩ ⟨⟨rfl, rfl⟩, ⟨rfl, rfl⟩, trivial⟩ fun a203 h204 => ?_
          clear h201
          refine wpAnyK_one (i := 7) (fuel := 4) (by kernel_rfl) ?_
          refine op_new tabOk (cells := [.int .u8 op.ev.kind, .int .u32 op.ev.pick, .int .u64 op.ev.arg]) (ty := 33) (ln := (some 1)) (L1 := fun b205 => [(bm, ⟨modC (.slice ao all.length ac) (.pointer (some ⟨bl, 0, none⟩)) s.pos s.live, 52, false⟩), (b2, ⟨[.int .u8 op.kind, .int .i64 op.n, .int .i64 op.m, .int .u8 op.ev.kind, .int .u32 op.ev.pick, .int .u64 op.ev.arg], 35, false⟩), (b8, ⟨[.int .u8 0, .int .i64 0, .int .i64 0, .int .i64 0, .bool false, .bool false, .int .i8 0, .int .u64 0, .int .u64 0, .int .i64 0, .int .i64 0, .int .i64 0], 41, false⟩), (b49, ⟨[.bool s.out.refused, .int .i8 s.out.running, .int .u64 s.out.value], 39, false⟩), (b164, ⟨[.bool ko.refused, .int .i8 ko.running, .int .u64 ko.value], 39, false⟩), (b205, ⟨[.int .u8 op.ev.kind, .int .u32 op.ev.pick, .int .u64 op.ev.arg], 33, false⟩)]) h204 rfl rfl rfl rfl (by kernel_rfl) (fun _ => rfl) fun b205 w206 a207 h208 hf209 hn210 => ?_
          refine ⟨(h204.keepFr hf209 (kcons (by simp) (kcons (by simp) (kcons (by simp) (kcons (by simp) (kcons (by simp) knil)))))), ?_⟩
          clear h204
          refine wpAnyK_one (i := 8) (fuel := 3) (by kernel_rfl) ?_
          have hev2 : ∀ e ∈ all ++ [op.ev], e.ok := by intro e he; rcases List.mem_append.1 he with h1 | h1; exact hev e h1; simp at h1; subst h1; exact hop.2
          have hal2 : (all ++ [op.ev]).length ≤ 1000000 := by simp; omega
          refine op_append tabOk (e := 33) (so := ao) (n := all.length) (c := ac) (xo := some ⟨b205, 0, none⟩) (m := 1) (cx := 1) (vals := all.flatMap evC) (vs := [.int .u8 op.ev.kind, .int .u32 op.ev.pick, .int .u64 op.ev.arg]) (F := aF) h208 rfl rfl rfl rfl rfl rfl rfl rfl rfl rfl rfl rfl (h208.inv.get (j := 0) (p := pRow (rl evC 33 3 all ao ac aF)) rfl) (src_one (h208.kn (k := 5) rfl) rfl ⟨rfl, rfl, rfl, trivial⟩) (by omega) rfl ?_
          intro o211 c212 F213 w214 hr215 hf216 hF217
          have hr2152 := rl_app1 (enc := evC) (xs := all) (y := op.ev) hr215
          rw [show all.length + 1 = (all ++ [op.ev]).length by simp]
          have h218 := (h208.qSet (j := 0) (p := pRow (rl evC 33 3 all ao ac aF)) (p' := pRow (rl evC 33 3 (all ++ [op.ev]) o211 c212 F213)) (ps' := [pRow (rl evC 33 3 (all ++ [op.ev]) o211 c212 F213), pLog bl dr (s.lg.recd s.m op.ev)]) rfl (pRow_ok hr2152) hf216 (fun _ h => h) hF217 (kcons (by intro hq; cases hq) (kcons (by intro hq; cases hq) (kcons (by intro hq; cases hq) (kcons (by intro hq; cases hq) (kcons (by intro hq; cases hq) (kcons (by intro hq; cases hq) knil)))))) rfl).put (d := some 54) (v := .slice o211 ((all ++ [op.ev]).length) c212) (T' := [(54, .slice o211 ((all ++ [op.ev]).length) c212), (53, .slice (some ⟨b205, 0, none⟩) 1 1), (5, .pointer (some ⟨b43, 0, none⟩)), (4, .pointer (some ⟨b8, 0, none⟩)), (3, .pointer (some ⟨b2, 0, none⟩)), (0, .pointer (some ⟨bm, 0, none⟩)), (1, .agg #[.int .u8 op.kind, .int .i64 op.n, .int .i64 op.m, .int .u8 op.ev.kind, .int .u32 op.ev.pick, .int .u64 op.ev.arg]), (14, .int .u8 op.kind), (8, .bool true), (46, .pointer (some ⟨bm, 0, none⟩)), (50, .slice ao all.length ac), (52, .agg #[.int .u8 op.ev.kind, .int .u32 op.ev.pick, .int .u64 op.ev.arg])]) rfl
          have hkh218 := h208.known
          refine ⟨keepNil, ?_⟩
          have hszh218 : w.heap.size ≤ _ := h208.frame.size
          clear h208
          refine dr_batch tabOk tabZ_ok (by repeat (first | with_reducible exact PF.body | with_reducible apply PF.inB | with_reducible apply PF.next)) [(9, {}), (10, {})] [54, 5, 4, 3, 0, 1, 14, 8, 56] (T' := [(54, .slice o211 ((all ++ [op.ev]).length) c212), (5, .pointer (some ⟨b43, 0, none⟩)), (4, .pointer (some ⟨b8, 0, none⟩)), (3, .pointer (some ⟨b2, 0, none⟩)), (0, .pointer (some ⟨bm, 0, none⟩)), (1, .agg #[.int .u8 op.kind, .int .i64 op.n, .int .i64 op.m, .int .u8 op.ev.kind, .int .u32 op.ev.pick, .int .u64 op.ev.arg]), (14, .int .u8 op.kind), (8, .bool true), (56, .pointer (some ⟨bm, 0, none⟩))]) (φ := True) (fuel := 1) h218 (by kernel_rfl) rfl (by kernel_rfl) (by kernel_rfl) ⟨trivial, trivial, trivial⟩ trivial fun a219 h220 => ?_
          clear h218
          refine wpAnyK_one (i := 11) (fuel := 0) (by kernel_rfl) ?_
          refine op_store tabOk {k := 0} (L' := [(bm, ⟨[.slice o211 ((all ++ [op.ev]).length) c212, .pointer (some ⟨bl, 0, none⟩), .int .i64 s.pos, .bool s.live], 52, false⟩), (b2, ⟨[.int .u8 op.kind, .int .i64 op.n, .int .i64 op.m, .int .u8 op.ev.kind, .int .u32 op.ev.pick, .int .u64 op.ev.arg], 35, false⟩), (b8, ⟨[.int .u8 0, .int .i64 0, .int .i64 0, .int .i64 0, .bool false, .bool false, .int .i8 0, .int .u64 0, .int .u64 0, .int .i64 0, .int .i64 0, .int .i64 0], 41, false⟩), (b49, ⟨[.bool s.out.refused, .int .i8 s.out.running, .int .u64 s.out.value], 39, false⟩), (b164, ⟨[.bool ko.refused, .int .i8 ko.running, .int .u64 ko.value], 39, false⟩), (b205, ⟨[.int .u8 op.ev.kind, .int .u32 op.ev.pick, .int .u64 op.ev.arg], 33, false⟩)]) (φ := bm = bm ∧ Nat.ble (0 + 1) 4 = true) h220 rfl rfl rfl (by kernel_rfl) ⟨rfl, rfl⟩ fun w221 h222 => ?_
          have hkh222 := h220.known
          refine ⟨keepNil, ?_⟩
          clear h220
          refine wpAnyK_done (by kernel_rfl) ?_ _
          refine hK199 _ _ ?_
          clear hK199
          refine wp_seq_k fun K223 hK223 => ?_
          refine nd_start (l := [0, 1, 2, 3, 4, 5, 6, 7]) rfl ?_
          refine nd_batch tabOk tabZ_ok [(0, {}), (1, {}), (2, {}), (3, {k := 0}), (4, {}), (5, {}), (6, {})] [5, 4, 3, 0, 1, 14, 8, 61, 63] (T' := [(5, .pointer (some ⟨b43, 0, none⟩)), (4, .pointer (some ⟨b8, 0, none⟩)), (3, .pointer (some ⟨b2, 0, none⟩)), (0, .pointer (some ⟨bm, 0, none⟩)), (1, .agg #[.int .u8 op.kind, .int .i64 op.n, .int .i64 op.m, .int .u8 op.ev.kind, .int .u32 op.ev.pick, .int .u64 op.ev.arg]), (14, .int .u8 op.kind), (8, .bool true), (61, .int .i64 (s.pos + 1)), (63, .pointer (some ⟨bm, 2, none⟩))]) (φ := (bm = bm ∧ Nat.ble (2 + 1) 4 = true) ∧ inR .i64 (s.pos + 1) ∧ True) (rest := [7]) h222 (by kernel_rfl) rfl ⟨⟨rfl, rfl⟩, ⟨by omega, by omega⟩, trivial⟩ fun a224 h225 => ?_
          clear h222
          refine nd_op ?_
          refine op_store tabOk {k := 0} (L' := [(bm, ⟨[.slice o211 ((all ++ [op.ev]).length) c212, .pointer (some ⟨bl, 0, none⟩), .int .i64 (s.pos + 1), .bool s.live], 52, false⟩), (b2, ⟨[.int .u8 op.kind, .int .i64 op.n, .int .i64 op.m, .int .u8 op.ev.kind, .int .u32 op.ev.pick, .int .u64 op.ev.arg], 35, false⟩), (b8, ⟨[.int .u8 0, .int .i64 0, .int .i64 0, .int .i64 0, .bool false, .bool false, .int .i8 0, .int .u64 0, .int .u64 0, .int .i64 0, .int .i64 0, .int .i64 0], 41, false⟩), (b49, ⟨[.bool s.out.refused, .int .i8 s.out.running, .int .u64 s.out.value], 39, false⟩), (b164, ⟨[.bool ko.refused, .int .i8 ko.running, .int .u64 ko.value], 39, false⟩), (b205, ⟨[.int .u8 op.ev.kind, .int .u32 op.ev.pick, .int .u64 op.ev.arg], 33, false⟩)]) (φ := bm = bm ∧ Nat.ble (2 + 1) 4 = true) h225 rfl rfl rfl (by kernel_rfl) ⟨rfl, rfl⟩ fun w226 h227 => ?_
          clear h225
          refine nd_done ?_
          refine hK223 _ _ ?_
          clear hK223
          refine wp_seq_k fun K228 hK228 => ?_
          refine nd_start (l := [0, 1, 2, 3, 4, 5, 6, 7]) rfl ?_
          refine nd_batch tabOk tabZ_ok [(0, {}), (1, {}), (2, {}), (3, {}), (4, {k := 0})] [5, 4, 3, 0, 1, 14, 8, 64, 68] (T' := [(5, .pointer (some ⟨b43, 0, none⟩)), (4, .pointer (some ⟨b8, 0, none⟩)), (3, .pointer (some ⟨b2, 0, none⟩)), (0, .pointer (some ⟨bm, 0, none⟩)), (1, .agg #[.int .u8 op.kind, .int .i64 op.n, .int .i64 op.m, .int .u8 op.ev.kind, .int .u32 op.ev.pick, .int .u64 op.ev.arg]), (14, .int .u8 op.kind), (8, .bool true), (64, .pointer (some ⟨bm, 0, none⟩)), (68, .int .i64 (s.pos + 1))]) (φ := (bm = bm ∧ Nat.ble (2 + 1) 4 = true) ∧ True) (rest := [5, 6, 7]) h227 (by kernel_rfl) rfl ⟨⟨rfl, rfl⟩, trivial⟩ fun a229 h230 => ?_
          clear h227
          refine nd_op ?_
          refine op_call h230 rfl rfl rfl (callOk Try.func42 (by decide) rfl) (args := [.pointer (some ⟨bm, 0, none⟩), .int .u8 0, .int .i64 (s.pos + 1)]) rfl (answer_ok bm _ _ _ _ _ (ModAt.ofQ h230 (k := 0) rfl rfl (pos := (s.pos + 1)) (live := s.live) (h230.kn (k := 0) (blk := ⟨modC (.slice o211 (all ++ [op.ev]).length c212) (.pointer (some ⟨bl, 0, none⟩)) (s.pos + 1) s.live, 52, false⟩) rfl)) 0 (s.pos + 1) (by omega) (by show s.pos + 1 ≤ ((all ++ [op.ev]).length : Int); rw [List.length_append]; simp; omega) hev2 hal2) ?_
          rintro _ w231 ⟨rfl, hf233⟩
          refine ⟨_, rfl, ?_⟩
          have h232 := (h230.grow hf233).put (d := some 69) (v := .agg #[.int .u8 0, .int .i64 (s.pos + 1), .int .i64 ((s.lg.recd s.m op.ev).base.idx), .int .i64 (((all ++ [op.ev]).length : Nat) : Int), .bool s.live, .bool ((stAt (all ++ [op.ev]) (s.pos + 1)).2.refused), .int .i8 ((stAt (all ++ [op.ev]) (s.pos + 1)).2.running), .int .u64 ((stAt (all ++ [op.ev]) (s.pos + 1)).2.value), .int .u64 (dig (stAt (all ++ [op.ev]) (s.pos + 1)).1), .int .i64 (s.pos + 1), .int .i64 0, .int .i64 (-1)]) (T' := [(69, .agg #[.int .u8 0, .int .i64 (s.pos + 1), .int .i64 ((s.lg.recd s.m op.ev).base.idx), .int .i64 (((all ++ [op.ev]).length : Nat) : Int), .bool s.live, .bool ((stAt (all ++ [op.ev]) (s.pos + 1)).2.refused), .int .i8 ((stAt (all ++ [op.ev]) (s.pos + 1)).2.running), .int .u64 ((stAt (all ++ [op.ev]) (s.pos + 1)).2.value), .int .u64 (dig (stAt (all ++ [op.ev]) (s.pos + 1)).1), .int .i64 (s.pos + 1), .int .i64 0, .int .i64 (-1)]), (5, .pointer (some ⟨b43, 0, none⟩)), (4, .pointer (some ⟨b8, 0, none⟩)), (3, .pointer (some ⟨b2, 0, none⟩)), (0, .pointer (some ⟨bm, 0, none⟩)), (1, .agg #[.int .u8 op.kind, .int .i64 op.n, .int .i64 op.m, .int .u8 op.ev.kind, .int .u32 op.ev.pick, .int .u64 op.ev.arg]), (14, .int .u8 op.kind), (8, .bool true), (64, .pointer (some ⟨bm, 0, none⟩)), (68, .int .i64 (s.pos + 1))]) rfl
          clear h230
          refine nd_op ?_
          refine op_new tabOk (cells := [.int .u8 0, .int .i64 0, .int .i64 0, .int .i64 0, .bool false, .bool false, .int .i8 0, .int .u64 0, .int .u64 0, .int .i64 0, .int .i64 0, .int .i64 0]) (ty := 41) (ln := none) (L1 := fun b234 => [(bm, ⟨[.slice o211 ((all ++ [op.ev]).length) c212, .pointer (some ⟨bl, 0, none⟩), .int .i64 (s.pos + 1), .bool s.live], 52, false⟩), (b2, ⟨[.int .u8 op.kind, .int .i64 op.n, .int .i64 op.m, .int .u8 op.ev.kind, .int .u32 op.ev.pick, .int .u64 op.ev.arg], 35, false⟩), (b8, ⟨[.int .u8 0, .int .i64 0, .int .i64 0, .int .i64 0, .bool false, .bool false, .int .i8 0, .int .u64 0, .int .u64 0, .int .i64 0, .int .i64 0, .int .i64 0], 41, false⟩), (b49, ⟨[.bool s.out.refused, .int .i8 s.out.running, .int .u64 s.out.value], 39, false⟩), (b164, ⟨[.bool ko.refused, .int .i8 ko.running, .int .u64 ko.value], 39, false⟩), (b205, ⟨[.int .u8 op.ev.kind, .int .u32 op.ev.pick, .int .u64 op.ev.arg], 33, false⟩), (b234, ⟨[.int .u8 0, .int .i64 0, .int .i64 0, .int .i64 0, .bool false, .bool false, .int .i8 0, .int .u64 0, .int .u64 0, .int .i64 0, .int .i64 0, .int .i64 0], 41, false⟩)]) h232 rfl rfl rfl rfl (by kernel_rfl) (fun _ => rfl) fun b234 w235 a236 h237 hf238 hn239 => ?_
          clear h232
          refine nd_op ?_
          refine op_store tabOk {k := 6} (L' := [(bm, ⟨[.slice o211 ((all ++ [op.ev]).length) c212, .pointer (some ⟨bl, 0, none⟩), .int .i64 (s.pos + 1), .bool s.live], 52, false⟩), (b2, ⟨[.int .u8 op.kind, .int .i64 op.n, .int .i64 op.m, .int .u8 op.ev.kind, .int .u32 op.ev.pick, .int .u64 op.ev.arg], 35, false⟩), (b8, ⟨[.int .u8 0, .int .i64 0, .int .i64 0, .int .i64 0, .bool false, .bool false, .int .i8 0, .int .u64 0, .int .u64 0, .int .i64 0, .int .i64 0, .int .i64 0], 41, false⟩), (b49, ⟨[.bool s.out.refused, .int .i8 s.out.running, .int .u64 s.out.value], 39, false⟩), (b164, ⟨[.bool ko.refused, .int .i8 ko.running, .int .u64 ko.value], 39, false⟩), (b205, ⟨[.int .u8 op.ev.kind, .int .u32 op.ev.pick, .int .u64 op.ev.arg], 33, false⟩), (b234, ⟨[.int .u8 0, .int .i64 (s.pos + 1), .int .i64 ((s.lg.recd s.m op.ev).base.idx), .int .i64 (((all ++ [op.ev]).length : Nat) : Int), .bool s.live, .bool ((stAt (all ++ [op.ev]) (s.pos + 1)).2.refused), .int .i8 ((stAt (all ++ [op.ev]) (s.pos + 1)).2.running), .int .u64 ((stAt (all ++ [op.ev]) (s.pos + 1)).2.value), .int .u64 (dig (stAt (all ++ [op.ev]) (s.pos + 1)).1), .int .i64 (s.pos + 1), .int .i64 0, .int .i64 (-1)], 41, false⟩)]) (φ := b234 = b234 ∧ Nat.ble (0 + 12) 12 = true) h237 rfl rfl rfl (by kernel_rfl) ⟨rfl, rfl⟩ fun w240 h241 => ?_
          clear h237
          refine nd_done ?_
          refine hK228 _ _ ?_
          clear hK228
          refine wp_seq_k fun K242 hK242 => ?_
          refine nd_start (l := [0, 1, 2, 3, 4, 5, 6, 7, 8]) rfl ?_
          refine nd_batch tabOk tabZ_ok [(0, {}), (1, {}), (2, {}), (3, {k := 0}), (4, {}), (5, {})] [9, 5, 4, 3, 0, 1, 14, 8, 74, 75] (T' := [(9, .pointer (some ⟨b234, 0, none⟩)), (5, .pointer (some ⟨b43, 0, none⟩)), (4, .pointer (some ⟨b8, 0, none⟩)), (3, .pointer (some ⟨b2, 0, none⟩)), (0, .pointer (some ⟨bm, 0, none⟩)), (1, .agg #[.int .u8 op.kind, .int .i64 op.n, .int .i64 op.m, .int .u8 op.ev.kind, .int .u32 op.ev.pick, .int .u64 op.ev.arg]), (14, .int .u8 op.kind), (8, .bool true), (74, .int .i64 ((s.pos + 1) - 1)), (75, .pointer (some ⟨b234, 9, none⟩))]) (φ := (bm = bm ∧ Nat.ble (2 + 1) 4 = true) ∧ inR .i64 ((s.pos + 1) - 1) ∧ True) (rest := [6, 7, 8]) h241 (by kernel_rfl) rfl ⟨⟨rfl, rfl⟩, ⟨by omega, by omega⟩, trivial⟩ fun a243 h244 => ?_
          clear h241
          refine nd_op ?_
          refine op_store tabOk {k := 6} (L' := [(bm, ⟨[.slice o211 ((all ++ [op.ev]).length) c212, .pointer (some ⟨bl, 0, none⟩), .int .i64 (s.pos + 1), .bool s.live], 52, false⟩), (b2, ⟨[.int .u8 op.kind, .int .i64 op.n, .int .i64 op.m, .int .u8 op.ev.kind, .int .u32 op.ev.pick, .int .u64 op.ev.arg], 35, false⟩), (b8, ⟨[.int .u8 0, .int .i64 0, .int .i64 0, .int .i64 0, .bool false, .bool false, .int .i8 0, .int .u64 0, .int .u64 0, .int .i64 0, .int .i64 0, .int .i64 0], 41, false⟩), (b49, ⟨[.bool s.out.refused, .int .i8 s.out.running, .int .u64 s.out.value], 39, false⟩), (b164, ⟨[.bool ko.refused, .int .i8 ko.running, .int .u64 ko.value], 39, false⟩), (b205, ⟨[.int .u8 op.ev.kind, .int .u32 op.ev.pick, .int .u64 op.ev.arg], 33, false⟩), (b234, ⟨[.int .u8 0, .int .i64 (s.pos + 1), .int .i64 ((s.lg.recd s.m op.ev).base.idx), .int .i64 (((all ++ [op.ev]).length : Nat) : Int), .bool s.live, .bool ((stAt (all ++ [op.ev]) (s.pos + 1)).2.refused), .int .i8 ((stAt (all ++ [op.ev]) (s.pos + 1)).2.running), .int .u64 ((stAt (all ++ [op.ev]) (s.pos + 1)).2.value), .int .u64 (dig (stAt (all ++ [op.ev]) (s.pos + 1)).1), .int .i64 ((s.pos + 1) - 1), .int .i64 0, .int .i64 (-1)], 41, false⟩)]) (φ := b234 = b234 ∧ Nat.ble (9 + 1) 12 = true) h244 rfl rfl rfl (by kernel_rfl) ⟨rfl, rfl⟩ fun w245 h246 => ?_
          clear h244
          refine nd_batch tabOk tabZ_ok [(7, {})] [9, 5, 4, 3, 0, 1, 14, 8, 76] (T' := [(9, .pointer (some ⟨b234, 0, none⟩)), (5, .pointer (some ⟨b43, 0, none⟩)), (4, .pointer (some ⟨b8, 0, none⟩)), (3, .pointer (some ⟨b2, 0, none⟩)), (0, .pointer (some ⟨bm, 0, none⟩)), (1, .agg #[.int .u8 op.kind, .int .i64 op.n, .int .i64 op.m, .int .u8 op.ev.kind, .int .u32 op.ev.pick, .int .u64 op.ev.arg]), (14, .int .u8 op.kind), (8, .bool true), (76, .pointer (some ⟨b234, 10, none⟩))]) (φ := True) (rest := [8]) h246 (by kernel_rfl) rfl trivial fun a247 h248 => ?_
          clear h246
          refine nd_op ?_
          refine op_store tabOk {k := 6} (L' := [(bm, ⟨[.slice o211 ((all ++ [op.ev]).length) c212, .pointer (some ⟨bl, 0, none⟩), .int .i64 (s.pos + 1), .bool s.live], 52, false⟩), (b2, ⟨[.int .u8 op.kind, .int .i64 op.n, .int .i64 op.m, .int .u8 op.ev.kind, .int .u32 op.ev.pick, .int .u64 op.ev.arg], 35, false⟩), (b8, ⟨[.int .u8 0, .int .i64 0, .int .i64 0, .int .i64 0, .bool false, .bool false, .int .i8 0, .int .u64 0, .int .u64 0, .int .i64 0, .int .i64 0, .int .i64 0], 41, false⟩), (b49, ⟨[.bool s.out.refused, .int .i8 s.out.running, .int .u64 s.out.value], 39, false⟩), (b164, ⟨[.bool ko.refused, .int .i8 ko.running, .int .u64 ko.value], 39, false⟩), (b205, ⟨[.int .u8 op.ev.kind, .int .u32 op.ev.pick, .int .u64 op.ev.arg], 33, false⟩), (b234, ⟨[.int .u8 0, .int .i64 (s.pos + 1), .int .i64 ((s.lg.recd s.m op.ev).base.idx), .int .i64 (((all ++ [op.ev]).length : Nat) : Int), .bool s.live, .bool ((stAt (all ++ [op.ev]) (s.pos + 1)).2.refused), .int .i8 ((stAt (all ++ [op.ev]) (s.pos + 1)).2.running), .int .u64 ((stAt (all ++ [op.ev]) (s.pos + 1)).2.value), .int .u64 (dig (stAt (all ++ [op.ev]) (s.pos + 1)).1), .int .i64 ((s.pos + 1) - 1), .int .i64 1, .int .i64 (-1)], 41, false⟩)]) (φ := b234 = b234 ∧ Nat.ble (10 + 1) 12 = true) h248 rfl rfl rfl (by kernel_rfl) ⟨rfl, rfl⟩ fun w249 h250 => ?_
          clear h248
          refine nd_done ?_
          refine hK242 _ _ ?_
          clear hK242
          refine wp_seq_k fun K251 hK251 => ?_
          refine nd_start (l := [0, 1]) rfl ?_
          refine nd_batch tabOk tabZ_ok [(0, {k := 6})] [9, 5, 4, 3, 0, 1, 14, 8, 77] (T' := [(9, .pointer (some ⟨b234, 0, none⟩)), (5, .pointer (some ⟨b43, 0, none⟩)), (4, .pointer (some ⟨b8, 0, none⟩)), (3, .pointer (some ⟨b2, 0, none⟩)), (0, .pointer (some ⟨bm, 0, none⟩)), (1, .agg #[.int .u8 op.kind, .int .i64 op.n, .int .i64 op.m, .int .u8 op.ev.kind, .int .u32 op.ev.pick, .int .u64 op.ev.arg]), (14, .int .u8 op.kind), (8, .bool true), (77, .agg #[.int .u8 0, .int .i64 (s.pos + 1), .int .i64 ((s.lg.recd s.m op.ev).base.idx), .int .i64 (((all ++ [op.ev]).length : Nat) : Int), .bool s.live, .bool ((stAt (all ++ [op.ev]) (s.pos + 1)).2.refused), .int .i8 ((stAt (all ++ [op.ev]) (s.pos + 1)).2.running), .int .u64 ((stAt (all ++ [op.ev]) (s.pos + 1)).2.value), .int .u64 (dig (stAt (all ++ [op.ev]) (s.pos + 1)).1), .int .i64 ((s.pos + 1) - 1), .int .i64 1, .int .i64 (-1)])]) (φ := (b234 = b234 ∧ Nat.ble (0 + 12) 12 = true) ∧ True) (rest := [1]) h250 (by kernel_rfl) rfl ⟨⟨rfl, rfl⟩, trivial⟩ fun a252 h253 => ?_
          clear h250
          refine nd_op ?_
          refine op_store tabOk {k := 2} (L' := [(bm, ⟨[.slice o211 ((all ++ [op.ev]).length) c212, .pointer (some ⟨bl, 0, none⟩), .int .i64 (s.pos + 1), .bool s.live], 52, false⟩), (b2, ⟨[.int .u8 op.kind, .int .i64 op.n, .int .i64 op.m, .int .u8 op.ev.kind, .int .u32 op.ev.pick, .int .u64 op.ev.arg], 35, false⟩), (b8, ⟨[.int .u8 0, .int .i64 (s.pos + 1), .int .i64 ((s.lg.recd s.m op.ev).base.idx), .int .i64 (((all ++ [op.ev]).length : Nat) : Int), .bool s.live, .bool ((stAt (all ++ [op.ev]) (s.pos + 1)).2.refused), .int .i8 ((stAt (all ++ [op.ev]) (s.pos + 1)).2.running), .int .u64 ((stAt (all ++ [op.ev]) (s.pos + 1)).2.value), .int .u64 (dig (stAt (all ++ [op.ev]) (s.pos + 1)).1), .int .i64 ((s.pos + 1) - 1), .int .i64 1, .int .i64 (-1)], 41, false⟩), (b49, ⟨[.bool s.out.refused, .int .i8 s.out.running, .int .u64 s.out.value], 39, false⟩), (b164, ⟨[.bool ko.refused, .int .i8 ko.running, .int .u64 ko.value], 39, false⟩), (b205, ⟨[.int .u8 op.ev.kind, .int .u32 op.ev.pick, .int .u64 op.ev.arg], 33, false⟩), (b234, ⟨[.int .u8 0, .int .i64 (s.pos + 1), .int .i64 ((s.lg.recd s.m op.ev).base.idx), .int .i64 (((all ++ [op.ev]).length : Nat) : Int), .bool s.live, .bool ((stAt (all ++ [op.ev]) (s.pos + 1)).2.refused), .int .i8 ((stAt (all ++ [op.ev]) (s.pos + 1)).2.running), .int .u64 ((stAt (all ++ [op.ev]) (s.pos + 1)).2.value), .int .u64 (dig (stAt (all ++ [op.ev]) (s.pos + 1)).1), .int .i64 ((s.pos + 1) - 1), .int .i64 1, .int .i64 (-1)], 41, false⟩)]) (φ := b8 = b8 ∧ Nat.ble (0 + 12) 12 = true) h253 rfl rfl rfl (by kernel_rfl) ⟨rfl, rfl⟩ fun w254 h255 => ?_
          clear h253
          refine nd_done ?_
          refine hK251 _ _ ?_
          clear hK251
          refine wp_ret ?_
          obtain ⟨hR1, hR2⟩ := do3_step hwf hon hop.2 hk0 hlive hnf
          skip
          try simp only [Exit.then, Exit.inBlock]
          try rw [if_pos trivial]
          exact s_ret tabOk tabZ_ok h255 [(.cell 4 41, {k := 2})] (vs := [.agg #[.int .u8 0, .int .i64 (s.pos + 1), .int .i64 ((s.lg.recd s.m op.ev).base.idx), .int .i64 (((all ++ [op.ev]).length : Nat) : Int), .bool s.live, .bool ((stAt (all ++ [op.ev]) (s.pos + 1)).2.refused), .int .i8 ((stAt (all ++ [op.ev]) (s.pos + 1)).2.running), .int .u64 ((stAt (all ++ [op.ev]) (s.pos + 1)).2.value), .int .u64 (dig (stAt (all ++ [op.ev]) (s.pos + 1)).1), .int .i64 ((s.pos + 1) - 1), .int .i64 1, .int .i64 (-1)]]) (φ := (b8 = b8 ∧ Nat.ble (0 + 12) 12 = true) ∧ True) rfl (by kernel_rfl) ⟨⟨rfl, rfl⟩, trivial⟩ (by rw [hR1, hR2]; exact ⟨bl, dr, ⟨o211, c212, F213⟩, rfl, (by skip; exact (ModAt.ofQ h255 (k := 0) rfl rfl (pos := (s.pos + 1)) (live := s.live) (h255.kn (k := 0) (blk := ⟨modC (.slice o211 (all ++ [op.ev]).length c212) (.pointer (some ⟨bl, 0, none⟩)) (s.pos + 1) s.live, 52, false⟩) rfl))), h255.frame, ModAt.subQ h255 (k := 0) rfl rfl⟩)
  ·
    have hc21f : op.kind ≠ 0 := by simpa using hc21
    have hk0 : op.kind ≠ 0 := hc21f
    refine wp_seq_k fun K256 hK256 => ?_
    refine nd_start (l := [0, 1]) rfl ?_
    refine nd_batch tabOk tabZ_ok [(0, {}), (1, {})] [4, 3, 0, 1, 14, 78] (T' := [(4, .pointer (some ⟨b8, 0, none⟩)), (3, .pointer (some ⟨b2, 0, none⟩)), (0, .pointer (some ⟨bm, 0, none⟩)), (1, .agg #[.int .u8 op.kind, .int .i64 op.n, .int .i64 op.m, .int .u8 op.ev.kind, .int .u32 op.ev.pick, .int .u64 op.ev.arg]), (14, .int .u8 op.kind), (78, .bool (op.kind == 1))]) (φ := True) (rest := []) h20 (by kernel_rfl) rfl trivial fun a257 h258 => ?_
    clear h20
    refine nd_done ?_
    refine hK256 _ _ ?_
    clear hK256
    refine c_split h258 (b := (op.kind == 1)) rfl (fun hc259 => ?_) (fun hc259 => ?_)
    ·
      have hc259f : op.kind = 1 := by simpa using hc259
      have hk1 : op.kind = 1 := hc259f
      refine wp_seq_k fun K260 hK260 => ?_
      refine nd_start (l := [0, 1, 2, 3, 4]) rfl ?_
      refine nd_batch tabOk tabZ_ok [(0, {}), (1, {}), (2, {k := 1})] [4, 3, 0, 1, 14, 80, 82] (T' := [(4, .pointer (some ⟨b8, 0, none⟩)), (3, .pointer (some ⟨b2, 0, none⟩)), (0, .pointer (some ⟨bm, 0, none⟩)), (1, .agg #[.int .u8 op.kind, .int .i64 op.n, .int .i64 op.m, .int .u8 op.ev.kind, .int .u32 op.ev.pick, .int .u64 op.ev.arg]), (14, .int .u8 op.kind), (80, .pointer (some ⟨bm, 0, none⟩)), (82, .int .i64 op.n)]) (φ := (b2 = b2 ∧ Nat.ble (1 + 1) 6 = true) ∧ True) (rest := [3, 4]) h258 (by kernel_rfl) rfl ⟨⟨rfl, rfl⟩, trivial⟩ fun a261 h262 => ?_
      clear h258
      refine nd_op ?_
      refine op_call h262 rfl rfl rfl (callOk Try.func43 (by decide) rfl) (args := [.pointer (some ⟨bm, 0, none⟩), .int .i64 op.n]) rfl ((by have hq := mseek_ok bm bl _ _ (mdOf all s) _ (ModAt.ofQ h262 (k := 0) rfl rfl (pos := s.pos) (live := s.live) (h262.kn (k := 0) (blk := ⟨modC (.slice ao all.length ac) (.pointer (some ⟨bl, 0, none⟩)) s.pos s.live, 52, false⟩) rfl)) op.n hB hwf.lg (by show 0 ≤ s.pos; omega) (by show s.pos ≤ (all.length : Int); omega) hev hal; rw [mseek_eq hwf hon] at hq; exact hq)) ?_
      rintro _ w263 ⟨rfl, hmv, hf265⟩
      refine ⟨_, rfl, ?_⟩
      have h264 := (h262.setBlk (k := 0) rfl rfl hf265 hmv.blk (L' := [(bm, ⟨modC (.slice ao all.length ac) (.pointer (some ⟨bl, 0, none⟩)) ((seekR s op.n).2.pos) ((seekR s op.n).2.live), 52, false⟩), (b2, ⟨[.int .u8 op.kind, .int .i64 op.n, .int .i64 op.m, .int .u8 op.ev.kind, .int .u32 op.ev.pick, .int .u64 op.ev.arg], 35, false⟩), (b8, ⟨[.int .u8 0, .int .i64 0, .int .i64 0, .int .i64 0, .bool false, .bool false, .int .i8 0, .int .u64 0, .int .u64 0, .int .i64 0, .int .i64 0, .int .i64 0], 41, false⟩)]) rfl).put (d := some 83) (v := .agg #[.int .u8 ((seekR s op.n).1.code), .int .i64 ((seekR s op.n).1.pos), .int .i64 ((seekR s op.n).1.base), .int .i64 ((seekR s op.n).1.fin), .bool ((seekR s op.n).1.live), .bool ((seekR s op.n).1.out.refused), .int .i8 ((seekR s op.n).1.out.running), .int .u64 ((seekR s op.n).1.out.value), .int .u64 ((seekR s op.n).1.dig), .int .i64 ((seekR s op.n).1.from_), .int .i64 ((seekR s op.n).1.replayed), .int .i64 ((seekR s op.n).1.at_)]) (T' := [(83, .agg #[.int .u8 ((seekR s op.n).1.code), .int .i64 ((seekR s op.n).1.pos), .int .i64 ((seekR s op.n).1.base), .int .i64 ((seekR s op.n).1.fin), .bool ((seekR s op.n).1.live), .bool ((seekR s op.n).1.out.refused), .int .i8 ((seekR s op.n).1.out.running), .int .u64 ((seekR s op.n).1.out.value), .int .u64 ((seekR s op.n).1.dig), .int .i64 ((seekR s op.n).1.from_), .int .i64 ((seekR s op.n).1.replayed), .int .i64 ((seekR s op.n).1.at_)]), (4, .pointer (some ⟨b8, 0, none⟩)), (3, .pointer (some ⟨b2, 0, none⟩)), (0, .pointer (some ⟨bm, 0, none⟩)), (1, .agg #[.int .u8 op.kind, .int .i64 op.n, .int .i64 op.m, .int .u8 op.ev.kind, .int .u32 op.ev.pick, .int .u64 op.ev.arg]), (14, .int .u8 op.kind), (80, .pointer (some ⟨bm, 0, none⟩)), (82, .int .i64 op.n)]) rfl
      clear h262
      refine nd_op ?_
      refine op_store tabOk {k := 2} (L' := [(bm, ⟨modC (.slice ao all.length ac) (.pointer (some ⟨bl, 0, none⟩)) ((seekR s op.n).2.pos) ((seekR s op.n).2.live), 52, false⟩), (b2, ⟨[.int .u8 op.kind, .int .i64 op.n, .int .i64 op.m, .int .u8 op.ev.kind, .int .u32 op.ev.pick, .int .u64 op.ev.arg], 35, false⟩), (b8, ⟨[.int .u8 ((seekR s op.n).1.code), .int .i64 ((seekR s op.n).1.pos), .int .i64 ((seekR s op.n).1.base), .int .i64 ((seekR s op.n).1.fin), .bool ((seekR s op.n).1.live), .bool ((seekR s op.n).1.out.refused), .int .i8 ((seekR s op.n).1.out.running), .int .u64 ((seekR s op.n).1.out.value), .int .u64 ((seekR s op.n).1.dig), .int .i64 ((seekR s op.n).1.from_), .int .i64 ((seekR s op.n).1.replayed), .int .i64 ((seekR s op.n).1.at_)], 41, false⟩)]) (φ := b8 = b8 ∧ Nat.ble (0 + 12) 12 = true) h264 rfl rfl rfl (by kernel_rfl) ⟨rfl, rfl⟩ fun w266 h267 => ?_
      clear h264
      refine nd_done ?_
      refine hK260 _ _ ?_
      clear hK260
      refine wp_ret ?_
      obtain ⟨hD, hN⟩ := do3_seek (s := s) (all := all) hk1
      have hlg2 := seek_lg s op.n
      skip
      try simp only [Exit.then, Exit.inBlock]
      try rw [if_pos trivial]
      exact s_ret tabOk tabZ_ok h267 [(.cell 4 41, {k := 2})] (vs := [.agg #[.int .u8 ((seekR s op.n).1.code), .int .i64 ((seekR s op.n).1.pos), .int .i64 ((seekR s op.n).1.base), .int .i64 ((seekR s op.n).1.fin), .bool ((seekR s op.n).1.live), .bool ((seekR s op.n).1.out.refused), .int .i8 ((seekR s op.n).1.out.running), .int .u64 ((seekR s op.n).1.out.value), .int .u64 ((seekR s op.n).1.dig), .int .i64 ((seekR s op.n).1.from_), .int .i64 ((seekR s op.n).1.replayed), .int .i64 ((seekR s op.n).1.at_)]]) (φ := (b8 = b8 ∧ Nat.ble (0 + 12) 12 = true) ∧ True) rfl (by kernel_rfl) ⟨⟨rfl, rfl⟩, trivial⟩ (by rw [hD, hN]; exact ⟨bl, d, ⟨ao, ac, aF⟩, rfl, (by unfold mdOf; rw [hlg2]; exact (ModAt.ofQ h267 (k := 0) rfl rfl (pos := (seekR s op.n).2.pos) (live := (seekR s op.n).2.live) (h267.kn (k := 0) (blk := ⟨modC (.slice ao all.length ac) (.pointer (some ⟨bl, 0, none⟩)) ((seekR s op.n).2.pos) ((seekR s op.n).2.live), 52, false⟩) rfl))), h267.frame, ModAt.subQ h267 (k := 0) rfl rfl⟩)
    ·
      have hc259f : op.kind ≠ 1 := by simpa using hc259
      have hk1 : op.kind ≠ 1 := hc259f
      refine wp_seq_k fun K268 hK268 => ?_
      refine nd_start (l := [0, 1]) rfl ?_
      refine nd_batch tabOk tabZ_ok [(0, {}), (1, {})] [4, 3, 0, 1, 14, 84] (T' := [(4, .pointer (some ⟨b8, 0, none⟩)), (3, .pointer (some ⟨b2, 0, none⟩)), (0, .pointer (some ⟨bm, 0, none⟩)), (1, .agg #[.int .u8 op.kind, .int .i64 op.n, .int .i64 op.m, .int .u8 op.ev.kind, .int .u32 op.ev.pick, .int .u64 op.ev.arg]), (14, .int .u8 op.kind), (84, .bool (op.kind == 2))]) (φ := True) (rest := []) h258 (by kernel_rfl) rfl trivial fun a269 h270 => ?_
      clear h258
      refine nd_done ?_
      refine hK268 _ _ ?_
      clear hK268
      refine c_split h270 (b := (op.kind == 2)) rfl (fun hc271 => ?_) (fun hc271 => ?_)
      ·
        have hc271f : op.kind = 2 := by simpa using hc271
        have hk2 : op.kind = 2 := hc271f
        have hb273 := (h270.inv.get (j := 1) (p := pLog bl d s.lg) rfl).blk
        have h272 := h270.open_ (b := bl) (cells := logC s.lg.base (.slice d.eo s.lg.evs.length d.ec) (.slice d.mo s.lg.mks.length d.mc) (.slice d.so s.lg.sns.length d.sc)) (ty := 69) hb273 (h270.notinL (by simp [Pf]) (kcons (by intro hq; cases hq) (kcons (by intro hq; cases hq) (kcons (by intro hq; cases hq) knil))))
        clear h270
        refine wp_seq_k fun K274 hK274 => ?_
        refine wp_seq_k fun K275 hK275 => ?_
        rcases Bool.eq_false_or_eq_true (decide (op.n < 0)) with hb276 | hb276
        ·
          have hb276f : op.n < 0 := by simpa using hb276
          refine dr_start (KB := [bm, b2, b8, bl]) (Bi := [[0, 1, 2, 3], [0, 1, 2, 3], [0, 1, 2, 3], [0, 1, 2, 3], [0, 1, 2, 3], [0, 1, 2, 3], [0, 1, 2, 3], [0, 1, 2, 3], [0, 1, 2, 3], [0, 1, 2, 3], [0, 1, 2, 3], [0, 1, 2, 3], [0, 1, 2, 3], [0, 1, 2, 3], [0, 1, 2, 3], [0, 1, 2, 3], [0, 1, 2, 3], [0, 1, 2, 3], [0, 1, 2, 3], [0, 1, 2, 3], [0, 1, 2, 3]]) mixed h272 fun w277 h278 => ?_
          clear h272
          refine dr_batch tabOk tabZ_ok (by repeat (first | with_reducible exact PF.body | with_reducible apply PF.inB | with_reducible apply PF.next)) [(0, {}), (1, {k := 1, p := 1}), (2, {f := 2}), (3, {}), (4, {}), (5, {}), (6, {}), (7, {k := 0, p := 0}), (8, {}), (9, {k := 0, p := 0}), (10, {}), (11, {}), (12, {}), (13, {}), (14, {k := 0, p := 0}), (15, {}), (16, {}), (17, {}), (18, {k := 0, p := 0}), (19, {}), (20, {})] [4, 3, 0, 1, 14, 106] (T' := [(4, .pointer (some ⟨b8, 0, none⟩)), (3, .pointer (some ⟨b2, 0, none⟩)), (0, .pointer (some ⟨bm, 0, none⟩)), (1, .agg #[.int .u8 op.kind, .int .i64 op.n, .int .i64 op.m, .int .u8 op.ev.kind, .int .u32 op.ev.pick, .int .u64 op.ev.arg]), (14, .int .u8 op.kind), (106, .bool true)]) (φ := (b2 = b2 ∧ Nat.ble (1 + 1) 6 = true) ∧ (decide (op.n < 0)) = true ∧ True) (fuel := 0) h278 (by kernel_rfl) rfl (by kernel_rfl) (by kernel_rfl) ⟨trivial, rfl, trivial, trivial, trivial, trivial, trivial, rfl, trivial, rfl, trivial, trivial, trivial, trivial, rfl, trivial, trivial, trivial, rfl, trivial, trivial, trivial⟩ ⟨⟨rfl, rfl⟩, hb276, trivial⟩ fun a280 h281 => ?_
          clear h278
          refine wpAnyK_done (by kernel_rfl) ?_ _
          refine hK275 _ _ ?_
          clear hK275
          refine c_true h281 rfl ?_
          refine wp_seq_k fun K282 hK282 => ?_
          refine nd_start (l := [0, 1, 2]) rfl ?_
          refine nd_batch tabOk tabZ_ok [(0, {})] [4, 3, 0, 1, 14, 107] (T' := [(4, .pointer (some ⟨b8, 0, none⟩)), (3, .pointer (some ⟨b2, 0, none⟩)), (0, .pointer (some ⟨bm, 0, none⟩)), (1, .agg #[.int .u8 op.kind, .int .i64 op.n, .int .i64 op.m, .int .u8 op.ev.kind, .int .u32 op.ev.pick, .int .u64 op.ev.arg]), (14, .int .u8 op.kind), (107, .pointer (some ⟨bm, 0, none⟩))]) (φ := True) (rest := [1, 2]) h281 (by kernel_rfl) rfl trivial fun a283 h284 => ?_
          clear h281
          refine nd_op ?_
          refine op_call h284 rfl rfl rfl (callOk Try.func40 (by decide) rfl) (args := [.pointer (some ⟨bm, 0, none⟩), .int .u8 1]) rfl (refuse_ok bm bl _ _ _ _ (ModAt.ofQ h284 (k := 0) rfl rfl (pos := s.pos) (live := s.live) (h284.kn (k := 0) (blk := ⟨modC (.slice ao all.length ac) (.pointer (some ⟨bl, 0, none⟩)) s.pos s.live, 52, false⟩) rfl)) 1 (by show 0 ≤ s.pos; omega) (by show s.pos ≤ (all.length : Int); omega) hev hal) ?_
          rintro _ w285 ⟨rfl, hf287⟩
          refine ⟨_, rfl, ?_⟩
          have h286 := (h284.grow hf287).put (d := some 108) (v := .agg #[.int .u8 1, .int .i64 s.pos, .int .i64 s.lg.base.idx, .int .i64 ((all.length : Nat) : Int), .bool s.live, .bool ((stAt all s.pos).2.refused), .int .i8 ((stAt all s.pos).2.running), .int .u64 ((stAt all s.pos).2.value), .int .u64 (dig (stAt all s.pos).1), .int .i64 s.pos, .int .i64 0, .int .i64 (-1)]) (T' := [(108, .agg #[.int .u8 1, .int .i64 s.pos, .int .i64 s.lg.base.idx, .int .i64 ((all.length : Nat) : Int), .bool s.live, .bool ((stAt all s.pos).2.refused), .int .i8 ((stAt all s.pos).2.running), .int .u64 ((stAt all s.pos).2.value), .int .u64 (dig (stAt all s.pos).1), .int .i64 s.pos, .int .i64 0, .int .i64 (-1)]), (4, .pointer (some ⟨b8, 0, none⟩)), (3, .pointer (some ⟨b2, 0, none⟩)), (0, .pointer (some ⟨bm, 0, none⟩)), (1, .agg #[.int .u8 op.kind, .int .i64 op.n, .int .i64 op.m, .int .u8 op.ev.kind, .int .u32 op.ev.pick, .int .u64 op.ev.arg]), (14, .int .u8 op.kind), (107, .pointer (some ⟨bm, 0, none⟩))]) rfl
          clear h284
          refine nd_op ?_
          refine op_store tabOk {k := 2} (L' := [(bm, ⟨modC (.slice ao all.length ac) (.pointer (some ⟨bl, 0, none⟩)) s.pos s.live, 52, false⟩), (b2, ⟨[.int .u8 op.kind, .int .i64 op.n, .int .i64 op.m, .int .u8 op.ev.kind, .int .u32 op.ev.pick, .int .u64 op.ev.arg], 35, false⟩), (b8, ⟨[.int .u8 1, .int .i64 s.pos, .int .i64 s.lg.base.idx, .int .i64 ((all.length : Nat) : Int), .bool s.live, .bool ((stAt all s.pos).2.refused), .int .i8 ((stAt all s.pos).2.running), .int .u64 ((stAt all s.pos).2.value), .int .u64 (dig (stAt all s.pos).1), .int .i64 s.pos, .int .i64 0, .int .i64 (-1)], 41, false⟩), (bl, ⟨logC s.lg.base (.slice d.eo s.lg.evs.length d.ec) (.slice d.mo s.lg.mks.length d.mc) (.slice d.so s.lg.sns.length d.sc), 69, true⟩)]) (φ := b8 = b8 ∧ Nat.ble (0 + 12) 12 = true) h286 rfl rfl rfl (by kernel_rfl) ⟨rfl, rfl⟩ fun w288 h289 => ?_
          clear h286
          refine nd_done ?_
          refine hK282 _ _ ?_
          clear hK282
          refine wp_ret ?_
          have h290 := h289.memMono (L' := [(bm, ⟨modC (.slice ao all.length ac) (.pointer (some ⟨bl, 0, none⟩)) s.pos s.live, 52, false⟩), (b2, ⟨[.int .u8 op.kind, .int .i64 op.n, .int .i64 op.m, .int .u8 op.ev.kind, .int .u32 op.ev.pick, .int .u64 op.ev.arg], 35, false⟩), (b8, ⟨[.int .u8 1, .int .i64 s.pos, .int .i64 s.lg.base.idx, .int .i64 ((all.length : Nat) : Int), .bool s.live, .bool ((stAt all s.pos).2.refused), .int .i8 ((stAt all s.pos).2.running), .int .u64 ((stAt all s.pos).2.value), .int .u64 (dig (stAt all s.pos).1), .int .i64 s.pos, .int .i64 0, .int .i64 (-1)], 41, false⟩)]) (List.Sublist.cons_cons _ (List.Sublist.cons_cons _ (List.Sublist.cons_cons _ (List.Sublist.cons _ List.Sublist.slnil))))
          clear h289
          obtain ⟨hD, hN⟩ := do3_back (s := s) (all := all) hk2
          have hS : backR s op.n = (s.stat 1, s) := by unfold backR; rw [if_pos (by omega)]
          skip
          try simp only [Exit.then, Exit.inBlock]
          try rw [if_pos trivial]
          exact s_ret tabOk tabZ_ok h290 [(.cell 4 41, {k := 2})] (vs := [.agg #[.int .u8 1, .int .i64 s.pos, .int .i64 s.lg.base.idx, .int .i64 ((all.length : Nat) : Int), .bool s.live, .bool ((stAt all s.pos).2.refused), .int .i8 ((stAt all s.pos).2.running), .int .u64 ((stAt all s.pos).2.value), .int .u64 (dig (stAt all s.pos).1), .int .i64 s.pos, .int .i64 0, .int .i64 (-1)]]) (φ := (b8 = b8 ∧ Nat.ble (0 + 12) 12 = true) ∧ True) rfl (by kernel_rfl) ⟨⟨rfl, rfl⟩, trivial⟩ (by rw [hD, hN, hS, ← mans_stat hwf hon]; exact ⟨bl, d, ⟨ao, ac, aF⟩, rfl, (by skip; exact (ModAt.ofQ h290 (k := 0) rfl rfl (pos := s.pos) (live := s.live) (h290.kn (k := 0) (blk := ⟨modC (.slice ao all.length ac) (.pointer (some ⟨bl, 0, none⟩)) s.pos s.live, 52, false⟩) rfl))), h290.frame, ModAt.subQ h290 (k := 0) rfl rfl⟩)
        ·
          have hb276f : ¬ op.n < 0 := by simpa using hb276
          refine dr_start (KB := [bm, b2, b8, bl]) (Bi := [[0, 1, 2, 3], [0, 1, 2, 3], [0, 1, 2, 3], [0, 1, 2, 3], [0, 1, 2, 3], [0, 1, 2, 3], [0, 1, 2, 3], [0, 1, 2, 3], [0, 1, 2, 3], [0, 1, 2, 3], [0, 1, 2, 3], [0, 1, 2, 3], [0, 1, 2, 3], [0, 1, 2, 3], [0, 1, 2, 3], [0, 1, 2, 3], [0, 1, 2, 3], [0, 1, 2, 3], [0, 1, 2, 3], [0, 1, 2, 3], [0, 1, 2, 3]]) mixed h272 fun w291 h292 => ?_
          clear h272
          refine dr_batch tabOk tabZ_ok (by repeat (first | with_reducible exact PF.body | with_reducible apply PF.inB | with_reducible apply PF.next)) [(0, {}), (1, {k := 1, p := 1}), (2, {f := 1}), (3, {}), (4, {}), (5, {}), (6, {}), (7, {k := 0, p := 0}), (8, {}), (9, {k := 1, p := 1}), (10, {}), (11, {}), (12, {}), (13, {}), (14, {k := 0, p := 0}), (15, {}), (16, {}), (17, {}), (18, {k := 3, p := 3}), (19, {}), (20, {})] [4, 3, 0, 1, 14, 106] (T' := [(4, .pointer (some ⟨b8, 0, none⟩)), (3, .pointer (some ⟨b2, 0, none⟩)), (0, .pointer (some ⟨bm, 0, none⟩)), (1, .agg #[.int .u8 op.kind, .int .i64 op.n, .int .i64 op.m, .int .u8 op.ev.kind, .int .u32 op.ev.pick, .int .u64 op.ev.arg]), (14, .int .u8 op.kind), (106, .bool (decide ((s.pos - op.n) < s.lg.base.idx)))]) (φ := (b2 = b2 ∧ Nat.ble (1 + 1) 6 = true) ∧ (decide (op.n < 0)) = false ∧ (bm = bm ∧ Nat.ble (2 + 1) 4 = true) ∧ (b2 = b2 ∧ Nat.ble (1 + 1) 6 = true) ∧ inR .i64 (s.pos - op.n) ∧ (bm = bm ∧ Nat.ble (1 + 1) 4 = true) ∧ (bl = bl ∧ Nat.ble (0 + 1) 18 = true) ∧ True) (fuel := 0) h292 (by kernel_rfl) rfl (by kernel_rfl) (by kernel_rfl) ⟨trivial, rfl, trivial, trivial, trivial, trivial, trivial, rfl, trivial, rfl, trivial, trivial, trivial, trivial, rfl, trivial, trivial, trivial, rfl, trivial, trivial, trivial⟩ ⟨⟨rfl, rfl⟩, hb276, ⟨rfl, rfl⟩, ⟨rfl, rfl⟩, ⟨by omega, by omega⟩, ⟨rfl, rfl⟩, ⟨rfl, rfl⟩, trivial⟩ fun a294 h295 => ?_
          clear h292
          refine wpAnyK_done (by kernel_rfl) ?_ _
          refine hK275 _ _ ?_
          clear hK275
          refine c_split h295 (b := decide ((s.pos - op.n) < s.lg.base.idx)) rfl (fun hc296 => ?_) (fun hc296 => ?_)
          ·
            have hc296f : (s.pos - op.n) < s.lg.base.idx := by simpa using hc296
            refine wp_seq_k fun K297 hK297 => ?_
            refine nd_start (l := [0, 1, 2]) rfl ?_
            refine nd_batch tabOk tabZ_ok [(0, {})] [4, 3, 0, 1, 14, 107] (T' := [(4, .pointer (some ⟨b8, 0, none⟩)), (3, .pointer (some ⟨b2, 0, none⟩)), (0, .pointer (some ⟨bm, 0, none⟩)), (1, .agg #[.int .u8 op.kind, .int .i64 op.n, .int .i64 op.m, .int .u8 op.ev.kind, .int .u32 op.ev.pick, .int .u64 op.ev.arg]), (14, .int .u8 op.kind), (107, .pointer (some ⟨bm, 0, none⟩))]) (φ := True) (rest := [1, 2]) h295 (by kernel_rfl) rfl trivial fun a298 h299 => ?_
            clear h295
            refine nd_op ?_
            refine op_call h299 rfl rfl rfl (callOk Try.func40 (by decide) rfl) (args := [.pointer (some ⟨bm, 0, none⟩), .int .u8 1]) rfl (refuse_ok bm bl _ _ _ _ (ModAt.ofQ h299 (k := 0) rfl rfl (pos := s.pos) (live := s.live) (h299.kn (k := 0) (blk := ⟨modC (.slice ao all.length ac) (.pointer (some ⟨bl, 0, none⟩)) s.pos s.live, 52, false⟩) rfl)) 1 (by show 0 ≤ s.pos; omega) (by show s.pos ≤ (all.length : Int); omega) hev hal) ?_
            rintro _ w300 ⟨rfl, hf302⟩
            refine ⟨_, rfl, ?_⟩
            have h301 := (h299.grow hf302).put (d := some 108) (v := .agg #[.int .u8 1, .int .i64 s.pos, .int .i64 s.lg.base.idx, .int .i64 ((all.length : Nat) : Int), .bool s.live, .bool ((stAt all s.pos).2.refused), .int .i8 ((stAt all s.pos).2.running), .int .u64 ((stAt all s.pos).2.value), .int .u64 (dig (stAt all s.pos).1), .int .i64 s.pos, .int .i64 0, .int .i64 (-1)]) (T' := [(108, .agg #[.int .u8 1, .int .i64 s.pos, .int .i64 s.lg.base.idx, .int .i64 ((all.length : Nat) : Int), .bool s.live, .bool ((stAt all s.pos).2.refused), .int .i8 ((stAt all s.pos).2.running), .int .u64 ((stAt all s.pos).2.value), .int .u64 (dig (stAt all s.pos).1), .int .i64 s.pos, .int .i64 0, .int .i64 (-1)]), (4, .pointer (some ⟨b8, 0, none⟩)), (3, .pointer (some ⟨b2, 0, none⟩)), (0, .pointer (some ⟨bm, 0, none⟩)), (1, .agg #[.int .u8 op.kind, .int .i64 op.n, .int .i64 op.m, .int .u8 op.ev.kind, .int .u32 op.ev.pick, .int .u64 op.ev.arg]), (14, .int .u8 op.kind), (107, .pointer (some ⟨bm, 0, none⟩))]) rfl
            clear h299
            refine nd_op ?_
            refine op_store tabOk {k := 2} (L' := [(bm, ⟨modC (.slice ao all.length ac) (.pointer (some ⟨bl, 0, none⟩)) s.pos s.live, 52, false⟩), (b2, ⟨[.int .u8 op.kind, .int .i64 op.n, .int .i64 op.m, .int .u8 op.ev.kind, .int .u32 op.ev.pick, .int .u64 op.ev.arg], 35, false⟩), (b8, ⟨[.int .u8 1, .int .i64 s.pos, .int .i64 s.lg.base.idx, .int .i64 ((all.length : Nat) : Int), .bool s.live, .bool ((stAt all s.pos).2.refused), .int .i8 ((stAt all s.pos).2.running), .int .u64 ((stAt all s.pos).2.value), .int .u64 (dig (stAt all s.pos).1), .int .i64 s.pos, .int .i64 0, .int .i64 (-1)], 41, false⟩), (bl, ⟨logC s.lg.base (.slice d.eo s.lg.evs.length d.ec) (.slice d.mo s.lg.mks.length d.mc) (.slice d.so s.lg.sns.length d.sc), 69, true⟩)]) (φ := b8 = b8 ∧ Nat.ble (0 + 12) 12 = true) h301 rfl rfl rfl (by kernel_rfl) ⟨rfl, rfl⟩ fun w303 h304 => ?_
            clear h301
            refine nd_done ?_
            refine hK297 _ _ ?_
            clear hK297
            refine wp_ret ?_
            have h305 := h304.memMono (L' := [(bm, ⟨modC (.slice ao all.length ac) (.pointer (some ⟨bl, 0, none⟩)) s.pos s.live, 52, false⟩), (b2, ⟨[.int .u8 op.kind, .int .i64 op.n, .int .i64 op.m, .int .u8 op.ev.kind, .int .u32 op.ev.pick, .int .u64 op.ev.arg], 35, false⟩), (b8, ⟨[.int .u8 1, .int .i64 s.pos, .int .i64 s.lg.base.idx, .int .i64 ((all.length : Nat) : Int), .bool s.live, .bool ((stAt all s.pos).2.refused), .int .i8 ((stAt all s.pos).2.running), .int .u64 ((stAt all s.pos).2.value), .int .u64 (dig (stAt all s.pos).1), .int .i64 s.pos, .int .i64 0, .int .i64 (-1)], 41, false⟩)]) (List.Sublist.cons_cons _ (List.Sublist.cons_cons _ (List.Sublist.cons_cons _ (List.Sublist.cons _ List.Sublist.slnil))))
            clear h304
            obtain ⟨hD, hN⟩ := do3_back (s := s) (all := all) hk2
            have hS : backR s op.n = (s.stat 1, s) := by unfold backR; rw [if_pos (by omega)]
            skip
            try simp only [Exit.then, Exit.inBlock]
            try rw [if_pos trivial]
            exact s_ret tabOk tabZ_ok h305 [(.cell 4 41, {k := 2})] (vs := [.agg #[.int .u8 1, .int .i64 s.pos, .int .i64 s.lg.base.idx, .int .i64 ((all.length : Nat) : Int), .bool s.live, .bool ((stAt all s.pos).2.refused), .int .i8 ((stAt all s.pos).2.running), .int .u64 ((stAt all s.pos).2.value), .int .u64 (dig (stAt all s.pos).1), .int .i64 s.pos, .int .i64 0, .int .i64 (-1)]]) (φ := (b8 = b8 ∧ Nat.ble (0 + 12) 12 = true) ∧ True) rfl (by kernel_rfl) ⟨⟨rfl, rfl⟩, trivial⟩ (by rw [hD, hN, hS, ← mans_stat hwf hon]; exact ⟨bl, d, ⟨ao, ac, aF⟩, rfl, (by skip; exact (ModAt.ofQ h305 (k := 0) rfl rfl (pos := s.pos) (live := s.live) (h305.kn (k := 0) (blk := ⟨modC (.slice ao all.length ac) (.pointer (some ⟨bl, 0, none⟩)) s.pos s.live, 52, false⟩) rfl))), h305.frame, ModAt.subQ h305 (k := 0) rfl rfl⟩)
          ·
            have hc296f : ¬ (s.pos - op.n) < s.lg.base.idx := by simpa using hc296
            refine wp_skip ?_
            refine hK274 _ _ ?_
            clear hK274
            refine wp_seq_k fun K306 hK306 => ?_
            refine dr_start (KB := [bm, b2, b8, bl]) (Bi := [[0, 1, 2, 3], [0, 1, 2, 3], [0, 1, 2, 3], [0, 1, 2, 3], [0, 1, 2, 3], [0, 1, 2, 3], [0, 1, 2, 3], [0, 1, 2, 3], [], []]) mixed h295 fun w307 h308 => ?_
            clear h295
            refine dr_batch tabOk tabZ_ok (by repeat (first | with_reducible exact PF.body | with_reducible apply PF.inB | with_reducible apply PF.next)) [(0, {}), (1, {}), (2, {}), (3, {}), (4, {k := 0, p := 0}), (5, {}), (6, {k := 1, p := 1}), (7, {})] [4, 3, 0, 1, 14, 109, 116] (T' := [(4, .pointer (some ⟨b8, 0, none⟩)), (3, .pointer (some ⟨b2, 0, none⟩)), (0, .pointer (some ⟨bm, 0, none⟩)), (1, .agg #[.int .u8 op.kind, .int .i64 op.n, .int .i64 op.m, .int .u8 op.ev.kind, .int .u32 op.ev.pick, .int .u64 op.ev.arg]), (14, .int .u8 op.kind), (109, .pointer (some ⟨bm, 0, none⟩)), (116, .int .i64 (s.pos - op.n))]) (φ := (bm = bm ∧ Nat.ble (2 + 1) 4 = true) ∧ (b2 = b2 ∧ Nat.ble (1 + 1) 6 = true) ∧ inR .i64 (s.pos - op.n) ∧ True) (fuel := 2) h308 (by kernel_rfl) rfl (by kernel_rfl) (by kernel_rfl) ⟨trivial, trivial, trivial, trivial, rfl, trivial, rfl, trivial, trivial⟩ ⟨⟨rfl, rfl⟩, ⟨rfl, rfl⟩, ⟨by omega, by omega⟩, trivial⟩ fun a310 h311 => ?_
            clear h308
            refine wpAnyK_one (i := 8) (fuel := 1) (by kernel_rfl) ?_
            refine op_call h311 rfl rfl rfl (callOk Try.func43 (by decide) rfl) (args := [.pointer (some ⟨bm, 0, none⟩), .int .i64 (s.pos - op.n)]) rfl ((by have hq := mseek_ok bm bl _ _ (mdOf all s) _ (ModAt.ofQ h311 (k := 0) rfl rfl (pos := s.pos) (live := s.live) (h311.kn (k := 0) (blk := ⟨modC (.slice ao all.length ac) (.pointer (some ⟨bl, 0, none⟩)) s.pos s.live, 52, false⟩) rfl)) (s.pos - op.n) hB hwf.lg (by show 0 ≤ s.pos; omega) (by show s.pos ≤ (all.length : Int); omega) hev hal; rw [mseek_eq hwf hon] at hq; exact hq)) ?_
            rintro _ w312 ⟨rfl, hmv, hf314⟩
            refine ⟨_, rfl, ?_⟩
            have h313 := (h311.setBlk (k := 0) rfl rfl hf314 hmv.blk (L' := [(bm, ⟨modC (.slice ao all.length ac) (.pointer (some ⟨bl, 0, none⟩)) ((seekR s (s.pos - op.n)).2.pos) ((seekR s (s.pos - op.n)).2.live), 52, false⟩), (b2, ⟨[.int .u8 op.kind, .int .i64 op.n, .int .i64 op.m, .int .u8 op.ev.kind, .int .u32 op.ev.pick, .int .u64 op.ev.arg], 35, false⟩), (b8, ⟨[.int .u8 0, .int .i64 0, .int .i64 0, .int .i64 0, .bool false, .bool false, .int .i8 0, .int .u64 0, .int .u64 0, .int .i64 0, .int .i64 0, .int .i64 0], 41, false⟩), (bl, ⟨logC s.lg.base (.slice d.eo s.lg.evs.length d.ec) (.slice d.mo s.lg.mks.length d.mc) (.slice d.so s.lg.sns.length d.sc), 69, true⟩)]) rfl).put (d := some 117) (v := .agg #[.int .u8 ((seekR s (s.pos - op.n)).1.code), .int .i64 ((seekR s (s.pos - op.n)).1.pos), .int .i64 ((seekR s (s.pos - op.n)).1.base), .int .i64 ((seekR s (s.pos - op.n)).1.fin), .bool ((seekR s (s.pos - op.n)).1.live), .bool ((seekR s (s.pos - op.n)).1.out.refused), .int .i8 ((seekR s (s.pos - op.n)).1.out.running), .int .u64 ((seekR s (s.pos - op.n)).1.out.value), .int .u64 ((seekR s (s.pos - op.n)).1.dig), .int .i64 ((seekR s (s.pos - op.n)).1.from_), .int .i64 ((seekR s (s.pos - op.n)).1.replayed), .int .i64 ((seekR s (s.pos - op.n)).1.at_)]) (T' := [(117, .agg #[.int .u8 ((seekR s (s.pos - op.n)).1.code), .int .i64 ((seekR s (s.pos - op.n)).1.pos), .int .i64 ((seekR s (s.pos - op.n)).1.base), .int .i64 ((seekR s (s.pos - op.n)).1.fin), .bool ((seekR s (s.pos - op.n)).1.live), .bool ((seekR s (s.pos - op.n)).1.out.refused), .int .i8 ((seekR s (s.pos - op.n)).1.out.running), .int .u64 ((seekR s (s.pos - op.n)).1.out.value), .int .u64 ((seekR s (s.pos - op.n)).1.dig), .int .i64 ((seekR s (s.pos - op.n)).1.from_), .int .i64 ((seekR s (s.pos - op.n)).1.replayed), .int .i64 ((seekR s (s.pos - op.n)).1.at_)]), (4, .pointer (some ⟨b8, 0, none⟩)), (3, .pointer (some ⟨b2, 0, none⟩)), (0, .pointer (some ⟨bm, 0, none⟩)), (1, .agg #[.int .u8 op.kind, .int .i64 op.n, .int .i64 op.m, .int .u8 op.ev.kind, .int .u32 op.ev.pick, .int .u64 op.ev.arg]), (14, .int .u8 op.kind), (109, .pointer (some ⟨bm, 0, none⟩)), (116, .int .i64 (s.pos - op.n))]) rfl
            have hkh313 := h311.known
            refine ⟨keepNil, ?_⟩
            clear h311
            refine wpAnyK_one (i := 9) (fuel := 0) (by kernel_rfl) ?_
            refine op_store tabOk {k := 2} (L' := [(bm, ⟨modC (.slice ao all.length ac) (.pointer (some ⟨bl, 0, none⟩)) ((seekR s (s.pos - op.n)).2.pos) ((seekR s (s.pos - op.n)).2.live), 52, false⟩), (b2, ⟨[.int .u8 op.kind, .int .i64 op.n, .int .i64 op.m, .int .u8 op.ev.kind, .int .u32 op.ev.pick, .int .u64 op.ev.arg], 35, false⟩), (b8, ⟨[.int .u8 ((seekR s (s.pos - op.n)).1.code), .int .i64 ((seekR s (s.pos - op.n)).1.pos), .int .i64 ((seekR s (s.pos - op.n)).1.base), .int .i64 ((seekR s (s.pos - op.n)).1.fin), .bool ((seekR s (s.pos - op.n)).1.live), .bool ((seekR s (s.pos - op.n)).1.out.refused), .int .i8 ((seekR s (s.pos - op.n)).1.out.running), .int .u64 ((seekR s (s.pos - op.n)).1.out.value), .int .u64 ((seekR s (s.pos - op.n)).1.dig), .int .i64 ((seekR s (s.pos - op.n)).1.from_), .int .i64 ((seekR s (s.pos - op.n)).1.replayed), .int .i64 ((seekR s (s.pos - op.n)).1.at_)], 41, false⟩), (bl, ⟨logC s.lg.base (.slice d.eo s.lg.evs.length d.ec) (.slice d.mo s.lg.mks.length d.mc) (.slice d.so s.lg.sns.length d.sc), 69, true⟩)]) (φ := b8 = b8 ∧ Nat.ble (0 + 12) 12 = true) h313 rfl rfl rfl (by kernel_rfl) ⟨rfl, rfl⟩ fun w315 h316 => ?_
            have hkh316 := h313.known
            refine ⟨keepNil, ?_⟩
            clear h313
            refine wpAnyK_done (by kernel_rfl) ?_ _
            refine hK306 _ _ ?_
            clear hK306
            refine wp_ret ?_
            have h317 := h316.memMono (L' := [(bm, ⟨modC (.slice ao all.length ac) (.pointer (some ⟨bl, 0, none⟩)) ((seekR s (s.pos - op.n)).2.pos) ((seekR s (s.pos - op.n)).2.live), 52, false⟩), (b2, ⟨[.int .u8 op.kind, .int .i64 op.n, .int .i64 op.m, .int .u8 op.ev.kind, .int .u32 op.ev.pick, .int .u64 op.ev.arg], 35, false⟩), (b8, ⟨[.int .u8 ((seekR s (s.pos - op.n)).1.code), .int .i64 ((seekR s (s.pos - op.n)).1.pos), .int .i64 ((seekR s (s.pos - op.n)).1.base), .int .i64 ((seekR s (s.pos - op.n)).1.fin), .bool ((seekR s (s.pos - op.n)).1.live), .bool ((seekR s (s.pos - op.n)).1.out.refused), .int .i8 ((seekR s (s.pos - op.n)).1.out.running), .int .u64 ((seekR s (s.pos - op.n)).1.out.value), .int .u64 ((seekR s (s.pos - op.n)).1.dig), .int .i64 ((seekR s (s.pos - op.n)).1.from_), .int .i64 ((seekR s (s.pos - op.n)).1.replayed), .int .i64 ((seekR s (s.pos - op.n)).1.at_)], 41, false⟩)]) (List.Sublist.cons_cons _ (List.Sublist.cons_cons _ (List.Sublist.cons_cons _ (List.Sublist.cons _ List.Sublist.slnil))))
            clear h316
            obtain ⟨hD, hN⟩ := do3_back (s := s) (all := all) hk2
            have hS : backR s op.n = seekR s (s.pos - op.n) := by unfold backR; rw [if_neg (by omega)]
            have hlg2 := seek_lg s (s.pos - op.n)
            skip
            try simp only [Exit.then, Exit.inBlock]
            try rw [if_pos trivial]
            exact s_ret tabOk tabZ_ok h317 [(.cell 4 41, {k := 2})] (vs := [.agg #[.int .u8 ((seekR s (s.pos - op.n)).1.code), .int .i64 ((seekR s (s.pos - op.n)).1.pos), .int .i64 ((seekR s (s.pos - op.n)).1.base), .int .i64 ((seekR s (s.pos - op.n)).1.fin), .bool ((seekR s (s.pos - op.n)).1.live), .bool ((seekR s (s.pos - op.n)).1.out.refused), .int .i8 ((seekR s (s.pos - op.n)).1.out.running), .int .u64 ((seekR s (s.pos - op.n)).1.out.value), .int .u64 ((seekR s (s.pos - op.n)).1.dig), .int .i64 ((seekR s (s.pos - op.n)).1.from_), .int .i64 ((seekR s (s.pos - op.n)).1.replayed), .int .i64 ((seekR s (s.pos - op.n)).1.at_)]]) (φ := (b8 = b8 ∧ Nat.ble (0 + 12) 12 = true) ∧ True) rfl (by kernel_rfl) ⟨⟨rfl, rfl⟩, trivial⟩ (by rw [hD, hN, hS]; exact ⟨bl, d, ⟨ao, ac, aF⟩, rfl, (by unfold mdOf; rw [hlg2]; exact (ModAt.ofQ h317 (k := 0) rfl rfl (pos := (seekR s (s.pos - op.n)).2.pos) (live := (seekR s (s.pos - op.n)).2.live) (h317.kn (k := 0) (blk := ⟨modC (.slice ao all.length ac) (.pointer (some ⟨bl, 0, none⟩)) ((seekR s (s.pos - op.n)).2.pos) ((seekR s (s.pos - op.n)).2.live), 52, false⟩) rfl))), h317.frame, ModAt.subQ h317 (k := 0) rfl rfl⟩)
      ·
        have hc271f : op.kind ≠ 2 := by simpa using hc271
        have hk2 : op.kind ≠ 2 := hc271f
        refine wp_seq_k fun K318 hK318 => ?_
        refine nd_start (l := [0, 1]) rfl ?_
        refine nd_batch tabOk tabZ_ok [(0, {}), (1, {})] [4, 3, 0, 1, 14, 118] (T' := [(4, .pointer (some ⟨b8, 0, none⟩)), (3, .pointer (some ⟨b2, 0, none⟩)), (0, .pointer (some ⟨bm, 0, none⟩)), (1, .agg #[.int .u8 op.kind, .int .i64 op.n, .int .i64 op.m, .int .u8 op.ev.kind, .int .u32 op.ev.pick, .int .u64 op.ev.arg]), (14, .int .u8 op.kind), (118, .bool (op.kind == 3))]) (φ := True) (rest := []) h270 (by kernel_rfl) rfl trivial fun a319 h320 => ?_
        clear h270
        refine nd_done ?_
        refine hK318 _ _ ?_
        clear hK318
        refine c_split h320 (b := (op.kind == 3)) rfl (fun hc321 => ?_) (fun hc321 => ?_)
        ·
          have hc321f : op.kind = 3 := by simpa using hc321
          have hk3 : op.kind = 3 := hc321f
          refine wp_seq_k fun K322 hK322 => ?_
          refine wp_seq_k fun K323 hK323 => ?_
          rcases Bool.eq_false_or_eq_true (decide (op.n < 0)) with hb324 | hb324
          ·
            have hb324f : op.n < 0 := by simpa using hb324
            refine dr_start (KB := [bm, b2, b8]) (Bi := [[0, 1, 2], [0, 1, 2], [0, 1, 2], [0, 1, 2], [0, 1, 2], [0, 1, 2], [0, 1, 2], [0, 1, 2], [0, 1, 2], [0, 1, 2], [0, 1, 2], [0, 1, 2], [0, 1, 2], [0, 1, 2], [0, 1, 2], [0, 1, 2], [0, 1, 2], [0, 1, 2]]) mixed h320 fun w325 h326 => ?_
            clear h320
            refine dr_batch tabOk tabZ_ok (by repeat (first | with_reducible exact PF.body | with_reducible apply PF.inB | with_reducible apply PF.next)) [(0, {}), (1, {k := 1, p := 1}), (2, {f := 2}), (3, {}), (4, {}), (5, {k := 0, p := 0}), (6, {}), (7, {}), (8, {}), (9, {k := 0, p := 0}), (10, {}), (11, {}), (12, {}), (13, {}), (14, {k := 0, p := 0}), (15, {}), (16, {}), (17, {})] [4, 3, 0, 1, 14, 137] (T' := [(4, .pointer (some ⟨b8, 0, none⟩)), (3, .pointer (some ⟨b2, 0, none⟩)), (0, .pointer (some ⟨bm, 0, none⟩)), (1, .agg #[.int .u8 op.kind, .int .i64 op.n, .int .i64 op.m, .int .u8 op.ev.kind, .int .u32 op.ev.pick, .int .u64 op.ev.arg]), (14, .int .u8 op.kind), (137, .bool true)]) (φ := (b2 = b2 ∧ Nat.ble (1 + 1) 6 = true) ∧ (decide (op.n < 0)) = true ∧ True) (fuel := 0) h326 (by kernel_rfl) rfl (by kernel_rfl) (by kernel_rfl) ⟨trivial, rfl, trivial, trivial, trivial, rfl, trivial, trivial, trivial, rfl, trivial, trivial, trivial, trivial, rfl, trivial, trivial, trivial, trivial⟩ ⟨⟨rfl, rfl⟩, hb324, trivial⟩ fun a328 h329 => ?_
            clear h326
            refine wpAnyK_done (by kernel_rfl) ?_ _
            refine hK323 _ _ ?_
            clear hK323
            refine c_true h329 rfl ?_
            refine wp_seq_k fun K330 hK330 => ?_
            refine nd_start (l := [0, 1, 2]) rfl ?_
            refine nd_batch tabOk tabZ_ok [(0, {})] [4, 3, 0, 1, 14, 138] (T' := [(4, .pointer (some ⟨b8, 0, none⟩)), (3, .pointer (some ⟨b2, 0, none⟩)), (0, .pointer (some ⟨bm, 0, none⟩)), (1, .agg #[.int .u8 op.kind, .int .i64 op.n, .int .i64 op.m, .int .u8 op.ev.kind, .int .u32 op.ev.pick, .int .u64 op.ev.arg]), (14, .int .u8 op.kind), (138, .pointer (some ⟨bm, 0, none⟩))]) (φ := True) (rest := [1, 2]) h329 (by kernel_rfl) rfl trivial fun a331 h332 => ?_
            clear h329
            refine nd_op ?_
            refine op_call h332 rfl rfl rfl (callOk Try.func40 (by decide) rfl) (args := [.pointer (some ⟨bm, 0, none⟩), .int .u8 1]) rfl (refuse_ok bm bl _ _ _ _ (ModAt.ofQ h332 (k := 0) rfl rfl (pos := s.pos) (live := s.live) (h332.kn (k := 0) (blk := ⟨modC (.slice ao all.length ac) (.pointer (some ⟨bl, 0, none⟩)) s.pos s.live, 52, false⟩) rfl)) 1 (by show 0 ≤ s.pos; omega) (by show s.pos ≤ (all.length : Int); omega) hev hal) ?_
            rintro _ w333 ⟨rfl, hf335⟩
            refine ⟨_, rfl, ?_⟩
            have h334 := (h332.grow hf335).put (d := some 139) (v := .agg #[.int .u8 1, .int .i64 s.pos, .int .i64 s.lg.base.idx, .int .i64 ((all.length : Nat) : Int), .bool s.live, .bool ((stAt all s.pos).2.refused), .int .i8 ((stAt all s.pos).2.running), .int .u64 ((stAt all s.pos).2.value), .int .u64 (dig (stAt all s.pos).1), .int .i64 s.pos, .int .i64 0, .int .i64 (-1)]) (T' := [(139, .agg #[.int .u8 1, .int .i64 s.pos, .int .i64 s.lg.base.idx, .int .i64 ((all.length : Nat) : Int), .bool s.live, .bool ((stAt all s.pos).2.refused), .int .i8 ((stAt all s.pos).2.running), .int .u64 ((stAt all s.pos).2.value), .int .u64 (dig (stAt all s.pos).1), .int .i64 s.pos, .int .i64 0, .int .i64 (-1)]), (4, .pointer (some ⟨b8, 0, none⟩)), (3, .pointer (some ⟨b2, 0, none⟩)), (0, .pointer (some ⟨bm, 0, none⟩)), (1, .agg #[.int .u8 op.kind, .int .i64 op.n, .int .i64 op.m, .int .u8 op.ev.kind, .int .u32 op.ev.pick, .int .u64 op.ev.arg]), (14, .int .u8 op.kind), (138, .pointer (some ⟨bm, 0, none⟩))]) rfl
            clear h332
            refine nd_op ?_
            refine op_store tabOk {k := 2} (L' := [(bm, ⟨modC (.slice ao all.length ac) (.pointer (some ⟨bl, 0, none⟩)) s.pos s.live, 52, false⟩), (b2, ⟨[.int .u8 op.kind, .int .i64 op.n, .int .i64 op.m, .int .u8 op.ev.kind, .int .u32 op.ev.pick, .int .u64 op.ev.arg], 35, false⟩), (b8, ⟨[.int .u8 1, .int .i64 s.pos, .int .i64 s.lg.base.idx, .int .i64 ((all.length : Nat) : Int), .bool s.live, .bool ((stAt all s.pos).2.refused), .int .i8 ((stAt all s.pos).2.running), .int .u64 ((stAt all s.pos).2.value), .int .u64 (dig (stAt all s.pos).1), .int .i64 s.pos, .int .i64 0, .int .i64 (-1)], 41, false⟩)]) (φ := b8 = b8 ∧ Nat.ble (0 + 12) 12 = true) h334 rfl rfl rfl (by kernel_rfl) ⟨rfl, rfl⟩ fun w336 h337 => ?_
            clear h334
            refine nd_done ?_
            refine hK330 _ _ ?_
            clear hK330
            refine wp_ret ?_
            obtain ⟨hD, hN⟩ := do3_forw (s := s) (all := all) hk3
            have hS : forwR s op.n = (s.stat 1, s) := by unfold forwR; rw [if_pos (by omega)]
            skip
            try simp only [Exit.then, Exit.inBlock]
            try rw [if_pos trivial]
            exact s_ret tabOk tabZ_ok h337 [(.cell 4 41, {k := 2})] (vs := [.agg #[.int .u8 1, .int .i64 s.pos, .int .i64 s.lg.base.idx, .int .i64 ((all.length : Nat) : Int), .bool s.live, .bool ((stAt all s.pos).2.refused), .int .i8 ((stAt all s.pos).2.running), .int .u64 ((stAt all s.pos).2.value), .int .u64 (dig (stAt all s.pos).1), .int .i64 s.pos, .int .i64 0, .int .i64 (-1)]]) (φ := (b8 = b8 ∧ Nat.ble (0 + 12) 12 = true) ∧ True) rfl (by kernel_rfl) ⟨⟨rfl, rfl⟩, trivial⟩ (by rw [hD, hN, hS, ← mans_stat hwf hon]; exact ⟨bl, d, ⟨ao, ac, aF⟩, rfl, (by skip; exact (ModAt.ofQ h337 (k := 0) rfl rfl (pos := s.pos) (live := s.live) (h337.kn (k := 0) (blk := ⟨modC (.slice ao all.length ac) (.pointer (some ⟨bl, 0, none⟩)) s.pos s.live, 52, false⟩) rfl))), h337.frame, ModAt.subQ h337 (k := 0) rfl rfl⟩)
          ·
            have hb324f : ¬ op.n < 0 := by simpa using hb324
            refine dr_start (KB := [bm, b2, b8]) (Bi := [[0, 1, 2], [0, 1, 2], [0, 1, 2], [0, 1, 2], [0, 1, 2], [0, 1, 2], [0, 1, 2], [0, 1, 2], [0, 1, 2], [0, 1, 2], [0, 1, 2], [0, 1, 2], [0, 1, 2], [0, 1, 2], [0, 1, 2], [0, 1, 2], [0, 1, 2], [0, 1, 2]]) mixed h320 fun w338 h339 => ?_
            clear h320
            refine dr_batch tabOk tabZ_ok (by repeat (first | with_reducible exact PF.body | with_reducible apply PF.inB | with_reducible apply PF.next)) [(0, {}), (1, {k := 1, p := 1}), (2, {f := 1}), (3, {}), (4, {}), (5, {k := 1, p := 1}), (6, {}), (7, {}), (8, {}), (9, {k := 0, p := 0}), (10, {}), (11, {}), (12, {}), (13, {}), (14, {k := 0, p := 0}), (15, {}), (16, {}), (17, {})] [4, 3, 0, 1, 14, 137] (T' := [(4, .pointer (some ⟨b8, 0, none⟩)), (3, .pointer (some ⟨b2, 0, none⟩)), (0, .pointer (some ⟨bm, 0, none⟩)), (1, .agg #[.int .u8 op.kind, .int .i64 op.n, .int .i64 op.m, .int .u8 op.ev.kind, .int .u32 op.ev.pick, .int .u64 op.ev.arg]), (14, .int .u8 op.kind), (137, .bool (decide (op.n > (((all.length : Nat) : Int) - s.pos))))]) (φ := (b2 = b2 ∧ Nat.ble (1 + 1) 6 = true) ∧ (decide (op.n < 0)) = false ∧ (b2 = b2 ∧ Nat.ble (1 + 1) 6 = true) ∧ (bm = bm ∧ Nat.ble (0 + 1) 4 = true) ∧ (bm = bm ∧ Nat.ble (2 + 1) 4 = true) ∧ inR .i64 (((all.length : Nat) : Int) - s.pos) ∧ True) (fuel := 0) h339 (by kernel_rfl) rfl (by kernel_rfl) (by kernel_rfl) ⟨trivial, rfl, trivial, trivial, trivial, rfl, trivial, trivial, trivial, rfl, trivial, trivial, trivial, trivial, rfl, trivial, trivial, trivial, trivial⟩ ⟨⟨rfl, rfl⟩, hb324, ⟨rfl, rfl⟩, ⟨rfl, rfl⟩, ⟨rfl, rfl⟩, ⟨by omega, by omega⟩, trivial⟩ fun a341 h342 => ?_
            clear h339
            refine wpAnyK_done (by kernel_rfl) ?_ _
            refine hK323 _ _ ?_
            clear hK323
            refine c_split h342 (b := decide (op.n > (((all.length : Nat) : Int) - s.pos))) rfl (fun hc343 => ?_) (fun hc343 => ?_)
            ·
              have hc343f : op.n > (((all.length : Nat) : Int) - s.pos) := by simpa using hc343
              refine wp_seq_k fun K344 hK344 => ?_
              refine nd_start (l := [0, 1, 2]) rfl ?_
              refine nd_batch tabOk tabZ_ok [(0, {})] [4, 3, 0, 1, 14, 138] (T' := [(4, .pointer (some ⟨b8, 0, none⟩)), (3, .pointer (some ⟨b2, 0, none⟩)), (0, .pointer (some ⟨bm, 0, none⟩)), (1, .agg #[.int .u8 op.kind, .int .i64 op.n, .int .i64 op.m, .int .u8 op.ev.kind, .int .u32 op.ev.pick, .int .u64 op.ev.arg]), (14, .int .u8 op.kind), (138, .pointer (some ⟨bm, 0, none⟩))]) (φ := True) (rest := [1, 2]) h342 (by kernel_rfl) rfl trivial fun a345 h346 => ?_
              clear h342
              refine nd_op ?_
              refine op_call h346 rfl rfl rfl (callOk Try.func40 (by decide) rfl) (args := [.pointer (some ⟨bm, 0, none⟩), .int .u8 1]) rfl (refuse_ok bm bl _ _ _ _ (ModAt.ofQ h346 (k := 0) rfl rfl (pos := s.pos) (live := s.live) (h346.kn (k := 0) (blk := ⟨modC (.slice ao all.length ac) (.pointer (some ⟨bl, 0, none⟩)) s.pos s.live, 52, false⟩) rfl)) 1 (by show 0 ≤ s.pos; omega) (by show s.pos ≤ (all.length : Int); omega) hev hal) ?_
              rintro _ w347 ⟨rfl, hf349⟩
              refine ⟨_, rfl, ?_⟩
              have h348 := (h346.grow hf349).put (d := some 139) (v := .agg #[.int .u8 1, .int .i64 s.pos, .int .i64 s.lg.base.idx, .int .i64 ((all.length : Nat) : Int), .bool s.live, .bool ((stAt all s.pos).2.refused), .int .i8 ((stAt all s.pos).2.running), .int .u64 ((stAt all s.pos).2.value), .int .u64 (dig (stAt all s.pos).1), .int .i64 s.pos, .int .i64 0, .int .i64 (-1)]) (T' := [(139, .agg #[.int .u8 1, .int .i64 s.pos, .int .i64 s.lg.base.idx, .int .i64 ((all.length : Nat) : Int), .bool s.live, .bool ((stAt all s.pos).2.refused), .int .i8 ((stAt all s.pos).2.running), .int .u64 ((stAt all s.pos).2.value), .int .u64 (dig (stAt all s.pos).1), .int .i64 s.pos, .int .i64 0, .int .i64 (-1)]), (4, .pointer (some ⟨b8, 0, none⟩)), (3, .pointer (some ⟨b2, 0, none⟩)), (0, .pointer (some ⟨bm, 0, none⟩)), (1, .agg #[.int .u8 op.kind, .int .i64 op.n, .int .i64 op.m, .int .u8 op.ev.kind, .int .u32 op.ev.pick, .int .u64 op.ev.arg]), (14, .int .u8 op.kind), (138, .pointer (some ⟨bm, 0, none⟩))]) rfl
              clear h346
              refine nd_op ?_
              refine op_store tabOk {k := 2} (L' := [(bm, ⟨modC (.slice ao all.length ac) (.pointer (some ⟨bl, 0, none⟩)) s.pos s.live, 52, false⟩), (b2, ⟨[.int .u8 op.kind, .int .i64 op.n, .int .i64 op.m, .int .u8 op.ev.kind, .int .u32 op.ev.pick, .int .u64 op.ev.arg], 35, false⟩), (b8, ⟨[.int .u8 1, .int .i64 s.pos, .int .i64 s.lg.base.idx, .int .i64 ((all.length : Nat) : Int), .bool s.live, .bool ((stAt all s.pos).2.refused), .int .i8 ((stAt all s.pos).2.running), .int .u64 ((stAt all s.pos).2.value), .int .u64 (dig (stAt all s.pos).1), .int .i64 s.pos, .int .i64 0, .int .i64 (-1)], 41, false⟩)]) (φ := b8 = b8 ∧ Nat.ble (0 + 12) 12 = true) h348 rfl rfl rfl (by kernel_rfl) ⟨rfl, rfl⟩ fun w350 h351 => ?_
              clear h348
              refine nd_done ?_
              refine hK344 _ _ ?_
              clear hK344
              refine wp_ret ?_
              obtain ⟨hD, hN⟩ := do3_forw (s := s) (all := all) hk3
              have hS : forwR s op.n = (s.stat 1, s) := by unfold forwR; rw [if_pos (by omega)]
              skip
              try simp only [Exit.then, Exit.inBlock]
              try rw [if_pos trivial]
              exact s_ret tabOk tabZ_ok h351 [(.cell 4 41, {k := 2})] (vs := [.agg #[.int .u8 1, .int .i64 s.pos, .int .i64 s.lg.base.idx, .int .i64 ((all.length : Nat) : Int), .bool s.live, .bool ((stAt all s.pos).2.refused), .int .i8 ((stAt all s.pos).2.running), .int .u64 ((stAt all s.pos).2.value), .int .u64 (dig (stAt all s.pos).1), .int .i64 s.pos, .int .i64 0, .int .i64 (-1)]]) (φ := (b8 = b8 ∧ Nat.ble (0 + 12) 12 = true) ∧ True) rfl (by kernel_rfl) ⟨⟨rfl, rfl⟩, trivial⟩ (by rw [hD, hN, hS, ← mans_stat hwf hon]; exact ⟨bl, d, ⟨ao, ac, aF⟩, rfl, (by skip; exact (ModAt.ofQ h351 (k := 0) rfl rfl (pos := s.pos) (live := s.live) (h351.kn (k := 0) (blk := ⟨modC (.slice ao all.length ac) (.pointer (some ⟨bl, 0, none⟩)) s.pos s.live, 52, false⟩) rfl))), h351.frame, ModAt.subQ h351 (k := 0) rfl rfl⟩)
            ·
              have hc343f : ¬ op.n > (((all.length : Nat) : Int) - s.pos) := by simpa using hc343
              refine wp_skip ?_
              refine hK322 _ _ ?_
              clear hK322
              refine wp_seq_k fun K352 hK352 => ?_
              refine dr_start (KB := [bm, b2, b8]) (Bi := [[0, 1, 2], [0, 1, 2], [0, 1, 2], [0, 1, 2], [0, 1, 2], [0, 1, 2], [0, 1, 2], [0, 1, 2], [0, 1, 2], [0, 1, 2], [0, 1, 2], [0, 1, 2], [], []]) mixed h342 fun w353 h354 => ?_
              clear h342
              refine dr_batch tabOk tabZ_ok (by repeat (first | with_reducible exact PF.body | with_reducible apply PF.inB | with_reducible apply PF.next)) [(0, {}), (1, {}), (2, {}), (3, {}), (4, {k := 0, p := 0}), (5, {}), (6, {k := 1, p := 1}), (7, {}), (8, {}), (9, {}), (10, {}), (11, {k := 0, p := 0})] [4, 3, 0, 1, 14, 140, 147, 151] (T' := [(4, .pointer (some ⟨b8, 0, none⟩)), (3, .pointer (some ⟨b2, 0, none⟩)), (0, .pointer (some ⟨bm, 0, none⟩)), (1, .agg #[.int .u8 op.kind, .int .i64 op.n, .int .i64 op.m, .int .u8 op.ev.kind, .int .u32 op.ev.pick, .int .u64 op.ev.arg]), (14, .int .u8 op.kind), (140, .pointer (some ⟨bm, 0, none⟩)), (147, .int .i64 (s.pos + op.n)), (151, .int .i64 s.pos)]) (φ := (bm = bm ∧ Nat.ble (2 + 1) 4 = true) ∧ (b2 = b2 ∧ Nat.ble (1 + 1) 6 = true) ∧ inR .i64 (s.pos + op.n) ∧ (bm = bm ∧ Nat.ble (2 + 1) 4 = true) ∧ True) (fuel := 2) h354 (by kernel_rfl) rfl (by kernel_rfl) (by kernel_rfl) ⟨trivial, trivial, trivial, trivial, rfl, trivial, rfl, trivial, trivial, trivial, trivial, rfl, trivial⟩ ⟨⟨rfl, rfl⟩, ⟨rfl, rfl⟩, ⟨by omega, by omega⟩, ⟨rfl, rfl⟩, trivial⟩ fun a356 h357 => ?_
              clear h354
              refine wpAnyK_one (i := 12) (fuel := 1) (by kernel_rfl) ?_
              refine op_call h357 rfl rfl rfl (callOk Try.func44 (by decide) rfl) (args := [.pointer (some ⟨bm, 0, none⟩), .int .i64 (s.pos + op.n), .int .i64 s.pos]) rfl ((by have hq := move_ok bm bl _ _ (mdOf all s) _ (ModAt.ofQ h357 (k := 0) rfl rfl (pos := s.pos) (live := s.live) (h357.kn (k := 0) (blk := ⟨modC (.slice ao all.length ac) (.pointer (some ⟨bl, 0, none⟩)) s.pos s.live, 52, false⟩) rfl)) (s.pos + op.n) s.pos (by omega) (by show s.pos + op.n ≤ (all.length : Int); omega) (by omega) (by omega) hev hal; rw [mforw_eq hwf hon (by omega) (by omega)] at hq; exact hq)) ?_
              rintro _ w358 ⟨rfl, hmv, hf360⟩
              refine ⟨_, rfl, ?_⟩
              have h359 := (h357.setBlk (k := 0) rfl rfl hf360 hmv.blk (L' := [(bm, ⟨modC (.slice ao all.length ac) (.pointer (some ⟨bl, 0, none⟩)) ((forwR s op.n).2.pos) ((forwR s op.n).2.live), 52, false⟩), (b2, ⟨[.int .u8 op.kind, .int .i64 op.n, .int .i64 op.m, .int .u8 op.ev.kind, .int .u32 op.ev.pick, .int .u64 op.ev.arg], 35, false⟩), (b8, ⟨[.int .u8 0, .int .i64 0, .int .i64 0, .int .i64 0, .bool false, .bool false, .int .i8 0, .int .u64 0, .int .u64 0, .int .i64 0, .int .i64 0, .int .i64 0], 41, false⟩)]) rfl).put (d := some 152) (v := .agg #[.int .u8 ((forwR s op.n).1.code), .int .i64 ((forwR s op.n).1.pos), .int .i64 ((forwR s op.n).1.base), .int .i64 ((forwR s op.n).1.fin), .bool ((forwR s op.n).1.live), .bool ((forwR s op.n).1.out.refused), .int .i8 ((forwR s op.n).1.out.running), .int .u64 ((forwR s op.n).1.out.value), .int .u64 ((forwR s op.n).1.dig), .int .i64 ((forwR s op.n).1.from_), .int .i64 ((forwR s op.n).1.replayed), .int .i64 ((forwR s op.n).1.at_)]) (T' := [(152, .agg #[.int .u8 ((forwR s op.n).1.code), .int .i64 ((forwR s op.n).1.pos), .int .i64 ((forwR s op.n).1.base), .int .i64 ((forwR s op.n).1.fin), .bool ((forwR s op.n).1.live), .bool ((forwR s op.n).1.out.refused), .int .i8 ((forwR s op.n).1.out.running), .int .u64 ((forwR s op.n).1.out.value), .int .u64 ((forwR s op.n).1.dig), .int .i64 ((forwR s op.n).1.from_), .int .i64 ((forwR s op.n).1.replayed), .int .i64 ((forwR s op.n).1.at_)]), (4, .pointer (some ⟨b8, 0, none⟩)), (3, .pointer (some ⟨b2, 0, none⟩)), (0, .pointer (some ⟨bm, 0, none⟩)), (1, .agg #[.int .u8 op.kind, .int .i64 op.n, .int .i64 op.m, .int .u8 op.ev.kind, .int .u32 op.ev.pick, .int .u64 op.ev.arg]), (14, .int .u8 op.kind), (140, .pointer (some ⟨bm, 0, none⟩)), (147, .int .i64 (s.pos + op.n)), (151, .int .i64 s.pos)]) rfl
              have hkh359 := h357.known
              refine ⟨keepNil, ?_⟩
              clear h357
              refine wpAnyK_one (i := 13) (fuel := 0) (by kernel_rfl) ?_
              refine op_store tabOk {k := 2} (L' := [(bm, ⟨modC (.slice ao all.length ac) (.pointer (some ⟨bl, 0, none⟩)) ((forwR s op.n).2.pos) ((forwR s op.n).2.live), 52, false⟩), (b2, ⟨[.int .u8 op.kind, .int .i64 op.n, .int .i64 op.m, .int .u8 op.ev.kind, .int .u32 op.ev.pick, .int .u64 op.ev.arg], 35, false⟩), (b8, ⟨[.int .u8 ((forwR s op.n).1.code), .int .i64 ((forwR s op.n).1.pos), .int .i64 ((forwR s op.n).1.base), .int .i64 ((forwR s op.n).1.fin), .bool ((forwR s op.n).1.live), .bool ((forwR s op.n).1.out.refused), .int .i8 ((forwR s op.n).1.out.running), .int .u64 ((forwR s op.n).1.out.value), .int .u64 ((forwR s op.n).1.dig), .int .i64 ((forwR s op.n).1.from_), .int .i64 ((forwR s op.n).1.replayed), .int .i64 ((forwR s op.n).1.at_)], 41, false⟩)]) (φ := b8 = b8 ∧ Nat.ble (0 + 12) 12 = true) h359 rfl rfl rfl (by kernel_rfl) ⟨rfl, rfl⟩ fun w361 h362 => ?_
              have hkh362 := h359.known
              refine ⟨keepNil, ?_⟩
              clear h359
              refine wpAnyK_done (by kernel_rfl) ?_ _
              refine hK352 _ _ ?_
              clear hK352
              refine wp_ret ?_
              obtain ⟨hD, hN⟩ := do3_forw (s := s) (all := all) hk3
              have hlg2 : (forwR s op.n).2.lg = s.lg := by unfold forwR; split <;> rfl
              skip
              try simp only [Exit.then, Exit.inBlock]
              try rw [if_pos trivial]
              exact s_ret tabOk tabZ_ok h362 [(.cell 4 41, {k := 2})] (vs := [.agg #[.int .u8 ((forwR s op.n).1.code), .int .i64 ((forwR s op.n).1.pos), .int .i64 ((forwR s op.n).1.base), .int .i64 ((forwR s op.n).1.fin), .bool ((forwR s op.n).1.live), .bool ((forwR s op.n).1.out.refused), .int .i8 ((forwR s op.n).1.out.running), .int .u64 ((forwR s op.n).1.out.value), .int .u64 ((forwR s op.n).1.dig), .int .i64 ((forwR s op.n).1.from_), .int .i64 ((forwR s op.n).1.replayed), .int .i64 ((forwR s op.n).1.at_)]]) (φ := (b8 = b8 ∧ Nat.ble (0 + 12) 12 = true) ∧ True) rfl (by kernel_rfl) ⟨⟨rfl, rfl⟩, trivial⟩ (by rw [hD, hN]; exact ⟨bl, d, ⟨ao, ac, aF⟩, rfl, (by unfold mdOf; rw [hlg2]; exact (ModAt.ofQ h362 (k := 0) rfl rfl (pos := (forwR s op.n).2.pos) (live := (forwR s op.n).2.live) (h362.kn (k := 0) (blk := ⟨modC (.slice ao all.length ac) (.pointer (some ⟨bl, 0, none⟩)) ((forwR s op.n).2.pos) ((forwR s op.n).2.live), 52, false⟩) rfl))), h362.frame, ModAt.subQ h362 (k := 0) rfl rfl⟩)
        ·
          have hc321f : op.kind ≠ 3 := by simpa using hc321
          have hk3 : op.kind ≠ 3 := hc321f
          refine wp_seq_k fun K363 hK363 => ?_
          refine nd_start (l := [0, 1]) rfl ?_
          refine nd_batch tabOk tabZ_ok [(0, {}), (1, {})] [4, 3, 0, 1, 14, 153] (T' := [(4, .pointer (some ⟨b8, 0, none⟩)), (3, .pointer (some ⟨b2, 0, none⟩)), (0, .pointer (some ⟨bm, 0, none⟩)), (1, .agg #[.int .u8 op.kind, .int .i64 op.n, .int .i64 op.m, .int .u8 op.ev.kind, .int .u32 op.ev.pick, .int .u64 op.ev.arg]), (14, .int .u8 op.kind), (153, .bool (op.kind == 4))]) (φ := True) (rest := []) h320 (by kernel_rfl) rfl trivial fun a364 h365 => ?_
          clear h320
          refine nd_done ?_
          refine hK363 _ _ ?_
          clear hK363
          refine c_split h365 (b := (op.kind == 4)) rfl (fun hc366 => ?_) (fun hc366 => ?_)
          ·
            have hc366f : op.kind = 4 := by simpa using hc366
            have hk4 : op.kind = 4 := hc366f
            refine wp_seq_k fun K367 hK367 => ?_
            refine nd_start (l := [0, 1, 2, 3, 4, 5]) rfl ?_
            refine nd_batch tabOk tabZ_ok [(0, {}), (1, {}), (2, {}), (3, {k := 0})] [4, 3, 0, 1, 14, 158] (T' := [(4, .pointer (some ⟨b8, 0, none⟩)), (3, .pointer (some ⟨b2, 0, none⟩)), (0, .pointer (some ⟨bm, 0, none⟩)), (1, .agg #[.int .u8 op.kind, .int .i64 op.n, .int .i64 op.m, .int .u8 op.ev.kind, .int .u32 op.ev.pick, .int .u64 op.ev.arg]), (14, .int .u8 op.kind), (158, .pointer (some ⟨bl, 0, none⟩))]) (φ := (bm = bm ∧ Nat.ble (1 + 1) 4 = true) ∧ True) (rest := [4, 5]) h365 (by kernel_rfl) rfl ⟨⟨rfl, rfl⟩, trivial⟩ fun a368 h369 => ?_
            clear h365
            refine nd_op ?_
            refine op_call h369 rfl rfl rfl (callOk Try.func18 (by decide) rfl) (args := [.pointer (some ⟨bl, 0, none⟩)]) rfl (clone_ok bl _ s.lg _ (h369.inv.get (j := 1) (p := pLog bl d s.lg) rfl) (by omega) (by omega) (by omega)) ?_
            rintro _ w374 ⟨bq, d370, rfl, hs371, hf372, hn373⟩
            refine ⟨_, rfl, ?_⟩
            have h375 := (h369.qAdd (p' := pLog bq d370 s.lg) (ps' := [pRow (rl evC 33 3 all ao ac aF), pLog bl d s.lg, pLog bq d370 s.lg]) (pLog_ok hs371) hf372 hn373 rfl).put (d := some 159) (v := .pointer (some ⟨bq, 0, none⟩)) (T' := [(159, .pointer (some ⟨bq, 0, none⟩)), (4, .pointer (some ⟨b8, 0, none⟩)), (3, .pointer (some ⟨b2, 0, none⟩)), (0, .pointer (some ⟨bm, 0, none⟩)), (1, .agg #[.int .u8 op.kind, .int .i64 op.n, .int .i64 op.m, .int .u8 op.ev.kind, .int .u32 op.ev.pick, .int .u64 op.ev.arg]), (14, .int .u8 op.kind), (158, .pointer (some ⟨bl, 0, none⟩))]) rfl
            have hszh375 : w.heap.size ≤ _ := h369.frame.size
            clear h369
            refine nd_batch tabOk tabZ_ok [(5, {})] [4, 3, 0, 1, 14, 10] (T' := [(4, .pointer (some ⟨b8, 0, none⟩)), (3, .pointer (some ⟨b2, 0, none⟩)), (0, .pointer (some ⟨bm, 0, none⟩)), (1, .agg #[.int .u8 op.kind, .int .i64 op.n, .int .i64 op.m, .int .u8 op.ev.kind, .int .u32 op.ev.pick, .int .u64 op.ev.arg]), (14, .int .u8 op.kind), (10, .pointer (some ⟨bq, 0, none⟩))]) (φ := True) (rest := []) h375 (by kernel_rfl) rfl trivial fun a376 h377 => ?_
            clear h375
            refine nd_done ?_
            refine hK367 _ _ ?_
            clear hK367
            refine wp_seq_k fun K378 hK378 => ?_
            refine wp_seq_k fun K379 hK379 => ?_
            refine nd_start (l := [0, 1, 2, 3, 4]) rfl ?_
            refine nd_batch tabOk tabZ_ok [(0, {}), (1, {}), (2, {k := 1})] [4, 3, 0, 1, 14, 10, 160, 162] (T' := [(4, .pointer (some ⟨b8, 0, none⟩)), (3, .pointer (some ⟨b2, 0, none⟩)), (0, .pointer (some ⟨bm, 0, none⟩)), (1, .agg #[.int .u8 op.kind, .int .i64 op.n, .int .i64 op.m, .int .u8 op.ev.kind, .int .u32 op.ev.pick, .int .u64 op.ev.arg]), (14, .int .u8 op.kind), (10, .pointer (some ⟨bq, 0, none⟩)), (160, .pointer (some ⟨bq, 0, none⟩)), (162, .int .i64 op.n)]) (φ := (b2 = b2 ∧ Nat.ble (1 + 1) 6 = true) ∧ True) (rest := [3, 4]) h377 (by kernel_rfl) rfl ⟨⟨rfl, rfl⟩, trivial⟩ fun a380 h381 => ?_
            clear h377
            refine nd_op ?_
            refine op_call h381 rfl rfl rfl (callOk Try.func45 (by decide) rfl) (args := [.pointer (some ⟨bq, 0, none⟩), .int .i64 op.n]) rfl (truncate_ok bq d370 s.lg _ (h381.inv.get (j := 2) (p := pLog bq d370 s.lg) rfl) op.n hwf.lg.sin hb0 (by omega) hlen hml (by omega)) ?_
            rintro _ w386 ⟨d382, rfl, hs383, hf384, hF385⟩
            refine ⟨_, rfl, ?_⟩
            have h387 := (h381.qSet (j := 2) (p := pLog bq d370 s.lg) (p' := pLog bq d382 (s.lg.truncAt op.n)) (ps' := [pRow (rl evC 33 3 all ao ac aF), pLog bl d s.lg, pLog bq d382 (s.lg.truncAt op.n)]) rfl (pLog_ok hs383) hf384 (fun b hb => by rw [List.mem_singleton.1 hb]; simp) (fun b hb => by rcases List.mem_cons.1 hb with rfl | hb; exact .inl (by simp); rcases hF385 b hb with h1 | h1; exact .inl (List.mem_cons_of_mem _ h1); exact .inr h1) (kcons (by intro hq; cases hq) (kcons (by intro hq; cases hq) (kcons (by intro hq; cases hq) knil))) rfl).put (d := some 163) (v := .bool ((s.lg.snap op.n).isSome)) (T' := [(163, .bool ((s.lg.snap op.n).isSome)), (4, .pointer (some ⟨b8, 0, none⟩)), (3, .pointer (some ⟨b2, 0, none⟩)), (0, .pointer (some ⟨bm, 0, none⟩)), (1, .agg #[.int .u8 op.kind, .int .i64 op.n, .int .i64 op.m, .int .u8 op.ev.kind, .int .u32 op.ev.pick, .int .u64 op.ev.arg]), (14, .int .u8 op.kind), (10, .pointer (some ⟨bq, 0, none⟩)), (160, .pointer (some ⟨bq, 0, none⟩)), (162, .int .i64 op.n)]) rfl
            have hszh387 : w.heap.size ≤ _ := h381.frame.size
            clear h381
            refine nd_batch tabOk tabZ_ok [(4, {})] [4, 3, 0, 1, 14, 10, 164] (T' := [(4, .pointer (some ⟨b8, 0, none⟩)), (3, .pointer (some ⟨b2, 0, none⟩)), (0, .pointer (some ⟨bm, 0, none⟩)), (1, .agg #[.int .u8 op.kind, .int .i64 op.n, .int .i64 op.m, .int .u8 op.ev.kind, .int .u32 op.ev.pick, .int .u64 op.ev.arg]), (14, .int .u8 op.kind), (10, .pointer (some ⟨bq, 0, none⟩)), (164, .bool (!((s.lg.snap op.n).isSome)))]) (φ := True) (rest := []) h387 (by kernel_rfl) rfl trivial fun a388 h389 => ?_
            clear h387
            refine nd_done ?_
            refine hK379 _ _ ?_
            clear hK379
            refine c_split h389 (b := !((s.lg.snap op.n).isSome)) rfl (fun hc390 => ?_) (fun hc390 => ?_)
            ·
              have hsn : (s.lg.snap op.n).isSome = false := by simpa using hc390
              refine wp_seq_k fun K391 hK391 => ?_
              refine nd_start (l := [0, 1, 2]) rfl ?_
              refine nd_batch tabOk tabZ_ok [(0, {})] [4, 3, 0, 1, 14, 10, 165] (T' := [(4, .pointer (some ⟨b8, 0, none⟩)), (3, .pointer (some ⟨b2, 0, none⟩)), (0, .pointer (some ⟨bm, 0, none⟩)), (1, .agg #[.int .u8 op.kind, .int .i64 op.n, .int .i64 op.m, .int .u8 op.ev.kind, .int .u32 op.ev.pick, .int .u64 op.ev.arg]), (14, .int .u8 op.kind), (10, .pointer (some ⟨bq, 0, none⟩)), (165, .pointer (some ⟨bm, 0, none⟩))]) (φ := True) (rest := [1, 2]) h389 (by kernel_rfl) rfl trivial fun a392 h393 => ?_
              clear h389
              refine nd_op ?_
              have h394 := h393.qSub (ps' := [pRow (rl evC 33 3 all ao ac aF), pLog bl d s.lg]) (List.Sublist.cons_cons _ (List.Sublist.cons_cons _ (List.Sublist.cons _ List.Sublist.slnil)))
              clear h393
              refine op_call h394 rfl rfl rfl (callOk Try.func40 (by decide) rfl) (args := [.pointer (some ⟨bm, 0, none⟩), .int .u8 2]) rfl (refuse_ok bm bl _ _ _ _ (ModAt.ofQ h394 (k := 0) rfl rfl (pos := s.pos) (live := s.live) (h394.kn (k := 0) (blk := ⟨modC (.slice ao all.length ac) (.pointer (some ⟨bl, 0, none⟩)) s.pos s.live, 52, false⟩) rfl)) 2 (by show 0 ≤ s.pos; omega) (by show s.pos ≤ (all.length : Int); omega) hev hal) ?_
              rintro _ w395 ⟨rfl, hf397⟩
              refine ⟨_, rfl, ?_⟩
              have h396 := (h394.grow hf397).put (d := some 166) (v := .agg #[.int .u8 2, .int .i64 s.pos, .int .i64 s.lg.base.idx, .int .i64 ((all.length : Nat) : Int), .bool s.live, .bool ((stAt all s.pos).2.refused), .int .i8 ((stAt all s.pos).2.running), .int .u64 ((stAt all s.pos).2.value), .int .u64 (dig (stAt all s.pos).1), .int .i64 s.pos, .int .i64 0, .int .i64 (-1)]) (T' := [(166, .agg #[.int .u8 2, .int .i64 s.pos, .int .i64 s.lg.base.idx, .int .i64 ((all.length : Nat) : Int), .bool s.live, .bool ((stAt all s.pos).2.refused), .int .i8 ((stAt all s.pos).2.running), .int .u64 ((stAt all s.pos).2.value), .int .u64 (dig (stAt all s.pos).1), .int .i64 s.pos, .int .i64 0, .int .i64 (-1)]), (4, .pointer (some ⟨b8, 0, none⟩)), (3, .pointer (some ⟨b2, 0, none⟩)), (0, .pointer (some ⟨bm, 0, none⟩)), (1, .agg #[.int .u8 op.kind, .int .i64 op.n, .int .i64 op.m, .int .u8 op.ev.kind, .int .u32 op.ev.pick, .int .u64 op.ev.arg]), (14, .int .u8 op.kind), (10, .pointer (some ⟨bq, 0, none⟩)), (165, .pointer (some ⟨bm, 0, none⟩))]) rfl
              clear h394
              refine nd_op ?_
              refine op_store tabOk {k := 2} (L' := [(bm, ⟨modC (.slice ao all.length ac) (.pointer (some ⟨bl, 0, none⟩)) s.pos s.live, 52, false⟩), (b2, ⟨[.int .u8 op.kind, .int .i64 op.n, .int .i64 op.m, .int .u8 op.ev.kind, .int .u32 op.ev.pick, .int .u64 op.ev.arg], 35, false⟩), (b8, ⟨[.int .u8 2, .int .i64 s.pos, .int .i64 s.lg.base.idx, .int .i64 ((all.length : Nat) : Int), .bool s.live, .bool ((stAt all s.pos).2.refused), .int .i8 ((stAt all s.pos).2.running), .int .u64 ((stAt all s.pos).2.value), .int .u64 (dig (stAt all s.pos).1), .int .i64 s.pos, .int .i64 0, .int .i64 (-1)], 41, false⟩)]) (φ := b8 = b8 ∧ Nat.ble (0 + 12) 12 = true) h396 rfl rfl rfl (by kernel_rfl) ⟨rfl, rfl⟩ fun w398 h399 => ?_
              clear h396
              refine nd_done ?_
              refine hK391 _ _ ?_
              clear hK391
              refine wp_ret ?_
              obtain ⟨hD, hN⟩ := do3_trunc (s := s) (all := all) hk4
              skip
              try simp only [Exit.then, Exit.inBlock]
              try rw [if_pos trivial]
              exact s_ret tabOk tabZ_ok h399 [(.cell 4 41, {k := 2})] (vs := [.agg #[.int .u8 2, .int .i64 s.pos, .int .i64 s.lg.base.idx, .int .i64 ((all.length : Nat) : Int), .bool s.live, .bool ((stAt all s.pos).2.refused), .int .i8 ((stAt all s.pos).2.running), .int .u64 ((stAt all s.pos).2.value), .int .u64 (dig (stAt all s.pos).1), .int .i64 s.pos, .int .i64 0, .int .i64 (-1)]]) (φ := (b8 = b8 ∧ Nat.ble (0 + 12) 12 = true) ∧ True) rfl (by kernel_rfl) ⟨⟨rfl, rfl⟩, trivial⟩ (by rw [hD, hN, trunc_none hsn, ← mans_stat hwf hon]; exact ⟨bl, d, ⟨ao, ac, aF⟩, rfl, (by skip; exact (ModAt.ofQ h399 (k := 0) rfl rfl (pos := s.pos) (live := s.live) (h399.kn (k := 0) (blk := ⟨modC (.slice ao all.length ac) (.pointer (some ⟨bl, 0, none⟩)) s.pos s.live, 52, false⟩) rfl))), h399.frame, ModAt.subQ h399 (k := 0) rfl rfl⟩)
            ·
              have hsn : (s.lg.snap op.n).isSome = true := by simpa using hc390
              refine wp_skip ?_
              refine hK378 _ _ ?_
              clear hK378
              refine wp_seq_k fun K400 hK400 => ?_
              refine wp_seq_k fun K401 hK401 => ?_
              refine dr_start (KB := [bm, b2, b8]) (Bi := [[0, 1, 2], [0, 1, 2], [0, 1, 2], [0, 1, 2], [0, 1, 2], [0, 1, 2], [0, 1, 2]]) mixed h389 fun w402 h403 => ?_
              clear h389
              refine dr_batch tabOk tabZ_ok (by repeat (first | with_reducible exact PF.body | with_reducible apply PF.inB | with_reducible apply PF.next)) [(0, {}), (1, {k := 1, p := 1}), (2, {}), (3, {}), (4, {}), (5, {k := 0, p := 0}), (6, {})] [4, 3, 0, 1, 14, 10, 173] (T' := [(4, .pointer (some ⟨b8, 0, none⟩)), (3, .pointer (some ⟨b2, 0, none⟩)), (0, .pointer (some ⟨bm, 0, none⟩)), (1, .agg #[.int .u8 op.kind, .int .i64 op.n, .int .i64 op.m, .int .u8 op.ev.kind, .int .u32 op.ev.pick, .int .u64 op.ev.arg]), (14, .int .u8 op.kind), (10, .pointer (some ⟨bq, 0, none⟩)), (173, .bool (decide (op.n > s.pos)))]) (φ := (b2 = b2 ∧ Nat.ble (1 + 1) 6 = true) ∧ (bm = bm ∧ Nat.ble (2 + 1) 4 = true) ∧ True) (fuel := 0) h403 (by kernel_rfl) rfl (by kernel_rfl) (by kernel_rfl) ⟨trivial, rfl, trivial, trivial, trivial, rfl, trivial, trivial⟩ ⟨⟨rfl, rfl⟩, ⟨rfl, rfl⟩, trivial⟩ fun a405 h406 => ?_
              clear h403
              refine wpAnyK_done (by kernel_rfl) ?_ _
              refine hK401 _ _ ?_
              clear hK401
              refine c_split h406 (b := decide (op.n > s.pos)) rfl (fun hc407 => ?_) (fun hc407 => ?_)
              ·
                have hc407f : op.n > s.pos := by simpa using hc407
                have hfar : s.pos < op.n := by omega
                refine wp_seq_k fun K408 hK408 => ?_
                refine nd_start (l := [0, 1, 2]) rfl ?_
                refine nd_batch tabOk tabZ_ok [(0, {})] [4, 3, 0, 1, 14, 10, 174] (T' := [(4, .pointer (some ⟨b8, 0, none⟩)), (3, .pointer (some ⟨b2, 0, none⟩)), (0, .pointer (some ⟨bm, 0, none⟩)), (1, .agg #[.int .u8 op.kind, .int .i64 op.n, .int .i64 op.m, .int .u8 op.ev.kind, .int .u32 op.ev.pick, .int .u64 op.ev.arg]), (14, .int .u8 op.kind), (10, .pointer (some ⟨bq, 0, none⟩)), (174, .pointer (some ⟨bm, 0, none⟩))]) (φ := True) (rest := [1, 2]) h406 (by kernel_rfl) rfl trivial fun a409 h410 => ?_
                clear h406
                refine nd_op ?_
                have h411 := h410.qSub (ps' := [pRow (rl evC 33 3 all ao ac aF), pLog bl d s.lg]) (List.Sublist.cons_cons _ (List.Sublist.cons_cons _ (List.Sublist.cons _ List.Sublist.slnil)))
                clear h410
                refine op_call h411 rfl rfl rfl (callOk Try.func40 (by decide) rfl) (args := [.pointer (some ⟨bm, 0, none⟩), .int .u8 1]) rfl (refuse_ok bm bl _ _ _ _ (ModAt.ofQ h411 (k := 0) rfl rfl (pos := s.pos) (live := s.live) (h411.kn (k := 0) (blk := ⟨modC (.slice ao all.length ac) (.pointer (some ⟨bl, 0, none⟩)) s.pos s.live, 52, false⟩) rfl)) 1 (by show 0 ≤ s.pos; omega) (by show s.pos ≤ (all.length : Int); omega) hev hal) ?_
                rintro _ w412 ⟨rfl, hf414⟩
                refine ⟨_, rfl, ?_⟩
                have h413 := (h411.grow hf414).put (d := some 175) (v := .agg #[.int .u8 1, .int .i64 s.pos, .int .i64 s.lg.base.idx, .int .i64 ((all.length : Nat) : Int), .bool s.live, .bool ((stAt all s.pos).2.refused), .int .i8 ((stAt all s.pos).2.running), .int .u64 ((stAt all s.pos).2.value), .int .u64 (dig (stAt all s.pos).1), .int .i64 s.pos, .int .i64 0, .int .i64 (-1)]) (T' := [(175, .agg #[.int .u8 1, .int .i64 s.pos, .int .i64 s.lg.base.idx, .int .i64 ((all.length : Nat) : Int), .bool s.live, .bool ((stAt all s.pos).2.refused), .int .i8 ((stAt all s.pos).2.running), .int .u64 ((stAt all s.pos).2.value), .int .u64 (dig (stAt all s.pos).1), .int .i64 s.pos, .int .i64 0, .int .i64 (-1)]), (4, .pointer (some ⟨b8, 0, none⟩)), (3, .pointer (some ⟨b2, 0, none⟩)), (0, .pointer (some ⟨bm, 0, none⟩)), (1, .agg #[.int .u8 op.kind, .int .i64 op.n, .int .i64 op.m, .int .u8 op.ev.kind, .int .u32 op.ev.pick, .int .u64 op.ev.arg]), (14, .int .u8 op.kind), (10, .pointer (some ⟨bq, 0, none⟩)), (174, .pointer (some ⟨bm, 0, none⟩))]) rfl
                clear h411
                refine nd_op ?_
                refine op_store tabOk {k := 2} (L' := [(bm, ⟨modC (.slice ao all.length ac) (.pointer (some ⟨bl, 0, none⟩)) s.pos s.live, 52, false⟩), (b2, ⟨[.int .u8 op.kind, .int .i64 op.n, .int .i64 op.m, .int .u8 op.ev.kind, .int .u32 op.ev.pick, .int .u64 op.ev.arg], 35, false⟩), (b8, ⟨[.int .u8 1, .int .i64 s.pos, .int .i64 s.lg.base.idx, .int .i64 ((all.length : Nat) : Int), .bool s.live, .bool ((stAt all s.pos).2.refused), .int .i8 ((stAt all s.pos).2.running), .int .u64 ((stAt all s.pos).2.value), .int .u64 (dig (stAt all s.pos).1), .int .i64 s.pos, .int .i64 0, .int .i64 (-1)], 41, false⟩)]) (φ := b8 = b8 ∧ Nat.ble (0 + 12) 12 = true) h413 rfl rfl rfl (by kernel_rfl) ⟨rfl, rfl⟩ fun w415 h416 => ?_
                clear h413
                refine nd_done ?_
                refine hK408 _ _ ?_
                clear hK408
                refine wp_ret ?_
                obtain ⟨hD, hN⟩ := do3_trunc (s := s) (all := all) hk4
                skip
                try simp only [Exit.then, Exit.inBlock]
                try rw [if_pos trivial]
                exact s_ret tabOk tabZ_ok h416 [(.cell 4 41, {k := 2})] (vs := [.agg #[.int .u8 1, .int .i64 s.pos, .int .i64 s.lg.base.idx, .int .i64 ((all.length : Nat) : Int), .bool s.live, .bool ((stAt all s.pos).2.refused), .int .i8 ((stAt all s.pos).2.running), .int .u64 ((stAt all s.pos).2.value), .int .u64 (dig (stAt all s.pos).1), .int .i64 s.pos, .int .i64 0, .int .i64 (-1)]]) (φ := (b8 = b8 ∧ Nat.ble (0 + 12) 12 = true) ∧ True) rfl (by kernel_rfl) ⟨⟨rfl, rfl⟩, trivial⟩ (by rw [hD, hN, trunc_far hsn hfar, ← mans_stat hwf hon]; exact ⟨bl, d, ⟨ao, ac, aF⟩, rfl, (by skip; exact (ModAt.ofQ h416 (k := 0) rfl rfl (pos := s.pos) (live := s.live) (h416.kn (k := 0) (blk := ⟨modC (.slice ao all.length ac) (.pointer (some ⟨bl, 0, none⟩)) s.pos s.live, 52, false⟩) rfl))), h416.frame, ModAt.subQ h416 (k := 0) rfl rfl⟩)
              ·
                have hc407f : ¬ op.n > s.pos := by simpa using hc407
                have hfar : ¬ s.pos < op.n := by omega
                refine wp_skip ?_
                refine hK400 _ _ ?_
                clear hK400
                refine wp_seq_k fun K417 hK417 => ?_
                refine nd_start (l := [0, 1, 2, 3, 4]) rfl ?_
                refine nd_batch tabOk tabZ_ok [(0, {}), (1, {}), (2, {}), (3, {})] [4, 3, 0, 1, 14, 10, 177, 179] (T' := [(4, .pointer (some ⟨b8, 0, none⟩)), (3, .pointer (some ⟨b2, 0, none⟩)), (0, .pointer (some ⟨bm, 0, none⟩)), (1, .agg #[.int .u8 op.kind, .int .i64 op.n, .int .i64 op.m, .int .u8 op.ev.kind, .int .u32 op.ev.pick, .int .u64 op.ev.arg]), (14, .int .u8 op.kind), (10, .pointer (some ⟨bq, 0, none⟩)), (177, .pointer (some ⟨bq, 0, none⟩)), (179, .pointer (some ⟨bm, 1, none⟩))]) (φ := True) (rest := [4]) h406 (by kernel_rfl) rfl trivial fun a418 h419 => ?_
                clear h406
                refine nd_op ?_
                refine op_store tabOk {k := 0} (L' := [(bm, ⟨[.slice ao all.length ac, .pointer (some ⟨bq, 0, none⟩), .int .i64 s.pos, .bool s.live], 52, false⟩), (b2, ⟨[.int .u8 op.kind, .int .i64 op.n, .int .i64 op.m, .int .u8 op.ev.kind, .int .u32 op.ev.pick, .int .u64 op.ev.arg], 35, false⟩), (b8, ⟨[.int .u8 0, .int .i64 0, .int .i64 0, .int .i64 0, .bool false, .bool false, .int .i8 0, .int .u64 0, .int .u64 0, .int .i64 0, .int .i64 0, .int .i64 0], 41, false⟩)]) (φ := bm = bm ∧ Nat.ble (1 + 1) 4 = true) h419 rfl rfl rfl (by kernel_rfl) ⟨rfl, rfl⟩ fun w420 h421 => ?_
                clear h419
                refine nd_done ?_
                refine hK417 _ _ ?_
                clear hK417
                refine wp_seq_k fun K422 hK422 => ?_
                refine nd_start (l := [0, 1, 2, 3, 4, 5, 6]) rfl ?_
                refine nd_batch tabOk tabZ_ok [(0, {}), (1, {}), (2, {}), (3, {}), (4, {k := 0})] [4, 3, 0, 1, 14, 10, 180, 184] (T' := [(4, .pointer (some ⟨b8, 0, none⟩)), (3, .pointer (some ⟨b2, 0, none⟩)), (0, .pointer (some ⟨bm, 0, none⟩)), (1, .agg #[.int .u8 op.kind, .int .i64 op.n, .int .i64 op.m, .int .u8 op.ev.kind, .int .u32 op.ev.pick, .int .u64 op.ev.arg]), (14, .int .u8 op.kind), (10, .pointer (some ⟨bq, 0, none⟩)), (180, .pointer (some ⟨bm, 0, none⟩)), (184, .int .i64 s.pos)]) (φ := (bm = bm ∧ Nat.ble (2 + 1) 4 = true) ∧ True) (rest := [5, 6]) h421 (by kernel_rfl) rfl ⟨⟨rfl, rfl⟩, trivial⟩ fun a423 h424 => ?_
                clear h421
                refine nd_op ?_
                have h425 := h424.qSub (ps' := [pRow (rl evC 33 3 all ao ac aF), pLog bq d382 (s.lg.truncAt op.n)]) (List.Sublist.cons_cons _ (List.Sublist.cons _ (List.Sublist.cons_cons _ List.Sublist.slnil)))
                clear h424
                refine op_call h425 rfl rfl rfl (callOk Try.func42 (by decide) rfl) (args := [.pointer (some ⟨bm, 0, none⟩), .int .u8 0, .int .i64 s.pos]) rfl (answer_ok bm _ _ _ _ _ (ModAt.ofQ h425 (k := 0) rfl rfl (pos := s.pos) (live := s.live) (h425.kn (k := 0) (blk := ⟨modC (.slice ao all.length ac) (.pointer (some ⟨bq, 0, none⟩)) s.pos s.live, 52, false⟩) rfl)) 0 s.pos (by omega) (by show _ ≤ (all.length : Int); omega) hev hal) ?_
                rintro _ w426 ⟨rfl, hf428⟩
                refine ⟨_, rfl, ?_⟩
                have h427 := (h425.grow hf428).put (d := some 185) (v := .agg #[.int .u8 0, .int .i64 s.pos, .int .i64 ((s.lg.truncAt op.n).base.idx), .int .i64 ((all.length : Nat) : Int), .bool s.live, .bool ((stAt all s.pos).2.refused), .int .i8 ((stAt all s.pos).2.running), .int .u64 ((stAt all s.pos).2.value), .int .u64 (dig (stAt all s.pos).1), .int .i64 s.pos, .int .i64 0, .int .i64 (-1)]) (T' := [(185, .agg #[.int .u8 0, .int .i64 s.pos, .int .i64 ((s.lg.truncAt op.n).base.idx), .int .i64 ((all.length : Nat) : Int), .bool s.live, .bool ((stAt all s.pos).2.refused), .int .i8 ((stAt all s.pos).2.running), .int .u64 ((stAt all s.pos).2.value), .int .u64 (dig (stAt all s.pos).1), .int .i64 s.pos, .int .i64 0, .int .i64 (-1)]), (4, .pointer (some ⟨b8, 0, none⟩)), (3, .pointer (some ⟨b2, 0, none⟩)), (0, .pointer (some ⟨bm, 0, none⟩)), (1, .agg #[.int .u8 op.kind, .int .i64 op.n, .int .i64 op.m, .int .u8 op.ev.kind, .int .u32 op.ev.pick, .int .u64 op.ev.arg]), (14, .int .u8 op.kind), (10, .pointer (some ⟨bq, 0, none⟩)), (180, .pointer (some ⟨bm, 0, none⟩)), (184, .int .i64 s.pos)]) rfl
                clear h425
                refine nd_op ?_
                refine op_store tabOk {k := 2} (L' := [(bm, ⟨[.slice ao all.length ac, .pointer (some ⟨bq, 0, none⟩), .int .i64 s.pos, .bool s.live], 52, false⟩), (b2, ⟨[.int .u8 op.kind, .int .i64 op.n, .int .i64 op.m, .int .u8 op.ev.kind, .int .u32 op.ev.pick, .int .u64 op.ev.arg], 35, false⟩), (b8, ⟨[.int .u8 0, .int .i64 s.pos, .int .i64 ((s.lg.truncAt op.n).base.idx), .int .i64 ((all.length : Nat) : Int), .bool s.live, .bool ((stAt all s.pos).2.refused), .int .i8 ((stAt all s.pos).2.running), .int .u64 ((stAt all s.pos).2.value), .int .u64 (dig (stAt all s.pos).1), .int .i64 s.pos, .int .i64 0, .int .i64 (-1)], 41, false⟩)]) (φ := b8 = b8 ∧ Nat.ble (0 + 12) 12 = true) h427 rfl rfl rfl (by kernel_rfl) ⟨rfl, rfl⟩ fun w429 h430 => ?_
                clear h427
                refine nd_done ?_
                refine hK422 _ _ ?_
                clear hK422
                refine wp_ret ?_
                obtain ⟨hD, hN⟩ := do3_trunc (s := s) (all := all) hk4
                have hT := trunc_ok3 hsn hfar
                have hwf9 := do_wf hwf op hop.2
                have hon9 := do_hon' hwf hon op
                rw [hD, hT] at hwf9 hon9
                rw [hN] at hon9
                simp only at hwf9 hon9
                have hst9 := mans_stat hwf9 hon9 0
                skip
                try simp only [Exit.then, Exit.inBlock]
                try rw [if_pos trivial]
                exact s_ret tabOk tabZ_ok h430 [(.cell 4 41, {k := 2})] (vs := [.agg #[.int .u8 0, .int .i64 s.pos, .int .i64 ((s.lg.truncAt op.n).base.idx), .int .i64 ((all.length : Nat) : Int), .bool s.live, .bool ((stAt all s.pos).2.refused), .int .i8 ((stAt all s.pos).2.running), .int .u64 ((stAt all s.pos).2.value), .int .u64 (dig (stAt all s.pos).1), .int .i64 s.pos, .int .i64 0, .int .i64 (-1)]]) (φ := (b8 = b8 ∧ Nat.ble (0 + 12) 12 = true) ∧ True) rfl (by kernel_rfl) ⟨⟨rfl, rfl⟩, trivial⟩ (by rw [hD, hN, hT, ← hst9]; exact ⟨bq, d382, ⟨ao, ac, aF⟩, rfl, (by skip; exact (ModAt.ofQ h430 (k := 0) rfl rfl (pos := s.pos) (live := s.live) (h430.kn (k := 0) (blk := ⟨modC (.slice ao all.length ac) (.pointer (some ⟨bq, 0, none⟩)) s.pos s.live, 52, false⟩) rfl))), h430.frame, ModAt.subQ h430 (k := 0) rfl rfl⟩)
          ·
            have hc366f : op.kind ≠ 4 := by simpa using hc366
            have hk4 : op.kind ≠ 4 := hc366f
            refine wp_seq_k fun K431 hK431 => ?_
            refine nd_start (l := [0, 1]) rfl ?_
            refine nd_batch tabOk tabZ_ok [(0, {}), (1, {})] [4, 3, 0, 1, 14, 186] (T' := [(4, .pointer (some ⟨b8, 0, none⟩)), (3, .pointer (some ⟨b2, 0, none⟩)), (0, .pointer (some ⟨bm, 0, none⟩)), (1, .agg #[.int .u8 op.kind, .int .i64 op.n, .int .i64 op.m, .int .u8 op.ev.kind, .int .u32 op.ev.pick, .int .u64 op.ev.arg]), (14, .int .u8 op.kind), (186, .bool (op.kind == 5))]) (φ := True) (rest := []) h365 (by kernel_rfl) rfl trivial fun a432 h433 => ?_
            clear h365
            refine nd_done ?_
            refine hK431 _ _ ?_
            clear hK431
            refine c_split h433 (b := (op.kind == 5)) rfl (fun hc434 => ?_) (fun hc434 => ?_)
            ·
              have hc434f : op.kind = 5 := by simpa using hc434
              have hk5 : op.kind = 5 := hc434f
              refine wp_seq_k fun K435 hK435 => ?_
              refine dr_start (KB := [bm, b2, b8]) (Bi := [[0, 1, 2], [0, 1, 2], [0, 1, 2], [0, 1, 2], [0, 1, 2], [0, 1, 2], [0, 1, 2], [0, 1, 2], [0, 1, 2], [0, 1, 2], [0, 1, 2], [0, 1, 2], []]) mixed h433 fun w436 h437 => ?_
              clear h433
              refine dr_batch tabOk tabZ_ok (by repeat (first | with_reducible exact PF.body | with_reducible apply PF.inB | with_reducible apply PF.next)) [(0, {}), (1, {}), (2, {}), (3, {}), (4, {k := 0, p := 0}), (5, {}), (6, {}), (7, {}), (8, {k := 0, p := 0}), (9, {}), (10, {}), (11, {})] [4, 3, 0, 1, 14, 197, 199] (T' := [(4, .pointer (some ⟨b8, 0, none⟩)), (3, .pointer (some ⟨b2, 0, none⟩)), (0, .pointer (some ⟨bm, 0, none⟩)), (1, .agg #[.int .u8 op.kind, .int .i64 op.n, .int .i64 op.m, .int .u8 op.ev.kind, .int .u32 op.ev.pick, .int .u64 op.ev.arg]), (14, .int .u8 op.kind), (197, .slice ao s.pos.toNat ac), (199, .pointer (some ⟨bm, 0, none⟩))]) (φ := (bm = bm ∧ Nat.ble (0 + 1) 4 = true) ∧ (bm = bm ∧ Nat.ble (2 + 1) 4 = true) ∧ (0 ≤ s.pos ∧ s.pos ≤ ((ac : Nat) : Int)) ∧ True) (fuel := 1) h437 (by kernel_rfl) rfl (by kernel_rfl) (by kernel_rfl) ⟨trivial, trivial, trivial, trivial, rfl, trivial, trivial, trivial, rfl, trivial, trivial, trivial, trivial⟩ ⟨⟨rfl, rfl⟩, ⟨rfl, rfl⟩, ⟨by omega, by omega⟩, trivial⟩ fun a439 h440 => ?_
              clear h437
              refine wpAnyK_one (i := 12) (fuel := 0) (by kernel_rfl) ?_
              refine op_store tabOk {k := 0} (L' := [(bm, ⟨[.slice ao s.pos.toNat ac, .pointer (some ⟨bl, 0, none⟩), .int .i64 s.pos, .bool s.live], 52, false⟩), (b2, ⟨[.int .u8 op.kind, .int .i64 op.n, .int .i64 op.m, .int .u8 op.ev.kind, .int .u32 op.ev.pick, .int .u64 op.ev.arg], 35, false⟩), (b8, ⟨[.int .u8 0, .int .i64 0, .int .i64 0, .int .i64 0, .bool false, .bool false, .int .i8 0, .int .u64 0, .int .u64 0, .int .i64 0, .int .i64 0, .int .i64 0], 41, false⟩)]) (φ := bm = bm ∧ Nat.ble (0 + 1) 4 = true) h440 rfl rfl rfl (by kernel_rfl) ⟨rfl, rfl⟩ fun w441 h442 => ?_
              have hkh442 := h440.known
              refine ⟨keepNil, ?_⟩
              clear h440
              refine wpAnyK_done (by kernel_rfl) ?_ _
              refine hK435 _ _ ?_
              clear hK435
              refine wp_seq_k fun K443 hK443 => ?_
              refine dr_start (KB := [bm, b2, b8]) (Bi := [[0, 1, 2], [0, 1, 2], [0, 1, 2], [0, 1, 2], [0, 1, 2], [0, 1, 2], [0, 1, 2], [0, 1, 2], []]) mixed h442 fun w444 h445 => ?_
              clear h442
              refine dr_batch tabOk tabZ_ok (by repeat (first | with_reducible exact PF.body | with_reducible apply PF.inB | with_reducible apply PF.next)) [(0, {}), (1, {}), (2, {}), (3, {k := 0, p := 0}), (4, {}), (5, {}), (6, {}), (7, {k := 0, p := 0})] [4, 3, 0, 1, 14, 203, 207] (T' := [(4, .pointer (some ⟨b8, 0, none⟩)), (3, .pointer (some ⟨b2, 0, none⟩)), (0, .pointer (some ⟨bm, 0, none⟩)), (1, .agg #[.int .u8 op.kind, .int .i64 op.n, .int .i64 op.m, .int .u8 op.ev.kind, .int .u32 op.ev.pick, .int .u64 op.ev.arg]), (14, .int .u8 op.kind), (203, .pointer (some ⟨bl, 0, none⟩)), (207, .int .i64 s.pos)]) (φ := (bm = bm ∧ Nat.ble (1 + 1) 4 = true) ∧ (bm = bm ∧ Nat.ble (2 + 1) 4 = true) ∧ True) (fuel := 1) h445 (by kernel_rfl) rfl (by kernel_rfl) (by kernel_rfl) ⟨trivial, trivial, trivial, rfl, trivial, trivial, trivial, rfl, trivial⟩ ⟨⟨rfl, rfl⟩, ⟨rfl, rfl⟩, trivial⟩ fun a447 h448 => ?_
              clear h445
              refine wpAnyK_one (i := 8) (fuel := 0) (by kernel_rfl) ?_
              have h449 := h448.qAs (j := 0) (p := pRow (rl evC 33 3 all ao ac aF)) (p' := pRow (rl evC 33 3 (all.take s.pos.toNat) ao ac aF)) (ps' := [pRow (rl evC 33 3 (all.take s.pos.toNat) ao ac aF), pLog bl d s.lg]) rfl (pRow_ok (rl_cut (h448.inv.get (j := 0) (p := pRow (rl evC 33 3 all ao ac aF)) rfl) evC_len (k := s.pos.toNat) (by omega))) rfl rfl
              clear h448
              refine op_call h449 rfl rfl rfl (callOk Try.func46 (by decide) rfl) (args := [.pointer (some ⟨bl, 0, none⟩), .int .i64 s.pos]) rfl (cutAfter_ok bl d s.lg _ (h449.inv.get (j := 1) (p := pLog bl d s.lg) rfl) s.pos (s.pos - s.lg.base.idx).toNat (by omega) (by omega) hb0 (by omega) hlen hml (by omega)) ?_
              rintro _ w454 ⟨d450, rfl, hs451, hf452, hF453⟩
              refine ⟨_, rfl, ?_⟩
              have h455 := (h449.qSet (j := 1) (p := pLog bl d s.lg) (p' := pLog bl d450 (s.lg.cutAfter s.pos)) (ps' := [pRow (rl evC 33 3 (all.take s.pos.toNat) ao ac aF), pLog bl d450 (s.lg.cutAfter s.pos)]) rfl (pLog_ok hs451) hf452 (fun b hb => by rw [List.mem_singleton.1 hb]; simp) (fun b hb => by rcases List.mem_cons.1 hb with rfl | hb; exact .inl (by simp); rcases hF453 b hb with h1 | h1; exact .inl (List.mem_cons_of_mem _ h1); exact .inr h1) (kcons (by intro hq; cases hq) (kcons (by intro hq; cases hq) (kcons (by intro hq; cases hq) knil))) rfl).put (d := some 208) (v := .tuple #[]) (T' := [(208, .tuple #[]), (4, .pointer (some ⟨b8, 0, none⟩)), (3, .pointer (some ⟨b2, 0, none⟩)), (0, .pointer (some ⟨bm, 0, none⟩)), (1, .agg #[.int .u8 op.kind, .int .i64 op.n, .int .i64 op.m, .int .u8 op.ev.kind, .int .u32 op.ev.pick, .int .u64 op.ev.arg]), (14, .int .u8 op.kind), (203, .pointer (some ⟨bl, 0, none⟩)), (207, .int .i64 s.pos)]) rfl
              have hkh455 := h449.known
              refine ⟨keepNil, ?_⟩
              have hszh455 : w.heap.size ≤ _ := h449.frame.size
              clear h449
              refine wpAnyK_done (by kernel_rfl) ?_ _
              refine hK443 _ _ ?_
              clear hK443
              refine wp_seq_k fun K456 hK456 => ?_
              refine nd_start (l := [0, 1, 2, 3]) rfl ?_
              refine nd_batch tabOk tabZ_ok [(0, {}), (1, {}), (2, {})] [4, 3, 0, 1, 14, 211] (T' := [(4, .pointer (some ⟨b8, 0, none⟩)), (3, .pointer (some ⟨b2, 0, none⟩)), (0, .pointer (some ⟨bm, 0, none⟩)), (1, .agg #[.int .u8 op.kind, .int .i64 op.n, .int .i64 op.m, .int .u8 op.ev.kind, .int .u32 op.ev.pick, .int .u64 op.ev.arg]), (14, .int .u8 op.kind), (211, .pointer (some ⟨bm, 3, none⟩))]) (φ := True) (rest := [3]) h455 (by kernel_rfl) rfl trivial fun a457 h458 => ?_
              clear h455
              refine nd_op ?_
              refine op_store tabOk {k := 0} (L' := [(bm, ⟨[.slice ao s.pos.toNat ac, .pointer (some ⟨bl, 0, none⟩), .int .i64 s.pos, .bool true], 52, false⟩), (b2, ⟨[.int .u8 op.kind, .int .i64 op.n, .int .i64 op.m, .int .u8 op.ev.kind, .int .u32 op.ev.pick, .int .u64 op.ev.arg], 35, false⟩), (b8, ⟨[.int .u8 0, .int .i64 0, .int .i64 0, .int .i64 0, .bool false, .bool false, .int .i8 0, .int .u64 0, .int .u64 0, .int .i64 0, .int .i64 0, .int .i64 0], 41, false⟩)]) (φ := bm = bm ∧ Nat.ble (3 + 1) 4 = true) h458 rfl rfl rfl (by kernel_rfl) ⟨rfl, rfl⟩ fun w459 h460 => ?_
              clear h458
              refine nd_done ?_
              refine hK456 _ _ ?_
              clear hK456
              refine wp_seq_k fun K461 hK461 => ?_
              refine nd_start (l := [0, 1, 2, 3, 4, 5, 6]) rfl ?_
              refine nd_batch tabOk tabZ_ok [(0, {}), (1, {}), (2, {}), (3, {}), (4, {k := 0})] [4, 3, 0, 1, 14, 212, 216] (T' := [(4, .pointer (some ⟨b8, 0, none⟩)), (3, .pointer (some ⟨b2, 0, none⟩)), (0, .pointer (some ⟨bm, 0, none⟩)), (1, .agg #[.int .u8 op.kind, .int .i64 op.n, .int .i64 op.m, .int .u8 op.ev.kind, .int .u32 op.ev.pick, .int .u64 op.ev.arg]), (14, .int .u8 op.kind), (212, .pointer (some ⟨bm, 0, none⟩)), (216, .int .i64 s.pos)]) (φ := (bm = bm ∧ Nat.ble (2 + 1) 4 = true) ∧ True) (rest := [5, 6]) h460 (by kernel_rfl) rfl ⟨⟨rfl, rfl⟩, trivial⟩ fun a462 h463 => ?_
              clear h460
              refine nd_op ?_
              refine op_call h463 rfl rfl rfl (callOk Try.func42 (by decide) rfl) (args := [.pointer (some ⟨bm, 0, none⟩), .int .u8 0, .int .i64 s.pos]) rfl (answer_ok bm _ _ _ _ _ (ModAt.ofQ h463 (k := 0) rfl rfl (pos := s.pos) (live := true) (by rw [hlt]; exact h463.kn (k := 0) rfl)) 0 s.pos (by omega) (by show s.pos ≤ ((all.take s.pos.toNat).length : Int); rw [hlt]; omega) (fun e he => hev e (List.mem_of_mem_take he)) (by rw [List.length_take]; omega)) ?_
              rintro _ w464 ⟨rfl, hf466⟩
              refine ⟨_, rfl, ?_⟩
              have h465 := (h463.grow hf466).put (d := some 217) (v := .agg #[.int .u8 0, .int .i64 s.pos, .int .i64 ((s.lg.cutAfter s.pos).base.idx), .int .i64 (((all.take s.pos.toNat).length : Nat) : Int), .bool true, .bool ((stAt (all.take s.pos.toNat) s.pos).2.refused), .int .i8 ((stAt (all.take s.pos.toNat) s.pos).2.running), .int .u64 ((stAt (all.take s.pos.toNat) s.pos).2.value), .int .u64 (dig (stAt (all.take s.pos.toNat) s.pos).1), .int .i64 s.pos, .int .i64 0, .int .i64 (-1)]) (T' := [(217, .agg #[.int .u8 0, .int .i64 s.pos, .int .i64 ((s.lg.cutAfter s.pos).base.idx), .int .i64 (((all.take s.pos.toNat).length : Nat) : Int), .bool true, .bool ((stAt (all.take s.pos.toNat) s.pos).2.refused), .int .i8 ((stAt (all.take s.pos.toNat) s.pos).2.running), .int .u64 ((stAt (all.take s.pos.toNat) s.pos).2.value), .int .u64 (dig (stAt (all.take s.pos.toNat) s.pos).1), .int .i64 s.pos, .int .i64 0, .int .i64 (-1)]), (4, .pointer (some ⟨b8, 0, none⟩)), (3, .pointer (some ⟨b2, 0, none⟩)), (0, .pointer (some ⟨bm, 0, none⟩)), (1, .agg #[.int .u8 op.kind, .int .i64 op.n, .int .i64 op.m, .int .u8 op.ev.kind, .int .u32 op.ev.pick, .int .u64 op.ev.arg]), (14, .int .u8 op.kind), (212, .pointer (some ⟨bm, 0, none⟩)), (216, .int .i64 s.pos)]) rfl
              clear h463
              refine nd_op ?_
              refine op_store tabOk {k := 2} (L' := [(bm, ⟨[.slice ao s.pos.toNat ac, .pointer (some ⟨bl, 0, none⟩), .int .i64 s.pos, .bool true], 52, false⟩), (b2, ⟨[.int .u8 op.kind, .int .i64 op.n, .int .i64 op.m, .int .u8 op.ev.kind, .int .u32 op.ev.pick, .int .u64 op.ev.arg], 35, false⟩), (b8, ⟨[.int .u8 0, .int .i64 s.pos, .int .i64 ((s.lg.cutAfter s.pos).base.idx), .int .i64 (((all.take s.pos.toNat).length : Nat) : Int), .bool true, .bool ((stAt (all.take s.pos.toNat) s.pos).2.refused), .int .i8 ((stAt (all.take s.pos.toNat) s.pos).2.running), .int .u64 ((stAt (all.take s.pos.toNat) s.pos).2.value), .int .u64 (dig (stAt (all.take s.pos.toNat) s.pos).1), .int .i64 s.pos, .int .i64 0, .int .i64 (-1)], 41, false⟩)]) (φ := b8 = b8 ∧ Nat.ble (0 + 12) 12 = true) h465 rfl rfl rfl (by kernel_rfl) ⟨rfl, rfl⟩ fun w467 h468 => ?_
              clear h465
              refine nd_done ?_
              refine hK461 _ _ ?_
              clear hK461
              refine wp_ret ?_
              have hD := do_k5 (s := s) hk5
              have hN : nextAll s all op = all.take s.pos.toNat := by unfold nextAll; rw [if_neg (by omega), if_pos hk5]
              have hwf9 := resume_wf hwf
              have hon9 := do_hon' hwf hon op
              rw [hD, hN] at hon9
              have hst9 := mans_stat hwf9 hon9 0
              have hR9 : (resumeR s).1 = mans (mdOf (all.take s.pos.toNat) (resumeR s).2) 0 (resumeR s).2.pos := by rw [hst9]; rfl
              skip
              try simp only [Exit.then, Exit.inBlock]
              try rw [if_pos trivial]
              exact s_ret tabOk tabZ_ok h468 [(.cell 4 41, {k := 2})] (vs := [.agg #[.int .u8 0, .int .i64 s.pos, .int .i64 ((s.lg.cutAfter s.pos).base.idx), .int .i64 (((all.take s.pos.toNat).length : Nat) : Int), .bool true, .bool ((stAt (all.take s.pos.toNat) s.pos).2.refused), .int .i8 ((stAt (all.take s.pos.toNat) s.pos).2.running), .int .u64 ((stAt (all.take s.pos.toNat) s.pos).2.value), .int .u64 (dig (stAt (all.take s.pos.toNat) s.pos).1), .int .i64 s.pos, .int .i64 0, .int .i64 (-1)]]) (φ := (b8 = b8 ∧ Nat.ble (0 + 12) 12 = true) ∧ True) rfl (by kernel_rfl) ⟨⟨rfl, rfl⟩, trivial⟩ (by rw [hD, hN, hR9]; exact ⟨bl, d450, ⟨ao, ac, aF⟩, rfl, (by skip; exact (ModAt.ofQ h468 (k := 0) rfl rfl (pos := s.pos) (live := true) (by rw [hlt]; exact h468.kn (k := 0) rfl))), h468.frame, ModAt.subQ h468 (k := 0) rfl rfl⟩)
            ·
              have hc434f : op.kind ≠ 5 := by simpa using hc434
              have hk5 : op.kind ≠ 5 := hc434f
              refine wp_seq_k fun K469 hK469 => ?_
              refine nd_start (l := [0, 1]) rfl ?_
              refine nd_batch tabOk tabZ_ok [(0, {}), (1, {})] [4, 3, 0, 1, 14, 218] (T' := [(4, .pointer (some ⟨b8, 0, none⟩)), (3, .pointer (some ⟨b2, 0, none⟩)), (0, .pointer (some ⟨bm, 0, none⟩)), (1, .agg #[.int .u8 op.kind, .int .i64 op.n, .int .i64 op.m, .int .u8 op.ev.kind, .int .u32 op.ev.pick, .int .u64 op.ev.arg]), (14, .int .u8 op.kind), (218, .bool (op.kind == 6))]) (φ := True) (rest := []) h433 (by kernel_rfl) rfl trivial fun a470 h471 => ?_
              clear h433
              refine nd_done ?_
              refine hK469 _ _ ?_
              clear hK469
              refine c_split h471 (b := (op.kind == 6)) rfl (fun hc472 => ?_) (fun hc472 => ?_)
              ·
                have hc472f : op.kind = 6 := by simpa using hc472
                have hk6 : op.kind = 6 := hc472f
                refine wp_seq_k fun K473 hK473 => ?_
                refine wp_seq_k fun K474 hK474 => ?_
                refine nd_start (l := [0, 1, 2, 3, 4]) rfl ?_
                refine nd_batch tabOk tabZ_ok [(0, {}), (1, {}), (2, {k := 1})] [4, 3, 0, 1, 14, 220, 222] (T' := [(4, .pointer (some ⟨b8, 0, none⟩)), (3, .pointer (some ⟨b2, 0, none⟩)), (0, .pointer (some ⟨bm, 0, none⟩)), (1, .agg #[.int .u8 op.kind, .int .i64 op.n, .int .i64 op.m, .int .u8 op.ev.kind, .int .u32 op.ev.pick, .int .u64 op.ev.arg]), (14, .int .u8 op.kind), (220, .pointer (some ⟨bm, 0, none⟩)), (222, .int .i64 op.n)]) (φ := (b2 = b2 ∧ Nat.ble (1 + 1) 6 = true) ∧ True) (rest := [3, 4]) h471 (by kernel_rfl) rfl ⟨⟨rfl, rfl⟩, trivial⟩ fun a475 h476 => ?_
                clear h471
                refine nd_op ?_
                refine op_call h476 rfl rfl rfl (callOk Try.func47 (by decide) rfl) (args := [.pointer (some ⟨bm, 0, none⟩), .int .i64 op.n]) rfl (held_ok bm bl _ _ _ _ (ModAt.ofQ h476 (k := 0) rfl rfl (pos := s.pos) (live := s.live) (h476.kn (k := 0) (blk := ⟨modC (.slice ao all.length ac) (.pointer (some ⟨bl, 0, none⟩)) s.pos s.live, 52, false⟩) rfl)) op.n (by show s.lg.sns.length ≤ 1000; omega)) ?_
                rintro _ w477 ⟨rfl, hf479⟩
                refine ⟨_, rfl, ?_⟩
                have h478 := (h476.grow hf479).put (d := some 223) (v := .bool ((s.lg.point op.n).isSome)) (T' := [(223, .bool ((s.lg.point op.n).isSome)), (4, .pointer (some ⟨b8, 0, none⟩)), (3, .pointer (some ⟨b2, 0, none⟩)), (0, .pointer (some ⟨bm, 0, none⟩)), (1, .agg #[.int .u8 op.kind, .int .i64 op.n, .int .i64 op.m, .int .u8 op.ev.kind, .int .u32 op.ev.pick, .int .u64 op.ev.arg]), (14, .int .u8 op.kind), (220, .pointer (some ⟨bm, 0, none⟩)), (222, .int .i64 op.n)]) rfl
                clear h476
                refine nd_batch tabOk tabZ_ok [(4, {})] [4, 3, 0, 1, 14, 224] (T' := [(4, .pointer (some ⟨b8, 0, none⟩)), (3, .pointer (some ⟨b2, 0, none⟩)), (0, .pointer (some ⟨bm, 0, none⟩)), (1, .agg #[.int .u8 op.kind, .int .i64 op.n, .int .i64 op.m, .int .u8 op.ev.kind, .int .u32 op.ev.pick, .int .u64 op.ev.arg]), (14, .int .u8 op.kind), (224, .bool (!((s.lg.point op.n).isSome)))]) (φ := True) (rest := []) h478 (by kernel_rfl) rfl trivial fun a480 h481 => ?_
                clear h478
                refine nd_done ?_
                refine hK474 _ _ ?_
                clear hK474
                refine c_split h481 (b := !((s.lg.point op.n).isSome)) rfl (fun hc482 => ?_) (fun hc482 => ?_)
                ·
                  have hhd : (s.lg.point op.n).isSome = false := by simpa using hc482
                  refine wp_seq_k fun K483 hK483 => ?_
                  refine nd_start (l := [0, 1, 2]) rfl ?_
                  refine nd_batch tabOk tabZ_ok [(0, {})] [4, 3, 0, 1, 14, 225] (T' := [(4, .pointer (some ⟨b8, 0, none⟩)), (3, .pointer (some ⟨b2, 0, none⟩)), (0, .pointer (some ⟨bm, 0, none⟩)), (1, .agg #[.int .u8 op.kind, .int .i64 op.n, .int .i64 op.m, .int .u8 op.ev.kind, .int .u32 op.ev.pick, .int .u64 op.ev.arg]), (14, .int .u8 op.kind), (225, .pointer (some ⟨bm, 0, none⟩))]) (φ := True) (rest := [1, 2]) h481 (by kernel_rfl) rfl trivial fun a484 h485 => ?_
                  clear h481
                  refine nd_op ?_
                  refine op_call h485 rfl rfl rfl (callOk Try.func40 (by decide) rfl) (args := [.pointer (some ⟨bm, 0, none⟩), .int .u8 2]) rfl (refuse_ok bm bl _ _ _ _ (ModAt.ofQ h485 (k := 0) rfl rfl (pos := s.pos) (live := s.live) (h485.kn (k := 0) (blk := ⟨modC (.slice ao all.length ac) (.pointer (some ⟨bl, 0, none⟩)) s.pos s.live, 52, false⟩) rfl)) 2 (by show 0 ≤ s.pos; omega) (by show s.pos ≤ (all.length : Int); omega) hev hal) ?_
                  rintro _ w486 ⟨rfl, hf488⟩
                  refine ⟨_, rfl, ?_⟩
                  have h487 := (h485.grow hf488).put (d := some 226) (v := .agg #[.int .u8 2, .int .i64 s.pos, .int .i64 s.lg.base.idx, .int .i64 ((all.length : Nat) : Int), .bool s.live, .bool ((stAt all s.pos).2.refused), .int .i8 ((stAt all s.pos).2.running), .int .u64 ((stAt all s.pos).2.value), .int .u64 (dig (stAt all s.pos).1), .int .i64 s.pos, .int .i64 0, .int .i64 (-1)]) (T' := [(226, .agg #[.int .u8 2, .int .i64 s.pos, .int .i64 s.lg.base.idx, .int .i64 ((all.length : Nat) : Int), .bool s.live, .bool ((stAt all s.pos).2.refused), .int .i8 ((stAt all s.pos).2.running), .int .u64 ((stAt all s.pos).2.value), .int .u64 (dig (stAt all s.pos).1), .int .i64 s.pos, .int .i64 0, .int .i64 (-1)]), (4, .pointer (some ⟨b8, 0, none⟩)), (3, .pointer (some ⟨b2, 0, none⟩)), (0, .pointer (some ⟨bm, 0, none⟩)), (1, .agg #[.int .u8 op.kind, .int .i64 op.n, .int .i64 op.m, .int .u8 op.ev.kind, .int .u32 op.ev.pick, .int .u64 op.ev.arg]), (14, .int .u8 op.kind), (225, .pointer (some ⟨bm, 0, none⟩))]) rfl
                  clear h485
                  refine nd_op ?_
                  refine op_store tabOk {k := 2} (L' := [(bm, ⟨modC (.slice ao all.length ac) (.pointer (some ⟨bl, 0, none⟩)) s.pos s.live, 52, false⟩), (b2, ⟨[.int .u8 op.kind, .int .i64 op.n, .int .i64 op.m, .int .u8 op.ev.kind, .int .u32 op.ev.pick, .int .u64 op.ev.arg], 35, false⟩), (b8, ⟨[.int .u8 2, .int .i64 s.pos, .int .i64 s.lg.base.idx, .int .i64 ((all.length : Nat) : Int), .bool s.live, .bool ((stAt all s.pos).2.refused), .int .i8 ((stAt all s.pos).2.running), .int .u64 ((stAt all s.pos).2.value), .int .u64 (dig (stAt all s.pos).1), .int .i64 s.pos, .int .i64 0, .int .i64 (-1)], 41, false⟩)]) (φ := b8 = b8 ∧ Nat.ble (0 + 12) 12 = true) h487 rfl rfl rfl (by kernel_rfl) ⟨rfl, rfl⟩ fun w489 h490 => ?_
                  clear h487
                  refine nd_done ?_
                  refine hK483 _ _ ?_
                  clear hK483
                  refine wp_ret ?_
                  obtain ⟨hD, hN⟩ := do3_check (s := s) (all := all) hk6
                  have hC := check3 hwf hon op.n
                  rw [if_neg (by rw [hhd]; decide)] at hC
                  skip
                  try simp only [Exit.then, Exit.inBlock]
                  try rw [if_pos trivial]
                  exact s_ret tabOk tabZ_ok h490 [(.cell 4 41, {k := 2})] (vs := [.agg #[.int .u8 2, .int .i64 s.pos, .int .i64 s.lg.base.idx, .int .i64 ((all.length : Nat) : Int), .bool s.live, .bool ((stAt all s.pos).2.refused), .int .i8 ((stAt all s.pos).2.running), .int .u64 ((stAt all s.pos).2.value), .int .u64 (dig (stAt all s.pos).1), .int .i64 s.pos, .int .i64 0, .int .i64 (-1)]]) (φ := (b8 = b8 ∧ Nat.ble (0 + 12) 12 = true) ∧ True) rfl (by kernel_rfl) ⟨⟨rfl, rfl⟩, trivial⟩ (by rw [hD, hN, hC]; exact ⟨bl, d, ⟨ao, ac, aF⟩, rfl, (by skip; exact (ModAt.ofQ h490 (k := 0) rfl rfl (pos := s.pos) (live := s.live) (h490.kn (k := 0) (blk := ⟨modC (.slice ao all.length ac) (.pointer (some ⟨bl, 0, none⟩)) s.pos s.live, 52, false⟩) rfl))), h490.frame, ModAt.subQ h490 (k := 0) rfl rfl⟩)
                ·
                  have hhd : (s.lg.point op.n).isSome = true := by simpa using hc482
                  obtain ⟨pp, hpp⟩ := Option.isSome_iff_exists.1 hhd
                  obtain ⟨hpi, _, hpb, hpf2⟩ := point_state hwf.lg hon.lg hpp
                  refine wp_skip ?_
                  refine hK473 _ _ ?_
                  clear hK473
                  refine wp_seq_k fun K491 hK491 => ?_
                  refine nd_start (l := [0, 1, 2, 3, 4, 5, 6, 7]) rfl ?_
                  refine nd_batch tabOk tabZ_ok [(0, {}), (1, {}), (2, {}), (3, {}), (4, {k := 0})] [4, 3, 0, 1, 14, 227, 231] (T' := [(4, .pointer (some ⟨b8, 0, none⟩)), (3, .pointer (some ⟨b2, 0, none⟩)), (0, .pointer (some ⟨bm, 0, none⟩)), (1, .agg #[.int .u8 op.kind, .int .i64 op.n, .int .i64 op.m, .int .u8 op.ev.kind, .int .u32 op.ev.pick, .int .u64 op.ev.arg]), (14, .int .u8 op.kind), (227, .pointer (some ⟨bm, 0, none⟩)), (231, .int .i64 s.pos)]) (φ := (bm = bm ∧ Nat.ble (2 + 1) 4 = true) ∧ True) (rest := [5, 6, 7]) h481 (by kernel_rfl) rfl ⟨⟨rfl, rfl⟩, trivial⟩ fun a492 h493 => ?_
                  clear h481
                  refine nd_op ?_
                  refine op_call h493 rfl rfl rfl (callOk Try.func42 (by decide) rfl) (args := [.pointer (some ⟨bm, 0, none⟩), .int .u8 0, .int .i64 s.pos]) rfl (answer_ok bm _ _ _ _ _ (ModAt.ofQ h493 (k := 0) rfl rfl (pos := s.pos) (live := s.live) (h493.kn (k := 0) (blk := ⟨modC (.slice ao all.length ac) (.pointer (some ⟨bl, 0, none⟩)) s.pos s.live, 52, false⟩) rfl)) 0 s.pos (by omega) (by show _ ≤ (all.length : Int); omega) hev hal) ?_
                  rintro _ w494 ⟨rfl, hf496⟩
                  refine ⟨_, rfl, ?_⟩
                  have h495 := (h493.grow hf496).put (d := some 232) (v := .agg #[.int .u8 0, .int .i64 s.pos, .int .i64 s.lg.base.idx, .int .i64 ((all.length : Nat) : Int), .bool s.live, .bool ((stAt all s.pos).2.refused), .int .i8 ((stAt all s.pos).2.running), .int .u64 ((stAt all s.pos).2.value), .int .u64 (dig (stAt all s.pos).1), .int .i64 s.pos, .int .i64 0, .int .i64 (-1)]) (T' := [(232, .agg #[.int .u8 0, .int .i64 s.pos, .int .i64 s.lg.base.idx, .int .i64 ((all.length : Nat) : Int), .bool s.live, .bool ((stAt all s.pos).2.refused), .int .i8 ((stAt all s.pos).2.running), .int .u64 ((stAt all s.pos).2.value), .int .u64 (dig (stAt all s.pos).1), .int .i64 s.pos, .int .i64 0, .int .i64 (-1)]), (4, .pointer (some ⟨b8, 0, none⟩)), (3, .pointer (some ⟨b2, 0, none⟩)), (0, .pointer (some ⟨bm, 0, none⟩)), (1, .agg #[.int .u8 op.kind, .int .i64 op.n, .int .i64 op.m, .int .u8 op.ev.kind, .int .u32 op.ev.pick, .int .u64 op.ev.arg]), (14, .int .u8 op.kind), (227, .pointer (some ⟨bm, 0, none⟩)), (231, .int .i64 s.pos)]) rfl
                  clear h493
                  refine nd_op ?_
                  refine op_new tabOk (cells := [.int .u8 0, .int .i64 0, .int .i64 0, .int .i64 0, .bool false, .bool false, .int .i8 0, .int .u64 0, .int .u64 0, .int .i64 0, .int .i64 0, .int .i64 0]) (ty := 41) (ln := none) (L1 := fun b497 => [(bm, ⟨modC (.slice ao all.length ac) (.pointer (some ⟨bl, 0, none⟩)) s.pos s.live, 52, false⟩), (b2, ⟨[.int .u8 op.kind, .int .i64 op.n, .int .i64 op.m, .int .u8 op.ev.kind, .int .u32 op.ev.pick, .int .u64 op.ev.arg], 35, false⟩), (b8, ⟨[.int .u8 0, .int .i64 0, .int .i64 0, .int .i64 0, .bool false, .bool false, .int .i8 0, .int .u64 0, .int .u64 0, .int .i64 0, .int .i64 0, .int .i64 0], 41, false⟩), (b497, ⟨[.int .u8 0, .int .i64 0, .int .i64 0, .int .i64 0, .bool false, .bool false, .int .i8 0, .int .u64 0, .int .u64 0, .int .i64 0, .int .i64 0, .int .i64 0], 41, false⟩)]) h495 rfl rfl rfl rfl (by kernel_rfl) (fun _ => rfl) fun b497 w498 a499 h500 hf501 hn502 => ?_
                  clear h495
                  refine nd_op ?_
                  refine op_store tabOk {k := 3} (L' := [(bm, ⟨modC (.slice ao all.length ac) (.pointer (some ⟨bl, 0, none⟩)) s.pos s.live, 52, false⟩), (b2, ⟨[.int .u8 op.kind, .int .i64 op.n, .int .i64 op.m, .int .u8 op.ev.kind, .int .u32 op.ev.pick, .int .u64 op.ev.arg], 35, false⟩), (b8, ⟨[.int .u8 0, .int .i64 0, .int .i64 0, .int .i64 0, .bool false, .bool false, .int .i8 0, .int .u64 0, .int .u64 0, .int .i64 0, .int .i64 0, .int .i64 0], 41, false⟩), (b497, ⟨[.int .u8 0, .int .i64 s.pos, .int .i64 s.lg.base.idx, .int .i64 ((all.length : Nat) : Int), .bool s.live, .bool ((stAt all s.pos).2.refused), .int .i8 ((stAt all s.pos).2.running), .int .u64 ((stAt all s.pos).2.value), .int .u64 (dig (stAt all s.pos).1), .int .i64 s.pos, .int .i64 0, .int .i64 (-1)], 41, false⟩)]) (φ := b497 = b497 ∧ Nat.ble (0 + 12) 12 = true) h500 rfl rfl rfl (by kernel_rfl) ⟨rfl, rfl⟩ fun w503 h504 => ?_
                  clear h500
                  refine nd_done ?_
                  refine hK491 _ _ ?_
                  clear hK491
                  refine wp_seq_k fun K505 hK505 => ?_
                  refine dr_start (KB := [bm, b2, b8, b497]) (Bi := [[0, 1, 2, 3], [0, 1, 2, 3], [0, 1, 2, 3], [0, 1, 2, 3], [0, 1, 2, 3], [0, 1, 2, 3], [0, 1, 2, 3], [0, 1, 2, 3], [0, 1, 2, 3], [0, 1, 2, 3], [0, 1, 2, 3], [0, 1], [0, 1, 2, 3], []]) mixed h504 fun w506 h507 => ?_
                  clear h504
                  refine dr_batch tabOk tabZ_ok (by repeat (first | with_reducible exact PF.body | with_reducible apply PF.inB | with_reducible apply PF.next)) [(0, {}), (1, {k := 1, p := 1}), (2, {}), (3, {}), (4, {}), (5, {k := 0, p := 0}), (6, {}), (7, {}), (8, {k := 1, p := 1}), (9, {}), (10, {})] [11, 4, 3, 0, 1, 14, 234, 242, 243] (T' := [(11, .pointer (some ⟨b497, 0, none⟩)), (4, .pointer (some ⟨b8, 0, none⟩)), (3, .pointer (some ⟨b2, 0, none⟩)), (0, .pointer (some ⟨bm, 0, none⟩)), (1, .agg #[.int .u8 op.kind, .int .i64 op.n, .int .i64 op.m, .int .u8 op.ev.kind, .int .u32 op.ev.pick, .int .u64 op.ev.arg]), (14, .int .u8 op.kind), (234, .int .i64 op.n), (242, .int .i64 (((all.length : Nat) : Int) - op.n)), (243, .pointer (some ⟨b497, 9, none⟩))]) (φ := (b2 = b2 ∧ Nat.ble (1 + 1) 6 = true) ∧ (bm = bm ∧ Nat.ble (0 + 1) 4 = true) ∧ (b2 = b2 ∧ Nat.ble (1 + 1) 6 = true) ∧ inR .i64 (((all.length : Nat) : Int) - op.n) ∧ True) (fuel := 3) h507 (by kernel_rfl) rfl (by kernel_rfl) (by kernel_rfl) ⟨trivial, rfl, trivial, trivial, trivial, rfl, trivial, trivial, rfl, trivial, trivial, trivial⟩ ⟨⟨rfl, rfl⟩, ⟨rfl, rfl⟩, ⟨rfl, rfl⟩, ⟨by omega, by omega⟩, trivial⟩ fun a509 h510 => ?_
                  clear h507
                  refine wpAnyK_one (i := 11) (fuel := 2) (by kernel_rfl) ?_
                  refine op_store tabOk {k := 3} (L' := [(bm, ⟨modC (.slice ao all.length ac) (.pointer (some ⟨bl, 0, none⟩)) s.pos s.live, 52, false⟩), (b2, ⟨[.int .u8 op.kind, .int .i64 op.n, .int .i64 op.m, .int .u8 op.ev.kind, .int .u32 op.ev.pick, .int .u64 op.ev.arg], 35, false⟩), (b8, ⟨[.int .u8 0, .int .i64 0, .int .i64 0, .int .i64 0, .bool false, .bool false, .int .i8 0, .int .u64 0, .int .u64 0, .int .i64 0, .int .i64 0, .int .i64 0], 41, false⟩), (b497, ⟨[.int .u8 0, .int .i64 s.pos, .int .i64 s.lg.base.idx, .int .i64 ((all.length : Nat) : Int), .bool s.live, .bool ((stAt all s.pos).2.refused), .int .i8 ((stAt all s.pos).2.running), .int .u64 ((stAt all s.pos).2.value), .int .u64 (dig (stAt all s.pos).1), .int .i64 op.n, .int .i64 0, .int .i64 (-1)], 41, false⟩)]) (φ := b497 = b497 ∧ Nat.ble (9 + 1) 12 = true) h510 rfl rfl rfl (by kernel_rfl) ⟨rfl, rfl⟩ fun w511 h512 => ?_
                  have hkh512 := h510.known
                  refine ⟨(keepOf hkh512 h512.known (kcons (keepAt (q := 0) (q' := 0) rfl rfl) (kcons (keepAt (q := 1) (q' := 1) rfl rfl) knil))), ?_⟩
                  clear h510
                  refine dr_batch tabOk tabZ_ok (by repeat (first | with_reducible exact PF.body | with_reducible apply PF.inB | with_reducible apply PF.next)) [(12, {})] [11, 4, 3, 0, 1, 14, 242, 244] (T' := [(11, .pointer (some ⟨b497, 0, none⟩)), (4, .pointer (some ⟨b8, 0, none⟩)), (3, .pointer (some ⟨b2, 0, none⟩)), (0, .pointer (some ⟨bm, 0, none⟩)), (1, .agg #[.int .u8 op.kind, .int .i64 op.n, .int .i64 op.m, .int .u8 op.ev.kind, .int .u32 op.ev.pick, .int .u64 op.ev.arg]), (14, .int .u8 op.kind), (242, .int .i64 (((all.length : Nat) : Int) - op.n)), (244, .pointer (some ⟨b497, 10, none⟩))]) (φ := True) (fuel := 1) h512 (by kernel_rfl) rfl (by kernel_rfl) (by kernel_rfl) ⟨trivial, trivial⟩ trivial fun a513 h514 => ?_
                  clear h512
                  refine wpAnyK_one (i := 13) (fuel := 0) (by kernel_rfl) ?_
                  refine op_store tabOk {k := 3} (L' := [(bm, ⟨modC (.slice ao all.length ac) (.pointer (some ⟨bl, 0, none⟩)) s.pos s.live, 52, false⟩), (b2, ⟨[.int .u8 op.kind, .int .i64 op.n, .int .i64 op.m, .int .u8 op.ev.kind, .int .u32 op.ev.pick, .int .u64 op.ev.arg], 35, false⟩), (b8, ⟨[.int .u8 0, .int .i64 0, .int .i64 0, .int .i64 0, .bool false, .bool false, .int .i8 0, .int .u64 0, .int .u64 0, .int .i64 0, .int .i64 0, .int .i64 0], 41, false⟩), (b497, ⟨[.int .u8 0, .int .i64 s.pos, .int .i64 s.lg.base.idx, .int .i64 ((all.length : Nat) : Int), .bool s.live, .bool ((stAt all s.pos).2.refused), .int .i8 ((stAt all s.pos).2.running), .int .u64 ((stAt all s.pos).2.value), .int .u64 (dig (stAt all s.pos).1), .int .i64 op.n, .int .i64 (((all.length : Nat) : Int) - op.n), .int .i64 (-1)], 41, false⟩)]) (φ := b497 = b497 ∧ Nat.ble (10 + 1) 12 = true) h514 rfl rfl rfl (by kernel_rfl) ⟨rfl, rfl⟩ fun w515 h516 => ?_
                  have hkh516 := h514.known
                  refine ⟨keepNil, ?_⟩
                  clear h514
                  refine wpAnyK_done (by kernel_rfl) ?_ _
                  refine hK505 _ _ ?_
                  clear hK505
                  refine wp_seq_k fun K517 hK517 => ?_
                  refine nd_start (l := [0, 1]) rfl ?_
                  refine nd_batch tabOk tabZ_ok [(0, {k := 3})] [11, 4, 3, 0, 1, 14, 245] (T' := [(11, .pointer (some ⟨b497, 0, none⟩)), (4, .pointer (some ⟨b8, 0, none⟩)), (3, .pointer (some ⟨b2, 0, none⟩)), (0, .pointer (some ⟨bm, 0, none⟩)), (1, .agg #[.int .u8 op.kind, .int .i64 op.n, .int .i64 op.m, .int .u8 op.ev.kind, .int .u32 op.ev.pick, .int .u64 op.ev.arg]), (14, .int .u8 op.kind), (245, .agg #[.int .u8 0, .int .i64 s.pos, .int .i64 s.lg.base.idx, .int .i64 ((all.length : Nat) : Int), .bool s.live, .bool ((stAt all s.pos).2.refused), .int .i8 ((stAt all s.pos).2.running), .int .u64 ((stAt all s.pos).2.value), .int .u64 (dig (stAt all s.pos).1), .int .i64 op.n, .int .i64 (((all.length : Nat) : Int) - op.n), .int .i64 (-1)])]) (φ := (b497 = b497 ∧ Nat.ble (0 + 12) 12 = true) ∧ True) (rest := [1]) h516 (by kernel_rfl) rfl ⟨⟨rfl, rfl⟩, trivial⟩ fun a518 h519 => ?_
                  clear h516
                  refine nd_op ?_
                  refine op_store tabOk {k := 2} (L' := [(bm, ⟨modC (.slice ao all.length ac) (.pointer (some ⟨bl, 0, none⟩)) s.pos s.live, 52, false⟩), (b2, ⟨[.int .u8 op.kind, .int .i64 op.n, .int .i64 op.m, .int .u8 op.ev.kind, .int .u32 op.ev.pick, .int .u64 op.ev.arg], 35, false⟩), (b8, ⟨[.int .u8 0, .int .i64 s.pos, .int .i64 s.lg.base.idx, .int .i64 ((all.length : Nat) : Int), .bool s.live, .bool ((stAt all s.pos).2.refused), .int .i8 ((stAt all s.pos).2.running), .int .u64 ((stAt all s.pos).2.value), .int .u64 (dig (stAt all s.pos).1), .int .i64 op.n, .int .i64 (((all.length : Nat) : Int) - op.n), .int .i64 (-1)], 41, false⟩), (b497, ⟨[.int .u8 0, .int .i64 s.pos, .int .i64 s.lg.base.idx, .int .i64 ((all.length : Nat) : Int), .bool s.live, .bool ((stAt all s.pos).2.refused), .int .i8 ((stAt all s.pos).2.running), .int .u64 ((stAt all s.pos).2.value), .int .u64 (dig (stAt all s.pos).1), .int .i64 op.n, .int .i64 (((all.length : Nat) : Int) - op.n), .int .i64 (-1)], 41, false⟩)]) (φ := b8 = b8 ∧ Nat.ble (0 + 12) 12 = true) h519 rfl rfl rfl (by kernel_rfl) ⟨rfl, rfl⟩ fun w520 h521 => ?_
                  clear h519
                  refine nd_done ?_
                  refine hK517 _ _ ?_
                  clear hK517
                  refine wp_ret ?_
                  obtain ⟨hD, hN⟩ := do3_check (s := s) (all := all) hk6
                  have hC := check3 hwf hon op.n
                  rw [if_pos hhd] at hC
                  skip
                  try simp only [Exit.then, Exit.inBlock]
                  try rw [if_pos trivial]
                  exact s_ret tabOk tabZ_ok h521 [(.cell 4 41, {k := 2})] (vs := [.agg #[.int .u8 0, .int .i64 s.pos, .int .i64 s.lg.base.idx, .int .i64 ((all.length : Nat) : Int), .bool s.live, .bool ((stAt all s.pos).2.refused), .int .i8 ((stAt all s.pos).2.running), .int .u64 ((stAt all s.pos).2.value), .int .u64 (dig (stAt all s.pos).1), .int .i64 op.n, .int .i64 (((all.length : Nat) : Int) - op.n), .int .i64 (-1)]]) (φ := (b8 = b8 ∧ Nat.ble (0 + 12) 12 = true) ∧ True) rfl (by kernel_rfl) ⟨⟨rfl, rfl⟩, trivial⟩ (by rw [hD, hN, hC]; exact ⟨bl, d, ⟨ao, ac, aF⟩, rfl, (by skip; exact (ModAt.ofQ h521 (k := 0) rfl rfl (pos := s.pos) (live := s.live) (h521.kn (k := 0) (blk := ⟨modC (.slice ao all.length ac) (.pointer (some ⟨bl, 0, none⟩)) s.pos s.live, 52, false⟩) rfl))), h521.frame, ModAt.subQ h521 (k := 0) rfl rfl⟩)
              ·
                have hc472f : op.kind ≠ 6 := by simpa using hc472
                have hk6 : op.kind ≠ 6 := hc472f
                refine wp_seq_k fun K522 hK522 => ?_
                refine nd_start (l := [0, 1]) rfl ?_
                refine nd_batch tabOk tabZ_ok [(0, {}), (1, {})] [4, 3, 0, 1, 14, 246] (T' := [(4, .pointer (some ⟨b8, 0, none⟩)), (3, .pointer (some ⟨b2, 0, none⟩)), (0, .pointer (some ⟨bm, 0, none⟩)), (1, .agg #[.int .u8 op.kind, .int .i64 op.n, .int .i64 op.m, .int .u8 op.ev.kind, .int .u32 op.ev.pick, .int .u64 op.ev.arg]), (14, .int .u8 op.kind), (246, .bool (op.kind == 7))]) (φ := True) (rest := []) h471 (by kernel_rfl) rfl trivial fun a523 h524 => ?_
                clear h471
                refine nd_done ?_
                refine hK522 _ _ ?_
                clear hK522
                refine c_split h524 (b := (op.kind == 7)) rfl (fun hc525 => ?_) (fun hc525 => ?_)
                ·
                  have hc525f : op.kind = 7 := by simpa using hc525
                  have hk7 : op.kind = 7 := hc525f
                  refine wp_seq_k fun K526 hK526 => ?_
                  refine wp_seq_k fun K527 hK527 => ?_
                  refine nd_start (l := [0, 1, 2, 3, 4]) rfl ?_
                  refine nd_batch tabOk tabZ_ok [(0, {}), (1, {}), (2, {k := 1})] [4, 3, 0, 1, 14, 248, 250] (T' := [(4, .pointer (some ⟨b8, 0, none⟩)), (3, .pointer (some ⟨b2, 0, none⟩)), (0, .pointer (some ⟨bm, 0, none⟩)), (1, .agg #[.int .u8 op.kind, .int .i64 op.n, .int .i64 op.m, .int .u8 op.ev.kind, .int .u32 op.ev.pick, .int .u64 op.ev.arg]), (14, .int .u8 op.kind), (248, .pointer (some ⟨bm, 0, none⟩)), (250, .int .i64 op.n)]) (φ := (b2 = b2 ∧ Nat.ble (1 + 1) 6 = true) ∧ True) (rest := [3, 4]) h524 (by kernel_rfl) rfl ⟨⟨rfl, rfl⟩, trivial⟩ fun a528 h529 => ?_
                  clear h524
                  refine nd_op ?_
                  refine op_call h529 rfl rfl rfl (callOk Try.func47 (by decide) rfl) (args := [.pointer (some ⟨bm, 0, none⟩), .int .i64 op.n]) rfl (held_ok bm bl _ _ _ _ (ModAt.ofQ h529 (k := 0) rfl rfl (pos := s.pos) (live := s.live) (h529.kn (k := 0) (blk := ⟨modC (.slice ao all.length ac) (.pointer (some ⟨bl, 0, none⟩)) s.pos s.live, 52, false⟩) rfl)) op.n (by show s.lg.sns.length ≤ 1000; omega)) ?_
                  rintro _ w530 ⟨rfl, hf532⟩
                  refine ⟨_, rfl, ?_⟩
                  have h531 := (h529.grow hf532).put (d := some 251) (v := .bool ((s.lg.point op.n).isSome)) (T' := [(251, .bool ((s.lg.point op.n).isSome)), (4, .pointer (some ⟨b8, 0, none⟩)), (3, .pointer (some ⟨b2, 0, none⟩)), (0, .pointer (some ⟨bm, 0, none⟩)), (1, .agg #[.int .u8 op.kind, .int .i64 op.n, .int .i64 op.m, .int .u8 op.ev.kind, .int .u32 op.ev.pick, .int .u64 op.ev.arg]), (14, .int .u8 op.kind), (248, .pointer (some ⟨bm, 0, none⟩)), (250, .int .i64 op.n)]) rfl
                  clear h529
                  refine nd_batch tabOk tabZ_ok [(4, {})] [4, 3, 0, 1, 14, 252] (T' := [(4, .pointer (some ⟨b8, 0, none⟩)), (3, .pointer (some ⟨b2, 0, none⟩)), (0, .pointer (some ⟨bm, 0, none⟩)), (1, .agg #[.int .u8 op.kind, .int .i64 op.n, .int .i64 op.m, .int .u8 op.ev.kind, .int .u32 op.ev.pick, .int .u64 op.ev.arg]), (14, .int .u8 op.kind), (252, .bool (!((s.lg.point op.n).isSome)))]) (φ := True) (rest := []) h531 (by kernel_rfl) rfl trivial fun a533 h534 => ?_
                  clear h531
                  refine nd_done ?_
                  refine hK527 _ _ ?_
                  clear hK527
                  refine c_split h534 (b := !((s.lg.point op.n).isSome)) rfl (fun hc535 => ?_) (fun hc535 => ?_)
                  ·
                    have hhd : (s.lg.point op.n).isSome = false := by simpa using hc535
                    refine wp_seq_k fun K536 hK536 => ?_
                    refine nd_start (l := [0, 1, 2]) rfl ?_
                    refine nd_batch tabOk tabZ_ok [(0, {})] [4, 3, 0, 1, 14, 253] (T' := [(4, .pointer (some ⟨b8, 0, none⟩)), (3, .pointer (some ⟨b2, 0, none⟩)), (0, .pointer (some ⟨bm, 0, none⟩)), (1, .agg #[.int .u8 op.kind, .int .i64 op.n, .int .i64 op.m, .int .u8 op.ev.kind, .int .u32 op.ev.pick, .int .u64 op.ev.arg]), (14, .int .u8 op.kind), (253, .pointer (some ⟨bm, 0, none⟩))]) (φ := True) (rest := [1, 2]) h534 (by kernel_rfl) rfl trivial fun a537 h538 => ?_
                    clear h534
                    refine nd_op ?_
                    refine op_call h538 rfl rfl rfl (callOk Try.func40 (by decide) rfl) (args := [.pointer (some ⟨bm, 0, none⟩), .int .u8 2]) rfl (refuse_ok bm bl _ _ _ _ (ModAt.ofQ h538 (k := 0) rfl rfl (pos := s.pos) (live := s.live) (h538.kn (k := 0) (blk := ⟨modC (.slice ao all.length ac) (.pointer (some ⟨bl, 0, none⟩)) s.pos s.live, 52, false⟩) rfl)) 2 (by show 0 ≤ s.pos; omega) (by show s.pos ≤ (all.length : Int); omega) hev hal) ?_
                    rintro _ w539 ⟨rfl, hf541⟩
                    refine ⟨_, rfl, ?_⟩
                    have h540 := (h538.grow hf541).put (d := some 254) (v := .agg #[.int .u8 2, .int .i64 s.pos, .int .i64 s.lg.base.idx, .int .i64 ((all.length : Nat) : Int), .bool s.live, .bool ((stAt all s.pos).2.refused), .int .i8 ((stAt all s.pos).2.running), .int .u64 ((stAt all s.pos).2.value), .int .u64 (dig (stAt all s.pos).1), .int .i64 s.pos, .int .i64 0, .int .i64 (-1)]) (T' := [(254, .agg #[.int .u8 2, .int .i64 s.pos, .int .i64 s.lg.base.idx, .int .i64 ((all.length : Nat) : Int), .bool s.live, .bool ((stAt all s.pos).2.refused), .int .i8 ((stAt all s.pos).2.running), .int .u64 ((stAt all s.pos).2.value), .int .u64 (dig (stAt all s.pos).1), .int .i64 s.pos, .int .i64 0, .int .i64 (-1)]), (4, .pointer (some ⟨b8, 0, none⟩)), (3, .pointer (some ⟨b2, 0, none⟩)), (0, .pointer (some ⟨bm, 0, none⟩)), (1, .agg #[.int .u8 op.kind, .int .i64 op.n, .int .i64 op.m, .int .u8 op.ev.kind, .int .u32 op.ev.pick, .int .u64 op.ev.arg]), (14, .int .u8 op.kind), (253, .pointer (some ⟨bm, 0, none⟩))]) rfl
                    clear h538
                    refine nd_op ?_
                    refine op_store tabOk {k := 2} (L' := [(bm, ⟨modC (.slice ao all.length ac) (.pointer (some ⟨bl, 0, none⟩)) s.pos s.live, 52, false⟩), (b2, ⟨[.int .u8 op.kind, .int .i64 op.n, .int .i64 op.m, .int .u8 op.ev.kind, .int .u32 op.ev.pick, .int .u64 op.ev.arg], 35, false⟩), (b8, ⟨[.int .u8 2, .int .i64 s.pos, .int .i64 s.lg.base.idx, .int .i64 ((all.length : Nat) : Int), .bool s.live, .bool ((stAt all s.pos).2.refused), .int .i8 ((stAt all s.pos).2.running), .int .u64 ((stAt all s.pos).2.value), .int .u64 (dig (stAt all s.pos).1), .int .i64 s.pos, .int .i64 0, .int .i64 (-1)], 41, false⟩)]) (φ := b8 = b8 ∧ Nat.ble (0 + 12) 12 = true) h540 rfl rfl rfl (by kernel_rfl) ⟨rfl, rfl⟩ fun w542 h543 => ?_
                    clear h540
                    refine nd_done ?_
                    refine hK536 _ _ ?_
                    clear hK536
                    refine wp_ret ?_
                    obtain ⟨hD, hN⟩ := do3_replay (s := s) (all := all) hk7
                    have hC := replay3 hwf hon op.n op.m
                    rw [if_neg (by rw [hhd]; decide)] at hC
                    skip
                    try simp only [Exit.then, Exit.inBlock]
                    try rw [if_pos trivial]
                    exact s_ret tabOk tabZ_ok h543 [(.cell 4 41, {k := 2})] (vs := [.agg #[.int .u8 2, .int .i64 s.pos, .int .i64 s.lg.base.idx, .int .i64 ((all.length : Nat) : Int), .bool s.live, .bool ((stAt all s.pos).2.refused), .int .i8 ((stAt all s.pos).2.running), .int .u64 ((stAt all s.pos).2.value), .int .u64 (dig (stAt all s.pos).1), .int .i64 s.pos, .int .i64 0, .int .i64 (-1)]]) (φ := (b8 = b8 ∧ Nat.ble (0 + 12) 12 = true) ∧ True) rfl (by kernel_rfl) ⟨⟨rfl, rfl⟩, trivial⟩ (by rw [hD, hN, hC]; exact ⟨bl, d, ⟨ao, ac, aF⟩, rfl, (by skip; exact (ModAt.ofQ h543 (k := 0) rfl rfl (pos := s.pos) (live := s.live) (h543.kn (k := 0) (blk := ⟨modC (.slice ao all.length ac) (.pointer (some ⟨bl, 0, none⟩)) s.pos s.live, 52, false⟩) rfl))), h543.frame, ModAt.subQ h543 (k := 0) rfl rfl⟩)
                  ·
                    have hhd : (s.lg.point op.n).isSome = true := by simpa using hc535
                    obtain ⟨pp, hpp⟩ := Option.isSome_iff_exists.1 hhd
                    obtain ⟨hpi, _, hpb, hpf2⟩ := point_state hwf.lg hon.lg hpp
                    refine wp_skip ?_
                    refine hK526 _ _ ?_
                    clear hK526
                    refine wp_seq_k fun K544 hK544 => ?_
                    refine wp_seq_k fun K545 hK545 => ?_
                    rcases Bool.eq_false_or_eq_true (decide (op.m < op.n)) with hb546 | hb546
                    ·
                      have hb546f : op.m < op.n := by simpa using hb546
                      refine dr_start (KB := [bm, b2, b8]) (Bi := [[0, 1, 2], [0, 1, 2], [0, 1, 2], [0, 1, 2], [0, 1, 2], [0, 1, 2], [0, 1, 2], [0, 1, 2], [0, 1, 2], [0, 1, 2], [0, 1, 2], [0, 1, 2], [0, 1, 2], [0, 1, 2], [0, 1, 2]]) mixed h534 fun w547 h548 => ?_
                      clear h534
                      refine dr_batch tabOk tabZ_ok (by repeat (first | with_reducible exact PF.body | with_reducible apply PF.inB | with_reducible apply PF.next)) [(0, {}), (1, {k := 1, p := 1}), (2, {}), (3, {k := 1, p := 1}), (4, {f := 2}), (5, {}), (6, {}), (7, {k := 0, p := 0}), (8, {}), (9, {}), (10, {}), (11, {k := 0, p := 0}), (12, {}), (13, {}), (14, {})] [4, 3, 0, 1, 14, 269] (T' := [(4, .pointer (some ⟨b8, 0, none⟩)), (3, .pointer (some ⟨b2, 0, none⟩)), (0, .pointer (some ⟨bm, 0, none⟩)), (1, .agg #[.int .u8 op.kind, .int .i64 op.n, .int .i64 op.m, .int .u8 op.ev.kind, .int .u32 op.ev.pick, .int .u64 op.ev.arg]), (14, .int .u8 op.kind), (269, .bool true)]) (φ := (b2 = b2 ∧ Nat.ble (2 + 1) 6 = true) ∧ (b2 = b2 ∧ Nat.ble (1 + 1) 6 = true) ∧ (decide (op.m < op.n)) = true ∧ True) (fuel := 0) h548 (by kernel_rfl) rfl (by kernel_rfl) (by kernel_rfl) ⟨trivial, rfl, trivial, rfl, trivial, trivial, trivial, rfl, trivial, trivial, trivial, rfl, trivial, trivial, trivial, trivial⟩ ⟨⟨rfl, rfl⟩, ⟨rfl, rfl⟩, hb546, trivial⟩ fun a550 h551 => ?_
                      clear h548
                      refine wpAnyK_done (by kernel_rfl) ?_ _
                      refine hK545 _ _ ?_
                      clear hK545
                      refine c_true h551 rfl ?_
                      refine wp_seq_k fun K552 hK552 => ?_
                      refine nd_start (l := [0, 1, 2]) rfl ?_
                      refine nd_batch tabOk tabZ_ok [(0, {})] [4, 3, 0, 1, 14, 270] (T' := [(4, .pointer (some ⟨b8, 0, none⟩)), (3, .pointer (some ⟨b2, 0, none⟩)), (0, .pointer (some ⟨bm, 0, none⟩)), (1, .agg #[.int .u8 op.kind, .int .i64 op.n, .int .i64 op.m, .int .u8 op.ev.kind, .int .u32 op.ev.pick, .int .u64 op.ev.arg]), (14, .int .u8 op.kind), (270, .pointer (some ⟨bm, 0, none⟩))]) (φ := True) (rest := [1, 2]) h551 (by kernel_rfl) rfl trivial fun a553 h554 => ?_
                      clear h551
                      refine nd_op ?_
                      refine op_call h554 rfl rfl rfl (callOk Try.func40 (by decide) rfl) (args := [.pointer (some ⟨bm, 0, none⟩), .int .u8 1]) rfl (refuse_ok bm bl _ _ _ _ (ModAt.ofQ h554 (k := 0) rfl rfl (pos := s.pos) (live := s.live) (h554.kn (k := 0) (blk := ⟨modC (.slice ao all.length ac) (.pointer (some ⟨bl, 0, none⟩)) s.pos s.live, 52, false⟩) rfl)) 1 (by show 0 ≤ s.pos; omega) (by show s.pos ≤ (all.length : Int); omega) hev hal) ?_
                      rintro _ w555 ⟨rfl, hf557⟩
                      refine ⟨_, rfl, ?_⟩
                      have h556 := (h554.grow hf557).put (d := some 271) (v := .agg #[.int .u8 1, .int .i64 s.pos, .int .i64 s.lg.base.idx, .int .i64 ((all.length : Nat) : Int), .bool s.live, .bool ((stAt all s.pos).2.refused), .int .i8 ((stAt all s.pos).2.running), .int .u64 ((stAt all s.pos).2.value), .int .u64 (dig (stAt all s.pos).1), .int .i64 s.pos, .int .i64 0, .int .i64 (-1)]) (T' := [(271, .agg #[.int .u8 1, .int .i64 s.pos, .int .i64 s.lg.base.idx, .int .i64 ((all.length : Nat) : Int), .bool s.live, .bool ((stAt all s.pos).2.refused), .int .i8 ((stAt all s.pos).2.running), .int .u64 ((stAt all s.pos).2.value), .int .u64 (dig (stAt all s.pos).1), .int .i64 s.pos, .int .i64 0, .int .i64 (-1)]), (4, .pointer (some ⟨b8, 0, none⟩)), (3, .pointer (some ⟨b2, 0, none⟩)), (0, .pointer (some ⟨bm, 0, none⟩)), (1, .agg #[.int .u8 op.kind, .int .i64 op.n, .int .i64 op.m, .int .u8 op.ev.kind, .int .u32 op.ev.pick, .int .u64 op.ev.arg]), (14, .int .u8 op.kind), (270, .pointer (some ⟨bm, 0, none⟩))]) rfl
                      clear h554
                      refine nd_op ?_
                      refine op_store tabOk {k := 2} (L' := [(bm, ⟨modC (.slice ao all.length ac) (.pointer (some ⟨bl, 0, none⟩)) s.pos s.live, 52, false⟩), (b2, ⟨[.int .u8 op.kind, .int .i64 op.n, .int .i64 op.m, .int .u8 op.ev.kind, .int .u32 op.ev.pick, .int .u64 op.ev.arg], 35, false⟩), (b8, ⟨[.int .u8 1, .int .i64 s.pos, .int .i64 s.lg.base.idx, .int .i64 ((all.length : Nat) : Int), .bool s.live, .bool ((stAt all s.pos).2.refused), .int .i8 ((stAt all s.pos).2.running), .int .u64 ((stAt all s.pos).2.value), .int .u64 (dig (stAt all s.pos).1), .int .i64 s.pos, .int .i64 0, .int .i64 (-1)], 41, false⟩)]) (φ := b8 = b8 ∧ Nat.ble (0 + 12) 12 = true) h556 rfl rfl rfl (by kernel_rfl) ⟨rfl, rfl⟩ fun w558 h559 => ?_
                      clear h556
                      refine nd_done ?_
                      refine hK552 _ _ ?_
                      clear hK552
                      refine wp_ret ?_
                      obtain ⟨hD, hN⟩ := do3_replay (s := s) (all := all) hk7
                      have hC := replay3 hwf hon op.n op.m
                      rw [if_pos hhd] at hC
                      rw [if_pos (by omega)] at hC
                      skip
                      try simp only [Exit.then, Exit.inBlock]
                      try rw [if_pos trivial]
                      exact s_ret tabOk tabZ_ok h559 [(.cell 4 41, {k := 2})] (vs := [.agg #[.int .u8 1, .int .i64 s.pos, .int .i64 s.lg.base.idx, .int .i64 ((all.length : Nat) : Int), .bool s.live, .bool ((stAt all s.pos).2.refused), .int .i8 ((stAt all s.pos).2.running), .int .u64 ((stAt all s.pos).2.value), .int .u64 (dig (stAt all s.pos).1), .int .i64 s.pos, .int .i64 0, .int .i64 (-1)]]) (φ := (b8 = b8 ∧ Nat.ble (0 + 12) 12 = true) ∧ True) rfl (by kernel_rfl) ⟨⟨rfl, rfl⟩, trivial⟩ (by rw [hD, hN, hC]; exact ⟨bl, d, ⟨ao, ac, aF⟩, rfl, (by skip; exact (ModAt.ofQ h559 (k := 0) rfl rfl (pos := s.pos) (live := s.live) (h559.kn (k := 0) (blk := ⟨modC (.slice ao all.length ac) (.pointer (some ⟨bl, 0, none⟩)) s.pos s.live, 52, false⟩) rfl))), h559.frame, ModAt.subQ h559 (k := 0) rfl rfl⟩)
                    ·
                      have hb546f : ¬ op.m < op.n := by simpa using hb546
                      refine dr_start (KB := [bm, b2, b8]) (Bi := [[0, 1, 2], [0, 1, 2], [0, 1, 2], [0, 1, 2], [0, 1, 2], [0, 1, 2], [0, 1, 2], [0, 1, 2], [0, 1, 2], [0, 1, 2], [0, 1, 2], [0, 1, 2], [0, 1, 2], [0, 1, 2], [0, 1, 2]]) mixed h534 fun w560 h561 => ?_
                      clear h534
                      refine dr_batch tabOk tabZ_ok (by repeat (first | with_reducible exact PF.body | with_reducible apply PF.inB | with_reducible apply PF.next)) [(0, {}), (1, {k := 1, p := 1}), (2, {}), (3, {k := 1, p := 1}), (4, {f := 1}), (5, {}), (6, {}), (7, {k := 1, p := 1}), (8, {}), (9, {}), (10, {}), (11, {k := 0, p := 0}), (12, {}), (13, {}), (14, {})] [4, 3, 0, 1, 14, 269] (T' := [(4, .pointer (some ⟨b8, 0, none⟩)), (3, .pointer (some ⟨b2, 0, none⟩)), (0, .pointer (some ⟨bm, 0, none⟩)), (1, .agg #[.int .u8 op.kind, .int .i64 op.n, .int .i64 op.m, .int .u8 op.ev.kind, .int .u32 op.ev.pick, .int .u64 op.ev.arg]), (14, .int .u8 op.kind), (269, .bool (decide (op.m > ((all.length : Nat) : Int))))]) (φ := (b2 = b2 ∧ Nat.ble (2 + 1) 6 = true) ∧ (b2 = b2 ∧ Nat.ble (1 + 1) 6 = true) ∧ (decide (op.m < op.n)) = false ∧ (b2 = b2 ∧ Nat.ble (2 + 1) 6 = true) ∧ (bm = bm ∧ Nat.ble (0 + 1) 4 = true) ∧ True) (fuel := 0) h561 (by kernel_rfl) rfl (by kernel_rfl) (by kernel_rfl) ⟨trivial, rfl, trivial, rfl, trivial, trivial, trivial, rfl, trivial, trivial, trivial, rfl, trivial, trivial, trivial, trivial⟩ ⟨⟨rfl, rfl⟩, ⟨rfl, rfl⟩, hb546, ⟨rfl, rfl⟩, ⟨rfl, rfl⟩, trivial⟩ fun a563 h564 => ?_
                      clear h561
                      refine wpAnyK_done (by kernel_rfl) ?_ _
                      refine hK545 _ _ ?_
                      clear hK545
                      refine c_split h564 (b := decide (op.m > ((all.length : Nat) : Int))) rfl (fun hc565 => ?_) (fun hc565 => ?_)
                      ·
                        have hc565f : op.m > ((all.length : Nat) : Int) := by simpa using hc565
                        refine wp_seq_k fun K566 hK566 => ?_
                        refine nd_start (l := [0, 1, 2]) rfl ?_
                        refine nd_batch tabOk tabZ_ok [(0, {})] [4, 3, 0, 1, 14, 270] (T' := [(4, .pointer (some ⟨b8, 0, none⟩)), (3, .pointer (some ⟨b2, 0, none⟩)), (0, .pointer (some ⟨bm, 0, none⟩)), (1, .agg #[.int .u8 op.kind, .int .i64 op.n, .int .i64 op.m, .int .u8 op.ev.kind, .int .u32 op.ev.pick, .int .u64 op.ev.arg]), (14, .int .u8 op.kind), (270, .pointer (some ⟨bm, 0, none⟩))]) (φ := True) (rest := [1, 2]) h564 (by kernel_rfl) rfl trivial fun a567 h568 => ?_
                        clear h564
                        refine nd_op ?_
                        refine op_call h568 rfl rfl rfl (callOk Try.func40 (by decide) rfl) (args := [.pointer (some ⟨bm, 0, none⟩), .int .u8 1]) rfl (refuse_ok bm bl _ _ _ _ (ModAt.ofQ h568 (k := 0) rfl rfl (pos := s.pos) (live := s.live) (h568.kn (k := 0) (blk := ⟨modC (.slice ao all.length ac) (.pointer (some ⟨bl, 0, none⟩)) s.pos s.live, 52, false⟩) rfl)) 1 (by show 0 ≤ s.pos; omega) (by show s.pos ≤ (all.length : Int); omega) hev hal) ?_
                        rintro _ w569 ⟨rfl, hf571⟩
                        refine ⟨_, rfl, ?_⟩
                        have h570 := (h568.grow hf571).put (d := some 271) (v := .agg #[.int .u8 1, .int .i64 s.pos, .int .i64 s.lg.base.idx, .int .i64 ((all.length : Nat) : Int), .bool s.live, .bool ((stAt all s.pos).2.refused), .int .i8 ((stAt all s.pos).2.running), .int .u64 ((stAt all s.pos).2.value), .int .u64 (dig (stAt all s.pos).1), .int .i64 s.pos, .int .i64 0, .int .i64 (-1)]) (T' := [(271, .agg #[.int .u8 1, .int .i64 s.pos, .int .i64 s.lg.base.idx, .int .i64 ((all.length : Nat) : Int), .bool s.live, .bool ((stAt all s.pos).2.refused), .int .i8 ((stAt all s.pos).2.running), .int .u64 ((stAt all s.pos).2.value), .int .u64 (dig (stAt all s.pos).1), .int .i64 s.pos, .int .i64 0, .int .i64 (-1)]), (4, .pointer (some ⟨b8, 0, none⟩)), (3, .pointer (some ⟨b2, 0, none⟩)), (0, .pointer (some ⟨bm, 0, none⟩)), (1, .agg #[.int .u8 op.kind, .int .i64 op.n, .int .i64 op.m, .int .u8 op.ev.kind, .int .u32 op.ev.pick, .int .u64 op.ev.arg]), (14, .int .u8 op.kind), (270, .pointer (some ⟨bm, 0, none⟩))]) rfl
                        clear h568
                        refine nd_op ?_
                        refine op_store tabOk {k := 2} (L' := [(bm, ⟨modC (.slice ao all.length ac) (.pointer (some ⟨bl, 0, none⟩)) s.pos s.live, 52, false⟩), (b2, ⟨[.int .u8 op.kind, .int .i64 op.n, .int .i64 op.m, .int .u8 op.ev.kind, .int .u32 op.ev.pick, .int .u64 op.ev.arg], 35, false⟩), (b8, ⟨[.int .u8 1, .int .i64 s.pos, .int .i64 s.lg.base.idx, .int .i64 ((all.length : Nat) : Int), .bool s.live, .bool ((stAt all s.pos).2.refused), .int .i8 ((stAt all s.pos).2.running), .int .u64 ((stAt all s.pos).2.value), .int .u64 (dig (stAt all s.pos).1), .int .i64 s.pos, .int .i64 0, .int .i64 (-1)], 41, false⟩)]) (φ := b8 = b8 ∧ Nat.ble (0 + 12) 12 = true) h570 rfl rfl rfl (by kernel_rfl) ⟨rfl, rfl⟩ fun w572 h573 => ?_
                        clear h570
                        refine nd_done ?_
                        refine hK566 _ _ ?_
                        clear hK566
                        refine wp_ret ?_
                        obtain ⟨hD, hN⟩ := do3_replay (s := s) (all := all) hk7
                        have hC := replay3 hwf hon op.n op.m
                        rw [if_pos hhd] at hC
                        rw [if_pos (by omega)] at hC
                        skip
                        try simp only [Exit.then, Exit.inBlock]
                        try rw [if_pos trivial]
                        exact s_ret tabOk tabZ_ok h573 [(.cell 4 41, {k := 2})] (vs := [.agg #[.int .u8 1, .int .i64 s.pos, .int .i64 s.lg.base.idx, .int .i64 ((all.length : Nat) : Int), .bool s.live, .bool ((stAt all s.pos).2.refused), .int .i8 ((stAt all s.pos).2.running), .int .u64 ((stAt all s.pos).2.value), .int .u64 (dig (stAt all s.pos).1), .int .i64 s.pos, .int .i64 0, .int .i64 (-1)]]) (φ := (b8 = b8 ∧ Nat.ble (0 + 12) 12 = true) ∧ True) rfl (by kernel_rfl) ⟨⟨rfl, rfl⟩, trivial⟩ (by rw [hD, hN, hC]; exact ⟨bl, d, ⟨ao, ac, aF⟩, rfl, (by skip; exact (ModAt.ofQ h573 (k := 0) rfl rfl (pos := s.pos) (live := s.live) (h573.kn (k := 0) (blk := ⟨modC (.slice ao all.length ac) (.pointer (some ⟨bl, 0, none⟩)) s.pos s.live, 52, false⟩) rfl))), h573.frame, ModAt.subQ h573 (k := 0) rfl rfl⟩)
                      ·
                        have hc565f : ¬ op.m > ((all.length : Nat) : Int) := by simpa using hc565
                        refine wp_skip ?_
                        refine hK544 _ _ ?_
                        clear hK544
                        refine wp_seq_k fun K574 hK574 => ?_
                        refine nd_start (l := [0, 1, 2, 3, 4, 5]) rfl ?_
                        refine nd_batch tabOk tabZ_ok [(0, {}), (1, {}), (2, {k := 1})] [4, 3, 0, 1, 14, 272, 274] (T' := [(4, .pointer (some ⟨b8, 0, none⟩)), (3, .pointer (some ⟨b2, 0, none⟩)), (0, .pointer (some ⟨bm, 0, none⟩)), (1, .agg #[.int .u8 op.kind, .int .i64 op.n, .int .i64 op.m, .int .u8 op.ev.kind, .int .u32 op.ev.pick, .int .u64 op.ev.arg]), (14, .int .u8 op.kind), (272, .pointer (some ⟨bm, 0, none⟩)), (274, .int .i64 op.m)]) (φ := (b2 = b2 ∧ Nat.ble (2 + 1) 6 = true) ∧ True) (rest := [3, 4, 5]) h564 (by kernel_rfl) rfl ⟨⟨rfl, rfl⟩, trivial⟩ fun a575 h576 => ?_
                        clear h564
                        refine nd_op ?_
                        refine op_call h576 rfl rfl rfl (callOk Try.func42 (by decide) rfl) (args := [.pointer (some ⟨bm, 0, none⟩), .int .u8 0, .int .i64 op.m]) rfl (answer_ok bm _ _ _ _ _ (ModAt.ofQ h576 (k := 0) rfl rfl (pos := s.pos) (live := s.live) (h576.kn (k := 0) (blk := ⟨modC (.slice ao all.length ac) (.pointer (some ⟨bl, 0, none⟩)) s.pos s.live, 52, false⟩) rfl)) 0 op.m (by omega) (by show _ ≤ (all.length : Int); omega) hev hal) ?_
                        rintro _ w577 ⟨rfl, hf579⟩
                        refine ⟨_, rfl, ?_⟩
                        have h578 := (h576.grow hf579).put (d := some 275) (v := .agg #[.int .u8 0, .int .i64 s.pos, .int .i64 s.lg.base.idx, .int .i64 ((all.length : Nat) : Int), .bool s.live, .bool ((stAt all op.m).2.refused), .int .i8 ((stAt all op.m).2.running), .int .u64 ((stAt all op.m).2.value), .int .u64 (dig (stAt all op.m).1), .int .i64 s.pos, .int .i64 0, .int .i64 (-1)]) (T' := [(275, .agg #[.int .u8 0, .int .i64 s.pos, .int .i64 s.lg.base.idx, .int .i64 ((all.length : Nat) : Int), .bool s.live, .bool ((stAt all op.m).2.refused), .int .i8 ((stAt all op.m).2.running), .int .u64 ((stAt all op.m).2.value), .int .u64 (dig (stAt all op.m).1), .int .i64 s.pos, .int .i64 0, .int .i64 (-1)]), (4, .pointer (some ⟨b8, 0, none⟩)), (3, .pointer (some ⟨b2, 0, none⟩)), (0, .pointer (some ⟨bm, 0, none⟩)), (1, .agg #[.int .u8 op.kind, .int .i64 op.n, .int .i64 op.m, .int .u8 op.ev.kind, .int .u32 op.ev.pick, .int .u64 op.ev.arg]), (14, .int .u8 op.kind), (272, .pointer (some ⟨bm, 0, none⟩)), (274, .int .i64 op.m)]) rfl
                        clear h576
                        refine nd_op ?_
                        refine op_new tabOk (cells := [.int .u8 0, .int .i64 0, .int .i64 0, .int .i64 0, .bool false, .bool false, .int .i8 0, .int .u64 0, .int .u64 0, .int .i64 0, .int .i64 0, .int .i64 0]) (ty := 41) (ln := none) (L1 := fun b580 => [(bm, ⟨modC (.slice ao all.length ac) (.pointer (some ⟨bl, 0, none⟩)) s.pos s.live, 52, false⟩), (b2, ⟨[.int .u8 op.kind, .int .i64 op.n, .int .i64 op.m, .int .u8 op.ev.kind, .int .u32 op.ev.pick, .int .u64 op.ev.arg], 35, false⟩), (b8, ⟨[.int .u8 0, .int .i64 0, .int .i64 0, .int .i64 0, .bool false, .bool false, .int .i8 0, .int .u64 0, .int .u64 0, .int .i64 0, .int .i64 0, .int .i64 0], 41, false⟩), (b580, ⟨[.int .u8 0, .int .i64 0, .int .i64 0, .int .i64 0, .bool false, .bool false, .int .i8 0, .int .u64 0, .int .u64 0, .int .i64 0, .int .i64 0, .int .i64 0], 41, false⟩)]) h578 rfl rfl rfl rfl (by kernel_rfl) (fun _ => rfl) fun b580 w581 a582 h583 hf584 hn585 => ?_
                        clear h578
                        refine nd_op ?_
                        refine op_store tabOk {k := 3} (L' := [(bm, ⟨modC (.slice ao all.length ac) (.pointer (some ⟨bl, 0, none⟩)) s.pos s.live, 52, false⟩), (b2, ⟨[.int .u8 op.kind, .int .i64 op.n, .int .i64 op.m, .int .u8 op.ev.kind, .int .u32 op.ev.pick, .int .u64 op.ev.arg], 35, false⟩), (b8, ⟨[.int .u8 0, .int .i64 0, .int .i64 0, .int .i64 0, .bool false, .bool false, .int .i8 0, .int .u64 0, .int .u64 0, .int .i64 0, .int .i64 0, .int .i64 0], 41, false⟩), (b580, ⟨[.int .u8 0, .int .i64 s.pos, .int .i64 s.lg.base.idx, .int .i64 ((all.length : Nat) : Int), .bool s.live, .bool ((stAt all op.m).2.refused), .int .i8 ((stAt all op.m).2.running), .int .u64 ((stAt all op.m).2.value), .int .u64 (dig (stAt all op.m).1), .int .i64 s.pos, .int .i64 0, .int .i64 (-1)], 41, false⟩)]) (φ := b580 = b580 ∧ Nat.ble (0 + 12) 12 = true) h583 rfl rfl rfl (by kernel_rfl) ⟨rfl, rfl⟩ fun w586 h587 => ?_
                        clear h583
                        refine nd_done ?_
                        refine hK574 _ _ ?_
                        clear hK574
                        refine wp_seq_k fun K588 hK588 => ?_
                        refine dr_start (KB := [bm, b2, b8, b580]) (Bi := [[0, 1, 2, 3], [0, 1, 2, 3], [0, 1, 2, 3], [0, 1, 2, 3], [0, 1, 2, 3], [0, 1, 2, 3], [0, 1, 2, 3], [0, 1, 2, 3], [1], [0, 1, 2, 3], []]) mixed h587 fun w589 h590 => ?_
                        clear h587
                        refine dr_batch tabOk tabZ_ok (by repeat (first | with_reducible exact PF.body | with_reducible apply PF.inB | with_reducible apply PF.next)) [(0, {}), (1, {k := 1, p := 1}), (2, {}), (3, {k := 1, p := 1}), (4, {}), (5, {k := 1, p := 1}), (6, {}), (7, {})] [12, 4, 3, 0, 1, 14, 277, 282, 283] (T' := [(12, .pointer (some ⟨b580, 0, none⟩)), (4, .pointer (some ⟨b8, 0, none⟩)), (3, .pointer (some ⟨b2, 0, none⟩)), (0, .pointer (some ⟨bm, 0, none⟩)), (1, .agg #[.int .u8 op.kind, .int .i64 op.n, .int .i64 op.m, .int .u8 op.ev.kind, .int .u32 op.ev.pick, .int .u64 op.ev.arg]), (14, .int .u8 op.kind), (277, .int .i64 op.n), (282, .int .i64 (op.m - op.n)), (283, .pointer (some ⟨b580, 9, none⟩))]) (φ := (b2 = b2 ∧ Nat.ble (1 + 1) 6 = true) ∧ (b2 = b2 ∧ Nat.ble (2 + 1) 6 = true) ∧ (b2 = b2 ∧ Nat.ble (1 + 1) 6 = true) ∧ inR .i64 (op.m - op.n) ∧ True) (fuel := 3) h590 (by kernel_rfl) rfl (by kernel_rfl) (by kernel_rfl) ⟨trivial, rfl, trivial, rfl, trivial, rfl, trivial, trivial, trivial⟩ ⟨⟨rfl, rfl⟩, ⟨rfl, rfl⟩, ⟨rfl, rfl⟩, ⟨by omega, by omega⟩, trivial⟩ fun a592 h593 => ?_
                        clear h590
                        refine wpAnyK_one (i := 8) (fuel := 2) (by kernel_rfl) ?_
                        refine op_store tabOk {k := 3} (L' := [(bm, ⟨modC (.slice ao all.length ac) (.pointer (some ⟨bl, 0, none⟩)) s.pos s.live, 52, false⟩), (b2, ⟨[.int .u8 op.kind, .int .i64 op.n, .int .i64 op.m, .int .u8 op.ev.kind, .int .u32 op.ev.pick, .int .u64 op.ev.arg], 35, false⟩), (b8, ⟨[.int .u8 0, .int .i64 0, .int .i64 0, .int .i64 0, .bool false, .bool false, .int .i8 0, .int .u64 0, .int .u64 0, .int .i64 0, .int .i64 0, .int .i64 0], 41, false⟩), (b580, ⟨[.int .u8 0, .int .i64 s.pos, .int .i64 s.lg.base.idx, .int .i64 ((all.length : Nat) : Int), .bool s.live, .bool ((stAt all op.m).2.refused), .int .i8 ((stAt all op.m).2.running), .int .u64 ((stAt all op.m).2.value), .int .u64 (dig (stAt all op.m).1), .int .i64 op.n, .int .i64 0, .int .i64 (-1)], 41, false⟩)]) (φ := b580 = b580 ∧ Nat.ble (9 + 1) 12 = true) h593 rfl rfl rfl (by kernel_rfl) ⟨rfl, rfl⟩ fun w594 h595 => ?_
                        have hkh595 := h593.known
                        refine ⟨(keepOf hkh595 h595.known (kcons (keepAt (q := 1) (q' := 1) rfl rfl) knil)), ?_⟩
                        clear h593
                        refine dr_batch tabOk tabZ_ok (by repeat (first | with_reducible exact PF.body | with_reducible apply PF.inB | with_reducible apply PF.next)) [(9, {})] [12, 4, 3, 0, 1, 14, 282, 284] (T' := [(12, .pointer (some ⟨b580, 0, none⟩)), (4, .pointer (some ⟨b8, 0, none⟩)), (3, .pointer (some ⟨b2, 0, none⟩)), (0, .pointer (some ⟨bm, 0, none⟩)), (1, .agg #[.int .u8 op.kind, .int .i64 op.n, .int .i64 op.m, .int .u8 op.ev.kind, .int .u32 op.ev.pick, .int .u64 op.ev.arg]), (14, .int .u8 op.kind), (282, .int .i64 (op.m - op.n)), (284, .pointer (some ⟨b580, 10, none⟩))]) (φ := True) (fuel := 1) h595 (by kernel_rfl) rfl (by kernel_rfl) (by kernel_rfl) ⟨trivial, trivial⟩ trivial fun a596 h597 => ?_
                        clear h595
                        refine wpAnyK_one (i := 10) (fuel := 0) (by kernel_rfl) ?_
                        refine op_store tabOk {k := 3} (L' := [(bm, ⟨modC (.slice ao all.length ac) (.pointer (some ⟨bl, 0, none⟩)) s.pos s.live, 52, false⟩), (b2, ⟨[.int .u8 op.kind, .int .i64 op.n, .int .i64 op.m, .int .u8 op.ev.kind, .int .u32 op.ev.pick, .int .u64 op.ev.arg], 35, false⟩), (b8, ⟨[.int .u8 0, .int .i64 0, .int .i64 0, .int .i64 0, .bool false, .bool false, .int .i8 0, .int .u64 0, .int .u64 0, .int .i64 0, .int .i64 0, .int .i64 0], 41, false⟩), (b580, ⟨[.int .u8 0, .int .i64 s.pos, .int .i64 s.lg.base.idx, .int .i64 ((all.length : Nat) : Int), .bool s.live, .bool ((stAt all op.m).2.refused), .int .i8 ((stAt all op.m).2.running), .int .u64 ((stAt all op.m).2.value), .int .u64 (dig (stAt all op.m).1), .int .i64 op.n, .int .i64 (op.m - op.n), .int .i64 (-1)], 41, false⟩)]) (φ := b580 = b580 ∧ Nat.ble (10 + 1) 12 = true) h597 rfl rfl rfl (by kernel_rfl) ⟨rfl, rfl⟩ fun w598 h599 => ?_
                        have hkh599 := h597.known
                        refine ⟨keepNil, ?_⟩
                        clear h597
                        refine wpAnyK_done (by kernel_rfl) ?_ _
                        refine hK588 _ _ ?_
                        clear hK588
                        refine wp_seq_k fun K600 hK600 => ?_
                        refine nd_start (l := [0, 1]) rfl ?_
                        refine nd_batch tabOk tabZ_ok [(0, {k := 3})] [12, 4, 3, 0, 1, 14, 285] (T' := [(12, .pointer (some ⟨b580, 0, none⟩)), (4, .pointer (some ⟨b8, 0, none⟩)), (3, .pointer (some ⟨b2, 0, none⟩)), (0, .pointer (some ⟨bm, 0, none⟩)), (1, .agg #[.int .u8 op.kind, .int .i64 op.n, .int .i64 op.m, .int .u8 op.ev.kind, .int .u32 op.ev.pick, .int .u64 op.ev.arg]), (14, .int .u8 op.kind), (285, .agg #[.int .u8 0, .int .i64 s.pos, .int .i64 s.lg.base.idx, .int .i64 ((all.length : Nat) : Int), .bool s.live, .bool ((stAt all op.m).2.refused), .int .i8 ((stAt all op.m).2.running), .int .u64 ((stAt all op.m).2.value), .int .u64 (dig (stAt all op.m).1), .int .i64 op.n, .int .i64 (op.m - op.n), .int .i64 (-1)])]) (φ := (b580 = b580 ∧ Nat.ble (0 + 12) 12 = true) ∧ True) (rest := [1]) h599 (by kernel_rfl) rfl ⟨⟨rfl, rfl⟩, trivial⟩ fun a601 h602 => ?_
                        clear h599
                        refine nd_op ?_
                        refine op_store tabOk {k := 2} (L' := [(bm, ⟨modC (.slice ao all.length ac) (.pointer (some ⟨bl, 0, none⟩)) s.pos s.live, 52, false⟩), (b2, ⟨[.int .u8 op.kind, .int .i64 op.n, .int .i64 op.m, .int .u8 op.ev.kind, .int .u32 op.ev.pick, .int .u64 op.ev.arg], 35, false⟩), (b8, ⟨[.int .u8 0, .int .i64 s.pos, .int .i64 s.lg.base.idx, .int .i64 ((all.length : Nat) : Int), .bool s.live, .bool ((stAt all op.m).2.refused), .int .i8 ((stAt all op.m).2.running), .int .u64 ((stAt all op.m).2.value), .int .u64 (dig (stAt all op.m).1), .int .i64 op.n, .int .i64 (op.m - op.n), .int .i64 (-1)], 41, false⟩), (b580, ⟨[.int .u8 0, .int .i64 s.pos, .int .i64 s.lg.base.idx, .int .i64 ((all.length : Nat) : Int), .bool s.live, .bool ((stAt all op.m).2.refused), .int .i8 ((stAt all op.m).2.running), .int .u64 ((stAt all op.m).2.value), .int .u64 (dig (stAt all op.m).1), .int .i64 op.n, .int .i64 (op.m - op.n), .int .i64 (-1)], 41, false⟩)]) (φ := b8 = b8 ∧ Nat.ble (0 + 12) 12 = true) h602 rfl rfl rfl (by kernel_rfl) ⟨rfl, rfl⟩ fun w603 h604 => ?_
                        clear h602
                        refine nd_done ?_
                        refine hK600 _ _ ?_
                        clear hK600
                        refine wp_ret ?_
                        obtain ⟨hD, hN⟩ := do3_replay (s := s) (all := all) hk7
                        have hC := replay3 hwf hon op.n op.m
                        rw [if_pos hhd] at hC
                        rw [if_neg (by omega)] at hC
                        skip
                        try simp only [Exit.then, Exit.inBlock]
                        try rw [if_pos trivial]
                        exact s_ret tabOk tabZ_ok h604 [(.cell 4 41, {k := 2})] (vs := [.agg #[.int .u8 0, .int .i64 s.pos, .int .i64 s.lg.base.idx, .int .i64 ((all.length : Nat) : Int), .bool s.live, .bool ((stAt all op.m).2.refused), .int .i8 ((stAt all op.m).2.running), .int .u64 ((stAt all op.m).2.value), .int .u64 (dig (stAt all op.m).1), .int .i64 op.n, .int .i64 (op.m - op.n), .int .i64 (-1)]]) (φ := (b8 = b8 ∧ Nat.ble (0 + 12) 12 = true) ∧ True) rfl (by kernel_rfl) ⟨⟨rfl, rfl⟩, trivial⟩ (by rw [hD, hN, hC]; exact ⟨bl, d, ⟨ao, ac, aF⟩, rfl, (by skip; exact (ModAt.ofQ h604 (k := 0) rfl rfl (pos := s.pos) (live := s.live) (h604.kn (k := 0) (blk := ⟨modC (.slice ao all.length ac) (.pointer (some ⟨bl, 0, none⟩)) s.pos s.live, 52, false⟩) rfl))), h604.frame, ModAt.subQ h604 (k := 0) rfl rfl⟩)
                ·
                  have hc525f : op.kind ≠ 7 := by simpa using hc525
                  have hk7 : op.kind ≠ 7 := hc525f
                  refine wp_seq_k fun K605 hK605 => ?_
                  refine nd_start (l := [0, 1]) rfl ?_
                  refine nd_batch tabOk tabZ_ok [(0, {}), (1, {})] [4, 3, 0, 1, 14, 286] (T' := [(4, .pointer (some ⟨b8, 0, none⟩)), (3, .pointer (some ⟨b2, 0, none⟩)), (0, .pointer (some ⟨bm, 0, none⟩)), (1, .agg #[.int .u8 op.kind, .int .i64 op.n, .int .i64 op.m, .int .u8 op.ev.kind, .int .u32 op.ev.pick, .int .u64 op.ev.arg]), (14, .int .u8 op.kind), (286, .bool (op.kind == 8))]) (φ := True) (rest := []) h524 (by kernel_rfl) rfl trivial fun a606 h607 => ?_
                  clear h524
                  refine nd_done ?_
                  refine hK605 _ _ ?_
                  clear hK605
                  refine c_split h607 (b := (op.kind == 8)) rfl (fun hc608 => ?_) (fun hc608 => ?_)
                  ·
                    have hc608f : op.kind = 8 := by simpa using hc608
                    have hk8 : op.kind = 8 := hc608f
                    refine wp_seq_k fun K609 hK609 => ?_
                    refine nd_start (l := [0, 1, 2, 3, 4, 5, 6]) rfl ?_
                    refine nd_batch tabOk tabZ_ok [(0, {}), (1, {}), (2, {}), (3, {}), (4, {k := 0})] [4, 3, 0, 1, 14, 288, 292] (T' := [(4, .pointer (some ⟨b8, 0, none⟩)), (3, .pointer (some ⟨b2, 0, none⟩)), (0, .pointer (some ⟨bm, 0, none⟩)), (1, .agg #[.int .u8 op.kind, .int .i64 op.n, .int .i64 op.m, .int .u8 op.ev.kind, .int .u32 op.ev.pick, .int .u64 op.ev.arg]), (14, .int .u8 op.kind), (288, .pointer (some ⟨bm, 0, none⟩)), (292, .int .i64 s.pos)]) (φ := (bm = bm ∧ Nat.ble (2 + 1) 4 = true) ∧ True) (rest := [5, 6]) h607 (by kernel_rfl) rfl ⟨⟨rfl, rfl⟩, trivial⟩ fun a610 h611 => ?_
                    clear h607
                    refine nd_op ?_
                    refine op_call h611 rfl rfl rfl (callOk Try.func42 (by decide) rfl) (args := [.pointer (some ⟨bm, 0, none⟩), .int .u8 0, .int .i64 s.pos]) rfl (answer_ok bm _ _ _ _ _ (ModAt.ofQ h611 (k := 0) rfl rfl (pos := s.pos) (live := s.live) (h611.kn (k := 0) (blk := ⟨modC (.slice ao all.length ac) (.pointer (some ⟨bl, 0, none⟩)) s.pos s.live, 52, false⟩) rfl)) 0 s.pos (by omega) (by show _ ≤ (all.length : Int); omega) hev hal) ?_
                    rintro _ w612 ⟨rfl, hf614⟩
                    refine ⟨_, rfl, ?_⟩
                    have h613 := (h611.grow hf614).put (d := some 293) (v := .agg #[.int .u8 0, .int .i64 s.pos, .int .i64 s.lg.base.idx, .int .i64 ((all.length : Nat) : Int), .bool s.live, .bool ((stAt all s.pos).2.refused), .int .i8 ((stAt all s.pos).2.running), .int .u64 ((stAt all s.pos).2.value), .int .u64 (dig (stAt all s.pos).1), .int .i64 s.pos, .int .i64 0, .int .i64 (-1)]) (T' := [(293, .agg #[.int .u8 0, .int .i64 s.pos, .int .i64 s.lg.base.idx, .int .i64 ((all.length : Nat) : Int), .bool s.live, .bool ((stAt all s.pos).2.refused), .int .i8 ((stAt all s.pos).2.running), .int .u64 ((stAt all s.pos).2.value), .int .u64 (dig (stAt all s.pos).1), .int .i64 s.pos, .int .i64 0, .int .i64 (-1)]), (4, .pointer (some ⟨b8, 0, none⟩)), (3, .pointer (some ⟨b2, 0, none⟩)), (0, .pointer (some ⟨bm, 0, none⟩)), (1, .agg #[.int .u8 op.kind, .int .i64 op.n, .int .i64 op.m, .int .u8 op.ev.kind, .int .u32 op.ev.pick, .int .u64 op.ev.arg]), (14, .int .u8 op.kind), (288, .pointer (some ⟨bm, 0, none⟩)), (292, .int .i64 s.pos)]) rfl
                    clear h611
                    refine nd_op ?_
                    refine op_store tabOk {k := 2} (L' := [(bm, ⟨modC (.slice ao all.length ac) (.pointer (some ⟨bl, 0, none⟩)) s.pos s.live, 52, false⟩), (b2, ⟨[.int .u8 op.kind, .int .i64 op.n, .int .i64 op.m, .int .u8 op.ev.kind, .int .u32 op.ev.pick, .int .u64 op.ev.arg], 35, false⟩), (b8, ⟨[.int .u8 0, .int .i64 s.pos, .int .i64 s.lg.base.idx, .int .i64 ((all.length : Nat) : Int), .bool s.live, .bool ((stAt all s.pos).2.refused), .int .i8 ((stAt all s.pos).2.running), .int .u64 ((stAt all s.pos).2.value), .int .u64 (dig (stAt all s.pos).1), .int .i64 s.pos, .int .i64 0, .int .i64 (-1)], 41, false⟩)]) (φ := b8 = b8 ∧ Nat.ble (0 + 12) 12 = true) h613 rfl rfl rfl (by kernel_rfl) ⟨rfl, rfl⟩ fun w615 h616 => ?_
                    clear h613
                    refine nd_done ?_
                    refine hK609 _ _ ?_
                    clear hK609
                    refine wp_ret ?_
                    obtain ⟨hD, hN⟩ := do3_where (s := s) (all := all) hk8
                    skip
                    try simp only [Exit.then, Exit.inBlock]
                    try rw [if_pos trivial]
                    exact s_ret tabOk tabZ_ok h616 [(.cell 4 41, {k := 2})] (vs := [.agg #[.int .u8 0, .int .i64 s.pos, .int .i64 s.lg.base.idx, .int .i64 ((all.length : Nat) : Int), .bool s.live, .bool ((stAt all s.pos).2.refused), .int .i8 ((stAt all s.pos).2.running), .int .u64 ((stAt all s.pos).2.value), .int .u64 (dig (stAt all s.pos).1), .int .i64 s.pos, .int .i64 0, .int .i64 (-1)]]) (φ := (b8 = b8 ∧ Nat.ble (0 + 12) 12 = true) ∧ True) rfl (by kernel_rfl) ⟨⟨rfl, rfl⟩, trivial⟩ (by rw [hD, hN, ← mans_stat hwf hon]; exact ⟨bl, d, ⟨ao, ac, aF⟩, rfl, (by skip; exact (ModAt.ofQ h616 (k := 0) rfl rfl (pos := s.pos) (live := s.live) (h616.kn (k := 0) (blk := ⟨modC (.slice ao all.length ac) (.pointer (some ⟨bl, 0, none⟩)) s.pos s.live, 52, false⟩) rfl))), h616.frame, ModAt.subQ h616 (k := 0) rfl rfl⟩)
                  ·
                    have hc608f : op.kind ≠ 8 := by simpa using hc608
                    have hk8 : op.kind ≠ 8 := hc608f
                    refine wp_skip ?_
                    refine hK14 _ _ ?_
                    clear hK14
                    refine wp_seq_k fun K617 hK617 => ?_
                    refine nd_start (l := [0, 1, 2]) rfl ?_
                    refine nd_batch tabOk tabZ_ok [(0, {})] [4, 3, 0, 1, 14, 294] (T' := [(4, .pointer (some ⟨b8, 0, none⟩)), (3, .pointer (some ⟨b2, 0, none⟩)), (0, .pointer (some ⟨bm, 0, none⟩)), (1, .agg #[.int .u8 op.kind, .int .i64 op.n, .int .i64 op.m, .int .u8 op.ev.kind, .int .u32 op.ev.pick, .int .u64 op.ev.arg]), (14, .int .u8 op.kind), (294, .pointer (some ⟨bm, 0, none⟩))]) (φ := True) (rest := [1, 2]) h607 (by kernel_rfl) rfl trivial fun a618 h619 => ?_
                    clear h607
                    refine nd_op ?_
                    refine op_call h619 rfl rfl rfl (callOk Try.func40 (by decide) rfl) (args := [.pointer (some ⟨bm, 0, none⟩), .int .u8 5]) rfl (refuse_ok bm bl _ _ _ _ (ModAt.ofQ h619 (k := 0) rfl rfl (pos := s.pos) (live := s.live) (h619.kn (k := 0) (blk := ⟨modC (.slice ao all.length ac) (.pointer (some ⟨bl, 0, none⟩)) s.pos s.live, 52, false⟩) rfl)) 5 (by show 0 ≤ s.pos; omega) (by show s.pos ≤ (all.length : Int); omega) hev hal) ?_
                    rintro _ w620 ⟨rfl, hf622⟩
                    refine ⟨_, rfl, ?_⟩
                    have h621 := (h619.grow hf622).put (d := some 295) (v := .agg #[.int .u8 5, .int .i64 s.pos, .int .i64 s.lg.base.idx, .int .i64 ((all.length : Nat) : Int), .bool s.live, .bool ((stAt all s.pos).2.refused), .int .i8 ((stAt all s.pos).2.running), .int .u64 ((stAt all s.pos).2.value), .int .u64 (dig (stAt all s.pos).1), .int .i64 s.pos, .int .i64 0, .int .i64 (-1)]) (T' := [(295, .agg #[.int .u8 5, .int .i64 s.pos, .int .i64 s.lg.base.idx, .int .i64 ((all.length : Nat) : Int), .bool s.live, .bool ((stAt all s.pos).2.refused), .int .i8 ((stAt all s.pos).2.running), .int .u64 ((stAt all s.pos).2.value), .int .u64 (dig (stAt all s.pos).1), .int .i64 s.pos, .int .i64 0, .int .i64 (-1)]), (4, .pointer (some ⟨b8, 0, none⟩)), (3, .pointer (some ⟨b2, 0, none⟩)), (0, .pointer (some ⟨bm, 0, none⟩)), (1, .agg #[.int .u8 op.kind, .int .i64 op.n, .int .i64 op.m, .int .u8 op.ev.kind, .int .u32 op.ev.pick, .int .u64 op.ev.arg]), (14, .int .u8 op.kind), (294, .pointer (some ⟨bm, 0, none⟩))]) rfl
                    clear h619
                    refine nd_op ?_
                    refine op_store tabOk {k := 2} (L' := [(bm, ⟨modC (.slice ao all.length ac) (.pointer (some ⟨bl, 0, none⟩)) s.pos s.live, 52, false⟩), (b2, ⟨[.int .u8 op.kind, .int .i64 op.n, .int .i64 op.m, .int .u8 op.ev.kind, .int .u32 op.ev.pick, .int .u64 op.ev.arg], 35, false⟩), (b8, ⟨[.int .u8 5, .int .i64 s.pos, .int .i64 s.lg.base.idx, .int .i64 ((all.length : Nat) : Int), .bool s.live, .bool ((stAt all s.pos).2.refused), .int .i8 ((stAt all s.pos).2.running), .int .u64 ((stAt all s.pos).2.value), .int .u64 (dig (stAt all s.pos).1), .int .i64 s.pos, .int .i64 0, .int .i64 (-1)], 41, false⟩)]) (φ := b8 = b8 ∧ Nat.ble (0 + 12) 12 = true) h621 rfl rfl rfl (by kernel_rfl) ⟨rfl, rfl⟩ fun w623 h624 => ?_
                    clear h621
                    refine nd_done ?_
                    refine hK617 _ _ ?_
                    clear hK617
                    refine wp_ret ?_
                    obtain ⟨hD, hN⟩ := do3_bad (s := s) (all := all) hk0 hk1 hk2 hk3 hk4 hk5 hk6 hk7 hk8
                    skip
                    try simp only [Exit.then, Exit.inBlock]
                    try rw [if_pos trivial]
                    exact s_ret tabOk tabZ_ok h624 [(.cell 4 41, {k := 2})] (vs := [.agg #[.int .u8 5, .int .i64 s.pos, .int .i64 s.lg.base.idx, .int .i64 ((all.length : Nat) : Int), .bool s.live, .bool ((stAt all s.pos).2.refused), .int .i8 ((stAt all s.pos).2.running), .int .u64 ((stAt all s.pos).2.value), .int .u64 (dig (stAt all s.pos).1), .int .i64 s.pos, .int .i64 0, .int .i64 (-1)]]) (φ := (b8 = b8 ∧ Nat.ble (0 + 12) 12 = true) ∧ True) rfl (by kernel_rfl) ⟨⟨rfl, rfl⟩, trivial⟩ (by rw [hD, hN, ← mans_stat hwf hon]; exact ⟨bl, d, ⟨ao, ac, aF⟩, rfl, (by skip; exact (ModAt.ofQ h624 (k := 0) rfl rfl (pos := s.pos) (live := s.live) (h624.kn (k := 0) (blk := ⟨modC (.slice ao all.length ac) (.pointer (some ⟨bl, 0, none⟩)) s.pos s.live, 52, false⟩) rfl))), h624.frame, ModAt.subQ h624 (k := 0) rfl rfl⟩)

end Go.Proofs.Qxb6500919a
