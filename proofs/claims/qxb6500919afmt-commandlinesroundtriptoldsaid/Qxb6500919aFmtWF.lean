/-
  The session: Check, Replay. (Made by program: a symbolic walk that prints its steps.)
-/
import Derived.Test.Qxb6500919aFmtTab
import Derived.Test.Qxb6500919aFmtSeW
import Derived.Test.Qxb6500919aFmtW1
import Derived.Test.Qxb6500919aFmtW2
import Derived.Test.Qxb6500919aFmtW3
import Derived.Test.Qxb6500919aFmtW4
import Derived.Test.Qxb6500919aFmtW5
import Derived.Test.Qxb6500919aFmtW6
import Derived.Test.Qxb6500919aFmtW7
import Derived.Test.Qxb6500919aFmtW9
import Derived.Test.Qxb6500919aFmtWA
import Derived.Test.Qxb6500919aFmtWB
import Derived.Test.Qxb6500919aFmtWE
namespace Go.Proofs.Qxb6500919aFmt
open Go.Sx Go.Rp
set_option maxRecDepth 100000
set_option maxHeartbeats 4000000
set_option linter.unusedVariables false
set_option linter.unusedSimpArgs false

theorem check_ok (bs bl : Nat) (d : Hd) (s : Ss) (w : World) (hs : SessAt w bs bl d s) {B : Int} (hB : B ≤ 900000000) (hwf : s.wf B) (n : Int) :
    Calls Tryf.prog 27 #[.pointer (some ⟨bs, 0, none⟩), .int .i64 n] w (SOK w bs bl d (checkR s n) s) := by
  obtain ⟨lg, m, out, pos, live⟩ := s
  obtain ⟨hwl, hm, hlo, hhi, hlv⟩ := hwf
  obtain ⟨hbs, hl, hne, hsm⟩ := hs
  simp only at hbs hl hwl hm hlo hhi hlv
  have hfq : lg.fin = lg.base.idx + (lg.evs.length : Int) := rfl
  have hb0 := hwl.b0
  have hfB := hwl.fin
  have hlen := hwl.len
  have hml := hwl.mlen
  have hsl := hwl.slen
  obtain ⟨eo, ec, eF, mo, mc, mF, so, sc, sF⟩ := d
  obtain ⟨hbl, hA, hsep⟩ := hl
  refine enter (n := 35) (K := []) (A := Rws [rl evC 31 3 lg.evs eo ec eF, rl mkC 93 2 lg.mks mo mc mF, rl ptC 84 15 lg.sns so sc sF]) (F := Ff [rl evC 31 3 lg.evs eo ec eF, rl mkC 93 2 lg.mks mo mc mF, rl ptC 84 15 lg.sns so sc sF]) (T := [(0, .pointer (some ⟨bs, 0, none⟩)), (1, .int .i64 n)]) (L := [(bs, ⟨sessC (.pointer (some ⟨bl, 0, none⟩)) m out pos live, 60, true⟩), (bl, ⟨logC lg.base (.slice eo lg.evs.length ec) (.slice mo lg.mks.length mc) (.slice so lg.sns.length sc), 89, true⟩)]) (args := [.pointer (some ⟨bs, 0, none⟩), .int .i64 n]) Tryf.func27 rfl rfl rfl rfl (kcons hbs (kcons hbl knil)) (by simp [hne]) (kcons (by intro hq; cases hq) (kcons (by intro hq; cases hq) knil)) hA Rws.stable (hA).low (kcons (by intro hq; cases hq) (kcons (by intro hq; cases hq) knil)) ?_
  intro a h
  refine wp_seq_k fun K1 hK1 => ?_
  refine nd_start (l := [0]) rfl ?_
  refine nd_op ?_
  refine op_new tabOk (cells := [.int .u8 0, .int .i64 0, .int .i64 0, .int .i64 0, .bool false, .bool false, .int .i8 0, .int .u64 0, .int .u64 0, .int .i64 0, .int .i64 0, .int .i64 0]) (ty := 46) (ln := none) (L1 := fun b2 => [(bs, ⟨sessC (.pointer (some ⟨bl, 0, none⟩)) m out pos live, 60, true⟩), (bl, ⟨logC lg.base (.slice eo lg.evs.length ec) (.slice mo lg.mks.length mc) (.slice so lg.sns.length sc), 89, true⟩), (b2, ⟨[.int .u8 0, .int .i64 0, .int .i64 0, .int .i64 0, .bool false, .bool false, .int .i8 0, .int .u64 0, .int .u64 0, .int .i64 0, .int .i64 0, .int .i64 0], 46, false⟩)]) h rfl rfl rfl rfl (by kernel_rfl) (fun _ => rfl) fun b2 w3 a4 h5 hf6 hn7 => ?_
  clear h
  refine nd_done ?_
  refine hK1 _ _ ?_
  clear hK1
  refine wp_seq_k fun K8 hK8 => ?_
  refine nd_start (l := [0, 1, 2, 3, 4, 5, 6]) rfl ?_
  refine nd_batch tabOk tabZ_ok [(0, {}), (1, {}), (2, {}), (3, {k := 0}), (4, {})] [4, 0, 1, 11, 12] (T' := [(4, .pointer (some ⟨b2, 0, none⟩)), (0, .pointer (some ⟨bs, 0, none⟩)), (1, .int .i64 n), (11, .pointer (some ⟨bl, 0, none⟩)), (12, .int .i64 n)]) (φ := (bs = bs ∧ Nat.ble (0 + 1) 17 = true) ∧ True) (rest := [5, 6]) h5 (by kernel_rfl) rfl ⟨⟨rfl, rfl⟩, trivial⟩ fun a9 h10 => ?_
  clear h5
  refine nd_op ?_
  refine op_call h10 rfl rfl rfl (callOk Tryf.func49 (by decide) rfl) (args := [.pointer (some ⟨bl, 0, none⟩), .int .i64 n]) rfl (pointAt_ok bl ⟨eo, ec, eF, mo, mc, mF, so, sc, sF⟩ lg _ (LogAt.of (d := ⟨eo, ec, eF, mo, mc, mF, so, sc, sF⟩) (h10.kn (k := 1) rfl) h10.inv hsep) n hwl.ssort (by omega)) ?_
  rintro _ w11 (⟨hpn, rfl, hfb⟩ | ⟨hpn, rfl, hfb⟩ | ⟨x, hpn, b, off, cs, ty, rfl, hbb, hcc, hso, hfb⟩)
  ·
    refine ⟨_, rfl, ?_⟩
    have h12 := (h10.grow hfb).put (d := some 13) (v := .pointer none) (T' := [(13, .pointer none), (4, .pointer (some ⟨b2, 0, none⟩)), (0, .pointer (some ⟨bs, 0, none⟩)), (1, .int .i64 n), (11, .pointer (some ⟨bl, 0, none⟩)), (12, .int .i64 n)]) rfl
    clear h10
    refine nd_batch tabOk tabZ_ok [(6, {})] [4, 0, 1, 5] (T' := [(4, .pointer (some ⟨b2, 0, none⟩)), (0, .pointer (some ⟨bs, 0, none⟩)), (1, .int .i64 n), (5, .pointer none)]) (φ := True) (rest := []) h12 (by kernel_rfl) rfl trivial fun a13 h14 => ?_
    clear h12
    refine nd_done ?_
    refine hK8 _ _ ?_
    clear hK8
    refine wp_seq_k fun K15 hK15 => ?_
    refine wp_seq_k fun K16 hK16 => ?_
    refine nd_start (l := [0, 1]) rfl ?_
    refine nd_batch tabOk tabZ_ok [(0, {}), (1, {})] [4, 0, 1, 5, 15] (T' := [(4, .pointer (some ⟨b2, 0, none⟩)), (0, .pointer (some ⟨bs, 0, none⟩)), (1, .int .i64 n), (5, .pointer none), (15, .bool true)]) (φ := True) (rest := []) h14 (by kernel_rfl) rfl trivial fun a17 h18 => ?_
    clear h14
    refine nd_done ?_
    refine hK16 _ _ ?_
    clear hK16
    refine c_true h18 rfl ?_
    refine wp_seq_k fun K19 hK19 => ?_
    refine nd_start (l := [0, 1, 2]) rfl ?_
    refine nd_batch tabOk tabZ_ok [(0, {})] [4, 0, 1, 5, 16] (T' := [(4, .pointer (some ⟨b2, 0, none⟩)), (0, .pointer (some ⟨bs, 0, none⟩)), (1, .int .i64 n), (5, .pointer none), (16, .pointer (some ⟨bs, 0, none⟩))]) (φ := True) (rest := [1, 2]) h18 (by kernel_rfl) rfl trivial fun a20 h21 => ?_
    clear h18
    refine nd_op ?_
    refine op_call h21 rfl rfl rfl (callOk Tryf.func29 (by decide) rfl) (args := [.pointer (some ⟨bs, 0, none⟩), .int .u8 2]) rfl (status_ok bs bl m hm out pos live lg.base eo lg.evs.length ec (.slice mo lg.mks.length mc) (.slice so lg.sns.length sc) 2 _ true true (h21.kn (k := 0) rfl) (h21.kn (k := 1) rfl) hne (by omega) (by omega) (by omega)) ?_
    rintro _ w22 ⟨rfl, hf24⟩
    refine ⟨_, rfl, ?_⟩
    have h23 := (h21.grow hf24).put (d := some 17) (v := .agg #[.int .u8 2, .int .i64 pos, .int .i64 lg.base.idx, .int .i64 (lg.base.idx + (lg.evs.length : Int)), .bool live, .bool out.refused, .int .i8 out.running, .int .u64 out.value, .int .u64 (dig m), .int .i64 pos, .int .i64 0, .int .i64 (-1)]) (T' := [(17, .agg #[.int .u8 2, .int .i64 pos, .int .i64 lg.base.idx, .int .i64 (lg.base.idx + (lg.evs.length : Int)), .bool live, .bool out.refused, .int .i8 out.running, .int .u64 out.value, .int .u64 (dig m), .int .i64 pos, .int .i64 0, .int .i64 (-1)]), (4, .pointer (some ⟨b2, 0, none⟩)), (0, .pointer (some ⟨bs, 0, none⟩)), (1, .int .i64 n), (5, .pointer none), (16, .pointer (some ⟨bs, 0, none⟩))]) rfl
    clear h21
    refine nd_op ?_
    refine op_store tabOk {k := 2} (L' := [(bs, ⟨sessC (.pointer (some ⟨bl, 0, none⟩)) m out pos live, 60, true⟩), (bl, ⟨logC lg.base (.slice eo lg.evs.length ec) (.slice mo lg.mks.length mc) (.slice so lg.sns.length sc), 89, true⟩), (b2, ⟨[.int .u8 2, .int .i64 pos, .int .i64 lg.base.idx, .int .i64 (lg.base.idx + (lg.evs.length : Int)), .bool live, .bool out.refused, .int .i8 out.running, .int .u64 out.value, .int .u64 (dig m), .int .i64 pos, .int .i64 0, .int .i64 (-1)], 46, false⟩)]) (φ := b2 = b2 ∧ Nat.ble (0 + 12) 12 = true) h23 rfl rfl rfl (by kernel_rfl) ⟨rfl, rfl⟩ fun w25 h26 => ?_
    clear h23
    refine nd_done ?_
    refine hK19 _ _ ?_
    clear hK19
    refine wp_ret ?_
    have hR : checkR (⟨lg, m, out, pos, live⟩ : Ss) n = (⟨lg, m, out, pos, live⟩ : Ss).stat 2 := by unfold checkR; simp only [hpn]
    try simp only [Exit.then, Exit.inBlock]
    try rw [if_pos trivial]
    exact s_ret tabOk tabZ_ok h26 [(.cell 4 46, {k := 2})] (vs := [.agg #[.int .u8 2, .int .i64 pos, .int .i64 lg.base.idx, .int .i64 (lg.base.idx + (lg.evs.length : Int)), .bool live, .bool out.refused, .int .i8 out.running, .int .u64 out.value, .int .u64 (dig m), .int .i64 pos, .int .i64 0, .int .i64 (-1)]]) (φ := (b2 = b2 ∧ Nat.ble (0 + 12) 12 = true) ∧ True) rfl (by kernel_rfl) ⟨⟨rfl, rfl⟩, trivial⟩ (by rw [hR]; exact ⟨⟨eo, ec, eF, mo, mc, mF, so, sc, sF⟩, rfl, SessAt.of (h26.kn (k := 0) rfl) (LogAt.of (h26.kn (k := 1) rfl) h26.inv hsep) hne hsm, h26.frame.mono (fun b hb => by cases hb), fun b hb => .inl hb⟩)
  ·
    refine ⟨_, rfl, ?_⟩
    have h27 := (h10.grow hfb).put (d := some 13) (v := .pointer (some ⟨bl, 0, none⟩)) (T' := [(13, .pointer (some ⟨bl, 0, none⟩)), (4, .pointer (some ⟨b2, 0, none⟩)), (0, .pointer (some ⟨bs, 0, none⟩)), (1, .int .i64 n), (11, .pointer (some ⟨bl, 0, none⟩)), (12, .int .i64 n)]) rfl
    clear h10
    have hpf := point_facts hwl hpn
    refine nd_batch tabOk tabZ_ok [(6, {})] [4, 0, 1, 5] (T' := [(4, .pointer (some ⟨b2, 0, none⟩)), (0, .pointer (some ⟨bs, 0, none⟩)), (1, .int .i64 n), (5, .pointer (some ⟨bl, 0, none⟩))]) (φ := True) (rest := []) h27 (by kernel_rfl) rfl trivial fun a28 h29 => ?_
    clear h27
    refine nd_done ?_
    refine hK8 _ _ ?_
    clear hK8
    refine wp_seq_k fun K30 hK30 => ?_
    refine wp_seq_k fun K31 hK31 => ?_
    refine nd_start (l := [0, 1]) rfl ?_
    refine nd_batch tabOk tabZ_ok [(0, {}), (1, {})] [4, 0, 1, 5, 15] (T' := [(4, .pointer (some ⟨b2, 0, none⟩)), (0, .pointer (some ⟨bs, 0, none⟩)), (1, .int .i64 n), (5, .pointer (some ⟨bl, 0, none⟩)), (15, .bool false)]) (φ := True) (rest := []) h29 (by kernel_rfl) rfl trivial fun a32 h33 => ?_
    clear h29
    refine nd_done ?_
    refine hK31 _ _ ?_
    clear hK31
    refine c_false h33 rfl ?_
    refine wp_skip ?_
    refine hK30 _ _ ?_
    clear hK30
    refine wp_seq_k fun K34 hK34 => ?_
    refine nd_start (l := [0, 1, 2, 3, 4, 5, 6, 7]) rfl ?_
    refine nd_batch tabOk tabZ_ok [(0, {}), (1, {}), (2, {}), (3, {k := 0}), (4, {})] [4, 0, 1, 5, 21, 22] (T' := [(4, .pointer (some ⟨b2, 0, none⟩)), (0, .pointer (some ⟨bs, 0, none⟩)), (1, .int .i64 n), (5, .pointer (some ⟨bl, 0, none⟩)), (21, .pointer (some ⟨bl, 0, none⟩)), (22, .pointer (some ⟨bl, 0, none⟩))]) (φ := (bs = bs ∧ Nat.ble (0 + 1) 17 = true) ∧ True) (rest := [5, 6, 7]) h33 (by kernel_rfl) rfl ⟨⟨rfl, rfl⟩, trivial⟩ fun a35 h36 => ?_
    clear h33
    refine nd_op ?_
    refine op_call h36 rfl rfl rfl (callOk Tryf.func50 (by decide) rfl) (args := [.pointer (some ⟨bl, 0, none⟩), .pointer (some ⟨bl, 0, none⟩)]) rfl (verifyA_ok bl ⟨eo, ec, eF, mo, mc, mF, so, sc, sF⟩ lg _ (LogAt.of (d := ⟨eo, ec, eF, mo, mc, mF, so, sc, sF⟩) (h36.kn (k := 1) rfl) h36.inv hsep) hwl.sin hwl.min hwl.ssort hwl.msort ⟨hpf.2.1, hpf.2.2.1⟩ hpf.2.2.2 hwl.evs hb0 (by omega) hlen hml (by omega)) ?_
    rintro _ w37 ⟨rfl, hf39⟩
    refine ⟨_, rfl, ?_⟩
    have h38 := (h36.grow hf39).put (d := some 23) (v := .agg #[.int .i64 ((vfy lg lg.base).at_), .int .i64 ((vfy lg lg.base).good), .int .i64 ((vfy lg lg.base).rep)]) (T' := [(23, .agg #[.int .i64 ((vfy lg lg.base).at_), .int .i64 ((vfy lg lg.base).good), .int .i64 ((vfy lg lg.base).rep)]), (4, .pointer (some ⟨b2, 0, none⟩)), (0, .pointer (some ⟨bs, 0, none⟩)), (1, .int .i64 n), (5, .pointer (some ⟨bl, 0, none⟩)), (21, .pointer (some ⟨bl, 0, none⟩)), (22, .pointer (some ⟨bl, 0, none⟩))]) rfl
    clear h36
    refine nd_op ?_
    refine op_new tabOk (cells := [.int .i64 0, .int .i64 0, .int .i64 0]) (ty := 114) (ln := none) (L1 := fun b40 => [(bs, ⟨sessC (.pointer (some ⟨bl, 0, none⟩)) m out pos live, 60, true⟩), (bl, ⟨logC lg.base (.slice eo lg.evs.length ec) (.slice mo lg.mks.length mc) (.slice so lg.sns.length sc), 89, true⟩), (b2, ⟨[.int .u8 0, .int .i64 0, .int .i64 0, .int .i64 0, .bool false, .bool false, .int .i8 0, .int .u64 0, .int .u64 0, .int .i64 0, .int .i64 0, .int .i64 0], 46, false⟩), (b40, ⟨[.int .i64 0, .int .i64 0, .int .i64 0], 114, false⟩)]) h38 rfl rfl rfl rfl (by kernel_rfl) (fun _ => rfl) fun b40 w41 a42 h43 hf44 hn45 => ?_
    clear h38
    refine nd_op ?_
    refine op_store tabOk {k := 3} (L' := [(bs, ⟨sessC (.pointer (some ⟨bl, 0, none⟩)) m out pos live, 60, true⟩), (bl, ⟨logC lg.base (.slice eo lg.evs.length ec) (.slice mo lg.mks.length mc) (.slice so lg.sns.length sc), 89, true⟩), (b2, ⟨[.int .u8 0, .int .i64 0, .int .i64 0, .int .i64 0, .bool false, .bool false, .int .i8 0, .int .u64 0, .int .u64 0, .int .i64 0, .int .i64 0, .int .i64 0], 46, false⟩), (b40, ⟨[.int .i64 ((vfy lg lg.base).at_), .int .i64 ((vfy lg lg.base).good), .int .i64 ((vfy lg lg.base).rep)], 114, false⟩)]) (φ := b40 = b40 ∧ Nat.ble (0 + 3) 3 = true) h43 rfl rfl rfl (by kernel_rfl) ⟨rfl, rfl⟩ fun w46 h47 => ?_
    clear h43
    refine nd_done ?_
    refine hK34 _ _ ?_
    clear hK34
    refine wp_seq_k fun K48 hK48 => ?_
    refine nd_start (l := [0, 1, 2, 3]) rfl ?_
    refine nd_batch tabOk tabZ_ok [(0, {})] [6, 4, 0, 1, 5, 24] (T' := [(6, .pointer (some ⟨b40, 0, none⟩)), (4, .pointer (some ⟨b2, 0, none⟩)), (0, .pointer (some ⟨bs, 0, none⟩)), (1, .int .i64 n), (5, .pointer (some ⟨bl, 0, none⟩)), (24, .pointer (some ⟨bs, 0, none⟩))]) (φ := True) (rest := [1, 2, 3]) h47 (by kernel_rfl) rfl trivial fun a49 h50 => ?_
    clear h47
    refine nd_op ?_
    refine op_call h50 rfl rfl rfl (callOk Tryf.func29 (by decide) rfl) (args := [.pointer (some ⟨bs, 0, none⟩), .int .u8 0]) rfl (status_ok bs bl m hm out pos live lg.base eo lg.evs.length ec (.slice mo lg.mks.length mc) (.slice so lg.sns.length sc) 0 _ true true (h50.kn (k := 0) rfl) (h50.kn (k := 1) rfl) hne (by omega) (by omega) (by omega)) ?_
    rintro _ w51 ⟨rfl, hf53⟩
    refine ⟨_, rfl, ?_⟩
    have h52 := (h50.grow hf53).put (d := some 25) (v := .agg #[.int .u8 0, .int .i64 pos, .int .i64 lg.base.idx, .int .i64 (lg.base.idx + (lg.evs.length : Int)), .bool live, .bool out.refused, .int .i8 out.running, .int .u64 out.value, .int .u64 (dig m), .int .i64 pos, .int .i64 0, .int .i64 (-1)]) (T' := [(25, .agg #[.int .u8 0, .int .i64 pos, .int .i64 lg.base.idx, .int .i64 (lg.base.idx + (lg.evs.length : Int)), .bool live, .bool out.refused, .int .i8 out.running, .int .u64 out.value, .int .u64 (dig m), .int .i64 pos, .int .i64 0, .int .i64 (-1)]), (6, .pointer (some ⟨b40, 0, none⟩)), (4, .pointer (some ⟨b2, 0, none⟩)), (0, .pointer (some ⟨bs, 0, none⟩)), (1, .int .i64 n), (5, .pointer (some ⟨bl, 0, none⟩)), (24, .pointer (some ⟨bs, 0, none⟩))]) rfl
    clear h50
    refine nd_op ?_
    refine op_new tabOk (cells := [.int .u8 0, .int .i64 0, .int .i64 0, .int .i64 0, .bool false, .bool false, .int .i8 0, .int .u64 0, .int .u64 0, .int .i64 0, .int .i64 0, .int .i64 0]) (ty := 46) (ln := none) (L1 := fun b54 => [(bs, ⟨sessC (.pointer (some ⟨bl, 0, none⟩)) m out pos live, 60, true⟩), (bl, ⟨logC lg.base (.slice eo lg.evs.length ec) (.slice mo lg.mks.length mc) (.slice so lg.sns.length sc), 89, true⟩), (b2, ⟨[.int .u8 0, .int .i64 0, .int .i64 0, .int .i64 0, .bool false, .bool false, .int .i8 0, .int .u64 0, .int .u64 0, .int .i64 0, .int .i64 0, .int .i64 0], 46, false⟩), (b40, ⟨[.int .i64 ((vfy lg lg.base).at_), .int .i64 ((vfy lg lg.base).good), .int .i64 ((vfy lg lg.base).rep)], 114, false⟩), (b54, ⟨[.int .u8 0, .int .i64 0, .int .i64 0, .int .i64 0, .bool false, .bool false, .int .i8 0, .int .u64 0, .int .u64 0, .int .i64 0, .int .i64 0, .int .i64 0], 46, false⟩)]) h52 rfl rfl rfl rfl (by kernel_rfl) (fun _ => rfl) fun b54 w55 a56 h57 hf58 hn59 => ?_
    clear h52
    refine nd_op ?_
    refine op_store tabOk {k := 4} (L' := [(bs, ⟨sessC (.pointer (some ⟨bl, 0, none⟩)) m out pos live, 60, true⟩), (bl, ⟨logC lg.base (.slice eo lg.evs.length ec) (.slice mo lg.mks.length mc) (.slice so lg.sns.length sc), 89, true⟩), (b2, ⟨[.int .u8 0, .int .i64 0, .int .i64 0, .int .i64 0, .bool false, .bool false, .int .i8 0, .int .u64 0, .int .u64 0, .int .i64 0, .int .i64 0, .int .i64 0], 46, false⟩), (b40, ⟨[.int .i64 ((vfy lg lg.base).at_), .int .i64 ((vfy lg lg.base).good), .int .i64 ((vfy lg lg.base).rep)], 114, false⟩), (b54, ⟨[.int .u8 0, .int .i64 pos, .int .i64 lg.base.idx, .int .i64 (lg.base.idx + (lg.evs.length : Int)), .bool live, .bool out.refused, .int .i8 out.running, .int .u64 out.value, .int .u64 (dig m), .int .i64 pos, .int .i64 0, .int .i64 (-1)], 46, false⟩)]) (φ := b54 = b54 ∧ Nat.ble (0 + 12) 12 = true) h57 rfl rfl rfl (by kernel_rfl) ⟨rfl, rfl⟩ fun w60 h61 => ?_
    clear h57
    refine nd_done ?_
    refine hK48 _ _ ?_
    clear hK48
    refine wp_seq_k fun K62 hK62 => ?_
    refine dr_start (KB := [bs, bl, b2, b40, b54]) (Bi := [[0, 1, 2, 3, 4], [0, 1, 2, 3, 4], [0, 1, 2, 3, 4], [0, 1, 2, 3, 4], [0, 1, 2, 3, 4], [0, 1, 2, 3, 4], [3], [0, 1, 2, 3, 4], [3], [0, 1, 2, 3, 4], []]) mixed h61 fun w63 h64 => ?_
    clear h61
    refine dr_batch tabOk tabZ_ok (by repeat (first | exact PF.body | with_reducible apply PF.inB | with_reducible apply PF.next)) [(0, {}), (1, {}), (2, {k := 3, p := 3}), (3, {}), (4, {k := 3, p := 3}), (5, {})] [7, 6, 4, 0, 1, 5, 26, 28, 30, 31] (T' := [(7, .pointer (some ⟨b54, 0, none⟩)), (6, .pointer (some ⟨b40, 0, none⟩)), (4, .pointer (some ⟨b2, 0, none⟩)), (0, .pointer (some ⟨bs, 0, none⟩)), (1, .int .i64 n), (5, .pointer (some ⟨bl, 0, none⟩)), (26, .int .i64 n), (28, .int .i64 ((vfy lg lg.base).rep)), (30, .int .i64 ((vfy lg lg.base).at_)), (31, .pointer (some ⟨b54, 9, none⟩))]) (φ := (b40 = b40 ∧ Nat.ble (2 + 1) 3 = true) ∧ (b40 = b40 ∧ Nat.ble (0 + 1) 3 = true) ∧ True) (fuel := 5) h64 (by kernel_rfl) rfl (by kernel_rfl) (by kernel_rfl) ⟨trivial, trivial, rfl, trivial, rfl, trivial, trivial⟩ ⟨⟨rfl, rfl⟩, ⟨rfl, rfl⟩, trivial⟩ fun a66 h67 => ?_
    clear h64
    refine wpAnyK_one (i := 6) (fuel := 4) (by kernel_rfl) ?_
    refine op_store tabOk {k := 4} (L' := [(bs, ⟨sessC (.pointer (some ⟨bl, 0, none⟩)) m out pos live, 60, true⟩), (bl, ⟨logC lg.base (.slice eo lg.evs.length ec) (.slice mo lg.mks.length mc) (.slice so lg.sns.length sc), 89, true⟩), (b2, ⟨[.int .u8 0, .int .i64 0, .int .i64 0, .int .i64 0, .bool false, .bool false, .int .i8 0, .int .u64 0, .int .u64 0, .int .i64 0, .int .i64 0, .int .i64 0], 46, false⟩), (b40, ⟨[.int .i64 ((vfy lg lg.base).at_), .int .i64 ((vfy lg lg.base).good), .int .i64 ((vfy lg lg.base).rep)], 114, false⟩), (b54, ⟨[.int .u8 0, .int .i64 pos, .int .i64 lg.base.idx, .int .i64 (lg.base.idx + (lg.evs.length : Int)), .bool live, .bool out.refused, .int .i8 out.running, .int .u64 out.value, .int .u64 (dig m), .int .i64 n, .int .i64 0, .int .i64 (-1)], 46, false⟩)]) (φ := b54 = b54 ∧ Nat.ble (9 + 1) 12 = true) h67 rfl rfl rfl (by kernel_rfl) ⟨rfl, rfl⟩ fun w68 h69 => ?_
    have hkh69 := h67.known
    refine ⟨(keepOf hkh69 h69.known (kcons (keepAt (q := 3) (q' := 3) rfl rfl) knil)), ?_⟩
    clear h67
    refine dr_batch tabOk tabZ_ok (by repeat (first | exact PF.body | with_reducible apply PF.inB | with_reducible apply PF.next)) [(7, {})] [7, 6, 4, 0, 1, 5, 28, 30, 32] (T' := [(7, .pointer (some ⟨b54, 0, none⟩)), (6, .pointer (some ⟨b40, 0, none⟩)), (4, .pointer (some ⟨b2, 0, none⟩)), (0, .pointer (some ⟨bs, 0, none⟩)), (1, .int .i64 n), (5, .pointer (some ⟨bl, 0, none⟩)), (28, .int .i64 ((vfy lg lg.base).rep)), (30, .int .i64 ((vfy lg lg.base).at_)), (32, .pointer (some ⟨b54, 10, none⟩))]) (φ := True) (fuel := 3) h69 (by kernel_rfl) rfl (by kernel_rfl) (by kernel_rfl) ⟨trivial, trivial⟩ trivial fun a70 h71 => ?_
    clear h69
    refine wpAnyK_one (i := 8) (fuel := 2) (by kernel_rfl) ?_
    refine op_store tabOk {k := 4} (L' := [(bs, ⟨sessC (.pointer (some ⟨bl, 0, none⟩)) m out pos live, 60, true⟩), (bl, ⟨logC lg.base (.slice eo lg.evs.length ec) (.slice mo lg.mks.length mc) (.slice so lg.sns.length sc), 89, true⟩), (b2, ⟨[.int .u8 0, .int .i64 0, .int .i64 0, .int .i64 0, .bool false, .bool false, .int .i8 0, .int .u64 0, .int .u64 0, .int .i64 0, .int .i64 0, .int .i64 0], 46, false⟩), (b40, ⟨[.int .i64 ((vfy lg lg.base).at_), .int .i64 ((vfy lg lg.base).good), .int .i64 ((vfy lg lg.base).rep)], 114, false⟩), (b54, ⟨[.int .u8 0, .int .i64 pos, .int .i64 lg.base.idx, .int .i64 (lg.base.idx + (lg.evs.length : Int)), .bool live, .bool out.refused, .int .i8 out.running, .int .u64 out.value, .int .u64 (dig m), .int .i64 n, .int .i64 ((vfy lg lg.base).rep), .int .i64 (-1)], 46, false⟩)]) (φ := b54 = b54 ∧ Nat.ble (10 + 1) 12 = true) h71 rfl rfl rfl (by kernel_rfl) ⟨rfl, rfl⟩ fun w72 h73 => ?_
    have hkh73 := h71.known
    refine ⟨(keepOf hkh73 h73.known (kcons (keepAt (q := 3) (q' := 3) rfl rfl) knil)), ?_⟩
    clear h71
    refine dr_batch tabOk tabZ_ok (by repeat (first | exact PF.body | with_reducible apply PF.inB | with_reducible apply PF.next)) [(9, {})] [7, 6, 4, 0, 1, 5, 30, 33] (T' := [(7, .pointer (some ⟨b54, 0, none⟩)), (6, .pointer (some ⟨b40, 0, none⟩)), (4, .pointer (some ⟨b2, 0, none⟩)), (0, .pointer (some ⟨bs, 0, none⟩)), (1, .int .i64 n), (5, .pointer (some ⟨bl, 0, none⟩)), (30, .int .i64 ((vfy lg lg.base).at_)), (33, .pointer (some ⟨b54, 11, none⟩))]) (φ := True) (fuel := 1) h73 (by kernel_rfl) rfl (by kernel_rfl) (by kernel_rfl) ⟨trivial, trivial⟩ trivial fun a74 h75 => ?_
    clear h73
    refine wpAnyK_one (i := 10) (fuel := 0) (by kernel_rfl) ?_
    refine op_store tabOk {k := 4} (L' := [(bs, ⟨sessC (.pointer (some ⟨bl, 0, none⟩)) m out pos live, 60, true⟩), (bl, ⟨logC lg.base (.slice eo lg.evs.length ec) (.slice mo lg.mks.length mc) (.slice so lg.sns.length sc), 89, true⟩), (b2, ⟨[.int .u8 0, .int .i64 0, .int .i64 0, .int .i64 0, .bool false, .bool false, .int .i8 0, .int .u64 0, .int .u64 0, .int .i64 0, .int .i64 0, .int .i64 0], 46, false⟩), (b40, ⟨[.int .i64 ((vfy lg lg.base).at_), .int .i64 ((vfy lg lg.base).good), .int .i64 ((vfy lg lg.base).rep)], 114, false⟩), (b54, ⟨[.int .u8 0, .int .i64 pos, .int .i64 lg.base.idx, .int .i64 (lg.base.idx + (lg.evs.length : Int)), .bool live, .bool out.refused, .int .i8 out.running, .int .u64 out.value, .int .u64 (dig m), .int .i64 n, .int .i64 ((vfy lg lg.base).rep), .int .i64 ((vfy lg lg.base).at_)], 46, false⟩)]) (φ := b54 = b54 ∧ Nat.ble (11 + 1) 12 = true) h75 rfl rfl rfl (by kernel_rfl) ⟨rfl, rfl⟩ fun w76 h77 => ?_
    have hkh77 := h75.known
    refine ⟨keepNil, ?_⟩
    clear h75
    refine wpAnyK_done (by kernel_rfl) ?_ _
    refine hK62 _ _ ?_
    clear hK62
    refine wp_seq_k fun K78 hK78 => ?_
    refine nd_start (l := [0, 1]) rfl ?_
    refine nd_batch tabOk tabZ_ok [(0, {k := 4})] [7, 6, 4, 0, 1, 5, 34] (T' := [(7, .pointer (some ⟨b54, 0, none⟩)), (6, .pointer (some ⟨b40, 0, none⟩)), (4, .pointer (some ⟨b2, 0, none⟩)), (0, .pointer (some ⟨bs, 0, none⟩)), (1, .int .i64 n), (5, .pointer (some ⟨bl, 0, none⟩)), (34, .agg #[.int .u8 0, .int .i64 pos, .int .i64 lg.base.idx, .int .i64 (lg.base.idx + (lg.evs.length : Int)), .bool live, .bool out.refused, .int .i8 out.running, .int .u64 out.value, .int .u64 (dig m), .int .i64 n, .int .i64 ((vfy lg lg.base).rep), .int .i64 ((vfy lg lg.base).at_)])]) (φ := (b54 = b54 ∧ Nat.ble (0 + 12) 12 = true) ∧ True) (rest := [1]) h77 (by kernel_rfl) rfl ⟨⟨rfl, rfl⟩, trivial⟩ fun a79 h80 => ?_
    clear h77
    refine nd_op ?_
    refine op_store tabOk {k := 2} (L' := [(bs, ⟨sessC (.pointer (some ⟨bl, 0, none⟩)) m out pos live, 60, true⟩), (bl, ⟨logC lg.base (.slice eo lg.evs.length ec) (.slice mo lg.mks.length mc) (.slice so lg.sns.length sc), 89, true⟩), (b2, ⟨[.int .u8 0, .int .i64 pos, .int .i64 lg.base.idx, .int .i64 (lg.base.idx + (lg.evs.length : Int)), .bool live, .bool out.refused, .int .i8 out.running, .int .u64 out.value, .int .u64 (dig m), .int .i64 n, .int .i64 ((vfy lg lg.base).rep), .int .i64 ((vfy lg lg.base).at_)], 46, false⟩), (b40, ⟨[.int .i64 ((vfy lg lg.base).at_), .int .i64 ((vfy lg lg.base).good), .int .i64 ((vfy lg lg.base).rep)], 114, false⟩), (b54, ⟨[.int .u8 0, .int .i64 pos, .int .i64 lg.base.idx, .int .i64 (lg.base.idx + (lg.evs.length : Int)), .bool live, .bool out.refused, .int .i8 out.running, .int .u64 out.value, .int .u64 (dig m), .int .i64 n, .int .i64 ((vfy lg lg.base).rep), .int .i64 ((vfy lg lg.base).at_)], 46, false⟩)]) (φ := b2 = b2 ∧ Nat.ble (0 + 12) 12 = true) h80 rfl rfl rfl (by kernel_rfl) ⟨rfl, rfl⟩ fun w81 h82 => ?_
    clear h80
    refine nd_done ?_
    refine hK78 _ _ ?_
    clear hK78
    refine wp_ret ?_
    have hR : checkR (⟨lg, m, out, pos, live⟩ : Ss) n = { (⟨lg, m, out, pos, live⟩ : Ss).stat 0 with from_ := n, replayed := (vfy lg lg.base).rep, at_ := (vfy lg lg.base).at_ } := by unfold checkR; simp only [hpn]
    try simp only [Exit.then, Exit.inBlock]
    try rw [if_pos trivial]
    exact s_ret tabOk tabZ_ok h82 [(.cell 4 46, {k := 2})] (vs := [.agg #[.int .u8 0, .int .i64 pos, .int .i64 lg.base.idx, .int .i64 (lg.base.idx + (lg.evs.length : Int)), .bool live, .bool out.refused, .int .i8 out.running, .int .u64 out.value, .int .u64 (dig m), .int .i64 n, .int .i64 ((vfy lg lg.base).rep), .int .i64 ((vfy lg lg.base).at_)]]) (φ := (b2 = b2 ∧ Nat.ble (0 + 12) 12 = true) ∧ True) rfl (by kernel_rfl) ⟨⟨rfl, rfl⟩, trivial⟩ (by rw [hR]; exact ⟨⟨eo, ec, eF, mo, mc, mF, so, sc, sF⟩, rfl, SessAt.of (h82.kn (k := 0) rfl) (LogAt.of (h82.kn (k := 1) rfl) h82.inv hsep) hne hsm, h82.frame.mono (fun b hb => by cases hb), fun b hb => .inl hb⟩)
  ·
    refine ⟨_, rfl, ?_⟩
    have h83 := (h10.grow hfb).put (d := some 13) (v := .pointer (some ⟨b, off, none⟩)) (T' := [(13, .pointer (some ⟨b, off, none⟩)), (4, .pointer (some ⟨b2, 0, none⟩)), (0, .pointer (some ⟨bs, 0, none⟩)), (1, .int .i64 n), (11, .pointer (some ⟨bl, 0, none⟩)), (12, .int .i64 n)]) rfl
    clear h10
    have hpf := point_facts hwl hpn
    refine nd_batch tabOk tabZ_ok [(6, {})] [4, 0, 1, 5] (T' := [(4, .pointer (some ⟨b2, 0, none⟩)), (0, .pointer (some ⟨bs, 0, none⟩)), (1, .int .i64 n), (5, .pointer (some ⟨b, off, none⟩))]) (φ := True) (rest := []) h83 (by kernel_rfl) rfl trivial fun a84 h85 => ?_
    clear h83
    refine nd_done ?_
    refine hK8 _ _ ?_
    clear hK8
    refine wp_seq_k fun K86 hK86 => ?_
    refine wp_seq_k fun K87 hK87 => ?_
    refine nd_start (l := [0, 1]) rfl ?_
    refine nd_batch tabOk tabZ_ok [(0, {}), (1, {})] [4, 0, 1, 5, 15] (T' := [(4, .pointer (some ⟨b2, 0, none⟩)), (0, .pointer (some ⟨bs, 0, none⟩)), (1, .int .i64 n), (5, .pointer (some ⟨b, off, none⟩)), (15, .bool false)]) (φ := True) (rest := []) h85 (by kernel_rfl) rfl trivial fun a88 h89 => ?_
    clear h85
    refine nd_done ?_
    refine hK87 _ _ ?_
    clear hK87
    refine c_false h89 rfl ?_
    refine wp_skip ?_
    refine hK86 _ _ ?_
    clear hK86
    refine wp_seq_k fun K90 hK90 => ?_
    refine nd_start (l := [0, 1, 2, 3, 4, 5, 6, 7]) rfl ?_
    refine nd_batch tabOk tabZ_ok [(0, {}), (1, {}), (2, {}), (3, {k := 0}), (4, {})] [4, 0, 1, 5, 21, 22] (T' := [(4, .pointer (some ⟨b2, 0, none⟩)), (0, .pointer (some ⟨bs, 0, none⟩)), (1, .int .i64 n), (5, .pointer (some ⟨b, off, none⟩)), (21, .pointer (some ⟨bl, 0, none⟩)), (22, .pointer (some ⟨b, off, none⟩))]) (φ := (bs = bs ∧ Nat.ble (0 + 1) 17 = true) ∧ True) (rest := [5, 6, 7]) h89 (by kernel_rfl) rfl ⟨⟨rfl, rfl⟩, trivial⟩ fun a91 h92 => ?_
    clear h89
    refine nd_op ?_
    refine op_call h92 rfl rfl rfl (callOk Tryf.func50 (by decide) rfl) (args := [.pointer (some ⟨bl, 0, none⟩), .pointer (some ⟨b, off, none⟩)]) rfl (verifyB_ok bl ⟨eo, ec, eF, mo, mc, mF, so, sc, sF⟩ lg _ (LogAt.of (d := ⟨eo, ec, eF, mo, mc, mF, so, sc, sF⟩) (h92.kn (k := 1) rfl) h92.inv hsep) x b off cs ty hbb hcc hso hwl.sin hwl.min hwl.ssort hwl.msort ⟨hpf.2.1, hpf.2.2.1⟩ hpf.2.2.2 hwl.evs hb0 (by omega) hlen hml (by omega)) ?_
    rintro _ w93 ⟨rfl, hf95⟩
    refine ⟨_, rfl, ?_⟩
    have h94 := (h92.grow hf95).put (d := some 23) (v := .agg #[.int .i64 ((vfy lg x).at_), .int .i64 ((vfy lg x).good), .int .i64 ((vfy lg x).rep)]) (T' := [(23, .agg #[.int .i64 ((vfy lg x).at_), .int .i64 ((vfy lg x).good), .int .i64 ((vfy lg x).rep)]), (4, .pointer (some ⟨b2, 0, none⟩)), (0, .pointer (some ⟨bs, 0, none⟩)), (1, .int .i64 n), (5, .pointer (some ⟨b, off, none⟩)), (21, .pointer (some ⟨bl, 0, none⟩)), (22, .pointer (some ⟨b, off, none⟩))]) rfl
    clear h92
    refine nd_op ?_
    refine op_new tabOk (cells := [.int .i64 0, .int .i64 0, .int .i64 0]) (ty := 114) (ln := none) (L1 := fun b96 => [(bs, ⟨sessC (.pointer (some ⟨bl, 0, none⟩)) m out pos live, 60, true⟩), (bl, ⟨logC lg.base (.slice eo lg.evs.length ec) (.slice mo lg.mks.length mc) (.slice so lg.sns.length sc), 89, true⟩), (b2, ⟨[.int .u8 0, .int .i64 0, .int .i64 0, .int .i64 0, .bool false, .bool false, .int .i8 0, .int .u64 0, .int .u64 0, .int .i64 0, .int .i64 0, .int .i64 0], 46, false⟩), (b96, ⟨[.int .i64 0, .int .i64 0, .int .i64 0], 114, false⟩)]) h94 rfl rfl rfl rfl (by kernel_rfl) (fun _ => rfl) fun b96 w97 a98 h99 hf100 hn101 => ?_
    clear h94
    refine nd_op ?_
    refine op_store tabOk {k := 3} (L' := [(bs, ⟨sessC (.pointer (some ⟨bl, 0, none⟩)) m out pos live, 60, true⟩), (bl, ⟨logC lg.base (.slice eo lg.evs.length ec) (.slice mo lg.mks.length mc) (.slice so lg.sns.length sc), 89, true⟩), (b2, ⟨[.int .u8 0, .int .i64 0, .int .i64 0, .int .i64 0, .bool false, .bool false, .int .i8 0, .int .u64 0, .int .u64 0, .int .i64 0, .int .i64 0, .int .i64 0], 46, false⟩), (b96, ⟨[.int .i64 ((vfy lg x).at_), .int .i64 ((vfy lg x).good), .int .i64 ((vfy lg x).rep)], 114, false⟩)]) (φ := b96 = b96 ∧ Nat.ble (0 + 3) 3 = true) h99 rfl rfl rfl (by kernel_rfl) ⟨rfl, rfl⟩ fun w102 h103 => ?_
    clear h99
    refine nd_done ?_
    refine hK90 _ _ ?_
    clear hK90
    refine wp_seq_k fun K104 hK104 => ?_
    refine nd_start (l := [0, 1, 2, 3]) rfl ?_
    refine nd_batch tabOk tabZ_ok [(0, {})] [6, 4, 0, 1, 5, 24] (T' := [(6, .pointer (some ⟨b96, 0, none⟩)), (4, .pointer (some ⟨b2, 0, none⟩)), (0, .pointer (some ⟨bs, 0, none⟩)), (1, .int .i64 n), (5, .pointer (some ⟨b, off, none⟩)), (24, .pointer (some ⟨bs, 0, none⟩))]) (φ := True) (rest := [1, 2, 3]) h103 (by kernel_rfl) rfl trivial fun a105 h106 => ?_
    clear h103
    refine nd_op ?_
    refine op_call h106 rfl rfl rfl (callOk Tryf.func29 (by decide) rfl) (args := [.pointer (some ⟨bs, 0, none⟩), .int .u8 0]) rfl (status_ok bs bl m hm out pos live lg.base eo lg.evs.length ec (.slice mo lg.mks.length mc) (.slice so lg.sns.length sc) 0 _ true true (h106.kn (k := 0) rfl) (h106.kn (k := 1) rfl) hne (by omega) (by omega) (by omega)) ?_
    rintro _ w107 ⟨rfl, hf109⟩
    refine ⟨_, rfl, ?_⟩
    have h108 := (h106.grow hf109).put (d := some 25) (v := .agg #[.int .u8 0, .int .i64 pos, .int .i64 lg.base.idx, .int .i64 (lg.base.idx + (lg.evs.length : Int)), .bool live, .bool out.refused, .int .i8 out.running, .int .u64 out.value, .int .u64 (dig m), .int .i64 pos, .int .i64 0, .int .i64 (-1)]) (T' := [(25, .agg #[.int .u8 0, .int .i64 pos, .int .i64 lg.base.idx, .int .i64 (lg.base.idx + (lg.evs.length : Int)), .bool live, .bool out.refused, .int .i8 out.running, .int .u64 out.value, .int .u64 (dig m), .int .i64 pos, .int .i64 0, .int .i64 (-1)]), (6, .pointer (some ⟨b96, 0, none⟩)), (4, .pointer (some ⟨b2, 0, none⟩)), (0, .pointer (some ⟨bs, 0, none⟩)), (1, .int .i64 n), (5, .pointer (some ⟨b, off, none⟩)), (24, .pointer (some ⟨bs, 0, none⟩))]) rfl
    clear h106
    refine nd_op ?_
    refine op_new tabOk (cells := [.int .u8 0, .int .i64 0, .int .i64 0, .int .i64 0, .bool false, .bool false, .int .i8 0, .int .u64 0, .int .u64 0, .int .i64 0, .int .i64 0, .int .i64 0]) (ty := 46) (ln := none) (L1 := fun b110 => [(bs, ⟨sessC (.pointer (some ⟨bl, 0, none⟩)) m out pos live, 60, true⟩), (bl, ⟨logC lg.base (.slice eo lg.evs.length ec) (.slice mo lg.mks.length mc) (.slice so lg.sns.length sc), 89, true⟩), (b2, ⟨[.int .u8 0, .int .i64 0, .int .i64 0, .int .i64 0, .bool false, .bool false, .int .i8 0, .int .u64 0, .int .u64 0, .int .i64 0, .int .i64 0, .int .i64 0], 46, false⟩), (b96, ⟨[.int .i64 ((vfy lg x).at_), .int .i64 ((vfy lg x).good), .int .i64 ((vfy lg x).rep)], 114, false⟩), (b110, ⟨[.int .u8 0, .int .i64 0, .int .i64 0, .int .i64 0, .bool false, .bool false, .int .i8 0, .int .u64 0, .int .u64 0, .int .i64 0, .int .i64 0, .int .i64 0], 46, false⟩)]) h108 rfl rfl rfl rfl (by kernel_rfl) (fun _ => rfl) fun b110 w111 a112 h113 hf114 hn115 => ?_
    clear h108
    refine nd_op ?_
    refine op_store tabOk {k := 4} (L' := [(bs, ⟨sessC (.pointer (some ⟨bl, 0, none⟩)) m out pos live, 60, true⟩), (bl, ⟨logC lg.base (.slice eo lg.evs.length ec) (.slice mo lg.mks.length mc) (.slice so lg.sns.length sc), 89, true⟩), (b2, ⟨[.int .u8 0, .int .i64 0, .int .i64 0, .int .i64 0, .bool false, .bool false, .int .i8 0, .int .u64 0, .int .u64 0, .int .i64 0, .int .i64 0, .int .i64 0], 46, false⟩), (b96, ⟨[.int .i64 ((vfy lg x).at_), .int .i64 ((vfy lg x).good), .int .i64 ((vfy lg x).rep)], 114, false⟩), (b110, ⟨[.int .u8 0, .int .i64 pos, .int .i64 lg.base.idx, .int .i64 (lg.base.idx + (lg.evs.length : Int)), .bool live, .bool out.refused, .int .i8 out.running, .int .u64 out.value, .int .u64 (dig m), .int .i64 pos, .int .i64 0, .int .i64 (-1)], 46, false⟩)]) (φ := b110 = b110 ∧ Nat.ble (0 + 12) 12 = true) h113 rfl rfl rfl (by kernel_rfl) ⟨rfl, rfl⟩ fun w116 h117 => ?_
    clear h113
    refine nd_done ?_
    refine hK104 _ _ ?_
    clear hK104
    refine wp_seq_k fun K118 hK118 => ?_
    refine dr_start (KB := [bs, bl, b2, b96, b110]) (Bi := [[0, 1, 2, 3, 4], [0, 1, 2, 3, 4], [0, 1, 2, 3, 4], [0, 1, 2, 3, 4], [0, 1, 2, 3, 4], [0, 1, 2, 3, 4], [3], [0, 1, 2, 3, 4], [3], [0, 1, 2, 3, 4], []]) mixed h117 fun w119 h120 => ?_
    clear h117
    refine dr_batch tabOk tabZ_ok (by repeat (first | exact PF.body | with_reducible apply PF.inB | with_reducible apply PF.next)) [(0, {}), (1, {}), (2, {k := 3, p := 3}), (3, {}), (4, {k := 3, p := 3}), (5, {})] [7, 6, 4, 0, 1, 5, 26, 28, 30, 31] (T' := [(7, .pointer (some ⟨b110, 0, none⟩)), (6, .pointer (some ⟨b96, 0, none⟩)), (4, .pointer (some ⟨b2, 0, none⟩)), (0, .pointer (some ⟨bs, 0, none⟩)), (1, .int .i64 n), (5, .pointer (some ⟨b, off, none⟩)), (26, .int .i64 n), (28, .int .i64 ((vfy lg x).rep)), (30, .int .i64 ((vfy lg x).at_)), (31, .pointer (some ⟨b110, 9, none⟩))]) (φ := (b96 = b96 ∧ Nat.ble (2 + 1) 3 = true) ∧ (b96 = b96 ∧ Nat.ble (0 + 1) 3 = true) ∧ True) (fuel := 5) h120 (by kernel_rfl) rfl (by kernel_rfl) (by kernel_rfl) ⟨trivial, trivial, rfl, trivial, rfl, trivial, trivial⟩ ⟨⟨rfl, rfl⟩, ⟨rfl, rfl⟩, trivial⟩ fun a122 h123 => ?_
    clear h120
    refine wpAnyK_one (i := 6) (fuel := 4) (by kernel_rfl) ?_
    refine op_store tabOk {k := 4} (L' := [(bs, ⟨sessC (.pointer (some ⟨bl, 0, none⟩)) m out pos live, 60, true⟩), (bl, ⟨logC lg.base (.slice eo lg.evs.length ec) (.slice mo lg.mks.length mc) (.slice so lg.sns.length sc), 89, true⟩), (b2, ⟨[.int .u8 0, .int .i64 0, .int .i64 0, .int .i64 0, .bool false, .bool false, .int .i8 0, .int .u64 0, .int .u64 0, .int .i64 0, .int .i64 0, .int .i64 0], 46, false⟩), (b96, ⟨[.int .i64 ((vfy lg x).at_), .int .i64 ((vfy lg x).good), .int .i64 ((vfy lg x).rep)], 114, false⟩), (b110, ⟨[.int .u8 0, .int .i64 pos, .int .i64 lg.base.idx, .int .i64 (lg.base.idx + (lg.evs.length : Int)), .bool live, .bool out.refused, .int .i8 out.running, .int .u64 out.value, .int .u64 (dig m), .int .i64 n, .int .i64 0, .int .i64 (-1)], 46, false⟩)]) (φ := b110 = b110 ∧ Nat.ble (9 + 1) 12 = true) h123 rfl rfl rfl (by kernel_rfl) ⟨rfl, rfl⟩ fun w124 h125 => ?_
    have hkh125 := h123.known
    refine ⟨(keepOf hkh125 h125.known (kcons (keepAt (q := 3) (q' := 3) rfl rfl) knil)), ?_⟩
    clear h123
    refine dr_batch tabOk tabZ_ok (by repeat (first | exact PF.body | with_reducible apply PF.inB | with_reducible apply PF.next)) [(7, {})] [7, 6, 4, 0, 1, 5, 28, 30, 32] (T' := [(7, .pointer (some ⟨b110, 0, none⟩)), (6, .pointer (some ⟨b96, 0, none⟩)), (4, .pointer (some ⟨b2, 0, none⟩)), (0, .pointer (some ⟨bs, 0, none⟩)), (1, .int .i64 n), (5, .pointer (some ⟨b, off, none⟩)), (28, .int .i64 ((vfy lg x).rep)), (30, .int .i64 ((vfy lg x).at_)), (32, .pointer (some ⟨b110, 10, none⟩))]) (φ := True) (fuel := 3) h125 (by kernel_rfl) rfl (by kernel_rfl) (by kernel_rfl) ⟨trivial, trivial⟩ trivial fun a126 h127 => ?_
    clear h125
    refine wpAnyK_one (i := 8) (fuel := 2) (by kernel_rfl) ?_
    refine op_store tabOk {k := 4} (L' := [(bs, ⟨sessC (.pointer (some ⟨bl, 0, none⟩)) m out pos live, 60, true⟩), (bl, ⟨logC lg.base (.slice eo lg.evs.length ec) (.slice mo lg.mks.length mc) (.slice so lg.sns.length sc), 89, true⟩), (b2, ⟨[.int .u8 0, .int .i64 0, .int .i64 0, .int .i64 0, .bool false, .bool false, .int .i8 0, .int .u64 0, .int .u64 0, .int .i64 0, .int .i64 0, .int .i64 0], 46, false⟩), (b96, ⟨[.int .i64 ((vfy lg x).at_), .int .i64 ((vfy lg x).good), .int .i64 ((vfy lg x).rep)], 114, false⟩), (b110, ⟨[.int .u8 0, .int .i64 pos, .int .i64 lg.base.idx, .int .i64 (lg.base.idx + (lg.evs.length : Int)), .bool live, .bool out.refused, .int .i8 out.running, .int .u64 out.value, .int .u64 (dig m), .int .i64 n, .int .i64 ((vfy lg x).rep), .int .i64 (-1)], 46, false⟩)]) (φ := b110 = b110 ∧ Nat.ble (10 + 1) 12 = true) h127 rfl rfl rfl (by kernel_rfl) ⟨rfl, rfl⟩ fun w128 h129 => ?_
    have hkh129 := h127.known
    refine ⟨(keepOf hkh129 h129.known (kcons (keepAt (q := 3) (q' := 3) rfl rfl) knil)), ?_⟩
    clear h127
    refine dr_batch tabOk tabZ_ok (by repeat (first | exact PF.body | with_reducible apply PF.inB | with_reducible apply PF.next)) [(9, {})] [7, 6, 4, 0, 1, 5, 30, 33] (T' := [(7, .pointer (some ⟨b110, 0, none⟩)), (6, .pointer (some ⟨b96, 0, none⟩)), (4, .pointer (some ⟨b2, 0, none⟩)), (0, .pointer (some ⟨bs, 0, none⟩)), (1, .int .i64 n), (5, .pointer (some ⟨b, off, none⟩)), (30, .int .i64 ((vfy lg x).at_)), (33, .pointer (some ⟨b110, 11, none⟩))]) (φ := True) (fuel := 1) h129 (by kernel_rfl) rfl (by kernel_rfl) (by kernel_rfl) ⟨trivial, trivial⟩ trivial fun a130 h131 => ?_
    clear h129
    refine wpAnyK_one (i := 10) (fuel := 0) (by kernel_rfl) ?_
    refine op_store tabOk {k := 4} (L' := [(bs, ⟨sessC (.pointer (some ⟨bl, 0, none⟩)) m out pos live, 60, true⟩), (bl, ⟨logC lg.base (.slice eo lg.evs.length ec) (.slice mo lg.mks.length mc) (.slice so lg.sns.length sc), 89, true⟩), (b2, ⟨[.int .u8 0, .int .i64 0, .int .i64 0, .int .i64 0, .bool false, .bool false, .int .i8 0, .int .u64 0, .int .u64 0, .int .i64 0, .int .i64 0, .int .i64 0], 46, false⟩), (b96, ⟨[.int .i64 ((vfy lg x).at_), .int .i64 ((vfy lg x).good), .int .i64 ((vfy lg x).rep)], 114, false⟩), (b110, ⟨[.int .u8 0, .int .i64 pos, .int .i64 lg.base.idx, .int .i64 (lg.base.idx + (lg.evs.length : Int)), .bool live, .bool out.refused, .int .i8 out.running, .int .u64 out.value, .int .u64 (dig m), .int .i64 n, .int .i64 ((vfy lg x).rep), .int .i64 ((vfy lg x).at_)], 46, false⟩)]) (φ := b110 = b110 ∧ Nat.ble (11 + 1) 12 = true) h131 rfl rfl rfl (by kernel_rfl) ⟨rfl, rfl⟩ fun w132 h133 => ?_
    have hkh133 := h131.known
    refine ⟨keepNil, ?_⟩
    clear h131
    refine wpAnyK_done (by kernel_rfl) ?_ _
    refine hK118 _ _ ?_
    clear hK118
    refine wp_seq_k fun K134 hK134 => ?_
    refine nd_start (l := [0, 1]) rfl ?_
    refine nd_batch tabOk tabZ_ok [(0, {k := 4})] [7, 6, 4, 0, 1, 5, 34] (T' := [(7, .pointer (some ⟨b110, 0, none⟩)), (6, .pointer (some ⟨b96, 0, none⟩)), (4, .pointer (some ⟨b2, 0, none⟩)), (0, .pointer (some ⟨bs, 0, none⟩)), (1, .int .i64 n), (5, .pointer (some ⟨b, off, none⟩)), (34, .agg #[.int .u8 0, .int .i64 pos, .int .i64 lg.base.idx, .int .i64 (lg.base.idx + (lg.evs.length : Int)), .bool live, .bool out.refused, .int .i8 out.running, .int .u64 out.value, .int .u64 (dig m), .int .i64 n, .int .i64 ((vfy lg x).rep), .int .i64 ((vfy lg x).at_)])]) (φ := (b110 = b110 ∧ Nat.ble (0 + 12) 12 = true) ∧ True) (rest := [1]) h133 (by kernel_rfl) rfl ⟨⟨rfl, rfl⟩, trivial⟩ fun a135 h136 => ?_
    clear h133
    refine nd_op ?_
    refine op_store tabOk {k := 2} (L' := [(bs, ⟨sessC (.pointer (some ⟨bl, 0, none⟩)) m out pos live, 60, true⟩), (bl, ⟨logC lg.base (.slice eo lg.evs.length ec) (.slice mo lg.mks.length mc) (.slice so lg.sns.length sc), 89, true⟩), (b2, ⟨[.int .u8 0, .int .i64 pos, .int .i64 lg.base.idx, .int .i64 (lg.base.idx + (lg.evs.length : Int)), .bool live, .bool out.refused, .int .i8 out.running, .int .u64 out.value, .int .u64 (dig m), .int .i64 n, .int .i64 ((vfy lg x).rep), .int .i64 ((vfy lg x).at_)], 46, false⟩), (b96, ⟨[.int .i64 ((vfy lg x).at_), .int .i64 ((vfy lg x).good), .int .i64 ((vfy lg x).rep)], 114, false⟩), (b110, ⟨[.int .u8 0, .int .i64 pos, .int .i64 lg.base.idx, .int .i64 (lg.base.idx + (lg.evs.length : Int)), .bool live, .bool out.refused, .int .i8 out.running, .int .u64 out.value, .int .u64 (dig m), .int .i64 n, .int .i64 ((vfy lg x).rep), .int .i64 ((vfy lg x).at_)], 46, false⟩)]) (φ := b2 = b2 ∧ Nat.ble (0 + 12) 12 = true) h136 rfl rfl rfl (by kernel_rfl) ⟨rfl, rfl⟩ fun w137 h138 => ?_
    clear h136
    refine nd_done ?_
    refine hK134 _ _ ?_
    clear hK134
    refine wp_ret ?_
    have hR : checkR (⟨lg, m, out, pos, live⟩ : Ss) n = { (⟨lg, m, out, pos, live⟩ : Ss).stat 0 with from_ := n, replayed := (vfy lg x).rep, at_ := (vfy lg x).at_ } := by unfold checkR; simp only [hpn]
    try simp only [Exit.then, Exit.inBlock]
    try rw [if_pos trivial]
    exact s_ret tabOk tabZ_ok h138 [(.cell 4 46, {k := 2})] (vs := [.agg #[.int .u8 0, .int .i64 pos, .int .i64 lg.base.idx, .int .i64 (lg.base.idx + (lg.evs.length : Int)), .bool live, .bool out.refused, .int .i8 out.running, .int .u64 out.value, .int .u64 (dig m), .int .i64 n, .int .i64 ((vfy lg x).rep), .int .i64 ((vfy lg x).at_)]]) (φ := (b2 = b2 ∧ Nat.ble (0 + 12) 12 = true) ∧ True) rfl (by kernel_rfl) ⟨⟨rfl, rfl⟩, trivial⟩ (by rw [hR]; exact ⟨⟨eo, ec, eF, mo, mc, mF, so, sc, sF⟩, rfl, SessAt.of (h138.kn (k := 0) rfl) (LogAt.of (h138.kn (k := 1) rfl) h138.inv hsep) hne hsm, h138.frame.mono (fun b hb => by cases hb), fun b hb => .inl hb⟩)

theorem replay_ok (bs bl : Nat) (d : Hd) (s : Ss) (w : World) (hs : SessAt w bs bl d s) {B : Int} (hB : B ≤ 900000000) (hwf : s.wf B) (n t : Int) :
    Calls Tryf.prog 28 #[.pointer (some ⟨bs, 0, none⟩), .int .i64 n, .int .i64 t] w (SOK w bs bl d (replayR s n t) s) := by
  obtain ⟨lg, m, out, pos, live⟩ := s
  obtain ⟨hwl, hm, hlo, hhi, hlv⟩ := hwf
  obtain ⟨hbs, hl, hne, hsm⟩ := hs
  simp only at hbs hl hwl hm hlo hhi hlv
  have hfq : lg.fin = lg.base.idx + (lg.evs.length : Int) := rfl
  have hb0 := hwl.b0
  have hfB := hwl.fin
  have hlen := hwl.len
  have hml := hwl.mlen
  have hsl := hwl.slen
  obtain ⟨eo, ec, eF, mo, mc, mF, so, sc, sF⟩ := d
  obtain ⟨hbl, hA, hsep⟩ := hl
  refine enter (n := 59) (K := []) (A := Rws [rl evC 31 3 lg.evs eo ec eF, rl mkC 93 2 lg.mks mo mc mF, rl ptC 84 15 lg.sns so sc sF]) (F := Ff [rl evC 31 3 lg.evs eo ec eF, rl mkC 93 2 lg.mks mo mc mF, rl ptC 84 15 lg.sns so sc sF]) (T := [(0, .pointer (some ⟨bs, 0, none⟩)), (1, .int .i64 n), (2, .int .i64 t)]) (L := [(bs, ⟨sessC (.pointer (some ⟨bl, 0, none⟩)) m out pos live, 60, true⟩), (bl, ⟨logC lg.base (.slice eo lg.evs.length ec) (.slice mo lg.mks.length mc) (.slice so lg.sns.length sc), 89, true⟩)]) (args := [.pointer (some ⟨bs, 0, none⟩), .int .i64 n, .int .i64 t]) Tryf.func28 rfl rfl rfl rfl (kcons hbs (kcons hbl knil)) (by simp [hne]) (kcons (by intro hq; cases hq) (kcons (by intro hq; cases hq) knil)) hA Rws.stable (hA).low (kcons (by intro hq; cases hq) (kcons (by intro hq; cases hq) knil)) ?_
  intro a h
  refine wp_seq_k fun K1 hK1 => ?_
  refine nd_start (l := [0]) rfl ?_
  refine nd_op ?_
  refine op_new tabOk (cells := [.int .u8 0, .int .i64 0, .int .i64 0, .int .i64 0, .bool false, .bool false, .int .i8 0, .int .u64 0, .int .u64 0, .int .i64 0, .int .i64 0, .int .i64 0]) (ty := 46) (ln := none) (L1 := fun b2 => [(bs, ⟨sessC (.pointer (some ⟨bl, 0, none⟩)) m out pos live, 60, true⟩), (bl, ⟨logC lg.base (.slice eo lg.evs.length ec) (.slice mo lg.mks.length mc) (.slice so lg.sns.length sc), 89, true⟩), (b2, ⟨[.int .u8 0, .int .i64 0, .int .i64 0, .int .i64 0, .bool false, .bool false, .int .i8 0, .int .u64 0, .int .u64 0, .int .i64 0, .int .i64 0, .int .i64 0], 46, false⟩)]) h rfl rfl rfl rfl (by kernel_rfl) (fun _ => rfl) fun b2 w3 a4 h5 hf6 hn7 => ?_
  clear h
  refine nd_done ?_
  refine hK1 _ _ ?_
  clear hK1
  refine wp_seq_k fun K8 hK8 => ?_
  refine nd_start (l := [0, 1, 2, 3, 4, 5, 6]) rfl ?_
  refine nd_batch tabOk tabZ_ok [(0, {}), (1, {}), (2, {}), (3, {k := 0}), (4, {})] [6, 0, 1, 2, 13, 14] (T' := [(6, .pointer (some ⟨b2, 0, none⟩)), (0, .pointer (some ⟨bs, 0, none⟩)), (1, .int .i64 n), (2, .int .i64 t), (13, .pointer (some ⟨bl, 0, none⟩)), (14, .int .i64 n)]) (φ := (bs = bs ∧ Nat.ble (0 + 1) 17 = true) ∧ True) (rest := [5, 6]) h5 (by kernel_rfl) rfl ⟨⟨rfl, rfl⟩, trivial⟩ fun a9 h10 => ?_
  clear h5
  refine nd_op ?_
  refine op_call h10 rfl rfl rfl (callOk Tryf.func49 (by decide) rfl) (args := [.pointer (some ⟨bl, 0, none⟩), .int .i64 n]) rfl (pointAt_ok bl ⟨eo, ec, eF, mo, mc, mF, so, sc, sF⟩ lg _ (LogAt.of (d := ⟨eo, ec, eF, mo, mc, mF, so, sc, sF⟩) (h10.kn (k := 1) rfl) h10.inv hsep) n hwl.ssort (by omega)) ?_
  rintro _ w11 (⟨hpn, rfl, hfb⟩ | ⟨hpn, rfl, hfb⟩ | ⟨x, hpn, b, off, cs, ty, rfl, hbb, hcc, hso, hfb⟩)
  ·
    refine ⟨_, rfl, ?_⟩
    have h12 := (h10.grow hfb).put (d := some 15) (v := .pointer none) (T' := [(15, .pointer none), (6, .pointer (some ⟨b2, 0, none⟩)), (0, .pointer (some ⟨bs, 0, none⟩)), (1, .int .i64 n), (2, .int .i64 t), (13, .pointer (some ⟨bl, 0, none⟩)), (14, .int .i64 n)]) rfl
    clear h10
    refine nd_batch tabOk tabZ_ok [(6, {})] [6, 0, 1, 2, 7] (T' := [(6, .pointer (some ⟨b2, 0, none⟩)), (0, .pointer (some ⟨bs, 0, none⟩)), (1, .int .i64 n), (2, .int .i64 t), (7, .pointer none)]) (φ := True) (rest := []) h12 (by kernel_rfl) rfl trivial fun a13 h14 => ?_
    clear h12
    refine nd_done ?_
    refine hK8 _ _ ?_
    clear hK8
    refine wp_seq_k fun K15 hK15 => ?_
    refine wp_block ?_
    refine wp_seq_k fun K16 hK16 => ?_
    refine nd_start (l := [0, 1, 2]) rfl ?_
    refine nd_batch tabOk tabZ_ok [(0, {}), (1, {}), (2, {})] [6, 0, 1, 2, 7, 16] (T' := [(6, .pointer (some ⟨b2, 0, none⟩)), (0, .pointer (some ⟨bs, 0, none⟩)), (1, .int .i64 n), (2, .int .i64 t), (7, .pointer none), (16, .bool true)]) (φ := True) (rest := []) h14 (by kernel_rfl) rfl trivial fun a17 h18 => ?_
    clear h14
    refine nd_done ?_
    refine hK16 _ _ ?_
    clear hK16
    refine c_true h18 rfl ?_
    refine wp_seq_k fun K19 hK19 => ?_
    refine nd_start (l := [0, 1, 2]) rfl ?_
    refine nd_batch tabOk tabZ_ok [(0, {})] [6, 0, 1, 2, 7, 19] (T' := [(6, .pointer (some ⟨b2, 0, none⟩)), (0, .pointer (some ⟨bs, 0, none⟩)), (1, .int .i64 n), (2, .int .i64 t), (7, .pointer none), (19, .pointer (some ⟨bs, 0, none⟩))]) (φ := True) (rest := [1, 2]) h18 (by kernel_rfl) rfl trivial fun a20 h21 => ?_
    clear h18
    refine nd_op ?_
    refine op_call h21 rfl rfl rfl (callOk Tryf.func29 (by decide) rfl) (args := [.pointer (some ⟨bs, 0, none⟩), .int .u8 2]) rfl (status_ok bs bl m hm out pos live lg.base eo lg.evs.length ec (.slice mo lg.mks.length mc) (.slice so lg.sns.length sc) 2 _ true true (h21.kn (k := 0) rfl) (h21.kn (k := 1) rfl) hne (by omega) (by omega) (by omega)) ?_
    rintro _ w22 ⟨rfl, hf24⟩
    refine ⟨_, rfl, ?_⟩
    have h23 := (h21.grow hf24).put (d := some 20) (v := .agg #[.int .u8 2, .int .i64 pos, .int .i64 lg.base.idx, .int .i64 (lg.base.idx + (lg.evs.length : Int)), .bool live, .bool out.refused, .int .i8 out.running, .int .u64 out.value, .int .u64 (dig m), .int .i64 pos, .int .i64 0, .int .i64 (-1)]) (T' := [(20, .agg #[.int .u8 2, .int .i64 pos, .int .i64 lg.base.idx, .int .i64 (lg.base.idx + (lg.evs.length : Int)), .bool live, .bool out.refused, .int .i8 out.running, .int .u64 out.value, .int .u64 (dig m), .int .i64 pos, .int .i64 0, .int .i64 (-1)]), (6, .pointer (some ⟨b2, 0, none⟩)), (0, .pointer (some ⟨bs, 0, none⟩)), (1, .int .i64 n), (2, .int .i64 t), (7, .pointer none), (19, .pointer (some ⟨bs, 0, none⟩))]) rfl
    clear h21
    refine nd_op ?_
    refine op_store tabOk {k := 2} (L' := [(bs, ⟨sessC (.pointer (some ⟨bl, 0, none⟩)) m out pos live, 60, true⟩), (bl, ⟨logC lg.base (.slice eo lg.evs.length ec) (.slice mo lg.mks.length mc) (.slice so lg.sns.length sc), 89, true⟩), (b2, ⟨[.int .u8 2, .int .i64 pos, .int .i64 lg.base.idx, .int .i64 (lg.base.idx + (lg.evs.length : Int)), .bool live, .bool out.refused, .int .i8 out.running, .int .u64 out.value, .int .u64 (dig m), .int .i64 pos, .int .i64 0, .int .i64 (-1)], 46, false⟩)]) (φ := b2 = b2 ∧ Nat.ble (0 + 12) 12 = true) h23 rfl rfl rfl (by kernel_rfl) ⟨rfl, rfl⟩ fun w25 h26 => ?_
    clear h23
    refine nd_done ?_
    refine hK19 _ _ ?_
    clear hK19
    refine wp_ret ?_
    have hR : replayR (⟨lg, m, out, pos, live⟩ : Ss) n t = (⟨lg, m, out, pos, live⟩ : Ss).stat 2 := by unfold replayR; simp only [hpn]
    try simp only [Exit.then, Exit.inBlock]
    try rw [if_pos trivial]
    exact s_ret tabOk tabZ_ok h26 [(.cell 6 46, {k := 2})] (vs := [.agg #[.int .u8 2, .int .i64 pos, .int .i64 lg.base.idx, .int .i64 (lg.base.idx + (lg.evs.length : Int)), .bool live, .bool out.refused, .int .i8 out.running, .int .u64 out.value, .int .u64 (dig m), .int .i64 pos, .int .i64 0, .int .i64 (-1)]]) (φ := (b2 = b2 ∧ Nat.ble (0 + 12) 12 = true) ∧ True) rfl (by kernel_rfl) ⟨⟨rfl, rfl⟩, trivial⟩ (by rw [hR]; exact ⟨⟨eo, ec, eF, mo, mc, mF, so, sc, sF⟩, rfl, SessAt.of (h26.kn (k := 0) rfl) (LogAt.of (h26.kn (k := 1) rfl) h26.inv hsep) hne hsm, h26.frame.mono (fun b hb => by cases hb), fun b hb => .inl hb⟩)
  ·
    refine ⟨_, rfl, ?_⟩
    have h27 := (h10.grow hfb).put (d := some 15) (v := .pointer (some ⟨bl, 0, none⟩)) (T' := [(15, .pointer (some ⟨bl, 0, none⟩)), (6, .pointer (some ⟨b2, 0, none⟩)), (0, .pointer (some ⟨bs, 0, none⟩)), (1, .int .i64 n), (2, .int .i64 t), (13, .pointer (some ⟨bl, 0, none⟩)), (14, .int .i64 n)]) rfl
    clear h10
    have hpf := point_facts hwl hpn
    refine nd_batch tabOk tabZ_ok [(6, {})] [6, 0, 1, 2, 7] (T' := [(6, .pointer (some ⟨b2, 0, none⟩)), (0, .pointer (some ⟨bs, 0, none⟩)), (1, .int .i64 n), (2, .int .i64 t), (7, .pointer (some ⟨bl, 0, none⟩))]) (φ := True) (rest := []) h27 (by kernel_rfl) rfl trivial fun a28 h29 => ?_
    clear h27
    refine nd_done ?_
    refine hK8 _ _ ?_
    clear hK8
    refine wp_seq_k fun K30 hK30 => ?_
    refine wp_block ?_
    refine wp_seq_k fun K31 hK31 => ?_
    refine nd_start (l := [0, 1, 2]) rfl ?_
    refine nd_batch tabOk tabZ_ok [(0, {}), (1, {}), (2, {})] [6, 0, 1, 2, 7, 16] (T' := [(6, .pointer (some ⟨b2, 0, none⟩)), (0, .pointer (some ⟨bs, 0, none⟩)), (1, .int .i64 n), (2, .int .i64 t), (7, .pointer (some ⟨bl, 0, none⟩)), (16, .bool false)]) (φ := True) (rest := []) h29 (by kernel_rfl) rfl trivial fun a32 h33 => ?_
    clear h29
    refine nd_done ?_
    refine hK31 _ _ ?_
    clear hK31
    refine c_false h33 rfl ?_
    refine wp_seq_k fun K34 hK34 => ?_
    rcases Bool.eq_false_or_eq_true (decide (t < n)) with hb35 | hb35
    ·
      have hb35f : t < n := by simpa using hb35
      refine nd_start (l := [0, 1, 2, 3, 4, 5, 6, 7, 8, 9, 10, 11, 12]) rfl ?_
      refine nd_batch tabOk tabZ_ok [(0, {}), (1, {}), (2, {f := 2}), (3, {}), (4, {}), (5, {}), (6, {}), (7, {}), (8, {})] [6, 0, 1, 2, 7, 25, 26, 30] (T' := [(6, .pointer (some ⟨b2, 0, none⟩)), (0, .pointer (some ⟨bs, 0, none⟩)), (1, .int .i64 n), (2, .int .i64 t), (7, .pointer (some ⟨bl, 0, none⟩)), (25, .bool true), (26, .tuple #[]), (30, .tuple #[])]) (φ := (decide (t < n)) = true ∧ True) (rest := [9, 10, 11, 12]) h33 (by kernel_rfl) rfl ⟨hb35, trivial⟩ fun a36 h37 => ?_
      clear h33
      refine nd_batch tabOk tabZ_ok [(9, {})] [6, 0, 1, 2, 7, 25, 26, 31] (T' := [(6, .pointer (some ⟨b2, 0, none⟩)), (0, .pointer (some ⟨bs, 0, none⟩)), (1, .int .i64 n), (2, .int .i64 t), (7, .pointer (some ⟨bl, 0, none⟩)), (25, .bool true), (26, .tuple #[]), (31, .tuple #[])]) (φ := True) (rest := [10, 11, 12]) h37 (by kernel_rfl) rfl trivial fun a38 h39 => ?_
      clear h37
      refine nd_batch tabOk tabZ_ok [(10, {}), (11, {}), (12, {})] [6, 0, 1, 2, 7, 21] (T' := [(6, .pointer (some ⟨b2, 0, none⟩)), (0, .pointer (some ⟨bs, 0, none⟩)), (1, .int .i64 n), (2, .int .i64 t), (7, .pointer (some ⟨bl, 0, none⟩)), (21, .bool true)]) (φ := True) (rest := []) h39 (by kernel_rfl) rfl trivial fun a40 h41 => ?_
      clear h39
      refine nd_done ?_
      refine hK34 _ _ ?_
      clear hK34
      refine c_true h41 rfl ?_
      refine wp_seq_k fun K42 hK42 => ?_
      refine nd_start (l := [0, 1, 2]) rfl ?_
      refine nd_batch tabOk tabZ_ok [(0, {})] [6, 0, 1, 2, 7, 34] (T' := [(6, .pointer (some ⟨b2, 0, none⟩)), (0, .pointer (some ⟨bs, 0, none⟩)), (1, .int .i64 n), (2, .int .i64 t), (7, .pointer (some ⟨bl, 0, none⟩)), (34, .pointer (some ⟨bs, 0, none⟩))]) (φ := True) (rest := [1, 2]) h41 (by kernel_rfl) rfl trivial fun a43 h44 => ?_
      clear h41
      refine nd_op ?_
      refine op_call h44 rfl rfl rfl (callOk Tryf.func29 (by decide) rfl) (args := [.pointer (some ⟨bs, 0, none⟩), .int .u8 1]) rfl (status_ok bs bl m hm out pos live lg.base eo lg.evs.length ec (.slice mo lg.mks.length mc) (.slice so lg.sns.length sc) 1 _ true true (h44.kn (k := 0) rfl) (h44.kn (k := 1) rfl) hne (by omega) (by omega) (by omega)) ?_
      rintro _ w45 ⟨rfl, hf47⟩
      refine ⟨_, rfl, ?_⟩
      have h46 := (h44.grow hf47).put (d := some 35) (v := .agg #[.int .u8 1, .int .i64 pos, .int .i64 lg.base.idx, .int .i64 (lg.base.idx + (lg.evs.length : Int)), .bool live, .bool out.refused, .int .i8 out.running, .int .u64 out.value, .int .u64 (dig m), .int .i64 pos, .int .i64 0, .int .i64 (-1)]) (T' := [(35, .agg #[.int .u8 1, .int .i64 pos, .int .i64 lg.base.idx, .int .i64 (lg.base.idx + (lg.evs.length : Int)), .bool live, .bool out.refused, .int .i8 out.running, .int .u64 out.value, .int .u64 (dig m), .int .i64 pos, .int .i64 0, .int .i64 (-1)]), (6, .pointer (some ⟨b2, 0, none⟩)), (0, .pointer (some ⟨bs, 0, none⟩)), (1, .int .i64 n), (2, .int .i64 t), (7, .pointer (some ⟨bl, 0, none⟩)), (34, .pointer (some ⟨bs, 0, none⟩))]) rfl
      clear h44
      refine nd_op ?_
      refine op_store tabOk {k := 2} (L' := [(bs, ⟨sessC (.pointer (some ⟨bl, 0, none⟩)) m out pos live, 60, true⟩), (bl, ⟨logC lg.base (.slice eo lg.evs.length ec) (.slice mo lg.mks.length mc) (.slice so lg.sns.length sc), 89, true⟩), (b2, ⟨[.int .u8 1, .int .i64 pos, .int .i64 lg.base.idx, .int .i64 (lg.base.idx + (lg.evs.length : Int)), .bool live, .bool out.refused, .int .i8 out.running, .int .u64 out.value, .int .u64 (dig m), .int .i64 pos, .int .i64 0, .int .i64 (-1)], 46, false⟩)]) (φ := b2 = b2 ∧ Nat.ble (0 + 12) 12 = true) h46 rfl rfl rfl (by kernel_rfl) ⟨rfl, rfl⟩ fun w48 h49 => ?_
      clear h46
      refine nd_done ?_
      refine hK42 _ _ ?_
      clear hK42
      refine wp_ret ?_
      have hR : replayR (⟨lg, m, out, pos, live⟩ : Ss) n t = (⟨lg, m, out, pos, live⟩ : Ss).stat 1 := by unfold replayR; simp only [hpn]; rw [if_pos (by show t < n ∨ lg.fin < t; omega)]
      try simp only [Exit.then, Exit.inBlock]
      try rw [if_pos trivial]
      exact s_ret tabOk tabZ_ok h49 [(.cell 6 46, {k := 2})] (vs := [.agg #[.int .u8 1, .int .i64 pos, .int .i64 lg.base.idx, .int .i64 (lg.base.idx + (lg.evs.length : Int)), .bool live, .bool out.refused, .int .i8 out.running, .int .u64 out.value, .int .u64 (dig m), .int .i64 pos, .int .i64 0, .int .i64 (-1)]]) (φ := (b2 = b2 ∧ Nat.ble (0 + 12) 12 = true) ∧ True) rfl (by kernel_rfl) ⟨⟨rfl, rfl⟩, trivial⟩ (by rw [hR]; exact ⟨⟨eo, ec, eF, mo, mc, mF, so, sc, sF⟩, rfl, SessAt.of (h49.kn (k := 0) rfl) (LogAt.of (h49.kn (k := 1) rfl) h49.inv hsep) hne hsm, h49.frame.mono (fun b hb => by cases hb), fun b hb => .inl hb⟩)
    ·
      have hb35f : ¬ (t < n) := by simpa using hb35
      refine nd_start (l := [0, 1, 2, 3, 4, 5, 6, 7, 8, 9, 10, 11, 12]) rfl ?_
      refine nd_batch tabOk tabZ_ok [(0, {}), (1, {}), (2, {f := 1}), (3, {}), (4, {}), (5, {}), (6, {}), (7, {}), (8, {k := 0})] [6, 0, 1, 2, 7, 25, 26, 30] (T' := [(6, .pointer (some ⟨b2, 0, none⟩)), (0, .pointer (some ⟨bs, 0, none⟩)), (1, .int .i64 n), (2, .int .i64 t), (7, .pointer (some ⟨bl, 0, none⟩)), (25, .bool false), (26, .int .i64 t), (30, .pointer (some ⟨bl, 0, none⟩))]) (φ := (decide (t < n)) = false ∧ (bs = bs ∧ Nat.ble (0 + 1) 17 = true) ∧ True) (rest := [9, 10, 11, 12]) h33 (by kernel_rfl) rfl ⟨hb35, ⟨rfl, rfl⟩, trivial⟩ fun a50 h51 => ?_
      clear h33
      refine nd_op ?_
      refine op_call h51 rfl rfl rfl (callOk Tryf.func41 (by decide) rfl) (args := [.pointer (some ⟨bl, 0, none⟩)]) rfl (end_ok bl lg.base eo lg.evs.length ec (.slice mo lg.mks.length mc) (.slice so lg.sns.length sc) true _ (h51.kn (k := 1) rfl) hb0 (by omega) (by omega)) ?_
      rintro _ w52 ⟨rfl, hf54⟩
      refine ⟨_, rfl, ?_⟩
      have h53 := (h51.grow hf54).put (d := some 31) (v := .int .i64 (lg.base.idx + (lg.evs.length : Int))) (T' := [(31, .int .i64 (lg.base.idx + (lg.evs.length : Int))), (6, .pointer (some ⟨b2, 0, none⟩)), (0, .pointer (some ⟨bs, 0, none⟩)), (1, .int .i64 n), (2, .int .i64 t), (7, .pointer (some ⟨bl, 0, none⟩)), (25, .bool false), (26, .int .i64 t), (30, .pointer (some ⟨bl, 0, none⟩))]) rfl
      clear h51
      refine nd_batch tabOk tabZ_ok [(10, {}), (11, {}), (12, {})] [6, 0, 1, 2, 7, 21] (T' := [(6, .pointer (some ⟨b2, 0, none⟩)), (0, .pointer (some ⟨bs, 0, none⟩)), (1, .int .i64 n), (2, .int .i64 t), (7, .pointer (some ⟨bl, 0, none⟩)), (21, .bool (decide (t > (lg.base.idx + (lg.evs.length : Int)))))]) (φ := True) (rest := []) h53 (by kernel_rfl) rfl trivial fun a55 h56 => ?_
      clear h53
      refine nd_done ?_
      refine hK34 _ _ ?_
      clear hK34
      refine c_split h56 (b := decide (t > (lg.base.idx + (lg.evs.length : Int)))) rfl (fun hc57 => ?_) (fun hc57 => ?_)
      ·
        have hc57f : t > (lg.base.idx + (lg.evs.length : Int)) := by simpa using hc57
        refine wp_seq_k fun K58 hK58 => ?_
        refine nd_start (l := [0, 1, 2]) rfl ?_
        refine nd_batch tabOk tabZ_ok [(0, {})] [6, 0, 1, 2, 7, 34] (T' := [(6, .pointer (some ⟨b2, 0, none⟩)), (0, .pointer (some ⟨bs, 0, none⟩)), (1, .int .i64 n), (2, .int .i64 t), (7, .pointer (some ⟨bl, 0, none⟩)), (34, .pointer (some ⟨bs, 0, none⟩))]) (φ := True) (rest := [1, 2]) h56 (by kernel_rfl) rfl trivial fun a59 h60 => ?_
        clear h56
        refine nd_op ?_
        refine op_call h60 rfl rfl rfl (callOk Tryf.func29 (by decide) rfl) (args := [.pointer (some ⟨bs, 0, none⟩), .int .u8 1]) rfl (status_ok bs bl m hm out pos live lg.base eo lg.evs.length ec (.slice mo lg.mks.length mc) (.slice so lg.sns.length sc) 1 _ true true (h60.kn (k := 0) rfl) (h60.kn (k := 1) rfl) hne (by omega) (by omega) (by omega)) ?_
        rintro _ w61 ⟨rfl, hf63⟩
        refine ⟨_, rfl, ?_⟩
        have h62 := (h60.grow hf63).put (d := some 35) (v := .agg #[.int .u8 1, .int .i64 pos, .int .i64 lg.base.idx, .int .i64 (lg.base.idx + (lg.evs.length : Int)), .bool live, .bool out.refused, .int .i8 out.running, .int .u64 out.value, .int .u64 (dig m), .int .i64 pos, .int .i64 0, .int .i64 (-1)]) (T' := [(35, .agg #[.int .u8 1, .int .i64 pos, .int .i64 lg.base.idx, .int .i64 (lg.base.idx + (lg.evs.length : Int)), .bool live, .bool out.refused, .int .i8 out.running, .int .u64 out.value, .int .u64 (dig m), .int .i64 pos, .int .i64 0, .int .i64 (-1)]), (6, .pointer (some ⟨b2, 0, none⟩)), (0, .pointer (some ⟨bs, 0, none⟩)), (1, .int .i64 n), (2, .int .i64 t), (7, .pointer (some ⟨bl, 0, none⟩)), (34, .pointer (some ⟨bs, 0, none⟩))]) rfl
        clear h60
        refine nd_op ?_
        refine op_store tabOk {k := 2} (L' := [(bs, ⟨sessC (.pointer (some ⟨bl, 0, none⟩)) m out pos live, 60, true⟩), (bl, ⟨logC lg.base (.slice eo lg.evs.length ec) (.slice mo lg.mks.length mc) (.slice so lg.sns.length sc), 89, true⟩), (b2, ⟨[.int .u8 1, .int .i64 pos, .int .i64 lg.base.idx, .int .i64 (lg.base.idx + (lg.evs.length : Int)), .bool live, .bool out.refused, .int .i8 out.running, .int .u64 out.value, .int .u64 (dig m), .int .i64 pos, .int .i64 0, .int .i64 (-1)], 46, false⟩)]) (φ := b2 = b2 ∧ Nat.ble (0 + 12) 12 = true) h62 rfl rfl rfl (by kernel_rfl) ⟨rfl, rfl⟩ fun w64 h65 => ?_
        clear h62
        refine nd_done ?_
        refine hK58 _ _ ?_
        clear hK58
        refine wp_ret ?_
        have hR : replayR (⟨lg, m, out, pos, live⟩ : Ss) n t = (⟨lg, m, out, pos, live⟩ : Ss).stat 1 := by unfold replayR; simp only [hpn]; rw [if_pos (by show t < n ∨ lg.fin < t; omega)]
        try simp only [Exit.then, Exit.inBlock]
        try rw [if_pos trivial]
        exact s_ret tabOk tabZ_ok h65 [(.cell 6 46, {k := 2})] (vs := [.agg #[.int .u8 1, .int .i64 pos, .int .i64 lg.base.idx, .int .i64 (lg.base.idx + (lg.evs.length : Int)), .bool live, .bool out.refused, .int .i8 out.running, .int .u64 out.value, .int .u64 (dig m), .int .i64 pos, .int .i64 0, .int .i64 (-1)]]) (φ := (b2 = b2 ∧ Nat.ble (0 + 12) 12 = true) ∧ True) rfl (by kernel_rfl) ⟨⟨rfl, rfl⟩, trivial⟩ (by rw [hR]; exact ⟨⟨eo, ec, eF, mo, mc, mF, so, sc, sF⟩, rfl, SessAt.of (h65.kn (k := 0) rfl) (LogAt.of (h65.kn (k := 1) rfl) h65.inv hsep) hne hsm, h65.frame.mono (fun b hb => by cases hb), fun b hb => .inl hb⟩)
      ·
        have hc57f : ¬ t > (lg.base.idx + (lg.evs.length : Int)) := by simpa using hc57
        have hmok2 := runF_ok (seg lg.evs (lg.base.idx - lg.base.idx).toNat (t - lg.base.idx).toNat) (lg.base.st, lg.base.out) hpf.2.2.2 (seg_ok hwl.evs _ _)
        refine wp_skip ?_
        refine hK30 _ _ ?_
        clear hK30
        refine wp_seq_k fun K66 hK66 => ?_
        refine nd_start (l := [0, 1, 2, 3]) rfl ?_
        refine nd_batch tabOk tabZ_ok [(0, {})] [6, 0, 1, 2, 7, 36] (T' := [(6, .pointer (some ⟨b2, 0, none⟩)), (0, .pointer (some ⟨bs, 0, none⟩)), (1, .int .i64 n), (2, .int .i64 t), (7, .pointer (some ⟨bl, 0, none⟩)), (36, .pointer (some ⟨bl, 0, none⟩))]) (φ := True) (rest := [1, 2, 3]) h56 (by kernel_rfl) rfl trivial fun a67 h68 => ?_
        clear h56
        refine nd_op ?_
        refine op_call h68 rfl rfl rfl (callOk Tryf.func42 (by decide) rfl) (args := [.pointer (some ⟨bl, 0, none⟩)]) rfl (startAt_ok bl 0 _ 89 true lg.base _ (h68.kn (k := 1) rfl) (logB_base ⟨eo, ec, eF, mo, mc, mF, so, sc, sF⟩ lg)) ?_
        rintro _ w69 ⟨rfl, hf71⟩
        refine ⟨_, rfl, ?_⟩
        have h70 := (h68.grow hf71).put (d := some 37) (v := .agg #[.int .u64 lg.base.st.now, .int .i8 lg.base.st.cur, .int .u8 lg.base.st.s0, .int .u8 lg.base.st.s1, .int .u8 lg.base.st.s2, .int .u8 lg.base.st.s3, .int .u64 lg.base.st.r0, .int .u64 lg.base.st.r1, .int .u64 lg.base.st.r2, .int .u64 lg.base.st.r3, .int .u64 lg.base.st.word, .bool lg.base.out.refused, .int .i8 lg.base.out.running, .int .u64 lg.base.out.value, .int .i64 lg.base.idx]) (T' := [(37, .agg #[.int .u64 lg.base.st.now, .int .i8 lg.base.st.cur, .int .u8 lg.base.st.s0, .int .u8 lg.base.st.s1, .int .u8 lg.base.st.s2, .int .u8 lg.base.st.s3, .int .u64 lg.base.st.r0, .int .u64 lg.base.st.r1, .int .u64 lg.base.st.r2, .int .u64 lg.base.st.r3, .int .u64 lg.base.st.word, .bool lg.base.out.refused, .int .i8 lg.base.out.running, .int .u64 lg.base.out.value, .int .i64 lg.base.idx]), (6, .pointer (some ⟨b2, 0, none⟩)), (0, .pointer (some ⟨bs, 0, none⟩)), (1, .int .i64 n), (2, .int .i64 t), (7, .pointer (some ⟨bl, 0, none⟩)), (36, .pointer (some ⟨bl, 0, none⟩))]) rfl
        clear h68
        refine nd_op ?_
        refine op_new tabOk (cells := [.int .u64 0, .int .i8 0, .int .u8 0, .int .u8 0, .int .u8 0, .int .u8 0, .int .u64 0, .int .u64 0, .int .u64 0, .int .u64 0, .int .u64 0, .bool false, .int .i8 0, .int .u64 0, .int .i64 0]) (ty := 105) (ln := none) (L1 := fun b72 => [(bs, ⟨sessC (.pointer (some ⟨bl, 0, none⟩)) m out pos live, 60, true⟩), (bl, ⟨logC lg.base (.slice eo lg.evs.length ec) (.slice mo lg.mks.length mc) (.slice so lg.sns.length sc), 89, true⟩), (b2, ⟨[.int .u8 0, .int .i64 0, .int .i64 0, .int .i64 0, .bool false, .bool false, .int .i8 0, .int .u64 0, .int .u64 0, .int .i64 0, .int .i64 0, .int .i64 0], 46, false⟩), (b72, ⟨[.int .u64 0, .int .i8 0, .int .u8 0, .int .u8 0, .int .u8 0, .int .u8 0, .int .u64 0, .int .u64 0, .int .u64 0, .int .u64 0, .int .u64 0, .bool false, .int .i8 0, .int .u64 0, .int .i64 0], 105, false⟩)]) h70 rfl rfl rfl rfl (by kernel_rfl) (fun _ => rfl) fun b72 w73 a74 h75 hf76 hn77 => ?_
        clear h70
        refine nd_op ?_
        refine op_store tabOk {k := 3} (L' := [(bs, ⟨sessC (.pointer (some ⟨bl, 0, none⟩)) m out pos live, 60, true⟩), (bl, ⟨logC lg.base (.slice eo lg.evs.length ec) (.slice mo lg.mks.length mc) (.slice so lg.sns.length sc), 89, true⟩), (b2, ⟨[.int .u8 0, .int .i64 0, .int .i64 0, .int .i64 0, .bool false, .bool false, .int .i8 0, .int .u64 0, .int .u64 0, .int .i64 0, .int .i64 0, .int .i64 0], 46, false⟩), (b72, ⟨[.int .u64 lg.base.st.now, .int .i8 lg.base.st.cur, .int .u8 lg.base.st.s0, .int .u8 lg.base.st.s1, .int .u8 lg.base.st.s2, .int .u8 lg.base.st.s3, .int .u64 lg.base.st.r0, .int .u64 lg.base.st.r1, .int .u64 lg.base.st.r2, .int .u64 lg.base.st.r3, .int .u64 lg.base.st.word, .bool lg.base.out.refused, .int .i8 lg.base.out.running, .int .u64 lg.base.out.value, .int .i64 lg.base.idx], 105, false⟩)]) (φ := b72 = b72 ∧ Nat.ble (0 + 15) 15 = true) h75 rfl rfl rfl (by kernel_rfl) ⟨rfl, rfl⟩ fun w78 h79 => ?_
        clear h75
        refine nd_done ?_
        refine hK66 _ _ ?_
        clear hK66
        refine wp_seq_k fun K80 hK80 => ?_
        refine nd_start (l := [0, 1, 2, 3, 4, 5]) rfl ?_
        refine nd_batch tabOk tabZ_ok [(0, {}), (1, {}), (2, {}), (3, {k := 0}), (4, {})] [8, 6, 0, 1, 2, 7, 41, 42] (T' := [(8, .pointer (some ⟨b72, 0, none⟩)), (6, .pointer (some ⟨b2, 0, none⟩)), (0, .pointer (some ⟨bs, 0, none⟩)), (1, .int .i64 n), (2, .int .i64 t), (7, .pointer (some ⟨bl, 0, none⟩)), (41, .pointer (some ⟨bl, 0, none⟩)), (42, .int .i64 t)]) (φ := (bs = bs ∧ Nat.ble (0 + 1) 17 = true) ∧ True) (rest := [5]) h79 (by kernel_rfl) rfl ⟨⟨rfl, rfl⟩, trivial⟩ fun a81 h82 => ?_
        clear h79
        refine nd_op ?_
        have hp1 := hpf.1
        have hp2 := hpf.2.1
        refine op_call h82 rfl rfl rfl (callOk Tryf.func44 (by decide) rfl) (args := [.pointer (some ⟨b72, 0, none⟩), .pointer (some ⟨bl, 0, none⟩), .int .i64 t]) rfl (run_ok b72 bl ⟨eo, ec, eF, mo, mc, mF, so, sc, sF⟩ lg _ (LogAt.of (d := ⟨eo, ec, eF, mo, mc, mF, so, sc, sF⟩) (h82.kn (k := 1) rfl) h82.inv hsep) lg.base.st lg.base.out lg.base.idx t (lg.base.idx - lg.base.idx).toNat (t - lg.base.idx).toNat (h82.kn (k := 3) rfl) (h82.ne 3 1 rfl rfl rfl) (h82.dj (k := 3) rfl rfl) hwl.evs hpf.2.2.2 (by omega) (by omega) (by omega) (by omega) hb0 (by omega)) ?_
        rintro _ w83 ⟨rfl, hbr, hf85⟩
        refine ⟨_, rfl, ?_⟩
        have h84 := (h82.setBlk (k := 3) rfl rfl hf85 hbr (L' := [(bs, ⟨sessC (.pointer (some ⟨bl, 0, none⟩)) m out pos live, 60, true⟩), (bl, ⟨logC lg.base (.slice eo lg.evs.length ec) (.slice mo lg.mks.length mc) (.slice so lg.sns.length sc), 89, true⟩), (b2, ⟨[.int .u8 0, .int .i64 0, .int .i64 0, .int .i64 0, .bool false, .bool false, .int .i8 0, .int .u64 0, .int .u64 0, .int .i64 0, .int .i64 0, .int .i64 0], 46, false⟩), (b72, ⟨curC ((runF (seg lg.evs (lg.base.idx - lg.base.idx).toNat (t - lg.base.idx).toNat) (lg.base.st, lg.base.out)).1) ((runF (seg lg.evs (lg.base.idx - lg.base.idx).toNat (t - lg.base.idx).toNat) (lg.base.st, lg.base.out)).2) t, 105, false⟩)]) rfl).put (d := some 43) (v := .tuple #[]) (T' := [(43, .tuple #[]), (8, .pointer (some ⟨b72, 0, none⟩)), (6, .pointer (some ⟨b2, 0, none⟩)), (0, .pointer (some ⟨bs, 0, none⟩)), (1, .int .i64 n), (2, .int .i64 t), (7, .pointer (some ⟨bl, 0, none⟩)), (41, .pointer (some ⟨bl, 0, none⟩)), (42, .int .i64 t)]) rfl
        clear h82
        refine nd_done ?_
        refine hK80 _ _ ?_
        clear hK80
        refine wp_seq_k fun K86 hK86 => ?_
        refine nd_start (l := [0, 1, 2, 3]) rfl ?_
        refine nd_batch tabOk tabZ_ok [(0, {})] [8, 6, 0, 1, 2, 7, 44] (T' := [(8, .pointer (some ⟨b72, 0, none⟩)), (6, .pointer (some ⟨b2, 0, none⟩)), (0, .pointer (some ⟨bs, 0, none⟩)), (1, .int .i64 n), (2, .int .i64 t), (7, .pointer (some ⟨bl, 0, none⟩)), (44, .pointer (some ⟨bs, 0, none⟩))]) (φ := True) (rest := [1, 2, 3]) h84 (by kernel_rfl) rfl trivial fun a87 h88 => ?_
        clear h84
        refine nd_op ?_
        refine op_call h88 rfl rfl rfl (callOk Tryf.func29 (by decide) rfl) (args := [.pointer (some ⟨bs, 0, none⟩), .int .u8 0]) rfl (status_ok bs bl m hm out pos live lg.base eo lg.evs.length ec (.slice mo lg.mks.length mc) (.slice so lg.sns.length sc) 0 _ true true (h88.kn (k := 0) rfl) (h88.kn (k := 1) rfl) hne (by omega) (by omega) (by omega)) ?_
        rintro _ w89 ⟨rfl, hf91⟩
        refine ⟨_, rfl, ?_⟩
        have h90 := (h88.grow hf91).put (d := some 45) (v := .agg #[.int .u8 0, .int .i64 pos, .int .i64 lg.base.idx, .int .i64 (lg.base.idx + (lg.evs.length : Int)), .bool live, .bool out.refused, .int .i8 out.running, .int .u64 out.value, .int .u64 (dig m), .int .i64 pos, .int .i64 0, .int .i64 (-1)]) (T' := [(45, .agg #[.int .u8 0, .int .i64 pos, .int .i64 lg.base.idx, .int .i64 (lg.base.idx + (lg.evs.length : Int)), .bool live, .bool out.refused, .int .i8 out.running, .int .u64 out.value, .int .u64 (dig m), .int .i64 pos, .int .i64 0, .int .i64 (-1)]), (8, .pointer (some ⟨b72, 0, none⟩)), (6, .pointer (some ⟨b2, 0, none⟩)), (0, .pointer (some ⟨bs, 0, none⟩)), (1, .int .i64 n), (2, .int .i64 t), (7, .pointer (some ⟨bl, 0, none⟩)), (44, .pointer (some ⟨bs, 0, none⟩))]) rfl
        clear h88
        refine nd_op ?_
        refine op_new tabOk (cells := [.int .u8 0, .int .i64 0, .int .i64 0, .int .i64 0, .bool false, .bool false, .int .i8 0, .int .u64 0, .int .u64 0, .int .i64 0, .int .i64 0, .int .i64 0]) (ty := 46) (ln := none) (L1 := fun b92 => [(bs, ⟨sessC (.pointer (some ⟨bl, 0, none⟩)) m out pos live, 60, true⟩), (bl, ⟨logC lg.base (.slice eo lg.evs.length ec) (.slice mo lg.mks.length mc) (.slice so lg.sns.length sc), 89, true⟩), (b2, ⟨[.int .u8 0, .int .i64 0, .int .i64 0, .int .i64 0, .bool false, .bool false, .int .i8 0, .int .u64 0, .int .u64 0, .int .i64 0, .int .i64 0, .int .i64 0], 46, false⟩), (b72, ⟨curC ((runF (seg lg.evs (lg.base.idx - lg.base.idx).toNat (t - lg.base.idx).toNat) (lg.base.st, lg.base.out)).1) ((runF (seg lg.evs (lg.base.idx - lg.base.idx).toNat (t - lg.base.idx).toNat) (lg.base.st, lg.base.out)).2) t, 105, false⟩), (b92, ⟨[.int .u8 0, .int .i64 0, .int .i64 0, .int .i64 0, .bool false, .bool false, .int .i8 0, .int .u64 0, .int .u64 0, .int .i64 0, .int .i64 0, .int .i64 0], 46, false⟩)]) h90 rfl rfl rfl rfl (by kernel_rfl) (fun _ => rfl) fun b92 w93 a94 h95 hf96 hn97 => ?_
        clear h90
        refine nd_op ?_
        refine op_store tabOk {k := 4} (L' := [(bs, ⟨sessC (.pointer (some ⟨bl, 0, none⟩)) m out pos live, 60, true⟩), (bl, ⟨logC lg.base (.slice eo lg.evs.length ec) (.slice mo lg.mks.length mc) (.slice so lg.sns.length sc), 89, true⟩), (b2, ⟨[.int .u8 0, .int .i64 0, .int .i64 0, .int .i64 0, .bool false, .bool false, .int .i8 0, .int .u64 0, .int .u64 0, .int .i64 0, .int .i64 0, .int .i64 0], 46, false⟩), (b72, ⟨curC ((runF (seg lg.evs (lg.base.idx - lg.base.idx).toNat (t - lg.base.idx).toNat) (lg.base.st, lg.base.out)).1) ((runF (seg lg.evs (lg.base.idx - lg.base.idx).toNat (t - lg.base.idx).toNat) (lg.base.st, lg.base.out)).2) t, 105, false⟩), (b92, ⟨[.int .u8 0, .int .i64 pos, .int .i64 lg.base.idx, .int .i64 (lg.base.idx + (lg.evs.length : Int)), .bool live, .bool out.refused, .int .i8 out.running, .int .u64 out.value, .int .u64 (dig m), .int .i64 pos, .int .i64 0, .int .i64 (-1)], 46, false⟩)]) (φ := b92 = b92 ∧ Nat.ble (0 + 12) 12 = true) h95 rfl rfl rfl (by kernel_rfl) ⟨rfl, rfl⟩ fun w98 h99 => ?_
        clear h95
        refine nd_done ?_
        refine hK86 _ _ ?_
        clear hK86
        refine wp_seq_k fun K100 hK100 => ?_
        refine dr_start (KB := [bs, bl, b2, b72, b92]) (Bi := [[0, 1, 2, 3, 4], [0, 1, 2, 3, 4], [0, 1, 2, 3, 4], [3], [0, 1, 2, 3, 4], [0, 1, 2, 3, 4], [0, 1, 2, 3, 4], [0, 1, 2, 3, 4], [0, 1, 2, 3, 4], [], [0, 1, 2, 3, 4], [], [0, 1, 2, 3, 4], [], [0, 1, 2, 3, 4], []]) mixed h99 fun w101 h102 => ?_
        clear h99
        refine dr_batch tabOk tabZ_ok (by repeat (first | exact PF.body | with_reducible apply PF.inB | with_reducible apply PF.next)) [(0, {}), (1, {k := 3, p := 3}), (2, {}), (4, {}), (5, {}), (6, {}), (7, {}), (8, {})] [9, 8, 6, 0, 1, 2, 7, 47, 48, 50, 53, 54] (T' := [(9, .pointer (some ⟨b92, 0, none⟩)), (8, .pointer (some ⟨b72, 0, none⟩)), (6, .pointer (some ⟨b2, 0, none⟩)), (0, .pointer (some ⟨bs, 0, none⟩)), (1, .int .i64 n), (2, .int .i64 t), (7, .pointer (some ⟨bl, 0, none⟩)), (47, .agg #[.bool ((runF (seg lg.evs (lg.base.idx - lg.base.idx).toNat (t - lg.base.idx).toNat) (lg.base.st, lg.base.out)).2.refused), .int .i8 ((runF (seg lg.evs (lg.base.idx - lg.base.idx).toNat (t - lg.base.idx).toNat) (lg.base.st, lg.base.out)).2.running), .int .u64 ((runF (seg lg.evs (lg.base.idx - lg.base.idx).toNat (t - lg.base.idx).toNat) (lg.base.st, lg.base.out)).2.value)]), (48, .pointer (some ⟨b72, 0, none⟩)), (50, .int .i64 n), (53, .int .i64 (t - n)), (54, .pointer (some ⟨b92, 5, none⟩))]) (φ := (b72 = b72 ∧ Nat.ble (11 + 3) 15 = true) ∧ inR .i64 (t - n) ∧ True) (fuel := 8) h102 (by kernel_rfl) rfl (by kernel_rfl) (by kernel_rfl) ⟨trivial, rfl, trivial, trivial, trivial, trivial, trivial, trivial, trivial⟩ ⟨⟨rfl, rfl⟩, ⟨by have := hpf.1; have := hpf.2.1; omega, by have := hpf.1; have := hpf.2.1; omega⟩, trivial⟩ fun a104 h105 => ?_
        clear h102
        refine wpAnyK_one (i := 3) (fuel := 7) (by kernel_rfl) ?_
        refine op_call h105 rfl rfl rfl (callOk Tryf.func51 (by decide) rfl) (args := [.pointer (some ⟨b72, 0, none⟩)]) rfl (digest_ok [] (outC (runF (seg lg.evs (lg.base.idx - lg.base.idx).toNat (t - lg.base.idx).toNat) (lg.base.st, lg.base.out)).2 ++ [.int .i64 t]) (runF (seg lg.evs (lg.base.idx - lg.base.idx).toNat (t - lg.base.idx).toNat) (lg.base.st, lg.base.out)).1 hmok2 b72 105 false _ (h105.kn (k := 3) rfl)) ?_
        rintro _ w106 ⟨rfl, hf108⟩
        refine ⟨_, rfl, ?_⟩
        have h107 := (h105.grow hf108).put (d := some 49) (v := .int .u64 (dig (runF (seg lg.evs (lg.base.idx - lg.base.idx).toNat (t - lg.base.idx).toNat) (lg.base.st, lg.base.out)).1)) (T' := [(49, .int .u64 (dig (runF (seg lg.evs (lg.base.idx - lg.base.idx).toNat (t - lg.base.idx).toNat) (lg.base.st, lg.base.out)).1)), (9, .pointer (some ⟨b92, 0, none⟩)), (8, .pointer (some ⟨b72, 0, none⟩)), (6, .pointer (some ⟨b2, 0, none⟩)), (0, .pointer (some ⟨bs, 0, none⟩)), (1, .int .i64 n), (2, .int .i64 t), (7, .pointer (some ⟨bl, 0, none⟩)), (47, .agg #[.bool ((runF (seg lg.evs (lg.base.idx - lg.base.idx).toNat (t - lg.base.idx).toNat) (lg.base.st, lg.base.out)).2.refused), .int .i8 ((runF (seg lg.evs (lg.base.idx - lg.base.idx).toNat (t - lg.base.idx).toNat) (lg.base.st, lg.base.out)).2.running), .int .u64 ((runF (seg lg.evs (lg.base.idx - lg.base.idx).toNat (t - lg.base.idx).toNat) (lg.base.st, lg.base.out)).2.value)]), (48, .pointer (some ⟨b72, 0, none⟩)), (50, .int .i64 n), (53, .int .i64 (t - n)), (54, .pointer (some ⟨b92, 5, none⟩))]) rfl
        refine ⟨(h105.keepFr hf108 (kcons (by simp) knil)), ?_⟩
        clear h105
        refine wpAnyK_one (i := 9) (fuel := 6) (by kernel_rfl) ?_
        refine op_store tabOk {k := 4} (L' := [(bs, ⟨sessC (.pointer (some ⟨bl, 0, none⟩)) m out pos live, 60, true⟩), (bl, ⟨logC lg.base (.slice eo lg.evs.length ec) (.slice mo lg.mks.length mc) (.slice so lg.sns.length sc), 89, true⟩), (b2, ⟨[.int .u8 0, .int .i64 0, .int .i64 0, .int .i64 0, .bool false, .bool false, .int .i8 0, .int .u64 0, .int .u64 0, .int .i64 0, .int .i64 0, .int .i64 0], 46, false⟩), (b72, ⟨curC ((runF (seg lg.evs (lg.base.idx - lg.base.idx).toNat (t - lg.base.idx).toNat) (lg.base.st, lg.base.out)).1) ((runF (seg lg.evs (lg.base.idx - lg.base.idx).toNat (t - lg.base.idx).toNat) (lg.base.st, lg.base.out)).2) t, 105, false⟩), (b92, ⟨[.int .u8 0, .int .i64 pos, .int .i64 lg.base.idx, .int .i64 (lg.base.idx + (lg.evs.length : Int)), .bool live, .bool ((runF (seg lg.evs (lg.base.idx - lg.base.idx).toNat (t - lg.base.idx).toNat) (lg.base.st, lg.base.out)).2.refused), .int .i8 ((runF (seg lg.evs (lg.base.idx - lg.base.idx).toNat (t - lg.base.idx).toNat) (lg.base.st, lg.base.out)).2.running), .int .u64 ((runF (seg lg.evs (lg.base.idx - lg.base.idx).toNat (t - lg.base.idx).toNat) (lg.base.st, lg.base.out)).2.value), .int .u64 (dig m), .int .i64 pos, .int .i64 0, .int .i64 (-1)], 46, false⟩)]) (φ := b92 = b92 ∧ Nat.ble (5 + 3) 12 = true) h107 rfl rfl rfl (by kernel_rfl) ⟨rfl, rfl⟩ fun w109 h110 => ?_
        have hkh110 := h107.known
        refine ⟨keepNil, ?_⟩
        clear h107
        refine dr_batch tabOk tabZ_ok (by repeat (first | exact PF.body | with_reducible apply PF.inB | with_reducible apply PF.next)) [(10, {})] [49, 9, 8, 6, 0, 1, 2, 7, 50, 53, 55] (T' := [(49, .int .u64 (dig (runF (seg lg.evs (lg.base.idx - lg.base.idx).toNat (t - lg.base.idx).toNat) (lg.base.st, lg.base.out)).1)), (9, .pointer (some ⟨b92, 0, none⟩)), (8, .pointer (some ⟨b72, 0, none⟩)), (6, .pointer (some ⟨b2, 0, none⟩)), (0, .pointer (some ⟨bs, 0, none⟩)), (1, .int .i64 n), (2, .int .i64 t), (7, .pointer (some ⟨bl, 0, none⟩)), (50, .int .i64 n), (53, .int .i64 (t - n)), (55, .pointer (some ⟨b92, 8, none⟩))]) (φ := True) (fuel := 5) h110 (by kernel_rfl) rfl (by kernel_rfl) (by kernel_rfl) ⟨trivial, trivial⟩ trivial fun a111 h112 => ?_
        clear h110
        refine wpAnyK_one (i := 11) (fuel := 4) (by kernel_rfl) ?_
        refine op_store tabOk {k := 4} (L' := [(bs, ⟨sessC (.pointer (some ⟨bl, 0, none⟩)) m out pos live, 60, true⟩), (bl, ⟨logC lg.base (.slice eo lg.evs.length ec) (.slice mo lg.mks.length mc) (.slice so lg.sns.length sc), 89, true⟩), (b2, ⟨[.int .u8 0, .int .i64 0, .int .i64 0, .int .i64 0, .bool false, .bool false, .int .i8 0, .int .u64 0, .int .u64 0, .int .i64 0, .int .i64 0, .int .i64 0], 46, false⟩), (b72, ⟨curC ((runF (seg lg.evs (lg.base.idx - lg.base.idx).toNat (t - lg.base.idx).toNat) (lg.base.st, lg.base.out)).1) ((runF (seg lg.evs (lg.base.idx - lg.base.idx).toNat (t - lg.base.idx).toNat) (lg.base.st, lg.base.out)).2) t, 105, false⟩), (b92, ⟨[.int .u8 0, .int .i64 pos, .int .i64 lg.base.idx, .int .i64 (lg.base.idx + (lg.evs.length : Int)), .bool live, .bool ((runF (seg lg.evs (lg.base.idx - lg.base.idx).toNat (t - lg.base.idx).toNat) (lg.base.st, lg.base.out)).2.refused), .int .i8 ((runF (seg lg.evs (lg.base.idx - lg.base.idx).toNat (t - lg.base.idx).toNat) (lg.base.st, lg.base.out)).2.running), .int .u64 ((runF (seg lg.evs (lg.base.idx - lg.base.idx).toNat (t - lg.base.idx).toNat) (lg.base.st, lg.base.out)).2.value), .int .u64 (dig (runF (seg lg.evs (lg.base.idx - lg.base.idx).toNat (t - lg.base.idx).toNat) (lg.base.st, lg.base.out)).1), .int .i64 pos, .int .i64 0, .int .i64 (-1)], 46, false⟩)]) (φ := b92 = b92 ∧ Nat.ble (8 + 1) 12 = true) h112 rfl rfl rfl (by kernel_rfl) ⟨rfl, rfl⟩ fun w113 h114 => ?_
        have hkh114 := h112.known
        refine ⟨keepNil, ?_⟩
        clear h112
        refine dr_batch tabOk tabZ_ok (by repeat (first | exact PF.body | with_reducible apply PF.inB | with_reducible apply PF.next)) [(12, {})] [9, 8, 6, 0, 1, 2, 7, 50, 53, 56] (T' := [(9, .pointer (some ⟨b92, 0, none⟩)), (8, .pointer (some ⟨b72, 0, none⟩)), (6, .pointer (some ⟨b2, 0, none⟩)), (0, .pointer (some ⟨bs, 0, none⟩)), (1, .int .i64 n), (2, .int .i64 t), (7, .pointer (some ⟨bl, 0, none⟩)), (50, .int .i64 n), (53, .int .i64 (t - n)), (56, .pointer (some ⟨b92, 9, none⟩))]) (φ := True) (fuel := 3) h114 (by kernel_rfl) rfl (by kernel_rfl) (by kernel_rfl) ⟨trivial, trivial⟩ trivial fun a115 h116 => ?_
        clear h114
        refine wpAnyK_one (i := 13) (fuel := 2) (by kernel_rfl) ?_
        refine op_store tabOk {k := 4} (L' := [(bs, ⟨sessC (.pointer (some ⟨bl, 0, none⟩)) m out pos live, 60, true⟩), (bl, ⟨logC lg.base (.slice eo lg.evs.length ec) (.slice mo lg.mks.length mc) (.slice so lg.sns.length sc), 89, true⟩), (b2, ⟨[.int .u8 0, .int .i64 0, .int .i64 0, .int .i64 0, .bool false, .bool false, .int .i8 0, .int .u64 0, .int .u64 0, .int .i64 0, .int .i64 0, .int .i64 0], 46, false⟩), (b72, ⟨curC ((runF (seg lg.evs (lg.base.idx - lg.base.idx).toNat (t - lg.base.idx).toNat) (lg.base.st, lg.base.out)).1) ((runF (seg lg.evs (lg.base.idx - lg.base.idx).toNat (t - lg.base.idx).toNat) (lg.base.st, lg.base.out)).2) t, 105, false⟩), (b92, ⟨[.int .u8 0, .int .i64 pos, .int .i64 lg.base.idx, .int .i64 (lg.base.idx + (lg.evs.length : Int)), .bool live, .bool ((runF (seg lg.evs (lg.base.idx - lg.base.idx).toNat (t - lg.base.idx).toNat) (lg.base.st, lg.base.out)).2.refused), .int .i8 ((runF (seg lg.evs (lg.base.idx - lg.base.idx).toNat (t - lg.base.idx).toNat) (lg.base.st, lg.base.out)).2.running), .int .u64 ((runF (seg lg.evs (lg.base.idx - lg.base.idx).toNat (t - lg.base.idx).toNat) (lg.base.st, lg.base.out)).2.value), .int .u64 (dig (runF (seg lg.evs (lg.base.idx - lg.base.idx).toNat (t - lg.base.idx).toNat) (lg.base.st, lg.base.out)).1), .int .i64 n, .int .i64 0, .int .i64 (-1)], 46, false⟩)]) (φ := b92 = b92 ∧ Nat.ble (9 + 1) 12 = true) h116 rfl rfl rfl (by kernel_rfl) ⟨rfl, rfl⟩ fun w117 h118 => ?_
        have hkh118 := h116.known
        refine ⟨keepNil, ?_⟩
        clear h116
        refine dr_batch tabOk tabZ_ok (by repeat (first | exact PF.body | with_reducible apply PF.inB | with_reducible apply PF.next)) [(14, {})] [9, 8, 6, 0, 1, 2, 7, 53, 57] (T' := [(9, .pointer (some ⟨b92, 0, none⟩)), (8, .pointer (some ⟨b72, 0, none⟩)), (6, .pointer (some ⟨b2, 0, none⟩)), (0, .pointer (some ⟨bs, 0, none⟩)), (1, .int .i64 n), (2, .int .i64 t), (7, .pointer (some ⟨bl, 0, none⟩)), (53, .int .i64 (t - n)), (57, .pointer (some ⟨b92, 10, none⟩))]) (φ := True) (fuel := 1) h118 (by kernel_rfl) rfl (by kernel_rfl) (by kernel_rfl) ⟨trivial, trivial⟩ trivial fun a119 h120 => ?_
        clear h118
        refine wpAnyK_one (i := 15) (fuel := 0) (by kernel_rfl) ?_
        refine op_store tabOk {k := 4} (L' := [(bs, ⟨sessC (.pointer (some ⟨bl, 0, none⟩)) m out pos live, 60, true⟩), (bl, ⟨logC lg.base (.slice eo lg.evs.length ec) (.slice mo lg.mks.length mc) (.slice so lg.sns.length sc), 89, true⟩), (b2, ⟨[.int .u8 0, .int .i64 0, .int .i64 0, .int .i64 0, .bool false, .bool false, .int .i8 0, .int .u64 0, .int .u64 0, .int .i64 0, .int .i64 0, .int .i64 0], 46, false⟩), (b72, ⟨curC ((runF (seg lg.evs (lg.base.idx - lg.base.idx).toNat (t - lg.base.idx).toNat) (lg.base.st, lg.base.out)).1) ((runF (seg lg.evs (lg.base.idx - lg.base.idx).toNat (t - lg.base.idx).toNat) (lg.base.st, lg.base.out)).2) t, 105, false⟩), (b92, ⟨[.int .u8 0, .int .i64 pos, .int .i64 lg.base.idx, .int .i64 (lg.base.idx + (lg.evs.length : Int)), .bool live, .bool ((runF (seg lg.evs (lg.base.idx - lg.base.idx).toNat (t - lg.base.idx).toNat) (lg.base.st, lg.base.out)).2.refused), .int .i8 ((runF (seg lg.evs (lg.base.idx - lg.base.idx).toNat (t - lg.base.idx).toNat) (lg.base.st, lg.base.out)).2.running), .int .u64 ((runF (seg lg.evs (lg.base.idx - lg.base.idx).toNat (t - lg.base.idx).toNat) (lg.base.st, lg.base.out)).2.value), .int .u64 (dig (runF (seg lg.evs (lg.base.idx - lg.base.idx).toNat (t - lg.base.idx).toNat) (lg.base.st, lg.base.out)).1), .int .i64 n, .int .i64 (t - n), .int .i64 (-1)], 46, false⟩)]) (φ := b92 = b92 ∧ Nat.ble (10 + 1) 12 = true) h120 rfl rfl rfl (by kernel_rfl) ⟨rfl, rfl⟩ fun w121 h122 => ?_
        have hkh122 := h120.known
        refine ⟨keepNil, ?_⟩
        clear h120
        refine wpAnyK_done (by kernel_rfl) ?_ _
        refine hK100 _ _ ?_
        clear hK100
        refine wp_seq_k fun K123 hK123 => ?_
        refine nd_start (l := [0, 1]) rfl ?_
        refine nd_batch tabOk tabZ_ok [(0, {k := 4})] [9, 8, 6, 0, 1, 2, 7, 58] (T' := [(9, .pointer (some ⟨b92, 0, none⟩)), (8, .pointer (some ⟨b72, 0, none⟩)), (6, .pointer (some ⟨b2, 0, none⟩)), (0, .pointer (some ⟨bs, 0, none⟩)), (1, .int .i64 n), (2, .int .i64 t), (7, .pointer (some ⟨bl, 0, none⟩)), (58, .agg #[.int .u8 0, .int .i64 pos, .int .i64 lg.base.idx, .int .i64 (lg.base.idx + (lg.evs.length : Int)), .bool live, .bool ((runF (seg lg.evs (lg.base.idx - lg.base.idx).toNat (t - lg.base.idx).toNat) (lg.base.st, lg.base.out)).2.refused), .int .i8 ((runF (seg lg.evs (lg.base.idx - lg.base.idx).toNat (t - lg.base.idx).toNat) (lg.base.st, lg.base.out)).2.running), .int .u64 ((runF (seg lg.evs (lg.base.idx - lg.base.idx).toNat (t - lg.base.idx).toNat) (lg.base.st, lg.base.out)).2.value), .int .u64 (dig (runF (seg lg.evs (lg.base.idx - lg.base.idx).toNat (t - lg.base.idx).toNat) (lg.base.st, lg.base.out)).1), .int .i64 n, .int .i64 (t - n), .int .i64 (-1)])]) (φ := (b92 = b92 ∧ Nat.ble (0 + 12) 12 = true) ∧ True) (rest := [1]) h122 (by kernel_rfl) rfl ⟨⟨rfl, rfl⟩, trivial⟩ fun a124 h125 => ?_
        clear h122
        refine nd_op ?_
        refine op_store tabOk {k := 2} (L' := [(bs, ⟨sessC (.pointer (some ⟨bl, 0, none⟩)) m out pos live, 60, true⟩), (bl, ⟨logC lg.base (.slice eo lg.evs.length ec) (.slice mo lg.mks.length mc) (.slice so lg.sns.length sc), 89, true⟩), (b2, ⟨[.int .u8 0, .int .i64 pos, .int .i64 lg.base.idx, .int .i64 (lg.base.idx + (lg.evs.length : Int)), .bool live, .bool ((runF (seg lg.evs (lg.base.idx - lg.base.idx).toNat (t - lg.base.idx).toNat) (lg.base.st, lg.base.out)).2.refused), .int .i8 ((runF (seg lg.evs (lg.base.idx - lg.base.idx).toNat (t - lg.base.idx).toNat) (lg.base.st, lg.base.out)).2.running), .int .u64 ((runF (seg lg.evs (lg.base.idx - lg.base.idx).toNat (t - lg.base.idx).toNat) (lg.base.st, lg.base.out)).2.value), .int .u64 (dig (runF (seg lg.evs (lg.base.idx - lg.base.idx).toNat (t - lg.base.idx).toNat) (lg.base.st, lg.base.out)).1), .int .i64 n, .int .i64 (t - n), .int .i64 (-1)], 46, false⟩), (b72, ⟨curC ((runF (seg lg.evs (lg.base.idx - lg.base.idx).toNat (t - lg.base.idx).toNat) (lg.base.st, lg.base.out)).1) ((runF (seg lg.evs (lg.base.idx - lg.base.idx).toNat (t - lg.base.idx).toNat) (lg.base.st, lg.base.out)).2) t, 105, false⟩), (b92, ⟨[.int .u8 0, .int .i64 pos, .int .i64 lg.base.idx, .int .i64 (lg.base.idx + (lg.evs.length : Int)), .bool live, .bool ((runF (seg lg.evs (lg.base.idx - lg.base.idx).toNat (t - lg.base.idx).toNat) (lg.base.st, lg.base.out)).2.refused), .int .i8 ((runF (seg lg.evs (lg.base.idx - lg.base.idx).toNat (t - lg.base.idx).toNat) (lg.base.st, lg.base.out)).2.running), .int .u64 ((runF (seg lg.evs (lg.base.idx - lg.base.idx).toNat (t - lg.base.idx).toNat) (lg.base.st, lg.base.out)).2.value), .int .u64 (dig (runF (seg lg.evs (lg.base.idx - lg.base.idx).toNat (t - lg.base.idx).toNat) (lg.base.st, lg.base.out)).1), .int .i64 n, .int .i64 (t - n), .int .i64 (-1)], 46, false⟩)]) (φ := b2 = b2 ∧ Nat.ble (0 + 12) 12 = true) h125 rfl rfl rfl (by kernel_rfl) ⟨rfl, rfl⟩ fun w126 h127 => ?_
        clear h125
        refine nd_done ?_
        refine hK123 _ _ ?_
        clear hK123
        refine wp_ret ?_
        have hR : replayR (⟨lg, m, out, pos, live⟩ : Ss) n t = { (⟨lg, m, out, pos, live⟩ : Ss).stat 0 with out := (lg.run (lg.base.st, lg.base.out) lg.base.idx t).2, dig := dig (lg.run (lg.base.st, lg.base.out) lg.base.idx t).1, from_ := n, replayed := t - n } := by unfold replayR; simp only [hpn]; rw [if_neg (by show ¬ (t < n ∨ lg.fin < t); omega)]
        try simp only [Exit.then, Exit.inBlock]
        try rw [if_pos trivial]
        exact s_ret tabOk tabZ_ok h127 [(.cell 6 46, {k := 2})] (vs := [.agg #[.int .u8 0, .int .i64 pos, .int .i64 lg.base.idx, .int .i64 (lg.base.idx + (lg.evs.length : Int)), .bool live, .bool ((runF (seg lg.evs (lg.base.idx - lg.base.idx).toNat (t - lg.base.idx).toNat) (lg.base.st, lg.base.out)).2.refused), .int .i8 ((runF (seg lg.evs (lg.base.idx - lg.base.idx).toNat (t - lg.base.idx).toNat) (lg.base.st, lg.base.out)).2.running), .int .u64 ((runF (seg lg.evs (lg.base.idx - lg.base.idx).toNat (t - lg.base.idx).toNat) (lg.base.st, lg.base.out)).2.value), .int .u64 (dig (runF (seg lg.evs (lg.base.idx - lg.base.idx).toNat (t - lg.base.idx).toNat) (lg.base.st, lg.base.out)).1), .int .i64 n, .int .i64 (t - n), .int .i64 (-1)]]) (φ := (b2 = b2 ∧ Nat.ble (0 + 12) 12 = true) ∧ True) rfl (by kernel_rfl) ⟨⟨rfl, rfl⟩, trivial⟩ (by rw [hR]; exact ⟨⟨eo, ec, eF, mo, mc, mF, so, sc, sF⟩, rfl, SessAt.of (h127.kn (k := 0) rfl) (LogAt.of (h127.kn (k := 1) rfl) h127.inv hsep) hne hsm, h127.frame.mono (fun b hb => by cases hb), fun b hb => .inl hb⟩)
  ·
    refine ⟨_, rfl, ?_⟩
    have h128 := (h10.grow hfb).put (d := some 15) (v := .pointer (some ⟨b, off, none⟩)) (T' := [(15, .pointer (some ⟨b, off, none⟩)), (6, .pointer (some ⟨b2, 0, none⟩)), (0, .pointer (some ⟨bs, 0, none⟩)), (1, .int .i64 n), (2, .int .i64 t), (13, .pointer (some ⟨bl, 0, none⟩)), (14, .int .i64 n)]) rfl
    clear h10
    have hpf := point_facts hwl hpn
    refine nd_batch tabOk tabZ_ok [(6, {})] [6, 0, 1, 2, 7] (T' := [(6, .pointer (some ⟨b2, 0, none⟩)), (0, .pointer (some ⟨bs, 0, none⟩)), (1, .int .i64 n), (2, .int .i64 t), (7, .pointer (some ⟨b, off, none⟩))]) (φ := True) (rest := []) h128 (by kernel_rfl) rfl trivial fun a129 h130 => ?_
    clear h128
    refine nd_done ?_
    refine hK8 _ _ ?_
    clear hK8
    refine wp_seq_k fun K131 hK131 => ?_
    refine wp_block ?_
    refine wp_seq_k fun K132 hK132 => ?_
    refine nd_start (l := [0, 1, 2]) rfl ?_
    refine nd_batch tabOk tabZ_ok [(0, {}), (1, {}), (2, {})] [6, 0, 1, 2, 7, 16] (T' := [(6, .pointer (some ⟨b2, 0, none⟩)), (0, .pointer (some ⟨bs, 0, none⟩)), (1, .int .i64 n), (2, .int .i64 t), (7, .pointer (some ⟨b, off, none⟩)), (16, .bool false)]) (φ := True) (rest := []) h130 (by kernel_rfl) rfl trivial fun a133 h134 => ?_
    clear h130
    refine nd_done ?_
    refine hK132 _ _ ?_
    clear hK132
    refine c_false h134 rfl ?_
    refine wp_seq_k fun K135 hK135 => ?_
    rcases Bool.eq_false_or_eq_true (decide (t < n)) with hb136 | hb136
    ·
      have hb136f : t < n := by simpa using hb136
      refine nd_start (l := [0, 1, 2, 3, 4, 5, 6, 7, 8, 9, 10, 11, 12]) rfl ?_
      refine nd_batch tabOk tabZ_ok [(0, {}), (1, {}), (2, {f := 2}), (3, {}), (4, {}), (5, {}), (6, {}), (7, {}), (8, {})] [6, 0, 1, 2, 7, 25, 26, 30] (T' := [(6, .pointer (some ⟨b2, 0, none⟩)), (0, .pointer (some ⟨bs, 0, none⟩)), (1, .int .i64 n), (2, .int .i64 t), (7, .pointer (some ⟨b, off, none⟩)), (25, .bool true), (26, .tuple #[]), (30, .tuple #[])]) (φ := (decide (t < n)) = true ∧ True) (rest := [9, 10, 11, 12]) h134 (by kernel_rfl) rfl ⟨hb136, trivial⟩ fun a137 h138 => ?_
      clear h134
      refine nd_batch tabOk tabZ_ok [(9, {})] [6, 0, 1, 2, 7, 25, 26, 31] (T' := [(6, .pointer (some ⟨b2, 0, none⟩)), (0, .pointer (some ⟨bs, 0, none⟩)), (1, .int .i64 n), (2, .int .i64 t), (7, .pointer (some ⟨b, off, none⟩)), (25, .bool true), (26, .tuple #[]), (31, .tuple #[])]) (φ := True) (rest := [10, 11, 12]) h138 (by kernel_rfl) rfl trivial fun a139 h140 => ?_
      clear h138
      refine nd_batch tabOk tabZ_ok [(10, {}), (11, {}), (12, {})] [6, 0, 1, 2, 7, 21] (T' := [(6, .pointer (some ⟨b2, 0, none⟩)), (0, .pointer (some ⟨bs, 0, none⟩)), (1, .int .i64 n), (2, .int .i64 t), (7, .pointer (some ⟨b, off, none⟩)), (21, .bool true)]) (φ := True) (rest := []) h140 (by kernel_rfl) rfl trivial fun a141 h142 => ?_
      clear h140
      refine nd_done ?_
      refine hK135 _ _ ?_
      clear hK135
      refine c_true h142 rfl ?_
      refine wp_seq_k fun K143 hK143 => ?_
      refine nd_start (l := [0, 1, 2]) rfl ?_
      refine nd_batch tabOk tabZ_ok [(0, {})] [6, 0, 1, 2, 7, 34] (T' := [(6, .pointer (some ⟨b2, 0, none⟩)), (0, .pointer (some ⟨bs, 0, none⟩)), (1, .int .i64 n), (2, .int .i64 t), (7, .pointer (some ⟨b, off, none⟩)), (34, .pointer (some ⟨bs, 0, none⟩))]) (φ := True) (rest := [1, 2]) h142 (by kernel_rfl) rfl trivial fun a144 h145 => ?_
      clear h142
      refine nd_op ?_
      refine op_call h145 rfl rfl rfl (callOk Tryf.func29 (by decide) rfl) (args := [.pointer (some ⟨bs, 0, none⟩), .int .u8 1]) rfl (status_ok bs bl m hm out pos live lg.base eo lg.evs.length ec (.slice mo lg.mks.length mc) (.slice so lg.sns.length sc) 1 _ true true (h145.kn (k := 0) rfl) (h145.kn (k := 1) rfl) hne (by omega) (by omega) (by omega)) ?_
      rintro _ w146 ⟨rfl, hf148⟩
      refine ⟨_, rfl, ?_⟩
      have h147 := (h145.grow hf148).put (d := some 35) (v := .agg #[.int .u8 1, .int .i64 pos, .int .i64 lg.base.idx, .int .i64 (lg.base.idx + (lg.evs.length : Int)), .bool live, .bool out.refused, .int .i8 out.running, .int .u64 out.value, .int .u64 (dig m), .int .i64 pos, .int .i64 0, .int .i64 (-1)]) (T' := [(35, .agg #[.int .u8 1, .int .i64 pos, .int .i64 lg.base.idx, .int .i64 (lg.base.idx + (lg.evs.length : Int)), .bool live, .bool out.refused, .int .i8 out.running, .int .u64 out.value, .int .u64 (dig m), .int .i64 pos, .int .i64 0, .int .i64 (-1)]), (6, .pointer (some ⟨b2, 0, none⟩)), (0, .pointer (some ⟨bs, 0, none⟩)), (1, .int .i64 n), (2, .int .i64 t), (7, .pointer (some ⟨b, off, none⟩)), (34, .pointer (some ⟨bs, 0, none⟩))]) rfl
      clear h145
      refine nd_op ?_
      refine op_store tabOk {k := 2} (L' := [(bs, ⟨sessC (.pointer (some ⟨bl, 0, none⟩)) m out pos live, 60, true⟩), (bl, ⟨logC lg.base (.slice eo lg.evs.length ec) (.slice mo lg.mks.length mc) (.slice so lg.sns.length sc), 89, true⟩), (b2, ⟨[.int .u8 1, .int .i64 pos, .int .i64 lg.base.idx, .int .i64 (lg.base.idx + (lg.evs.length : Int)), .bool live, .bool out.refused, .int .i8 out.running, .int .u64 out.value, .int .u64 (dig m), .int .i64 pos, .int .i64 0, .int .i64 (-1)], 46, false⟩)]) (φ := b2 = b2 ∧ Nat.ble (0 + 12) 12 = true) h147 rfl rfl rfl (by kernel_rfl) ⟨rfl, rfl⟩ fun w149 h150 => ?_
      clear h147
      refine nd_done ?_
      refine hK143 _ _ ?_
      clear hK143
      refine wp_ret ?_
      have hR : replayR (⟨lg, m, out, pos, live⟩ : Ss) n t = (⟨lg, m, out, pos, live⟩ : Ss).stat 1 := by unfold replayR; simp only [hpn]; rw [if_pos (by show t < n ∨ lg.fin < t; omega)]
      try simp only [Exit.then, Exit.inBlock]
      try rw [if_pos trivial]
      exact s_ret tabOk tabZ_ok h150 [(.cell 6 46, {k := 2})] (vs := [.agg #[.int .u8 1, .int .i64 pos, .int .i64 lg.base.idx, .int .i64 (lg.base.idx + (lg.evs.length : Int)), .bool live, .bool out.refused, .int .i8 out.running, .int .u64 out.value, .int .u64 (dig m), .int .i64 pos, .int .i64 0, .int .i64 (-1)]]) (φ := (b2 = b2 ∧ Nat.ble (0 + 12) 12 = true) ∧ True) rfl (by kernel_rfl) ⟨⟨rfl, rfl⟩, trivial⟩ (by rw [hR]; exact ⟨⟨eo, ec, eF, mo, mc, mF, so, sc, sF⟩, rfl, SessAt.of (h150.kn (k := 0) rfl) (LogAt.of (h150.kn (k := 1) rfl) h150.inv hsep) hne hsm, h150.frame.mono (fun b hb => by cases hb), fun b hb => .inl hb⟩)
    ·
      have hb136f : ¬ (t < n) := by simpa using hb136
      refine nd_start (l := [0, 1, 2, 3, 4, 5, 6, 7, 8, 9, 10, 11, 12]) rfl ?_
      refine nd_batch tabOk tabZ_ok [(0, {}), (1, {}), (2, {f := 1}), (3, {}), (4, {}), (5, {}), (6, {}), (7, {}), (8, {k := 0})] [6, 0, 1, 2, 7, 25, 26, 30] (T' := [(6, .pointer (some ⟨b2, 0, none⟩)), (0, .pointer (some ⟨bs, 0, none⟩)), (1, .int .i64 n), (2, .int .i64 t), (7, .pointer (some ⟨b, off, none⟩)), (25, .bool false), (26, .int .i64 t), (30, .pointer (some ⟨bl, 0, none⟩))]) (φ := (decide (t < n)) = false ∧ (bs = bs ∧ Nat.ble (0 + 1) 17 = true) ∧ True) (rest := [9, 10, 11, 12]) h134 (by kernel_rfl) rfl ⟨hb136, ⟨rfl, rfl⟩, trivial⟩ fun a151 h152 => ?_
      clear h134
      refine nd_op ?_
      refine op_call h152 rfl rfl rfl (callOk Tryf.func41 (by decide) rfl) (args := [.pointer (some ⟨bl, 0, none⟩)]) rfl (end_ok bl lg.base eo lg.evs.length ec (.slice mo lg.mks.length mc) (.slice so lg.sns.length sc) true _ (h152.kn (k := 1) rfl) hb0 (by omega) (by omega)) ?_
      rintro _ w153 ⟨rfl, hf155⟩
      refine ⟨_, rfl, ?_⟩
      have h154 := (h152.grow hf155).put (d := some 31) (v := .int .i64 (lg.base.idx + (lg.evs.length : Int))) (T' := [(31, .int .i64 (lg.base.idx + (lg.evs.length : Int))), (6, .pointer (some ⟨b2, 0, none⟩)), (0, .pointer (some ⟨bs, 0, none⟩)), (1, .int .i64 n), (2, .int .i64 t), (7, .pointer (some ⟨b, off, none⟩)), (25, .bool false), (26, .int .i64 t), (30, .pointer (some ⟨bl, 0, none⟩))]) rfl
      clear h152
      have hbb2 := hbb
      rw [← hf155.block b (lt_of_heap hbb) (by simp)] at hbb2
      refine nd_batch tabOk tabZ_ok [(10, {}), (11, {}), (12, {})] [6, 0, 1, 2, 7, 21] (T' := [(6, .pointer (some ⟨b2, 0, none⟩)), (0, .pointer (some ⟨bs, 0, none⟩)), (1, .int .i64 n), (2, .int .i64 t), (7, .pointer (some ⟨b, off, none⟩)), (21, .bool (decide (t > (lg.base.idx + (lg.evs.length : Int)))))]) (φ := True) (rest := []) h154 (by kernel_rfl) rfl trivial fun a156 h157 => ?_
      clear h154
      refine nd_done ?_
      refine hK135 _ _ ?_
      clear hK135
      refine c_split h157 (b := decide (t > (lg.base.idx + (lg.evs.length : Int)))) rfl (fun hc158 => ?_) (fun hc158 => ?_)
      ·
        have hc158f : t > (lg.base.idx + (lg.evs.length : Int)) := by simpa using hc158
        refine wp_seq_k fun K159 hK159 => ?_
        refine nd_start (l := [0, 1, 2]) rfl ?_
        refine nd_batch tabOk tabZ_ok [(0, {})] [6, 0, 1, 2, 7, 34] (T' := [(6, .pointer (some ⟨b2, 0, none⟩)), (0, .pointer (some ⟨bs, 0, none⟩)), (1, .int .i64 n), (2, .int .i64 t), (7, .pointer (some ⟨b, off, none⟩)), (34, .pointer (some ⟨bs, 0, none⟩))]) (φ := True) (rest := [1, 2]) h157 (by kernel_rfl) rfl trivial fun a160 h161 => ?_
        clear h157
        refine nd_op ?_
        refine op_call h161 rfl rfl rfl (callOk Tryf.func29 (by decide) rfl) (args := [.pointer (some ⟨bs, 0, none⟩), .int .u8 1]) rfl (status_ok bs bl m hm out pos live lg.base eo lg.evs.length ec (.slice mo lg.mks.length mc) (.slice so lg.sns.length sc) 1 _ true true (h161.kn (k := 0) rfl) (h161.kn (k := 1) rfl) hne (by omega) (by omega) (by omega)) ?_
        rintro _ w162 ⟨rfl, hf164⟩
        refine ⟨_, rfl, ?_⟩
        have h163 := (h161.grow hf164).put (d := some 35) (v := .agg #[.int .u8 1, .int .i64 pos, .int .i64 lg.base.idx, .int .i64 (lg.base.idx + (lg.evs.length : Int)), .bool live, .bool out.refused, .int .i8 out.running, .int .u64 out.value, .int .u64 (dig m), .int .i64 pos, .int .i64 0, .int .i64 (-1)]) (T' := [(35, .agg #[.int .u8 1, .int .i64 pos, .int .i64 lg.base.idx, .int .i64 (lg.base.idx + (lg.evs.length : Int)), .bool live, .bool out.refused, .int .i8 out.running, .int .u64 out.value, .int .u64 (dig m), .int .i64 pos, .int .i64 0, .int .i64 (-1)]), (6, .pointer (some ⟨b2, 0, none⟩)), (0, .pointer (some ⟨bs, 0, none⟩)), (1, .int .i64 n), (2, .int .i64 t), (7, .pointer (some ⟨b, off, none⟩)), (34, .pointer (some ⟨bs, 0, none⟩))]) rfl
        clear h161
        refine nd_op ?_
        refine op_store tabOk {k := 2} (L' := [(bs, ⟨sessC (.pointer (some ⟨bl, 0, none⟩)) m out pos live, 60, true⟩), (bl, ⟨logC lg.base (.slice eo lg.evs.length ec) (.slice mo lg.mks.length mc) (.slice so lg.sns.length sc), 89, true⟩), (b2, ⟨[.int .u8 1, .int .i64 pos, .int .i64 lg.base.idx, .int .i64 (lg.base.idx + (lg.evs.length : Int)), .bool live, .bool out.refused, .int .i8 out.running, .int .u64 out.value, .int .u64 (dig m), .int .i64 pos, .int .i64 0, .int .i64 (-1)], 46, false⟩)]) (φ := b2 = b2 ∧ Nat.ble (0 + 12) 12 = true) h163 rfl rfl rfl (by kernel_rfl) ⟨rfl, rfl⟩ fun w165 h166 => ?_
        clear h163
        refine nd_done ?_
        refine hK159 _ _ ?_
        clear hK159
        refine wp_ret ?_
        have hR : replayR (⟨lg, m, out, pos, live⟩ : Ss) n t = (⟨lg, m, out, pos, live⟩ : Ss).stat 1 := by unfold replayR; simp only [hpn]; rw [if_pos (by show t < n ∨ lg.fin < t; omega)]
        try simp only [Exit.then, Exit.inBlock]
        try rw [if_pos trivial]
        exact s_ret tabOk tabZ_ok h166 [(.cell 6 46, {k := 2})] (vs := [.agg #[.int .u8 1, .int .i64 pos, .int .i64 lg.base.idx, .int .i64 (lg.base.idx + (lg.evs.length : Int)), .bool live, .bool out.refused, .int .i8 out.running, .int .u64 out.value, .int .u64 (dig m), .int .i64 pos, .int .i64 0, .int .i64 (-1)]]) (φ := (b2 = b2 ∧ Nat.ble (0 + 12) 12 = true) ∧ True) rfl (by kernel_rfl) ⟨⟨rfl, rfl⟩, trivial⟩ (by rw [hR]; exact ⟨⟨eo, ec, eF, mo, mc, mF, so, sc, sF⟩, rfl, SessAt.of (h166.kn (k := 0) rfl) (LogAt.of (h166.kn (k := 1) rfl) h166.inv hsep) hne hsm, h166.frame.mono (fun b hb => by cases hb), fun b hb => .inl hb⟩)
      ·
        have hc158f : ¬ t > (lg.base.idx + (lg.evs.length : Int)) := by simpa using hc158
        have hmok2 := runF_ok (seg lg.evs (x.idx - lg.base.idx).toNat (t - x.idx).toNat) (x.st, x.out) hpf.2.2.2 (seg_ok hwl.evs _ _)
        refine wp_skip ?_
        refine hK131 _ _ ?_
        clear hK131
        refine wp_seq_k fun K167 hK167 => ?_
        refine nd_start (l := [0, 1, 2, 3]) rfl ?_
        refine nd_batch tabOk tabZ_ok [(0, {})] [6, 0, 1, 2, 7, 36] (T' := [(6, .pointer (some ⟨b2, 0, none⟩)), (0, .pointer (some ⟨bs, 0, none⟩)), (1, .int .i64 n), (2, .int .i64 t), (7, .pointer (some ⟨b, off, none⟩)), (36, .pointer (some ⟨b, off, none⟩))]) (φ := True) (rest := [1, 2, 3]) h157 (by kernel_rfl) rfl trivial fun a168 h169 => ?_
        clear h157
        refine nd_op ?_
        refine op_call h169 rfl rfl rfl (callOk Tryf.func42 (by decide) rfl) (args := [.pointer (some ⟨b, off, none⟩)]) rfl (startAt_ok b off cs ty true x _ hbb2 hcc) ?_
        rintro _ w170 ⟨rfl, hf172⟩
        refine ⟨_, rfl, ?_⟩
        have h171 := (h169.grow hf172).put (d := some 37) (v := .agg #[.int .u64 x.st.now, .int .i8 x.st.cur, .int .u8 x.st.s0, .int .u8 x.st.s1, .int .u8 x.st.s2, .int .u8 x.st.s3, .int .u64 x.st.r0, .int .u64 x.st.r1, .int .u64 x.st.r2, .int .u64 x.st.r3, .int .u64 x.st.word, .bool x.out.refused, .int .i8 x.out.running, .int .u64 x.out.value, .int .i64 x.idx]) (T' := [(37, .agg #[.int .u64 x.st.now, .int .i8 x.st.cur, .int .u8 x.st.s0, .int .u8 x.st.s1, .int .u8 x.st.s2, .int .u8 x.st.s3, .int .u64 x.st.r0, .int .u64 x.st.r1, .int .u64 x.st.r2, .int .u64 x.st.r3, .int .u64 x.st.word, .bool x.out.refused, .int .i8 x.out.running, .int .u64 x.out.value, .int .i64 x.idx]), (6, .pointer (some ⟨b2, 0, none⟩)), (0, .pointer (some ⟨bs, 0, none⟩)), (1, .int .i64 n), (2, .int .i64 t), (7, .pointer (some ⟨b, off, none⟩)), (36, .pointer (some ⟨b, off, none⟩))]) rfl
        clear h169
        refine nd_op ?_
        refine op_new tabOk (cells := [.int .u64 0, .int .i8 0, .int .u8 0, .int .u8 0, .int .u8 0, .int .u8 0, .int .u64 0, .int .u64 0, .int .u64 0, .int .u64 0, .int .u64 0, .bool false, .int .i8 0, .int .u64 0, .int .i64 0]) (ty := 105) (ln := none) (L1 := fun b173 => [(bs, ⟨sessC (.pointer (some ⟨bl, 0, none⟩)) m out pos live, 60, true⟩), (bl, ⟨logC lg.base (.slice eo lg.evs.length ec) (.slice mo lg.mks.length mc) (.slice so lg.sns.length sc), 89, true⟩), (b2, ⟨[.int .u8 0, .int .i64 0, .int .i64 0, .int .i64 0, .bool false, .bool false, .int .i8 0, .int .u64 0, .int .u64 0, .int .i64 0, .int .i64 0, .int .i64 0], 46, false⟩), (b173, ⟨[.int .u64 0, .int .i8 0, .int .u8 0, .int .u8 0, .int .u8 0, .int .u8 0, .int .u64 0, .int .u64 0, .int .u64 0, .int .u64 0, .int .u64 0, .bool false, .int .i8 0, .int .u64 0, .int .i64 0], 105, false⟩)]) h171 rfl rfl rfl rfl (by kernel_rfl) (fun _ => rfl) fun b173 w174 a175 h176 hf177 hn178 => ?_
        clear h171
        refine nd_op ?_
        refine op_store tabOk {k := 3} (L' := [(bs, ⟨sessC (.pointer (some ⟨bl, 0, none⟩)) m out pos live, 60, true⟩), (bl, ⟨logC lg.base (.slice eo lg.evs.length ec) (.slice mo lg.mks.length mc) (.slice so lg.sns.length sc), 89, true⟩), (b2, ⟨[.int .u8 0, .int .i64 0, .int .i64 0, .int .i64 0, .bool false, .bool false, .int .i8 0, .int .u64 0, .int .u64 0, .int .i64 0, .int .i64 0, .int .i64 0], 46, false⟩), (b173, ⟨[.int .u64 x.st.now, .int .i8 x.st.cur, .int .u8 x.st.s0, .int .u8 x.st.s1, .int .u8 x.st.s2, .int .u8 x.st.s3, .int .u64 x.st.r0, .int .u64 x.st.r1, .int .u64 x.st.r2, .int .u64 x.st.r3, .int .u64 x.st.word, .bool x.out.refused, .int .i8 x.out.running, .int .u64 x.out.value, .int .i64 x.idx], 105, false⟩)]) (φ := b173 = b173 ∧ Nat.ble (0 + 15) 15 = true) h176 rfl rfl rfl (by kernel_rfl) ⟨rfl, rfl⟩ fun w179 h180 => ?_
        clear h176
        refine nd_done ?_
        refine hK167 _ _ ?_
        clear hK167
        refine wp_seq_k fun K181 hK181 => ?_
        refine nd_start (l := [0, 1, 2, 3, 4, 5]) rfl ?_
        refine nd_batch tabOk tabZ_ok [(0, {}), (1, {}), (2, {}), (3, {k := 0}), (4, {})] [8, 6, 0, 1, 2, 7, 41, 42] (T' := [(8, .pointer (some ⟨b173, 0, none⟩)), (6, .pointer (some ⟨b2, 0, none⟩)), (0, .pointer (some ⟨bs, 0, none⟩)), (1, .int .i64 n), (2, .int .i64 t), (7, .pointer (some ⟨b, off, none⟩)), (41, .pointer (some ⟨bl, 0, none⟩)), (42, .int .i64 t)]) (φ := (bs = bs ∧ Nat.ble (0 + 1) 17 = true) ∧ True) (rest := [5]) h180 (by kernel_rfl) rfl ⟨⟨rfl, rfl⟩, trivial⟩ fun a182 h183 => ?_
        clear h180
        refine nd_op ?_
        have hp1 := hpf.1
        have hp2 := hpf.2.1
        refine op_call h183 rfl rfl rfl (callOk Tryf.func44 (by decide) rfl) (args := [.pointer (some ⟨b173, 0, none⟩), .pointer (some ⟨bl, 0, none⟩), .int .i64 t]) rfl (run_ok b173 bl ⟨eo, ec, eF, mo, mc, mF, so, sc, sF⟩ lg _ (LogAt.of (d := ⟨eo, ec, eF, mo, mc, mF, so, sc, sF⟩) (h183.kn (k := 1) rfl) h183.inv hsep) x.st x.out x.idx t (x.idx - lg.base.idx).toNat (t - x.idx).toNat (h183.kn (k := 3) rfl) (h183.ne 3 1 rfl rfl rfl) (h183.dj (k := 3) rfl rfl) hwl.evs hpf.2.2.2 (by omega) (by omega) (by omega) (by omega) hb0 (by omega)) ?_
        rintro _ w184 ⟨rfl, hbr, hf186⟩
        refine ⟨_, rfl, ?_⟩
        have h185 := (h183.setBlk (k := 3) rfl rfl hf186 hbr (L' := [(bs, ⟨sessC (.pointer (some ⟨bl, 0, none⟩)) m out pos live, 60, true⟩), (bl, ⟨logC lg.base (.slice eo lg.evs.length ec) (.slice mo lg.mks.length mc) (.slice so lg.sns.length sc), 89, true⟩), (b2, ⟨[.int .u8 0, .int .i64 0, .int .i64 0, .int .i64 0, .bool false, .bool false, .int .i8 0, .int .u64 0, .int .u64 0, .int .i64 0, .int .i64 0, .int .i64 0], 46, false⟩), (b173, ⟨curC ((runF (seg lg.evs (x.idx - lg.base.idx).toNat (t - x.idx).toNat) (x.st, x.out)).1) ((runF (seg lg.evs (x.idx - lg.base.idx).toNat (t - x.idx).toNat) (x.st, x.out)).2) t, 105, false⟩)]) rfl).put (d := some 43) (v := .tuple #[]) (T' := [(43, .tuple #[]), (8, .pointer (some ⟨b173, 0, none⟩)), (6, .pointer (some ⟨b2, 0, none⟩)), (0, .pointer (some ⟨bs, 0, none⟩)), (1, .int .i64 n), (2, .int .i64 t), (7, .pointer (some ⟨b, off, none⟩)), (41, .pointer (some ⟨bl, 0, none⟩)), (42, .int .i64 t)]) rfl
        clear h183
        refine nd_done ?_
        refine hK181 _ _ ?_
        clear hK181
        refine wp_seq_k fun K187 hK187 => ?_
        refine nd_start (l := [0, 1, 2, 3]) rfl ?_
        refine nd_batch tabOk tabZ_ok [(0, {})] [8, 6, 0, 1, 2, 7, 44] (T' := [(8, .pointer (some ⟨b173, 0, none⟩)), (6, .pointer (some ⟨b2, 0, none⟩)), (0, .pointer (some ⟨bs, 0, none⟩)), (1, .int .i64 n), (2, .int .i64 t), (7, .pointer (some ⟨b, off, none⟩)), (44, .pointer (some ⟨bs, 0, none⟩))]) (φ := True) (rest := [1, 2, 3]) h185 (by kernel_rfl) rfl trivial fun a188 h189 => ?_
        clear h185
        refine nd_op ?_
        refine op_call h189 rfl rfl rfl (callOk Tryf.func29 (by decide) rfl) (args := [.pointer (some ⟨bs, 0, none⟩), .int .u8 0]) rfl (status_ok bs bl m hm out pos live lg.base eo lg.evs.length ec (.slice mo lg.mks.length mc) (.slice so lg.sns.length sc) 0 _ true true (h189.kn (k := 0) rfl) (h189.kn (k := 1) rfl) hne (by omega) (by omega) (by omega)) ?_
        rintro _ w190 ⟨rfl, hf192⟩
        refine ⟨_, rfl, ?_⟩
        have h191 := (h189.grow hf192).put (d := some 45) (v := .agg #[.int .u8 0, .int .i64 pos, .int .i64 lg.base.idx, .int .i64 (lg.base.idx + (lg.evs.length : Int)), .bool live, .bool out.refused, .int .i8 out.running, .int .u64 out.value, .int .u64 (dig m), .int .i64 pos, .int .i64 0, .int .i64 (-1)]) (T' := [(45, .agg #[.int .u8 0, .int .i64 pos, .int .i64 lg.base.idx, .int .i64 (lg.base.idx + (lg.evs.length : Int)), .bool live, .bool out.refused, .int .i8 out.running, .int .u64 out.value, .int .u64 (dig m), .int .i64 pos, .int .i64 0, .int .i64 (-1)]), (8, .pointer (some ⟨b173, 0, none⟩)), (6, .pointer (some ⟨b2, 0, none⟩)), (0, .pointer (some ⟨bs, 0, none⟩)), (1, .int .i64 n), (2, .int .i64 t), (7, .pointer (some ⟨b, off, none⟩)), (44, .pointer (some ⟨bs, 0, none⟩))]) rfl
        clear h189
        refine nd_op ?_
        refine op_new tabOk (cells := [.int .u8 0, .int .i64 0, .int .i64 0, .int .i64 0, .bool false, .bool false, .int .i8 0, .int .u64 0, .int .u64 0, .int .i64 0, .int .i64 0, .int .i64 0]) (ty := 46) (ln := none) (L1 := fun b193 => [(bs, ⟨sessC (.pointer (some ⟨bl, 0, none⟩)) m out pos live, 60, true⟩), (bl, ⟨logC lg.base (.slice eo lg.evs.length ec) (.slice mo lg.mks.length mc) (.slice so lg.sns.length sc), 89, true⟩), (b2, ⟨[.int .u8 0, .int .i64 0, .int .i64 0, .int .i64 0, .bool false, .bool false, .int .i8 0, .int .u64 0, .int .u64 0, .int .i64 0, .int .i64 0, .int .i64 0], 46, false⟩), (b173, ⟨curC ((runF (seg lg.evs (x.idx - lg.base.idx).toNat (t - x.idx).toNat) (x.st, x.out)).1) ((runF (seg lg.evs (x.idx - lg.base.idx).toNat (t - x.idx).toNat) (x.st, x.out)).2) t, 105, false⟩), (b193, ⟨[.int .u8 0, .int .i64 0, .int .i64 0, .int .i64 0, .bool false, .bool false, .int .i8 0, .int .u64 0, .int .u64 0, .int .i64 0, .int .i64 0, .int .i64 0], 46, false⟩)]) h191 rfl rfl rfl rfl (by kernel_rfl) (fun _ => rfl) fun b193 w194 a195 h196 hf197 hn198 => ?_
        clear h191
        refine nd_op ?_
        refine op_store tabOk {k := 4} (L' := [(bs, ⟨sessC (.pointer (some ⟨bl, 0, none⟩)) m out pos live, 60, true⟩), (bl, ⟨logC lg.base (.slice eo lg.evs.length ec) (.slice mo lg.mks.length mc) (.slice so lg.sns.length sc), 89, true⟩), (b2, ⟨[.int .u8 0, .int .i64 0, .int .i64 0, .int .i64 0, .bool false, .bool false, .int .i8 0, .int .u64 0, .int .u64 0, .int .i64 0, .int .i64 0, .int .i64 0], 46, false⟩), (b173, ⟨curC ((runF (seg lg.evs (x.idx - lg.base.idx).toNat (t - x.idx).toNat) (x.st, x.out)).1) ((runF (seg lg.evs (x.idx - lg.base.idx).toNat (t - x.idx).toNat) (x.st, x.out)).2) t, 105, false⟩), (b193, ⟨[.int .u8 0, .int .i64 pos, .int .i64 lg.base.idx, .int .i64 (lg.base.idx + (lg.evs.length : Int)), .bool live, .bool out.refused, .int .i8 out.running, .int .u64 out.value, .int .u64 (dig m), .int .i64 pos, .int .i64 0, .int .i64 (-1)], 46, false⟩)]) (φ := b193 = b193 ∧ Nat.ble (0 + 12) 12 = true) h196 rfl rfl rfl (by kernel_rfl) ⟨rfl, rfl⟩ fun w199 h200 => ?_
        clear h196
        refine nd_done ?_
        refine hK187 _ _ ?_
        clear hK187
        refine wp_seq_k fun K201 hK201 => ?_
        refine dr_start (KB := [bs, bl, b2, b173, b193]) (Bi := [[0, 1, 2, 3, 4], [0, 1, 2, 3, 4], [0, 1, 2, 3, 4], [3], [0, 1, 2, 3, 4], [0, 1, 2, 3, 4], [0, 1, 2, 3, 4], [0, 1, 2, 3, 4], [0, 1, 2, 3, 4], [], [0, 1, 2, 3, 4], [], [0, 1, 2, 3, 4], [], [0, 1, 2, 3, 4], []]) mixed h200 fun w202 h203 => ?_
        clear h200
        refine dr_batch tabOk tabZ_ok (by repeat (first | exact PF.body | with_reducible apply PF.inB | with_reducible apply PF.next)) [(0, {}), (1, {k := 3, p := 3}), (2, {}), (4, {}), (5, {}), (6, {}), (7, {}), (8, {})] [9, 8, 6, 0, 1, 2, 7, 47, 48, 50, 53, 54] (T' := [(9, .pointer (some ⟨b193, 0, none⟩)), (8, .pointer (some ⟨b173, 0, none⟩)), (6, .pointer (some ⟨b2, 0, none⟩)), (0, .pointer (some ⟨bs, 0, none⟩)), (1, .int .i64 n), (2, .int .i64 t), (7, .pointer (some ⟨b, off, none⟩)), (47, .agg #[.bool ((runF (seg lg.evs (x.idx - lg.base.idx).toNat (t - x.idx).toNat) (x.st, x.out)).2.refused), .int .i8 ((runF (seg lg.evs (x.idx - lg.base.idx).toNat (t - x.idx).toNat) (x.st, x.out)).2.running), .int .u64 ((runF (seg lg.evs (x.idx - lg.base.idx).toNat (t - x.idx).toNat) (x.st, x.out)).2.value)]), (48, .pointer (some ⟨b173, 0, none⟩)), (50, .int .i64 n), (53, .int .i64 (t - n)), (54, .pointer (some ⟨b193, 5, none⟩))]) (φ := (b173 = b173 ∧ Nat.ble (11 + 3) 15 = true) ∧ inR .i64 (t - n) ∧ True) (fuel := 8) h203 (by kernel_rfl) rfl (by kernel_rfl) (by kernel_rfl) ⟨trivial, rfl, trivial, trivial, trivial, trivial, trivial, trivial, trivial⟩ ⟨⟨rfl, rfl⟩, ⟨by have := hpf.1; have := hpf.2.1; omega, by have := hpf.1; have := hpf.2.1; omega⟩, trivial⟩ fun a205 h206 => ?_
        clear h203
        refine wpAnyK_one (i := 3) (fuel := 7) (by kernel_rfl) ?_
        refine op_call h206 rfl rfl rfl (callOk Tryf.func51 (by decide) rfl) (args := [.pointer (some ⟨b173, 0, none⟩)]) rfl (digest_ok [] (outC (runF (seg lg.evs (x.idx - lg.base.idx).toNat (t - x.idx).toNat) (x.st, x.out)).2 ++ [.int .i64 t]) (runF (seg lg.evs (x.idx - lg.base.idx).toNat (t - x.idx).toNat) (x.st, x.out)).1 hmok2 b173 105 false _ (h206.kn (k := 3) rfl)) ?_
        rintro _ w207 ⟨rfl, hf209⟩
        refine ⟨_, rfl, ?_⟩
        have h208 := (h206.grow hf209).put (d := some 49) (v := .int .u64 (dig (runF (seg lg.evs (x.idx - lg.base.idx).toNat (t - x.idx).toNat) (x.st, x.out)).1)) (T' := [(49, .int .u64 (dig (runF (seg lg.evs (x.idx - lg.base.idx).toNat (t - x.idx).toNat) (x.st, x.out)).1)), (9, .pointer (some ⟨b193, 0, none⟩)), (8, .pointer (some ⟨b173, 0, none⟩)), (6, .pointer (some ⟨b2, 0, none⟩)), (0, .pointer (some ⟨bs, 0, none⟩)), (1, .int .i64 n), (2, .int .i64 t), (7, .pointer (some ⟨b, off, none⟩)), (47, .agg #[.bool ((runF (seg lg.evs (x.idx - lg.base.idx).toNat (t - x.idx).toNat) (x.st, x.out)).2.refused), .int .i8 ((runF (seg lg.evs (x.idx - lg.base.idx).toNat (t - x.idx).toNat) (x.st, x.out)).2.running), .int .u64 ((runF (seg lg.evs (x.idx - lg.base.idx).toNat (t - x.idx).toNat) (x.st, x.out)).2.value)]), (48, .pointer (some ⟨b173, 0, none⟩)), (50, .int .i64 n), (53, .int .i64 (t - n)), (54, .pointer (some ⟨b193, 5, none⟩))]) rfl
        refine ⟨(h206.keepFr hf209 (kcons (by simp) knil)), ?_⟩
        clear h206
        refine wpAnyK_one (i := 9) (fuel := 6) (by kernel_rfl) ?_
        refine op_store tabOk {k := 4} (L' := [(bs, ⟨sessC (.pointer (some ⟨bl, 0, none⟩)) m out pos live, 60, true⟩), (bl, ⟨logC lg.base (.slice eo lg.evs.length ec) (.slice mo lg.mks.length mc) (.slice so lg.sns.length sc), 89, true⟩), (b2, ⟨[.int .u8 0, .int .i64 0, .int .i64 0, .int .i64 0, .bool false, .bool false, .int .i8 0, .int .u64 0, .int .u64 0, .int .i64 0, .int .i64 0, .int .i64 0], 46, false⟩), (b173, ⟨curC ((runF (seg lg.evs (x.idx - lg.base.idx).toNat (t - x.idx).toNat) (x.st, x.out)).1) ((runF (seg lg.evs (x.idx - lg.base.idx).toNat (t - x.idx).toNat) (x.st, x.out)).2) t, 105, false⟩), (b193, ⟨[.int .u8 0, .int .i64 pos, .int .i64 lg.base.idx, .int .i64 (lg.base.idx + (lg.evs.length : Int)), .bool live, .bool ((runF (seg lg.evs (x.idx - lg.base.idx).toNat (t - x.idx).toNat) (x.st, x.out)).2.refused), .int .i8 ((runF (seg lg.evs (x.idx - lg.base.idx).toNat (t - x.idx).toNat) (x.st, x.out)).2.running), .int .u64 ((runF (seg lg.evs (x.idx - lg.base.idx).toNat (t - x.idx).toNat) (x.st, x.out)).2.value), .int .u64 (dig m), .int .i64 pos, .int .i64 0, .int .i64 (-1)], 46, false⟩)]) (φ := b193 = b193 ∧ Nat.ble (5 + 3) 12 = true) h208 rfl rfl rfl (by kernel_rfl) ⟨rfl, rfl⟩ fun w210 h211 => ?_
        have hkh211 := h208.known
        refine ⟨keepNil, ?_⟩
        clear h208
        refine dr_batch tabOk tabZ_ok (by repeat (first | exact PF.body | with_reducible apply PF.inB | with_reducible apply PF.next)) [(10, {})] [49, 9, 8, 6, 0, 1, 2, 7, 50, 53, 55] (T' := [(49, .int .u64 (dig (runF (seg lg.evs (x.idx - lg.base.idx).toNat (t - x.idx).toNat) (x.st, x.out)).1)), (9, .pointer (some ⟨b193, 0, none⟩)), (8, .pointer (some ⟨b173, 0, none⟩)), (6, .pointer (some ⟨b2, 0, none⟩)), (0, .pointer (some ⟨bs, 0, none⟩)), (1, .int .i64 n), (2, .int .i64 t), (7, .pointer (some ⟨b, off, none⟩)), (50, .int .i64 n), (53, .int .i64 (t - n)), (55, .pointer (some ⟨b193, 8, none⟩))]) (φ := True) (fuel := 5) h211 (by kernel_rfl) rfl (by kernel_rfl) (by kernel_rfl) ⟨trivial, trivial⟩ trivial fun a212 h213 => ?_
        clear h211
        refine wpAnyK_one (i := 11) (fuel := 4) (by kernel_rfl) ?_
        refine op_store tabOk {k := 4} (L' := [(bs, ⟨sessC (.pointer (some ⟨bl, 0, none⟩)) m out pos live, 60, true⟩), (bl, ⟨logC lg.base (.slice eo lg.evs.length ec) (.slice mo lg.mks.length mc) (.slice so lg.sns.length sc), 89, true⟩), (b2, ⟨[.int .u8 0, .int .i64 0, .int .i64 0, .int .i64 0, .bool false, .bool false, .int .i8 0, .int .u64 0, .int .u64 0, .int .i64 0, .int .i64 0, .int .i64 0], 46, false⟩), (b173, ⟨curC ((runF (seg lg.evs (x.idx - lg.base.idx).toNat (t - x.idx).toNat) (x.st, x.out)).1) ((runF (seg lg.evs (x.idx - lg.base.idx).toNat (t - x.idx).toNat) (x.st, x.out)).2) t, 105, false⟩), (b193, ⟨[.int .u8 0, .int .i64 pos, .int .i64 lg.base.idx, .int .i64 (lg.base.idx + (lg.evs.length : Int)), .bool live, .bool ((runF (seg lg.evs (x.idx - lg.base.idx).toNat (t - x.idx).toNat) (x.st, x.out)).2.refused), .int .i8 ((runF (seg lg.evs (x.idx - lg.base.idx).toNat (t - x.idx).toNat) (x.st, x.out)).2.running), .int .u64 ((runF (seg lg.evs (x.idx - lg.base.idx).toNat (t - x.idx).toNat) (x.st, x.out)).2.value), .int .u64 (dig (runF (seg lg.evs (x.idx - lg.base.idx).toNat (t - x.idx).toNat) (x.st, x.out)).1), .int .i64 pos, .int .i64 0, .int .i64 (-1)], 46, false⟩)]) (φ := b193 = b193 ∧ Nat.ble (8 + 1) 12 = true) h213 rfl rfl rfl (by kernel_rfl) ⟨rfl, rfl⟩ fun w214 h215 => ?_
        have hkh215 := h213.known
        refine ⟨keepNil, ?_⟩
        clear h213
        refine dr_batch tabOk tabZ_ok (by repeat (first | exact PF.body | with_reducible apply PF.inB | with_reducible apply PF.next)) [(12, {})] [9, 8, 6, 0, 1, 2, 7, 50, 53, 56] (T' := [(9, .pointer (some ⟨b193, 0, none⟩)), (8, .pointer (some ⟨b173, 0, none⟩)), (6, .pointer (some ⟨b2, 0, none⟩)), (0, .pointer (some ⟨bs, 0, none⟩)), (1, .int .i64 n), (2, .int .i64 t), (7, .pointer (some ⟨b, off, none⟩)), (50, .int .i64 n), (53, .int .i64 (t - n)), (56, .pointer (some ⟨b193, 9, none⟩))]) (φ := True) (fuel := 3) h215 (by kernel_rfl) rfl (by kernel_rfl) (by kernel_rfl) ⟨trivial, trivial⟩ trivial fun a216 h217 => ?_
        clear h215
        refine wpAnyK_one (i := 13) (fuel := 2) (by kernel_rfl) ?_
        refine op_store tabOk {k := 4} (L' := [(bs, ⟨sessC (.pointer (some ⟨bl, 0, none⟩)) m out pos live, 60, true⟩), (bl, ⟨logC lg.base (.slice eo lg.evs.length ec) (.slice mo lg.mks.length mc) (.slice so lg.sns.length sc), 89, true⟩), (b2, ⟨[.int .u8 0, .int .i64 0, .int .i64 0, .int .i64 0, .bool false, .bool false, .int .i8 0, .int .u64 0, .int .u64 0, .int .i64 0, .int .i64 0, .int .i64 0], 46, false⟩), (b173, ⟨curC ((runF (seg lg.evs (x.idx - lg.base.idx).toNat (t - x.idx).toNat) (x.st, x.out)).1) ((runF (seg lg.evs (x.idx - lg.base.idx).toNat (t - x.idx).toNat) (x.st, x.out)).2) t, 105, false⟩), (b193, ⟨[.int .u8 0, .int .i64 pos, .int .i64 lg.base.idx, .int .i64 (lg.base.idx + (lg.evs.length : Int)), .bool live, .bool ((runF (seg lg.evs (x.idx - lg.base.idx).toNat (t - x.idx).toNat) (x.st, x.out)).2.refused), .int .i8 ((runF (seg lg.evs (x.idx - lg.base.idx).toNat (t - x.idx).toNat) (x.st, x.out)).2.running), .int .u64 ((runF (seg lg.evs (x.idx - lg.base.idx).toNat (t - x.idx).toNat) (x.st, x.out)).2.value), .int .u64 (dig (runF (seg lg.evs (x.idx - lg.base.idx).toNat (t - x.idx).toNat) (x.st, x.out)).1), .int .i64 n, .int .i64 0, .int .i64 (-1)], 46, false⟩)]) (φ := b193 = b193 ∧ Nat.ble (9 + 1) 12 = true) h217 rfl rfl rfl (by kernel_rfl) ⟨rfl, rfl⟩ fun w218 h219 => ?_
        have hkh219 := h217.known
        refine ⟨keepNil, ?_⟩
        clear h217
        refine dr_batch tabOk tabZ_ok (by repeat (first | exact PF.body | with_reducible apply PF.inB | with_reducible apply PF.next)) [(14, {})] [9, 8, 6, 0, 1, 2, 7, 53, 57] (T' := [(9, .pointer (some ⟨b193, 0, none⟩)), (8, .pointer (some ⟨b173, 0, none⟩)), (6, .pointer (some ⟨b2, 0, none⟩)), (0, .pointer (some ⟨bs, 0, none⟩)), (1, .int .i64 n), (2, .int .i64 t), (7, .pointer (some ⟨b, off, none⟩)), (53, .int .i64 (t - n)), (57, .pointer (some ⟨b193, 10, none⟩))]) (φ := True) (fuel := 1) h219 (by kernel_rfl) rfl (by kernel_rfl) (by kernel_rfl) ⟨trivial, trivial⟩ trivial fun a220 h221 => ?_
        clear h219
        refine wpAnyK_one (i := 15) (fuel := 0) (by kernel_rfl) ?_
        refine op_store tabOk {k := 4} (L' := [(bs, ⟨sessC (.pointer (some ⟨bl, 0, none⟩)) m out pos live, 60, true⟩), (bl, ⟨logC lg.base (.slice eo lg.evs.length ec) (.slice mo lg.mks.length mc) (.slice so lg.sns.length sc), 89, true⟩), (b2, ⟨[.int .u8 0, .int .i64 0, .int .i64 0, .int .i64 0, .bool false, .bool false, .int .i8 0, .int .u64 0, .int .u64 0, .int .i64 0, .int .i64 0, .int .i64 0], 46, false⟩), (b173, ⟨curC ((runF (seg lg.evs (x.idx - lg.base.idx).toNat (t - x.idx).toNat) (x.st, x.out)).1) ((runF (seg lg.evs (x.idx - lg.base.idx).toNat (t - x.idx).toNat) (x.st, x.out)).2) t, 105, false⟩), (b193, ⟨[.int .u8 0, .int .i64 pos, .int .i64 lg.base.idx, .int .i64 (lg.base.idx + (lg.evs.length : Int)), .bool live, .bool ((runF (seg lg.evs (x.idx - lg.base.idx).toNat (t - x.idx).toNat) (x.st, x.out)).2.refused), .int .i8 ((runF (seg lg.evs (x.idx - lg.base.idx).toNat (t - x.idx).toNat) (x.st, x.out)).2.running), .int .u64 ((runF (seg lg.evs (x.idx - lg.base.idx).toNat (t - x.idx).toNat) (x.st, x.out)).2.value), .int .u64 (dig (runF (seg lg.evs (x.idx - lg.base.idx).toNat (t - x.idx).toNat) (x.st, x.out)).1), .int .i64 n, .int .i64 (t - n), .int .i64 (-1)], 46, false⟩)]) (φ := b193 = b193 ∧ Nat.ble (10 + 1) 12 = true) h221 rfl rfl rfl (by kernel_rfl) ⟨rfl, rfl⟩ fun w222 h223 => ?_
        have hkh223 := h221.known
        refine ⟨keepNil, ?_⟩
        clear h221
        refine wpAnyK_done (by kernel_rfl) ?_ _
        refine hK201 _ _ ?_
        clear hK201
        refine wp_seq_k fun K224 hK224 => ?_
        refine nd_start (l := [0, 1]) rfl ?_
        refine nd_batch tabOk tabZ_ok [(0, {k := 4})] [9, 8, 6, 0, 1, 2, 7, 58] (T' := [(9, .pointer (some ⟨b193, 0, none⟩)), (8, .pointer (some ⟨b173, 0, none⟩)), (6, .pointer (some ⟨b2, 0, none⟩)), (0, .pointer (some ⟨bs, 0, none⟩)), (1, .int .i64 n), (2, .int .i64 t), (7, .pointer (some ⟨b, off, none⟩)), (58, .agg #[.int .u8 0, .int .i64 pos, .int .i64 lg.base.idx, .int .i64 (lg.base.idx + (lg.evs.length : Int)), .bool live, .bool ((runF (seg lg.evs (x.idx - lg.base.idx).toNat (t - x.idx).toNat) (x.st, x.out)).2.refused), .int .i8 ((runF (seg lg.evs (x.idx - lg.base.idx).toNat (t - x.idx).toNat) (x.st, x.out)).2.running), .int .u64 ((runF (seg lg.evs (x.idx - lg.base.idx).toNat (t - x.idx).toNat) (x.st, x.out)).2.value), .int .u64 (dig (runF (seg lg.evs (x.idx - lg.base.idx).toNat (t - x.idx).toNat) (x.st, x.out)).1), .int .i64 n, .int .i64 (t - n), .int .i64 (-1)])]) (φ := (b193 = b193 ∧ Nat.ble (0 + 12) 12 = true) ∧ True) (rest := [1]) h223 (by kernel_rfl) rfl ⟨⟨rfl, rfl⟩, trivial⟩ fun a225 h226 => ?_
        clear h223
        refine nd_op ?_
        refine op_store tabOk {k := 2} (L' := [(bs, ⟨sessC (.pointer (some ⟨bl, 0, none⟩)) m out pos live, 60, true⟩), (bl, ⟨logC lg.base (.slice eo lg.evs.length ec) (.slice mo lg.mks.length mc) (.slice so lg.sns.length sc), 89, true⟩), (b2, ⟨[.int .u8 0, .int .i64 pos, .int .i64 lg.base.idx, .int .i64 (lg.base.idx + (lg.evs.length : Int)), .bool live, .bool ((runF (seg lg.evs (x.idx - lg.base.idx).toNat (t - x.idx).toNat) (x.st, x.out)).2.refused), .int .i8 ((runF (seg lg.evs (x.idx - lg.base.idx).toNat (t - x.idx).toNat) (x.st, x.out)).2.running), .int .u64 ((runF (seg lg.evs (x.idx - lg.base.idx).toNat (t - x.idx).toNat) (x.st, x.out)).2.value), .int .u64 (dig (runF (seg lg.evs (x.idx - lg.base.idx).toNat (t - x.idx).toNat) (x.st, x.out)).1), .int .i64 n, .int .i64 (t - n), .int .i64 (-1)], 46, false⟩), (b173, ⟨curC ((runF (seg lg.evs (x.idx - lg.base.idx).toNat (t - x.idx).toNat) (x.st, x.out)).1) ((runF (seg lg.evs (x.idx - lg.base.idx).toNat (t - x.idx).toNat) (x.st, x.out)).2) t, 105, false⟩), (b193, ⟨[.int .u8 0, .int .i64 pos, .int .i64 lg.base.idx, .int .i64 (lg.base.idx + (lg.evs.length : Int)), .bool live, .bool ((runF (seg lg.evs (x.idx - lg.base.idx).toNat (t - x.idx).toNat) (x.st, x.out)).2.refused), .int .i8 ((runF (seg lg.evs (x.idx - lg.base.idx).toNat (t - x.idx).toNat) (x.st, x.out)).2.running), .int .u64 ((runF (seg lg.evs (x.idx - lg.base.idx).toNat (t - x.idx).toNat) (x.st, x.out)).2.value), .int .u64 (dig (runF (seg lg.evs (x.idx - lg.base.idx).toNat (t - x.idx).toNat) (x.st, x.out)).1), .int .i64 n, .int .i64 (t - n), .int .i64 (-1)], 46, false⟩)]) (φ := b2 = b2 ∧ Nat.ble (0 + 12) 12 = true) h226 rfl rfl rfl (by kernel_rfl) ⟨rfl, rfl⟩ fun w227 h228 => ?_
        clear h226
        refine nd_done ?_
        refine hK224 _ _ ?_
        clear hK224
        refine wp_ret ?_
        have hR : replayR (⟨lg, m, out, pos, live⟩ : Ss) n t = { (⟨lg, m, out, pos, live⟩ : Ss).stat 0 with out := (lg.run (x.st, x.out) x.idx t).2, dig := dig (lg.run (x.st, x.out) x.idx t).1, from_ := n, replayed := t - n } := by unfold replayR; simp only [hpn]; rw [if_neg (by show ¬ (t < n ∨ lg.fin < t); omega)]
        try simp only [Exit.then, Exit.inBlock]
        try rw [if_pos trivial]
        exact s_ret tabOk tabZ_ok h228 [(.cell 6 46, {k := 2})] (vs := [.agg #[.int .u8 0, .int .i64 pos, .int .i64 lg.base.idx, .int .i64 (lg.base.idx + (lg.evs.length : Int)), .bool live, .bool ((runF (seg lg.evs (x.idx - lg.base.idx).toNat (t - x.idx).toNat) (x.st, x.out)).2.refused), .int .i8 ((runF (seg lg.evs (x.idx - lg.base.idx).toNat (t - x.idx).toNat) (x.st, x.out)).2.running), .int .u64 ((runF (seg lg.evs (x.idx - lg.base.idx).toNat (t - x.idx).toNat) (x.st, x.out)).2.value), .int .u64 (dig (runF (seg lg.evs (x.idx - lg.base.idx).toNat (t - x.idx).toNat) (x.st, x.out)).1), .int .i64 n, .int .i64 (t - n), .int .i64 (-1)]]) (φ := (b2 = b2 ∧ Nat.ble (0 + 12) 12 = true) ∧ True) rfl (by kernel_rfl) ⟨⟨rfl, rfl⟩, trivial⟩ (by rw [hR]; exact ⟨⟨eo, ec, eF, mo, mc, mF, so, sc, sF⟩, rfl, SessAt.of (h228.kn (k := 0) rfl) (LogAt.of (h228.kn (k := 1) rfl) h228.inv hsep) hne hsm, h228.frame.mono (fun b hb => by cases hb), fun b hb => .inl hb⟩)

end Go.Proofs.Qxb6500919aFmt
