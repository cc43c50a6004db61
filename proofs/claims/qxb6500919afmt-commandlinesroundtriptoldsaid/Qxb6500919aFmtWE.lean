/-
  The session: Truncate, Resume. (Made by program: a symbolic walk that prints its steps.)
-/
import Derived.Test.Qxb6500919aFmtTab
import Derived.Test.Qxb6500919aFmtSeW
import Derived.Test.Qxb6500919aFmtW1
import Derived.Test.Qxb6500919aFmtW2
import Derived.Test.Qxb6500919aFmtW3
import Derived.Test.Qxb6500919aFmtW4
import Derived.Test.Qxb6500919aFmtW5
import Derived.Test.Qxb6500919aFmtW6
import Derived.Test.Qxb6500919aFmtW7
import Derived.Test.Qxb6500919aFmtW9
import Derived.Test.Qxb6500919aFmtWC
namespace Go.Proofs.Qxb6500919aFmt
open Go.Sx Go.Rp
set_option maxRecDepth 100000
set_option maxHeartbeats 4000000
set_option linter.unusedVariables false
set_option linter.unusedSimpArgs false

theorem pointAt_ok (bl : Nat) (d : Hd) (lg : Lg) (w : World) (hl : LogAt w bl d lg) (n : Int) (hsort : lg.sns.Pairwise (fun a b => a.idx < b.idx)) (hsl : lg.sns.length ≤ 1000) :
    Calls Tryf.prog 49 #[.pointer (some ⟨bl, 0, none⟩), .int .i64 n] w fun e w' => (lg.point n = none ∧ e = .returned (.pointer none) ∧ Fr [] w w') ∨ (lg.point n = some lg.base ∧ e = .returned (.pointer (some ⟨bl, 0, none⟩)) ∧ Fr [] w w') ∨
      ∃ x, lg.point n = some x ∧ ∃ b off cs ty, e = .returned (.pointer (some ⟨b, off, none⟩)) ∧ w'.heap[b]? = some (Blk.obj ⟨cs, ty, true⟩) ∧ cellsAre cs off (ptC x) ∧ d.so = some ⟨b, 0, none⟩ ∧ Fr [] w w' := by
  obtain ⟨eo, ec, eF, mo, mc, mF, so, sc, sF⟩ := d
  obtain ⟨hbl, hA, hsep⟩ := hl
  refine enter (n := 18) (K := []) (A := Rws [rl evC 31 3 lg.evs eo ec eF, rl mkC 93 2 lg.mks mo mc mF, rl ptC 84 15 lg.sns so sc sF]) (F := Ff [rl evC 31 3 lg.evs eo ec eF, rl mkC 93 2 lg.mks mo mc mF, rl ptC 84 15 lg.sns so sc sF]) (T := [(0, .pointer (some ⟨bl, 0, none⟩)), (1, .int .i64 n)]) (L := [(bl, ⟨logC lg.base (.slice eo lg.evs.length ec) (.slice mo lg.mks.length mc) (.slice so lg.sns.length sc), 89, true⟩)]) (args := [.pointer (some ⟨bl, 0, none⟩), .int .i64 n]) Tryf.func49 rfl rfl rfl rfl (kcons hbl knil) (by simp) (kcons (by intro hq; cases hq) knil) hA Rws.stable (hA).low (kcons (by intro hq; cases hq) knil) ?_
  intro a h
  refine wp_seq_k fun K1 hK1 => ?_
  refine nd_start (l := [0]) rfl ?_
  refine nd_batch tabOk tabZ_ok [(0, {})] [0, 1, 4] (T' := [(0, .pointer (some ⟨bl, 0, none⟩)), (1, .int .i64 n), (4, .pointer none)]) (φ := True) (rest := []) h (by kernel_rfl) rfl trivial fun a2 h3 => ?_
  clear h
  refine nd_done ?_
  refine hK1 _ _ ?_
  clear hK1
  refine wp_seq_k fun K4 hK4 => ?_
  refine wp_seq_k fun K5 hK5 => ?_
  refine nd_start (l := [0, 1, 2, 3, 4, 5, 6]) rfl ?_
  refine nd_batch tabOk tabZ_ok [(0, {}), (1, {}), (2, {}), (3, {}), (4, {}), (5, {k := 0}), (6, {})] [0, 1, 4, 11] (T' := [(0, .pointer (some ⟨bl, 0, none⟩)), (1, .int .i64 n), (4, .pointer none), (11, .bool (n == lg.base.idx))]) (φ := (bl = bl ∧ Nat.ble (0 + 1) 18 = true) ∧ True) (rest := []) h3 (by kernel_rfl) rfl ⟨⟨rfl, rfl⟩, trivial⟩ fun a6 h7 => ?_
  clear h3
  refine nd_done ?_
  refine hK5 _ _ ?_
  clear hK5
  refine c_split h7 (b := (n == lg.base.idx)) rfl (fun hc8 => ?_) (fun hc8 => ?_)
  ·
    have hc8f : n = lg.base.idx := by simpa using hc8
    have hnb : n = lg.base.idx := hc8f
    refine wp_seq_k fun K9 hK9 => ?_
    refine nd_start (l := [0, 1, 2, 3]) rfl ?_
    refine nd_batch tabOk tabZ_ok [(0, {}), (1, {}), (2, {}), (3, {})] [0, 1, 4] (T' := [(0, .pointer (some ⟨bl, 0, none⟩)), (1, .int .i64 n), (4, .pointer (some ⟨bl, 0, none⟩))]) (φ := True) (rest := []) h7 (by kernel_rfl) rfl trivial fun a10 h11 => ?_
    clear h7
    refine nd_done ?_
    refine hK9 _ _ ?_
    clear hK9
    refine wp_ret ?_
    try simp only [Exit.then, Exit.inBlock]
    try rw [if_pos trivial]
    exact s_ret tabOk tabZ_ok h11 [(.tmp 4, {})] (vs := [.pointer (some ⟨bl, 0, none⟩)]) (φ := True) rfl (by kernel_rfl) trivial (.inr (.inl ⟨by unfold Lg.point; rw [if_pos hnb], rfl, h11.frame⟩))
  ·
    have hc8f : n ≠ lg.base.idx := by simpa using hc8
    have hnb : n ≠ lg.base.idx := hc8f
    refine wp_skip ?_
    refine hK4 _ _ ?_
    clear hK4
    refine wp_seq_k fun K12 hK12 => ?_
    refine nd_start (l := [0, 1, 2, 3]) rfl ?_
    refine nd_batch tabOk tabZ_ok [(0, {}), (1, {})] [0, 1, 4, 15, 16] (T' := [(0, .pointer (some ⟨bl, 0, none⟩)), (1, .int .i64 n), (4, .pointer none), (15, .pointer (some ⟨bl, 0, none⟩)), (16, .int .i64 n)]) (φ := True) (rest := [2, 3]) h7 (by kernel_rfl) rfl trivial fun a13 h14 => ?_
    clear h7
    refine nd_op ?_
    refine op_call h14 rfl rfl rfl (callOk Tryf.func46 (by decide) rfl) (args := [.pointer (some ⟨bl, 0, none⟩), .int .i64 n]) rfl (snapAt_ok bl ⟨eo, ec, eF, mo, mc, mF, so, sc, sF⟩ lg _ (LogAt.of (d := ⟨eo, ec, eF, mo, mc, mF, so, sc, sF⟩) (h14.kn (k := 0) rfl) h14.inv hsep) n hsort hsl) ?_
    rintro _ w15 (⟨hsn, rfl, hfb⟩ | ⟨x, hsn, b, off, cs, ty, rfl, hbb, hcc, hso, hfb⟩)
    ·
      refine ⟨_, rfl, ?_⟩
      have h16 := (h14.grow hfb).put (d := some 17) (v := .pointer none) (T' := [(17, .pointer none), (0, .pointer (some ⟨bl, 0, none⟩)), (1, .int .i64 n), (4, .pointer none), (15, .pointer (some ⟨bl, 0, none⟩)), (16, .int .i64 n)]) rfl
      clear h14
      refine nd_batch tabOk tabZ_ok [(3, {})] [0, 1, 4] (T' := [(0, .pointer (some ⟨bl, 0, none⟩)), (1, .int .i64 n), (4, .pointer none)]) (φ := True) (rest := []) h16 (by kernel_rfl) rfl trivial fun a17 h18 => ?_
      clear h16
      refine nd_done ?_
      refine hK12 _ _ ?_
      clear hK12
      refine wp_ret ?_
      try simp only [Exit.then, Exit.inBlock]
      try rw [if_pos trivial]
      exact s_ret tabOk tabZ_ok h18 [(.tmp 4, {})] (vs := [.pointer none]) (φ := True) rfl (by kernel_rfl) trivial (.inl ⟨by unfold Lg.point; rw [if_neg hnb]; exact hsn, rfl, h18.frame⟩)
    ·
      refine ⟨_, rfl, ?_⟩
      have h19 := (h14.grow hfb).put (d := some 17) (v := .pointer (some ⟨b, off, none⟩)) (T' := [(17, .pointer (some ⟨b, off, none⟩)), (0, .pointer (some ⟨bl, 0, none⟩)), (1, .int .i64 n), (4, .pointer none), (15, .pointer (some ⟨bl, 0, none⟩)), (16, .int .i64 n)]) rfl
      clear h14
      refine nd_batch tabOk tabZ_ok [(3, {})] [0, 1, 4] (T' := [(0, .pointer (some ⟨bl, 0, none⟩)), (1, .int .i64 n), (4, .pointer (some ⟨b, off, none⟩))]) (φ := True) (rest := []) h19 (by kernel_rfl) rfl trivial fun a20 h21 => ?_
      clear h19
      refine nd_done ?_
      refine hK12 _ _ ?_
      clear hK12
      refine wp_ret ?_
      try simp only [Exit.then, Exit.inBlock]
      try rw [if_pos trivial]
      exact s_ret tabOk tabZ_ok h21 [(.tmp 4, {})] (vs := [.pointer (some ⟨b, off, none⟩)]) (φ := True) rfl (by kernel_rfl) trivial (.inr (.inr ⟨x, by unfold Lg.point; rw [if_neg hnb]; exact hsn, b, off, cs, ty, rfl, hbb, hcc, hso, h21.frame⟩))

theorem trunc_ok (bs bl : Nat) (d : Hd) (s : Ss) (w : World) (hs : SessAt w bs bl d s) {B : Int} (hB : B ≤ 900000000) (hwf : s.wf B) (n : Int) :
    Calls Tryf.prog 25 #[.pointer (some ⟨bs, 0, none⟩), .int .i64 n] w (SOK w bs bl d (truncR s n).1 (truncR s n).2) := by
  obtain ⟨lg, m, out, pos, live⟩ := s
  obtain ⟨hwl, hm, hlo, hhi, hlv⟩ := hwf
  obtain ⟨hbs, hl, hne, hsm⟩ := hs
  simp only at hbs hl hwl hm hlo hhi hlv
  have hfq : lg.fin = lg.base.idx + (lg.evs.length : Int) := rfl
  have hb0 := hwl.b0
  have hfB := hwl.fin
  have hlen := hwl.len
  have hml := hwl.mlen
  have hsl := hwl.slen
  obtain ⟨eo, ec, eF, mo, mc, mF, so, sc, sF⟩ := d
  obtain ⟨hbl, hA, hsep⟩ := hl
  refine enter (n := 32) (K := [bs, bl]) (A := Rws [rl evC 31 3 lg.evs eo ec eF, rl mkC 93 2 lg.mks mo mc mF, rl ptC 84 15 lg.sns so sc sF]) (F := Ff [rl evC 31 3 lg.evs eo ec eF, rl mkC 93 2 lg.mks mo mc mF, rl ptC 84 15 lg.sns so sc sF]) (T := [(0, .pointer (some ⟨bs, 0, none⟩)), (1, .int .i64 n)]) (L := [(bs, ⟨sessC (.pointer (some ⟨bl, 0, none⟩)) m out pos live, 60, false⟩), (bl, ⟨logC lg.base (.slice eo lg.evs.length ec) (.slice mo lg.mks.length mc) (.slice so lg.sns.length sc), 89, false⟩)]) (args := [.pointer (some ⟨bs, 0, none⟩), .int .i64 n]) Tryf.func25 rfl rfl rfl rfl (kcons hbs (kcons hbl knil)) (by simp [hne]) (kcons (by simp) (kcons (by simp) knil)) hA Rws.stable (hA).low (kcons (fun _ => hsm) (kcons (fun _ => hsep) knil)) ?_
  intro a h
  refine wp_seq_k fun K1 hK1 => ?_
  refine nd_start (l := [0]) rfl ?_
  refine nd_op ?_
  refine op_new tabOk (cells := [.int .u8 0, .int .i64 0, .int .i64 0, .int .i64 0, .bool false, .bool false, .int .i8 0, .int .u64 0, .int .u64 0, .int .i64 0, .int .i64 0, .int .i64 0]) (ty := 46) (ln := none) (L1 := fun b2 => [(bs, ⟨sessC (.pointer (some ⟨bl, 0, none⟩)) m out pos live, 60, false⟩), (bl, ⟨logC lg.base (.slice eo lg.evs.length ec) (.slice mo lg.mks.length mc) (.slice so lg.sns.length sc), 89, false⟩), (b2, ⟨[.int .u8 0, .int .i64 0, .int .i64 0, .int .i64 0, .bool false, .bool false, .int .i8 0, .int .u64 0, .int .u64 0, .int .i64 0, .int .i64 0, .int .i64 0], 46, false⟩)]) h rfl rfl rfl rfl (by kernel_rfl) (fun _ => rfl) fun b2 w3 a4 h5 hf6 hn7 => ?_
  clear h
  refine nd_done ?_
  refine hK1 _ _ ?_
  clear hK1
  refine wp_seq_k fun K8 hK8 => ?_
  refine wp_block ?_
  refine wp_seq_k fun K9 hK9 => ?_
  refine nd_start (l := [0, 1, 2, 3, 4, 5, 6, 7]) rfl ?_
  refine nd_batch tabOk tabZ_ok [(0, {}), (1, {}), (2, {}), (3, {k := 0}), (4, {})] [4, 0, 1, 9, 10] (T' := [(4, .pointer (some ⟨b2, 0, none⟩)), (0, .pointer (some ⟨bs, 0, none⟩)), (1, .int .i64 n), (9, .pointer (some ⟨bl, 0, none⟩)), (10, .int .i64 n)]) (φ := (bs = bs ∧ Nat.ble (0 + 1) 17 = true) ∧ True) (rest := [5, 6, 7]) h5 (by kernel_rfl) rfl ⟨⟨rfl, rfl⟩, trivial⟩ fun a10 h11 => ?_
  clear h5
  refine nd_op ?_
  refine op_call h11 rfl rfl rfl (callOk Tryf.func46 (by decide) rfl) (args := [.pointer (some ⟨bl, 0, none⟩), .int .i64 n]) rfl (snapAt_ok bl ⟨eo, ec, eF, mo, mc, mF, so, sc, sF⟩ lg _ (LogAt.of (d := ⟨eo, ec, eF, mo, mc, mF, so, sc, sF⟩) (h11.kn (k := 1) rfl) h11.inv hsep) n hwl.ssort (by omega)) ?_
  rintro _ w12 (⟨hsn, rfl, hfb⟩ | ⟨x, hsn, b, off, cs, ty, rfl, hbb, hcc, hso, hfb⟩)
  ·
    refine ⟨_, rfl, ?_⟩
    have h13 := (h11.grow hfb).put (d := some 11) (v := .pointer none) (T' := [(11, .pointer none), (4, .pointer (some ⟨b2, 0, none⟩)), (0, .pointer (some ⟨bs, 0, none⟩)), (1, .int .i64 n), (9, .pointer (some ⟨bl, 0, none⟩)), (10, .int .i64 n)]) rfl
    clear h11
    refine nd_batch tabOk tabZ_ok [(6, {}), (7, {})] [4, 0, 1, 5] (T' := [(4, .pointer (some ⟨b2, 0, none⟩)), (0, .pointer (some ⟨bs, 0, none⟩)), (1, .int .i64 n), (5, .bool true)]) (φ := True) (rest := []) h13 (by kernel_rfl) rfl trivial fun a14 h15 => ?_
    clear h13
    refine nd_done ?_
    refine hK9 _ _ ?_
    clear hK9
    refine c_true h15 rfl ?_
    refine wp_seq_k fun K16 hK16 => ?_
    refine nd_start (l := [0, 1, 2]) rfl ?_
    refine nd_batch tabOk tabZ_ok [(0, {})] [4, 0, 1, 13] (T' := [(4, .pointer (some ⟨b2, 0, none⟩)), (0, .pointer (some ⟨bs, 0, none⟩)), (1, .int .i64 n), (13, .pointer (some ⟨bs, 0, none⟩))]) (φ := True) (rest := [1, 2]) h15 (by kernel_rfl) rfl trivial fun a17 h18 => ?_
    clear h15
    refine nd_op ?_
    refine op_call h18 rfl rfl rfl (callOk Tryf.func29 (by decide) rfl) (args := [.pointer (some ⟨bs, 0, none⟩), .int .u8 2]) rfl (status_ok bs bl m hm out pos live lg.base eo lg.evs.length ec (.slice mo lg.mks.length mc) (.slice so lg.sns.length sc) 2 _ false false (h18.kn (k := 0) rfl) (h18.kn (k := 1) rfl) hne (by omega) (by omega) (by omega)) ?_
    rintro _ w19 ⟨rfl, hf21⟩
    refine ⟨_, rfl, ?_⟩
    have h20 := (h18.grow hf21).put (d := some 14) (v := .agg #[.int .u8 2, .int .i64 pos, .int .i64 lg.base.idx, .int .i64 (lg.base.idx + (lg.evs.length : Int)), .bool live, .bool out.refused, .int .i8 out.running, .int .u64 out.value, .int .u64 (dig m), .int .i64 pos, .int .i64 0, .int .i64 (-1)]) (T' := [(14, .agg #[.int .u8 2, .int .i64 pos, .int .i64 lg.base.idx, .int .i64 (lg.base.idx + (lg.evs.length : Int)), .bool live, .bool out.refused, .int .i8 out.running, .int .u64 out.value, .int .u64 (dig m), .int .i64 pos, .int .i64 0, .int .i64 (-1)]), (4, .pointer (some ⟨b2, 0, none⟩)), (0, .pointer (some ⟨bs, 0, none⟩)), (1, .int .i64 n), (13, .pointer (some ⟨bs, 0, none⟩))]) rfl
    clear h18
    refine nd_op ?_
    refine op_store tabOk {k := 2} (L' := [(bs, ⟨sessC (.pointer (some ⟨bl, 0, none⟩)) m out pos live, 60, false⟩), (bl, ⟨logC lg.base (.slice eo lg.evs.length ec) (.slice mo lg.mks.length mc) (.slice so lg.sns.length sc), 89, false⟩), (b2, ⟨[.int .u8 2, .int .i64 pos, .int .i64 lg.base.idx, .int .i64 (lg.base.idx + (lg.evs.length : Int)), .bool live, .bool out.refused, .int .i8 out.running, .int .u64 out.value, .int .u64 (dig m), .int .i64 pos, .int .i64 0, .int .i64 (-1)], 46, false⟩)]) (φ := b2 = b2 ∧ Nat.ble (0 + 12) 12 = true) h20 rfl rfl rfl (by kernel_rfl) ⟨rfl, rfl⟩ fun w22 h23 => ?_
    clear h20
    refine nd_done ?_
    refine hK16 _ _ ?_
    clear hK16
    refine wp_ret ?_
    have hR : truncR (⟨lg, m, out, pos, live⟩ : Ss) n = ((⟨lg, m, out, pos, live⟩ : Ss).stat 2, (⟨lg, m, out, pos, live⟩ : Ss)) := by unfold truncR; simp only [hsn]
    try simp only [Exit.then, Exit.inBlock]
    try rw [if_pos trivial]
    exact s_ret tabOk tabZ_ok h23 [(.cell 4 46, {k := 2})] (vs := [.agg #[.int .u8 2, .int .i64 pos, .int .i64 lg.base.idx, .int .i64 (lg.base.idx + (lg.evs.length : Int)), .bool live, .bool out.refused, .int .i8 out.running, .int .u64 out.value, .int .u64 (dig m), .int .i64 pos, .int .i64 0, .int .i64 (-1)]]) (φ := (b2 = b2 ∧ Nat.ble (0 + 12) 12 = true) ∧ True) rfl (by kernel_rfl) ⟨⟨rfl, rfl⟩, trivial⟩ (by rw [hR]; exact ⟨⟨eo, ec, eF, mo, mc, mF, so, sc, sF⟩, rfl, ⟨h23.kn (k := 0) rfl, LogAt.of (h23.kn (k := 1) rfl) h23.inv hsep, hne, hsm⟩, (h23.frame.mono (fun b hb => by simp at hb; first | (subst hb; simp) | (rcases hb with rfl | rfl <;> simp))), fun b hb => .inl hb⟩)
  ·
    refine ⟨_, rfl, ?_⟩
    have h24 := (h11.grow hfb).put (d := some 11) (v := .pointer (some ⟨b, off, none⟩)) (T' := [(11, .pointer (some ⟨b, off, none⟩)), (4, .pointer (some ⟨b2, 0, none⟩)), (0, .pointer (some ⟨bs, 0, none⟩)), (1, .int .i64 n), (9, .pointer (some ⟨bl, 0, none⟩)), (10, .int .i64 n)]) rfl
    clear h11
    refine nd_batch tabOk tabZ_ok [(6, {}), (7, {})] [4, 0, 1, 5] (T' := [(4, .pointer (some ⟨b2, 0, none⟩)), (0, .pointer (some ⟨bs, 0, none⟩)), (1, .int .i64 n), (5, .bool false)]) (φ := True) (rest := []) h24 (by kernel_rfl) rfl trivial fun a25 h26 => ?_
    clear h24
    refine nd_done ?_
    refine hK9 _ _ ?_
    clear hK9
    refine c_false h26 rfl ?_
    refine wp_seq_k fun K27 hK27 => ?_
    refine nd_start (l := [0, 1, 2, 3, 4, 5, 6]) rfl ?_
    refine nd_batch tabOk tabZ_ok [(0, {}), (1, {}), (2, {}), (3, {}), (4, {k := 0}), (5, {}), (6, {})] [4, 0, 1, 15] (T' := [(4, .pointer (some ⟨b2, 0, none⟩)), (0, .pointer (some ⟨bs, 0, none⟩)), (1, .int .i64 n), (15, .bool (decide (n > pos)))]) (φ := (bs = bs ∧ Nat.ble (15 + 1) 17 = true) ∧ True) (rest := []) h26 (by kernel_rfl) rfl ⟨⟨rfl, rfl⟩, trivial⟩ fun a28 h29 => ?_
    clear h26
    refine nd_done ?_
    refine hK27 _ _ ?_
    clear hK27
    refine c_split h29 (b := decide (n > pos)) rfl (fun hc30 => ?_) (fun hc30 => ?_)
    ·
      have hc30f : n > pos := by simpa using hc30
      refine wp_seq_k fun K31 hK31 => ?_
      refine nd_start (l := [0, 1, 2]) rfl ?_
      refine nd_batch tabOk tabZ_ok [(0, {})] [4, 0, 1, 22] (T' := [(4, .pointer (some ⟨b2, 0, none⟩)), (0, .pointer (some ⟨bs, 0, none⟩)), (1, .int .i64 n), (22, .pointer (some ⟨bs, 0, none⟩))]) (φ := True) (rest := [1, 2]) h29 (by kernel_rfl) rfl trivial fun a32 h33 => ?_
      clear h29
      refine nd_op ?_
      refine op_call h33 rfl rfl rfl (callOk Tryf.func29 (by decide) rfl) (args := [.pointer (some ⟨bs, 0, none⟩), .int .u8 1]) rfl (status_ok bs bl m hm out pos live lg.base eo lg.evs.length ec (.slice mo lg.mks.length mc) (.slice so lg.sns.length sc) 1 _ false false (h33.kn (k := 0) rfl) (h33.kn (k := 1) rfl) hne (by omega) (by omega) (by omega)) ?_
      rintro _ w34 ⟨rfl, hf36⟩
      refine ⟨_, rfl, ?_⟩
      have h35 := (h33.grow hf36).put (d := some 23) (v := .agg #[.int .u8 1, .int .i64 pos, .int .i64 lg.base.idx, .int .i64 (lg.base.idx + (lg.evs.length : Int)), .bool live, .bool out.refused, .int .i8 out.running, .int .u64 out.value, .int .u64 (dig m), .int .i64 pos, .int .i64 0, .int .i64 (-1)]) (T' := [(23, .agg #[.int .u8 1, .int .i64 pos, .int .i64 lg.base.idx, .int .i64 (lg.base.idx + (lg.evs.length : Int)), .bool live, .bool out.refused, .int .i8 out.running, .int .u64 out.value, .int .u64 (dig m), .int .i64 pos, .int .i64 0, .int .i64 (-1)]), (4, .pointer (some ⟨b2, 0, none⟩)), (0, .pointer (some ⟨bs, 0, none⟩)), (1, .int .i64 n), (22, .pointer (some ⟨bs, 0, none⟩))]) rfl
      clear h33
      refine nd_op ?_
      refine op_store tabOk {k := 2} (L' := [(bs, ⟨sessC (.pointer (some ⟨bl, 0, none⟩)) m out pos live, 60, false⟩), (bl, ⟨logC lg.base (.slice eo lg.evs.length ec) (.slice mo lg.mks.length mc) (.slice so lg.sns.length sc), 89, false⟩), (b2, ⟨[.int .u8 1, .int .i64 pos, .int .i64 lg.base.idx, .int .i64 (lg.base.idx + (lg.evs.length : Int)), .bool live, .bool out.refused, .int .i8 out.running, .int .u64 out.value, .int .u64 (dig m), .int .i64 pos, .int .i64 0, .int .i64 (-1)], 46, false⟩)]) (φ := b2 = b2 ∧ Nat.ble (0 + 12) 12 = true) h35 rfl rfl rfl (by kernel_rfl) ⟨rfl, rfl⟩ fun w37 h38 => ?_
      clear h35
      refine nd_done ?_
      refine hK31 _ _ ?_
      clear hK31
      refine wp_ret ?_
      have hR : truncR (⟨lg, m, out, pos, live⟩ : Ss) n = ((⟨lg, m, out, pos, live⟩ : Ss).stat 1, (⟨lg, m, out, pos, live⟩ : Ss)) := by unfold truncR; simp only [hsn]; rw [if_pos (by omega)]
      try simp only [Exit.then, Exit.inBlock]
      try rw [if_pos trivial]
      exact s_ret tabOk tabZ_ok h38 [(.cell 4 46, {k := 2})] (vs := [.agg #[.int .u8 1, .int .i64 pos, .int .i64 lg.base.idx, .int .i64 (lg.base.idx + (lg.evs.length : Int)), .bool live, .bool out.refused, .int .i8 out.running, .int .u64 out.value, .int .u64 (dig m), .int .i64 pos, .int .i64 0, .int .i64 (-1)]]) (φ := (b2 = b2 ∧ Nat.ble (0 + 12) 12 = true) ∧ True) rfl (by kernel_rfl) ⟨⟨rfl, rfl⟩, trivial⟩ (by rw [hR]; exact ⟨⟨eo, ec, eF, mo, mc, mF, so, sc, sF⟩, rfl, ⟨h38.kn (k := 0) rfl, LogAt.of (h38.kn (k := 1) rfl) h38.inv hsep, hne, hsm⟩, (h38.frame.mono (fun b hb => by simp at hb; first | (subst hb; simp) | (rcases hb with rfl | rfl <;> simp))), fun b hb => .inl hb⟩)
    ·
      have hc30f : ¬ n > pos := by simpa using hc30
      refine wp_skip ?_
      refine hK8 _ _ ?_
      clear hK8
      refine wp_seq_k fun K39 hK39 => ?_
      refine nd_start (l := [0, 1, 2, 3, 4, 5]) rfl ?_
      refine nd_batch tabOk tabZ_ok [(0, {}), (1, {}), (2, {}), (3, {k := 0}), (4, {})] [4, 0, 1, 27, 28] (T' := [(4, .pointer (some ⟨b2, 0, none⟩)), (0, .pointer (some ⟨bs, 0, none⟩)), (1, .int .i64 n), (27, .pointer (some ⟨bl, 0, none⟩)), (28, .int .i64 n)]) (φ := (bs = bs ∧ Nat.ble (0 + 1) 17 = true) ∧ True) (rest := [5]) h29 (by kernel_rfl) rfl ⟨⟨rfl, rfl⟩, trivial⟩ fun a40 h41 => ?_
      clear h29
      refine nd_op ?_
      have htw := trunc_wf hwl (n := n)
      have ht0 := htw.b0
      have ht1 := htw.fin
      have ht2 := htw.len
      have ht3 : (lg.truncAt n).fin = (lg.truncAt n).base.idx + ((lg.truncAt n).evs.length : Int) := rfl
      refine op_call h41 rfl rfl rfl (callOk Tryf.func47 (by decide) rfl) (args := [.pointer (some ⟨bl, 0, none⟩), .int .i64 n]) rfl (truncate_ok bl ⟨eo, ec, eF, mo, mc, mF, so, sc, sF⟩ lg _ (LogAt.ofSt h41 (k := 1) rfl (List.Sublist.refl _)) n hwl.sin hb0 (by omega) hlen hml (by omega)) ?_
      rintro _ w42 ⟨⟨eo1, ec1, eF1, mo1, mc1, mF1, so1, sc1, sF1⟩, rfl, ⟨hb1, hA1, hsep1⟩, hf44, hF45⟩
      refine ⟨_, rfl, ?_⟩
      have h43q := h41.turn hf44 (kcons (.inl (by simp)) knil) (A' := Rws [rl evC 31 3 ((lg.truncAt n).evs) eo1 ec1 eF1, rl mkC 93 2 ((lg.truncAt n).mks) mo1 mc1 mF1, rl ptC 84 15 ((lg.truncAt n).sns) so1 sc1 sF1]) (F' := Ff [rl evC 31 3 ((lg.truncAt n).evs) eo1 ec1 eF1, rl mkC 93 2 ((lg.truncAt n).mks) mo1 mc1 mF1, rl ptC 84 15 ((lg.truncAt n).sns) so1 sc1 sF1]) (L' := [(bs, ⟨sessC (.pointer (some ⟨bl, 0, none⟩)) m out pos live, 60, false⟩), (bl, ⟨logC ((lg.truncAt n).base) (.slice eo1 (((lg.truncAt n).evs).length) ec1) (.slice mo1 (((lg.truncAt n).mks).length) mc1) (.slice so1 (((lg.truncAt n).sns).length) sc1), 89, false⟩), (b2, ⟨[.int .u8 0, .int .i64 0, .int .i64 0, .int .i64 0, .bool false, .bool false, .int .i8 0, .int .u64 0, .int .u64 0, .int .i64 0, .int .i64 0, .int .i64 0], 46, false⟩)]) rfl (kcons (h41.stays hf44 (k := 0) rfl (h41.ne 0 1 rfl rfl rfl |> fun hq => by simpa using hq)) (kcons hb1 (kcons (h41.stays hf44 (k := 2) rfl (h41.ne 2 1 rfl rfl rfl |> fun hq => by simpa using hq)) knil))) hA1 Rws.stable hA1.low hF45
      have h43 := h43q.put (d := some 29) (v := .bool ((lg.snap n).isSome)) (T' := [(29, .bool ((lg.snap n).isSome)), (4, .pointer (some ⟨b2, 0, none⟩)), (0, .pointer (some ⟨bs, 0, none⟩)), (1, .int .i64 n), (27, .pointer (some ⟨bl, 0, none⟩)), (28, .int .i64 n)]) rfl
      have hsz1 := h41.frame.size
      clear h41 h43q
      refine nd_done ?_
      refine hK39 _ _ ?_
      clear hK39
      refine wp_seq_k fun K46 hK46 => ?_
      refine nd_start (l := [0, 1, 2]) rfl ?_
      refine nd_batch tabOk tabZ_ok [(0, {})] [4, 0, 1, 30] (T' := [(4, .pointer (some ⟨b2, 0, none⟩)), (0, .pointer (some ⟨bs, 0, none⟩)), (1, .int .i64 n), (30, .pointer (some ⟨bs, 0, none⟩))]) (φ := True) (rest := [1, 2]) h43 (by kernel_rfl) rfl trivial fun a47 h48 => ?_
      clear h43
      refine nd_op ?_
      refine op_call h48 rfl rfl rfl (callOk Tryf.func29 (by decide) rfl) (args := [.pointer (some ⟨bs, 0, none⟩), .int .u8 0]) rfl (status_ok bs bl m hm out pos live ((lg.truncAt n).base) eo1 (((lg.truncAt n).evs).length) ec1 (.slice mo1 (((lg.truncAt n).mks).length) mc1) (.slice so1 (((lg.truncAt n).sns).length) sc1) 0 _ false false (h48.kn (k := 0) rfl) (h48.kn (k := 1) rfl) hne (by omega) (by omega) (by omega)) ?_
      rintro _ w49 ⟨rfl, hf51⟩
      refine ⟨_, rfl, ?_⟩
      have h50 := (h48.grow hf51).put (d := some 31) (v := .agg #[.int .u8 0, .int .i64 pos, .int .i64 ((lg.truncAt n).base.idx), .int .i64 ((lg.truncAt n).base.idx + (((lg.truncAt n).evs).length : Int)), .bool live, .bool out.refused, .int .i8 out.running, .int .u64 out.value, .int .u64 (dig m), .int .i64 pos, .int .i64 0, .int .i64 (-1)]) (T' := [(31, .agg #[.int .u8 0, .int .i64 pos, .int .i64 ((lg.truncAt n).base.idx), .int .i64 ((lg.truncAt n).base.idx + (((lg.truncAt n).evs).length : Int)), .bool live, .bool out.refused, .int .i8 out.running, .int .u64 out.value, .int .u64 (dig m), .int .i64 pos, .int .i64 0, .int .i64 (-1)]), (4, .pointer (some ⟨b2, 0, none⟩)), (0, .pointer (some ⟨bs, 0, none⟩)), (1, .int .i64 n), (30, .pointer (some ⟨bs, 0, none⟩))]) rfl
      clear h48
      refine nd_op ?_
      refine op_store tabOk {k := 2} (L' := [(bs, ⟨sessC (.pointer (some ⟨bl, 0, none⟩)) m out pos live, 60, false⟩), (bl, ⟨logC ((lg.truncAt n).base) (.slice eo1 (((lg.truncAt n).evs).length) ec1) (.slice mo1 (((lg.truncAt n).mks).length) mc1) (.slice so1 (((lg.truncAt n).sns).length) sc1), 89, false⟩), (b2, ⟨[.int .u8 0, .int .i64 pos, .int .i64 ((lg.truncAt n).base.idx), .int .i64 ((lg.truncAt n).base.idx + (((lg.truncAt n).evs).length : Int)), .bool live, .bool out.refused, .int .i8 out.running, .int .u64 out.value, .int .u64 (dig m), .int .i64 pos, .int .i64 0, .int .i64 (-1)], 46, false⟩)]) (φ := b2 = b2 ∧ Nat.ble (0 + 12) 12 = true) h50 rfl rfl rfl (by kernel_rfl) ⟨rfl, rfl⟩ fun w52 h53 => ?_
      clear h50
      refine nd_done ?_
      refine hK46 _ _ ?_
      clear hK46
      refine wp_ret ?_
      have hR : truncR (⟨lg, m, out, pos, live⟩ : Ss) n = ((⟨lg.truncAt n, m, out, pos, live⟩ : Ss).stat 0, (⟨lg.truncAt n, m, out, pos, live⟩ : Ss)) := by unfold truncR; simp only [hsn]; rw [if_neg (by omega)]
      try simp only [Exit.then, Exit.inBlock]
      try rw [if_pos trivial]
      exact s_ret tabOk tabZ_ok h53 [(.cell 4 46, {k := 2})] (vs := [.agg #[.int .u8 0, .int .i64 pos, .int .i64 ((lg.truncAt n).base.idx), .int .i64 ((lg.truncAt n).base.idx + (((lg.truncAt n).evs).length : Int)), .bool live, .bool out.refused, .int .i8 out.running, .int .u64 out.value, .int .u64 (dig m), .int .i64 pos, .int .i64 0, .int .i64 (-1)]]) (φ := (b2 = b2 ∧ Nat.ble (0 + 12) 12 = true) ∧ True) rfl (by kernel_rfl) ⟨⟨rfl, rfl⟩, trivial⟩ (by rw [hR]; exact ⟨⟨eo1, ec1, eF1, mo1, mc1, mF1, so1, sc1, sF1⟩, rfl, ⟨h53.kn (k := 0) rfl, LogAt.of (h53.kn (k := 1) rfl) h53.inv hsep1, hne, (h53.dj (k := 0) rfl rfl)⟩, (h53.frame.mono (fun b hb => by simp at hb; first | (subst hb; simp) | (rcases hb with rfl | rfl <;> simp))), fun b hb => by rcases hF45 b hb with hq | hq; exact .inl hq; exact .inr (Nat.le_trans hsz1 hq)⟩)

theorem resume_ok (bs bl : Nat) (d : Hd) (s : Ss) (w : World) (hs : SessAt w bs bl d s) {B : Int} (hB : B ≤ 900000000) (hwf : s.wf B) :
    Calls Tryf.prog 26 #[.pointer (some ⟨bs, 0, none⟩)] w (SOK w bs bl d (resumeR s).1 (resumeR s).2) := by
  obtain ⟨lg, m, out, pos, live⟩ := s
  obtain ⟨hwl, hm, hlo, hhi, hlv⟩ := hwf
  obtain ⟨hbs, hl, hne, hsm⟩ := hs
  simp only at hbs hl hwl hm hlo hhi hlv
  have hfq : lg.fin = lg.base.idx + (lg.evs.length : Int) := rfl
  have hb0 := hwl.b0
  have hfB := hwl.fin
  have hlen := hwl.len
  have hml := hwl.mlen
  have hsl := hwl.slen
  obtain ⟨eo, ec, eF, mo, mc, mF, so, sc, sF⟩ := d
  obtain ⟨hbl, hA, hsep⟩ := hl
  refine enter (n := 17) (K := [bs, bl]) (A := Rws [rl evC 31 3 lg.evs eo ec eF, rl mkC 93 2 lg.mks mo mc mF, rl ptC 84 15 lg.sns so sc sF]) (F := Ff [rl evC 31 3 lg.evs eo ec eF, rl mkC 93 2 lg.mks mo mc mF, rl ptC 84 15 lg.sns so sc sF]) (T := [(0, .pointer (some ⟨bs, 0, none⟩))]) (L := [(bs, ⟨sessC (.pointer (some ⟨bl, 0, none⟩)) m out pos live, 60, false⟩), (bl, ⟨logC lg.base (.slice eo lg.evs.length ec) (.slice mo lg.mks.length mc) (.slice so lg.sns.length sc), 89, false⟩)]) (args := [.pointer (some ⟨bs, 0, none⟩)]) Tryf.func26 rfl rfl rfl rfl (kcons hbs (kcons hbl knil)) (by simp [hne]) (kcons (by simp) (kcons (by simp) knil)) hA Rws.stable (hA).low (kcons (fun _ => hsm) (kcons (fun _ => hsep) knil)) ?_
  intro a h
  refine wp_seq_k fun K1 hK1 => ?_
  refine nd_start (l := [0]) rfl ?_
  refine nd_op ?_
  refine op_new tabOk (cells := [.int .u8 0, .int .i64 0, .int .i64 0, .int .i64 0, .bool false, .bool false, .int .i8 0, .int .u64 0, .int .u64 0, .int .i64 0, .int .i64 0, .int .i64 0]) (ty := 46) (ln := none) (L1 := fun b2 => [(bs, ⟨sessC (.pointer (some ⟨bl, 0, none⟩)) m out pos live, 60, false⟩), (bl, ⟨logC lg.base (.slice eo lg.evs.length ec) (.slice mo lg.mks.length mc) (.slice so lg.sns.length sc), 89, false⟩), (b2, ⟨[.int .u8 0, .int .i64 0, .int .i64 0, .int .i64 0, .bool false, .bool false, .int .i8 0, .int .u64 0, .int .u64 0, .int .i64 0, .int .i64 0, .int .i64 0], 46, false⟩)]) h rfl rfl rfl rfl (by kernel_rfl) (fun _ => rfl) fun b2 w3 a4 h5 hf6 hn7 => ?_
  clear h
  refine nd_done ?_
  refine hK1 _ _ ?_
  clear hK1
  refine wp_seq_k fun K8 hK8 => ?_
  refine dr_start (KB := [bs, bl, b2]) (Bi := [[0, 1, 2], [0, 1, 2], [0, 1, 2], [0, 1, 2], [0, 1, 2], [0, 1, 2], [0, 1, 2], [0, 1, 2], []]) mixed h5 fun w9 h10 => ?_
  clear h5
  refine dr_batch tabOk tabZ_ok (by repeat (first | exact PF.body | with_reducible apply PF.inB | with_reducible apply PF.next)) [(0, {}), (1, {}), (2, {}), (3, {k := 0, p := 0}), (4, {}), (5, {}), (6, {}), (7, {k := 0, p := 0})] [2, 0, 6, 10] (T' := [(2, .pointer (some ⟨b2, 0, none⟩)), (0, .pointer (some ⟨bs, 0, none⟩)), (6, .pointer (some ⟨bl, 0, none⟩)), (10, .int .i64 pos)]) (φ := (bs = bs ∧ Nat.ble (0 + 1) 17 = true) ∧ (bs = bs ∧ Nat.ble (15 + 1) 17 = true) ∧ True) (fuel := 1) h10 (by kernel_rfl) rfl (by kernel_rfl) (by kernel_rfl) ⟨trivial, trivial, trivial, rfl, trivial, trivial, trivial, rfl, trivial⟩ ⟨⟨rfl, rfl⟩, ⟨rfl, rfl⟩, trivial⟩ fun a12 h13 => ?_
  clear h10
  refine wpAnyK_one (i := 8) (fuel := 0) (by kernel_rfl) ?_
  have htw := cut_wf hwl (n := pos) hlo hhi
  have ht0 := htw.b0
  have ht1 := htw.fin
  have ht2 := htw.len
  have ht3 : (lg.cutAfter pos).fin = (lg.cutAfter pos).base.idx + ((lg.cutAfter pos).evs.length : Int) := rfl
  refine op_call h13 rfl rfl rfl (callOk Tryf.func48 (by decide) rfl) (args := [.pointer (some ⟨bl, 0, none⟩), .int .i64 pos]) rfl (cutAfter_ok bl ⟨eo, ec, eF, mo, mc, mF, so, sc, sF⟩ lg _ (LogAt.ofSt h13 (k := 1) rfl (List.Sublist.refl _)) pos (pos - lg.base.idx).toNat (by omega) (by omega) hb0 (by omega) hlen hml (by omega)) ?_
  rintro _ w14 ⟨⟨eo1, ec1, eF1, mo1, mc1, mF1, so1, sc1, sF1⟩, rfl, ⟨hb1, hA1, hsep1⟩, hf16, hF17⟩
  refine ⟨_, rfl, ?_⟩
  have h15q := h13.turn hf16 (kcons (.inl (by simp)) knil) (A' := Rws [rl evC 31 3 ((lg.cutAfter pos).evs) eo1 ec1 eF1, rl mkC 93 2 ((lg.cutAfter pos).mks) mo1 mc1 mF1, rl ptC 84 15 ((lg.cutAfter pos).sns) so1 sc1 sF1]) (F' := Ff [rl evC 31 3 ((lg.cutAfter pos).evs) eo1 ec1 eF1, rl mkC 93 2 ((lg.cutAfter pos).mks) mo1 mc1 mF1, rl ptC 84 15 ((lg.cutAfter pos).sns) so1 sc1 sF1]) (L' := [(bs, ⟨sessC (.pointer (some ⟨bl, 0, none⟩)) m out pos live, 60, false⟩), (bl, ⟨logC ((lg.cutAfter pos).base) (.slice eo1 (((lg.cutAfter pos).evs).length) ec1) (.slice mo1 (((lg.cutAfter pos).mks).length) mc1) (.slice so1 (((lg.cutAfter pos).sns).length) sc1), 89, false⟩), (b2, ⟨[.int .u8 0, .int .i64 0, .int .i64 0, .int .i64 0, .bool false, .bool false, .int .i8 0, .int .u64 0, .int .u64 0, .int .i64 0, .int .i64 0, .int .i64 0], 46, false⟩)]) rfl (kcons (h13.stays hf16 (k := 0) rfl (h13.ne 0 1 rfl rfl rfl |> fun hq => by simpa using hq)) (kcons hb1 (kcons (h13.stays hf16 (k := 2) rfl (h13.ne 2 1 rfl rfl rfl |> fun hq => by simpa using hq)) knil))) hA1 Rws.stable hA1.low hF17
  have h15 := h15q.put (d := some 11) (v := .tuple #[]) (T' := [(11, .tuple #[]), (2, .pointer (some ⟨b2, 0, none⟩)), (0, .pointer (some ⟨bs, 0, none⟩)), (6, .pointer (some ⟨bl, 0, none⟩)), (10, .int .i64 pos)]) rfl
  have hsz1 := h13.frame.size
  clear h13 h15q
  refine ⟨keepNil, ?_⟩
  refine wpAnyK_done (by kernel_rfl) ?_ _
  refine hK8 _ _ ?_
  clear hK8
  refine wp_seq_k fun K18 hK18 => ?_
  refine nd_start (l := [0, 1, 2, 3]) rfl ?_
  refine nd_batch tabOk tabZ_ok [(0, {}), (1, {}), (2, {})] [2, 0, 14] (T' := [(2, .pointer (some ⟨b2, 0, none⟩)), (0, .pointer (some ⟨bs, 0, none⟩)), (14, .pointer (some ⟨bs, 16, none⟩))]) (φ := True) (rest := [3]) h15 (by kernel_rfl) rfl trivial fun a19 h20 => ?_
  clear h15
  refine nd_op ?_
  refine op_store tabOk {k := 0} (L' := [(bs, ⟨[.pointer (some ⟨bl, 0, none⟩), .int .u64 m.now, .int .i8 m.cur, .int .u8 m.s0, .int .u8 m.s1, .int .u8 m.s2, .int .u8 m.s3, .int .u64 m.r0, .int .u64 m.r1, .int .u64 m.r2, .int .u64 m.r3, .int .u64 m.word, .bool out.refused, .int .i8 out.running, .int .u64 out.value, .int .i64 pos, .bool true], 60, false⟩), (bl, ⟨logC ((lg.cutAfter pos).base) (.slice eo1 (((lg.cutAfter pos).evs).length) ec1) (.slice mo1 (((lg.cutAfter pos).mks).length) mc1) (.slice so1 (((lg.cutAfter pos).sns).length) sc1), 89, false⟩), (b2, ⟨[.int .u8 0, .int .i64 0, .int .i64 0, .int .i64 0, .bool false, .bool false, .int .i8 0, .int .u64 0, .int .u64 0, .int .i64 0, .int .i64 0, .int .i64 0], 46, false⟩)]) (φ := bs = bs ∧ Nat.ble (16 + 1) 17 = true) h20 rfl rfl rfl (by kernel_rfl) ⟨rfl, rfl⟩ fun w21 h22 => ?_
  clear h20
  refine nd_done ?_
  refine hK18 _ _ ?_
  clear hK18
  refine wp_seq_k fun K23 hK23 => ?_
  refine nd_start (l := [0, 1, 2]) rfl ?_
  refine nd_batch tabOk tabZ_ok [(0, {})] [2, 0, 15] (T' := [(2, .pointer (some ⟨b2, 0, none⟩)), (0, .pointer (some ⟨bs, 0, none⟩)), (15, .pointer (some ⟨bs, 0, none⟩))]) (φ := True) (rest := [1, 2]) h22 (by kernel_rfl) rfl trivial fun a24 h25 => ?_
  clear h22
  refine nd_op ?_
  refine op_call h25 rfl rfl rfl (callOk Tryf.func29 (by decide) rfl) (args := [.pointer (some ⟨bs, 0, none⟩), .int .u8 0]) rfl (status_ok bs bl m hm out pos true ((lg.cutAfter pos).base) eo1 (((lg.cutAfter pos).evs).length) ec1 (.slice mo1 (((lg.cutAfter pos).mks).length) mc1) (.slice so1 (((lg.cutAfter pos).sns).length) sc1) 0 _ false false (h25.kn (k := 0) rfl) (h25.kn (k := 1) rfl) hne (by omega) (by omega) (by omega)) ?_
  rintro _ w26 ⟨rfl, hf28⟩
  refine ⟨_, rfl, ?_⟩
  have h27 := (h25.grow hf28).put (d := some 16) (v := .agg #[.int .u8 0, .int .i64 pos, .int .i64 ((lg.cutAfter pos).base.idx), .int .i64 ((lg.cutAfter pos).base.idx + (((lg.cutAfter pos).evs).length : Int)), .bool true, .bool out.refused, .int .i8 out.running, .int .u64 out.value, .int .u64 (dig m), .int .i64 pos, .int .i64 0, .int .i64 (-1)]) (T' := [(16, .agg #[.int .u8 0, .int .i64 pos, .int .i64 ((lg.cutAfter pos).base.idx), .int .i64 ((lg.cutAfter pos).base.idx + (((lg.cutAfter pos).evs).length : Int)), .bool true, .bool out.refused, .int .i8 out.running, .int .u64 out.value, .int .u64 (dig m), .int .i64 pos, .int .i64 0, .int .i64 (-1)]), (2, .pointer (some ⟨b2, 0, none⟩)), (0, .pointer (some ⟨bs, 0, none⟩)), (15, .pointer (some ⟨bs, 0, none⟩))]) rfl
  clear h25
  refine nd_op ?_
  refine op_store tabOk {k := 2} (L' := [(bs, ⟨[.pointer (some ⟨bl, 0, none⟩), .int .u64 m.now, .int .i8 m.cur, .int .u8 m.s0, .int .u8 m.s1, .int .u8 m.s2, .int .u8 m.s3, .int .u64 m.r0, .int .u64 m.r1, .int .u64 m.r2, .int .u64 m.r3, .int .u64 m.word, .bool out.refused, .int .i8 out.running, .int .u64 out.value, .int .i64 pos, .bool true], 60, false⟩), (bl, ⟨logC ((lg.cutAfter pos).base) (.slice eo1 (((lg.cutAfter pos).evs).length) ec1) (.slice mo1 (((lg.cutAfter pos).mks).length) mc1) (.slice so1 (((lg.cutAfter pos).sns).length) sc1), 89, false⟩), (b2, ⟨[.int .u8 0, .int .i64 pos, .int .i64 ((lg.cutAfter pos).base.idx), .int .i64 ((lg.cutAfter pos).base.idx + (((lg.cutAfter pos).evs).length : Int)), .bool true, .bool out.refused, .int .i8 out.running, .int .u64 out.value, .int .u64 (dig m), .int .i64 pos, .int .i64 0, .int .i64 (-1)], 46, false⟩)]) (φ := b2 = b2 ∧ Nat.ble (0 + 12) 12 = true) h27 rfl rfl rfl (by kernel_rfl) ⟨rfl, rfl⟩ fun w29 h30 => ?_
  clear h27
  refine nd_done ?_
  refine hK23 _ _ ?_
  clear hK23
  refine wp_ret ?_
  have hR : resumeR (⟨lg, m, out, pos, live⟩ : Ss) = ((⟨lg.cutAfter pos, m, out, pos, true⟩ : Ss).stat 0, (⟨lg.cutAfter pos, m, out, pos, true⟩ : Ss)) := rfl
  try simp only [Exit.then, Exit.inBlock]
  try rw [if_pos trivial]
  exact s_ret tabOk tabZ_ok h30 [(.cell 2 46, {k := 2})] (vs := [.agg #[.int .u8 0, .int .i64 pos, .int .i64 ((lg.cutAfter pos).base.idx), .int .i64 ((lg.cutAfter pos).base.idx + (((lg.cutAfter pos).evs).length : Int)), .bool true, .bool out.refused, .int .i8 out.running, .int .u64 out.value, .int .u64 (dig m), .int .i64 pos, .int .i64 0, .int .i64 (-1)]]) (φ := (b2 = b2 ∧ Nat.ble (0 + 12) 12 = true) ∧ True) rfl (by kernel_rfl) ⟨⟨rfl, rfl⟩, trivial⟩ (by rw [hR]; exact ⟨⟨eo1, ec1, eF1, mo1, mc1, mF1, so1, sc1, sF1⟩, rfl, ⟨h30.kn (k := 0) rfl, LogAt.of (h30.kn (k := 1) rfl) h30.inv hsep1, hne, (h30.dj (k := 0) rfl rfl)⟩, (h30.frame.mono (fun b hb => by simp at hb; first | (subst hb; simp) | (rcases hb with rfl | rfl <;> simp))), fun b hb => by rcases hF17 b hb with hq | hq; exact .inl hq; exact .inr (Nat.le_trans hsz1 hq)⟩)

end Go.Proofs.Qxb6500919aFmt
