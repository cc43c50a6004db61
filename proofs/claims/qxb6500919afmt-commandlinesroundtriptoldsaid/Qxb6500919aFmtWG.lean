/-
  The session: Step. (Made by program: a symbolic walk that prints its steps.)
-/
import Derived.Test.Qxb6500919aFmtTab
import Derived.Test.Qxb6500919aFmtSeX
import Derived.Test.Qxb6500919aFmtW1
import Derived.Test.Qxb6500919aFmtW2
import Derived.Test.Qxb6500919aFmtW3
import Derived.Test.Qxb6500919aFmtW4
import Derived.Test.Qxb6500919aFmtW5
import Derived.Test.Qxb6500919aFmtW6
import Derived.Test.Qxb6500919aFmtW7
import Derived.Test.Qxb6500919aFmtW8
import Derived.Test.Qxb6500919aFmtW9
import Derived.Test.Qxb6500919aFmtWC
namespace Go.Proofs.Qxb6500919aFmt
open Go.Sx Go.Rp
set_option maxRecDepth 100000
set_option maxHeartbeats 4000000
set_option linter.unusedVariables false
set_option linter.unusedSimpArgs false

theorem sstep_ok (bs bl : Nat) (d : Hd) (s : Ss) (w : World) (hs : SessAt w bs bl d s) {B : Int} (hB : B ≤ 900000000) (hwf : s.wf B) (ev : Ev) (he : ev.ok) :
    Calls Tryf.prog 21 #[.pointer (some ⟨bs, 0, none⟩), .agg (evC ev).toArray] w (SOK w bs bl d (stepR s ev).1 (stepR s ev).2) := by
  obtain ⟨lg, m, out, pos, live⟩ := s
  obtain ⟨hwl, hm, hlo, hhi, hlv⟩ := hwf
  obtain ⟨hbs, hl, hne, hsm⟩ := hs
  simp only at hbs hl hwl hm hlo hhi hlv
  have hfq : lg.fin = lg.base.idx + (lg.evs.length : Int) := rfl
  have hb0 := hwl.b0
  have hfB := hwl.fin
  have hlen := hwl.len
  have hml := hwl.mlen
  have hsl := hwl.slen
  obtain ⟨eo, ec, eF, mo, mc, mF, so, sc, sF⟩ := d
  obtain ⟨hbl, hA, hsep⟩ := hl
  refine enter (n := 52) (K := (bs :: bl :: (eF ++ (mF ++ (sF ++ []))))) (A := Rws [rl evC 31 3 lg.evs eo ec eF, rl mkC 93 2 lg.mks mo mc mF, rl ptC 84 15 lg.sns so sc sF]) (F := Ff [rl evC 31 3 lg.evs eo ec eF, rl mkC 93 2 lg.mks mo mc mF, rl ptC 84 15 lg.sns so sc sF]) (T := [(0, .pointer (some ⟨bs, 0, none⟩)), (1, .agg #[.int .u8 ev.kind, .int .u32 ev.pick, .int .u64 ev.arg])]) (L := [(bs, ⟨sessC (.pointer (some ⟨bl, 0, none⟩)) m out pos live, 60, false⟩), (bl, ⟨logC lg.base (.slice eo lg.evs.length ec) (.slice mo lg.mks.length mc) (.slice so lg.sns.length sc), 89, false⟩)]) (args := [.pointer (some ⟨bs, 0, none⟩), .agg #[.int .u8 ev.kind, .int .u32 ev.pick, .int .u64 ev.arg]]) Tryf.func21 rfl rfl rfl rfl (kcons hbs (kcons hbl knil)) (by simp [hne]) (kcons (by simp) (kcons (by simp) knil)) hA Rws.stable (hA).low (kcons (fun _ => hsm) (kcons (fun _ => hsep) knil)) ?_
  intro a h
  refine wp_seq_k fun K1 hK1 => ?_
  refine nd_start (l := [0, 1]) rfl ?_
  refine nd_op ?_
  refine op_new tabOk (cells := [.int .u8 ev.kind, .int .u32 ev.pick, .int .u64 ev.arg]) (ty := 31) (ln := none) (L1 := fun b2 => [(bs, ⟨sessC (.pointer (some ⟨bl, 0, none⟩)) m out pos live, 60, false⟩), (bl, ⟨logC lg.base (.slice eo lg.evs.length ec) (.slice mo lg.mks.length mc) (.slice so lg.sns.length sc), 89, false⟩), (b2, ⟨[.int .u8 ev.kind, .int .u32 ev.pick, .int .u64 ev.arg], 31, false⟩)]) h rfl rfl rfl rfl (by kernel_rfl) (fun _ => rfl) fun b2 w3 a4 h5 hf6 hn7 => ?_
  clear h
  refine nd_op ?_
  refine op_new tabOk (cells := [.int .u8 0, .int .i64 0, .int .i64 0, .int .i64 0, .bool false, .bool false, .int .i8 0, .int .u64 0, .int .u64 0, .int .i64 0, .int .i64 0, .int .i64 0]) (ty := 46) (ln := none) (L1 := fun b8 => [(bs, ⟨sessC (.pointer (some ⟨bl, 0, none⟩)) m out pos live, 60, false⟩), (bl, ⟨logC lg.base (.slice eo lg.evs.length ec) (.slice mo lg.mks.length mc) (.slice so lg.sns.length sc), 89, false⟩), (b2, ⟨[.int .u8 ev.kind, .int .u32 ev.pick, .int .u64 ev.arg], 31, false⟩), (b8, ⟨[.int .u8 0, .int .i64 0, .int .i64 0, .int .i64 0, .bool false, .bool false, .int .i8 0, .int .u64 0, .int .u64 0, .int .i64 0, .int .i64 0, .int .i64 0], 46, false⟩)]) h5 rfl rfl rfl rfl (by kernel_rfl) (fun _ => rfl) fun b8 w9 a10 h11 hf12 hn13 => ?_
  clear h5
  refine nd_done ?_
  refine hK1 _ _ ?_
  clear hK1
  refine wp_seq_k fun K14 hK14 => ?_
  refine wp_seq_k fun K15 hK15 => ?_
  refine nd_start (l := [0, 1, 2, 3, 4]) rfl ?_
  refine nd_batch tabOk tabZ_ok [(0, {}), (1, {}), (2, {}), (3, {k := 0}), (4, {})] [4, 3, 0, 1, 12] (T' := [(4, .pointer (some ⟨b8, 0, none⟩)), (3, .pointer (some ⟨b2, 0, none⟩)), (0, .pointer (some ⟨bs, 0, none⟩)), (1, .agg #[.int .u8 ev.kind, .int .u32 ev.pick, .int .u64 ev.arg]), (12, .bool (!live))]) (φ := (bs = bs ∧ Nat.ble (16 + 1) 17 = true) ∧ True) (rest := []) h11 (by kernel_rfl) rfl ⟨⟨rfl, rfl⟩, trivial⟩ fun a16 h17 => ?_
  clear h11
  refine nd_done ?_
  refine hK15 _ _ ?_
  clear hK15
  refine c_split h17 (b := !live) rfl (fun hc18 => ?_) (fun hc18 => ?_)
  ·
    have hlive : live = false := by simpa using hc18
    refine wp_seq_k fun K19 hK19 => ?_
    refine nd_start (l := [0, 1, 2]) rfl ?_
    refine nd_batch tabOk tabZ_ok [(0, {})] [4, 3, 0, 1, 13] (T' := [(4, .pointer (some ⟨b8, 0, none⟩)), (3, .pointer (some ⟨b2, 0, none⟩)), (0, .pointer (some ⟨bs, 0, none⟩)), (1, .agg #[.int .u8 ev.kind, .int .u32 ev.pick, .int .u64 ev.arg]), (13, .pointer (some ⟨bs, 0, none⟩))]) (φ := True) (rest := [1, 2]) h17 (by kernel_rfl) rfl trivial fun a20 h21 => ?_
    clear h17
    refine nd_op ?_
    refine op_call h21 rfl rfl rfl (callOk Tryf.func29 (by decide) rfl) (args := [.pointer (some ⟨bs, 0, none⟩), .int .u8 3]) rfl (status_ok bs bl m hm out pos live lg.base eo lg.evs.length ec (.slice mo lg.mks.length mc) (.slice so lg.sns.length sc) 3 _ false false (h21.kn (k := 0) rfl) (h21.kn (k := 1) rfl) hne (by omega) (by omega) (by omega)) ?_
    rintro _ w22 ⟨rfl, hf24⟩
    refine ⟨_, rfl, ?_⟩
    have h23 := (h21.grow hf24).put (d := some 14) (v := .agg #[.int .u8 3, .int .i64 pos, .int .i64 lg.base.idx, .int .i64 (lg.base.idx + (lg.evs.length : Int)), .bool live, .bool out.refused, .int .i8 out.running, .int .u64 out.value, .int .u64 (dig m), .int .i64 pos, .int .i64 0, .int .i64 (-1)]) (T' := [(14, .agg #[.int .u8 3, .int .i64 pos, .int .i64 lg.base.idx, .int .i64 (lg.base.idx + (lg.evs.length : Int)), .bool live, .bool out.refused, .int .i8 out.running, .int .u64 out.value, .int .u64 (dig m), .int .i64 pos, .int .i64 0, .int .i64 (-1)]), (4, .pointer (some ⟨b8, 0, none⟩)), (3, .pointer (some ⟨b2, 0, none⟩)), (0, .pointer (some ⟨bs, 0, none⟩)), (1, .agg #[.int .u8 ev.kind, .int .u32 ev.pick, .int .u64 ev.arg]), (13, .pointer (some ⟨bs, 0, none⟩))]) rfl
    clear h21
    refine nd_op ?_
    refine op_store tabOk {k := 3} (L' := [(bs, ⟨sessC (.pointer (some ⟨bl, 0, none⟩)) m out pos live, 60, false⟩), (bl, ⟨logC lg.base (.slice eo lg.evs.length ec) (.slice mo lg.mks.length mc) (.slice so lg.sns.length sc), 89, false⟩), (b2, ⟨[.int .u8 ev.kind, .int .u32 ev.pick, .int .u64 ev.arg], 31, false⟩), (b8, ⟨[.int .u8 3, .int .i64 pos, .int .i64 lg.base.idx, .int .i64 (lg.base.idx + (lg.evs.length : Int)), .bool live, .bool out.refused, .int .i8 out.running, .int .u64 out.value, .int .u64 (dig m), .int .i64 pos, .int .i64 0, .int .i64 (-1)], 46, false⟩)]) (φ := b8 = b8 ∧ Nat.ble (0 + 12) 12 = true) h23 rfl rfl rfl (by kernel_rfl) ⟨rfl, rfl⟩ fun w25 h26 => ?_
    clear h23
    refine nd_done ?_
    refine hK19 _ _ ?_
    clear hK19
    refine wp_ret ?_
    have hR : stepR (⟨lg, m, out, pos, live⟩ : Ss) ev = ((⟨lg, m, out, pos, live⟩ : Ss).stat 3, (⟨lg, m, out, pos, live⟩ : Ss)) := by unfold stepR; rw [if_pos hlive]
    try simp only [Exit.then, Exit.inBlock]
    try rw [if_pos trivial]
    exact s_ret tabOk tabZ_ok h26 [(.cell 4 46, {k := 3})] (vs := [.agg #[.int .u8 3, .int .i64 pos, .int .i64 lg.base.idx, .int .i64 (lg.base.idx + (lg.evs.length : Int)), .bool live, .bool out.refused, .int .i8 out.running, .int .u64 out.value, .int .u64 (dig m), .int .i64 pos, .int .i64 0, .int .i64 (-1)]]) (φ := (b8 = b8 ∧ Nat.ble (0 + 12) 12 = true) ∧ True) rfl (by kernel_rfl) ⟨⟨rfl, rfl⟩, trivial⟩ (by rw [hR]; exact ⟨⟨eo, ec, eF, mo, mc, mF, so, sc, sF⟩, rfl, ⟨h26.kn (k := 0) rfl, LogAt.of (h26.kn (k := 1) rfl) h26.inv hsep, hne, hsm⟩, h26.frame, fun b hb => .inl hb⟩)
  ·
    have hlive : live = true := by simpa using hc18
    refine wp_skip ?_
    refine hK14 _ _ ?_
    clear hK14
    refine wp_seq_k fun K27 hK27 => ?_
    refine dr_start (KB := [bs, bl, b2, b8]) (Bi := [[0, 1, 2, 3], [0, 1, 2, 3], [0, 1, 2, 3], [0, 1, 2, 3], [0, 1, 2, 3], [0, 1, 2, 3], [0, 1, 2, 3], [0, 1, 2, 3], [], [0, 1, 2, 3], [0, 1, 2, 3], [0, 1, 2, 3], [0, 1, 2, 3], [], [0, 1, 2, 3]]) mixed h17 fun w28 h29 => ?_
    clear h17
    refine dr_batch tabOk tabZ_ok (by repeat (first | exact PF.body | with_reducible apply PF.inB | with_reducible apply PF.next)) [(0, {}), (1, {}), (2, {}), (3, {k := 0, p := 0}), (4, {}), (5, {}), (6, {}), (7, {k := 2, p := 2})] [4, 3, 0, 1, 19, 22, 23] (T' := [(4, .pointer (some ⟨b8, 0, none⟩)), (3, .pointer (some ⟨b2, 0, none⟩)), (0, .pointer (some ⟨bs, 0, none⟩)), (1, .agg #[.int .u8 ev.kind, .int .u32 ev.pick, .int .u64 ev.arg]), (19, .pointer (some ⟨bl, 0, none⟩)), (22, .pointer (some ⟨bs, 1, none⟩)), (23, .agg #[.int .u8 ev.kind, .int .u32 ev.pick, .int .u64 ev.arg])]) (φ := (bs = bs ∧ Nat.ble (0 + 1) 17 = true) ∧ (b2 = b2 ∧ Nat.ble (0 + 3) 3 = true) ∧ True) (fuel := 7) h29 (by kernel_rfl) rfl (by kernel_rfl) (by kernel_rfl) ⟨trivial, trivial, trivial, rfl, trivial, trivial, trivial, rfl, trivial⟩ ⟨⟨rfl, rfl⟩, ⟨rfl, rfl⟩, trivial⟩ fun a31 h32 => ?_
    clear h29
    refine wpAnyK_two (i := 8) (j := 12) (fuel := 6) (by kernel_rfl) ?_ ?_
    ·
      refine op_call h32 rfl rfl rfl (callOk Tryf.func40 (by decide) rfl) (args := [.pointer (some ⟨bl, 0, none⟩), .pointer (some ⟨bs, 1, none⟩), .agg #[.int .u8 ev.kind, .int .u32 ev.pick, .int .u64 ev.arg]]) rfl (record_or bl ⟨eo, ec, eF, mo, mc, mF, so, sc, sF⟩ lg _ (LogAt.ofSt h32 (k := 1) rfl (List.Sublist.refl _)) [.pointer (some ⟨bl, 0, none⟩)] (outC out ++ [.int .i64 pos, .bool live]) m hm ev he bs 60 (h32.kn (k := 0) rfl) hne hsm hwl.evs hb0 (by omega) hlen hml (by omega)) ?_
      rintro _ w33 (⟨hfull, rfl, hbm1, ⟨hb1, hA1, hsep1⟩, hfr1⟩ | ⟨hfull, ⟨eo1, ec1, eF1, mo1, mc1, mF1, so1, sc1, sF1⟩, rfl, hbm1, ⟨hb1, hA1, hsep1⟩, hfr1, hF1⟩)
      ·
        refine ⟨_, rfl, ?_⟩
        have h34q := h32.turn hfr1 (fun b hb => .inl hb) (A' := Rws [rl evC 31 3 lg.evs eo ec eF, rl mkC 93 2 lg.mks mo mc mF, rl ptC 84 15 lg.sns so sc sF]) (F' := Ff [rl evC 31 3 lg.evs eo ec eF, rl mkC 93 2 lg.mks mo mc mF, rl ptC 84 15 lg.sns so sc sF]) (L' := [(bs, ⟨sessC (.pointer (some ⟨bl, 0, none⟩)) m out pos live, 60, false⟩), (bl, ⟨logC lg.base (.slice eo lg.evs.length ec) (.slice mo lg.mks.length mc) (.slice so lg.sns.length sc), 89, false⟩), (b2, ⟨[.int .u8 ev.kind, .int .u32 ev.pick, .int .u64 ev.arg], 31, false⟩), (b8, ⟨[.int .u8 0, .int .i64 0, .int .i64 0, .int .i64 0, .bool false, .bool false, .int .i8 0, .int .u64 0, .int .u64 0, .int .i64 0, .int .i64 0, .int .i64 0], 46, false⟩)]) rfl (kcons hbm1 (kcons hb1 (kcons (h32.stays hfr1 (k := 2) rfl (by intro hq; rcases List.mem_cons.1 hq with hq | hq; exact h32.ne 2 0 rfl rfl rfl hq; rcases List.mem_cons.1 hq with hq | hq; exact h32.ne 2 1 rfl rfl rfl hq; exact h32.dj (k := 2) rfl rfl hq)) (kcons (h32.stays hfr1 (k := 3) rfl (by intro hq; rcases List.mem_cons.1 hq with hq | hq; exact h32.ne 3 0 rfl rfl rfl hq; rcases List.mem_cons.1 hq with hq | hq; exact h32.ne 3 1 rfl rfl rfl hq; exact h32.dj (k := 3) rfl rfl hq)) knil)))) hA1 Rws.stable hA1.low (fun b hb => .inl hb)
        have h34 := h34q.put (d := some 24) (v := .tuple #[.agg #[.bool out0.refused, .int .i8 out0.running, .int .u64 out0.value], .bool false]) (T' := [(24, .tuple #[.agg #[.bool out0.refused, .int .i8 out0.running, .int .u64 out0.value], .bool false]), (4, .pointer (some ⟨b8, 0, none⟩)), (3, .pointer (some ⟨b2, 0, none⟩)), (0, .pointer (some ⟨bs, 0, none⟩)), (1, .agg #[.int .u8 ev.kind, .int .u32 ev.pick, .int .u64 ev.arg]), (19, .pointer (some ⟨bl, 0, none⟩)), (22, .pointer (some ⟨bs, 1, none⟩)), (23, .agg #[.int .u8 ev.kind, .int .u32 ev.pick, .int .u64 ev.arg])]) rfl
        have hsz1 := h32.frame.size
        have hkh34 := h32.known
        refine ⟨keepNil, ?_⟩
        clear h32 h34q
        refine dr_batch tabOk tabZ_ok (by repeat (first | exact PF.body | with_reducible apply PF.inB | with_reducible apply PF.next)) [(9, {}), (10, {}), (11, {})] [4, 3, 0, 1, 25, 26] (T' := [(4, .pointer (some ⟨b8, 0, none⟩)), (3, .pointer (some ⟨b2, 0, none⟩)), (0, .pointer (some ⟨bs, 0, none⟩)), (1, .agg #[.int .u8 ev.kind, .int .u32 ev.pick, .int .u64 ev.arg]), (25, .agg #[.bool out0.refused, .int .i8 out0.running, .int .u64 out0.value]), (26, .bool false)]) (φ := True) (fuel := 3) h34 (by kernel_rfl) rfl (by kernel_rfl) (by kernel_rfl) ⟨trivial, trivial, trivial, trivial⟩ trivial fun a35 h36 => ?_
        clear h34
        refine wpAnyK_one (i := 12) (fuel := 2) (by kernel_rfl) ?_
        refine op_new tabOk (cells := [.bool false, .int .i8 0, .int .u64 0]) (ty := 44) (ln := none) (L1 := fun b37 => [(bs, ⟨sessC (.pointer (some ⟨bl, 0, none⟩)) m out pos live, 60, false⟩), (bl, ⟨logC lg.base (.slice eo lg.evs.length ec) (.slice mo lg.mks.length mc) (.slice so lg.sns.length sc), 89, false⟩), (b2, ⟨[.int .u8 ev.kind, .int .u32 ev.pick, .int .u64 ev.arg], 31, false⟩), (b8, ⟨[.int .u8 0, .int .i64 0, .int .i64 0, .int .i64 0, .bool false, .bool false, .int .i8 0, .int .u64 0, .int .u64 0, .int .i64 0, .int .i64 0, .int .i64 0], 46, false⟩), (b37, ⟨[.bool false, .int .i8 0, .int .u64 0], 44, false⟩)]) h36 rfl rfl rfl rfl (by kernel_rfl) (fun _ => rfl) fun b37 w38 a39 h40 hf41 hn42 => ?_
        refine ⟨(h36.keepFr hf41 (kcons (by simp) (kcons (by simp) (kcons (by simp) (kcons (by simp) knil))))), ?_⟩
        clear h36
        refine wpAnyK_one (i := 13) (fuel := 1) (by kernel_rfl) ?_
        refine op_store tabOk {k := 4} (L' := [(bs, ⟨sessC (.pointer (some ⟨bl, 0, none⟩)) m out pos live, 60, false⟩), (bl, ⟨logC lg.base (.slice eo lg.evs.length ec) (.slice mo lg.mks.length mc) (.slice so lg.sns.length sc), 89, false⟩), (b2, ⟨[.int .u8 ev.kind, .int .u32 ev.pick, .int .u64 ev.arg], 31, false⟩), (b8, ⟨[.int .u8 0, .int .i64 0, .int .i64 0, .int .i64 0, .bool false, .bool false, .int .i8 0, .int .u64 0, .int .u64 0, .int .i64 0, .int .i64 0, .int .i64 0], 46, false⟩), (b37, ⟨[.bool out0.refused, .int .i8 out0.running, .int .u64 out0.value], 44, false⟩)]) (φ := b37 = b37 ∧ Nat.ble (0 + 3) 3 = true) h40 rfl rfl rfl (by kernel_rfl) ⟨rfl, rfl⟩ fun w43 h44 => ?_
        have hkh44 := h40.known
        refine ⟨keepNil, ?_⟩
        clear h40
        refine dr_batch tabOk tabZ_ok (by repeat (first | exact PF.body | with_reducible apply PF.inB | with_reducible apply PF.next)) [(14, {})] [5, 4, 3, 0, 1, 6] (T' := [(5, .pointer (some ⟨b37, 0, none⟩)), (4, .pointer (some ⟨b8, 0, none⟩)), (3, .pointer (some ⟨b2, 0, none⟩)), (0, .pointer (some ⟨bs, 0, none⟩)), (1, .agg #[.int .u8 ev.kind, .int .u32 ev.pick, .int .u64 ev.arg]), (6, .bool false)]) (φ := True) (fuel := 0) h44 (by kernel_rfl) rfl (by kernel_rfl) (by kernel_rfl) ⟨trivial, trivial⟩ trivial fun a45 h46 => ?_
        clear h44
        refine wpAnyK_done (by kernel_rfl) ?_ _
        refine hK27 _ _ ?_
        clear hK27
        refine wp_seq_k fun K47 hK47 => ?_
        refine wp_seq_k fun K48 hK48 => ?_
        refine nd_start (l := [0, 1]) rfl ?_
        refine nd_batch tabOk tabZ_ok [(0, {}), (1, {})] [5, 4, 3, 0, 1, 6, 28] (T' := [(5, .pointer (some ⟨b37, 0, none⟩)), (4, .pointer (some ⟨b8, 0, none⟩)), (3, .pointer (some ⟨b2, 0, none⟩)), (0, .pointer (some ⟨bs, 0, none⟩)), (1, .agg #[.int .u8 ev.kind, .int .u32 ev.pick, .int .u64 ev.arg]), (6, .bool false), (28, .bool true)]) (φ := True) (rest := []) h46 (by kernel_rfl) rfl trivial fun a49 h50 => ?_
        clear h46
        refine nd_done ?_
        refine hK48 _ _ ?_
        clear hK48
        refine c_true h50 rfl ?_
        refine wp_seq_k fun K51 hK51 => ?_
        refine nd_start (l := [0, 1, 2]) rfl ?_
        refine nd_batch tabOk tabZ_ok [(0, {})] [5, 4, 3, 0, 1, 6, 29] (T' := [(5, .pointer (some ⟨b37, 0, none⟩)), (4, .pointer (some ⟨b8, 0, none⟩)), (3, .pointer (some ⟨b2, 0, none⟩)), (0, .pointer (some ⟨bs, 0, none⟩)), (1, .agg #[.int .u8 ev.kind, .int .u32 ev.pick, .int .u64 ev.arg]), (6, .bool false), (29, .pointer (some ⟨bs, 0, none⟩))]) (φ := True) (rest := [1, 2]) h50 (by kernel_rfl) rfl trivial fun a52 h53 => ?_
        clear h50
        refine nd_op ?_
        refine op_call h53 rfl rfl rfl (callOk Tryf.func29 (by decide) rfl) (args := [.pointer (some ⟨bs, 0, none⟩), .int .u8 4]) rfl (status_ok bs bl m hm out pos live lg.base eo lg.evs.length ec (.slice mo lg.mks.length mc) (.slice so lg.sns.length sc) 4 _ false false (h53.kn (k := 0) rfl) (h53.kn (k := 1) rfl) hne (by omega) (by omega) (by omega)) ?_
        rintro _ w54 ⟨rfl, hf56⟩
        refine ⟨_, rfl, ?_⟩
        have h55 := (h53.grow hf56).put (d := some 30) (v := .agg #[.int .u8 4, .int .i64 pos, .int .i64 lg.base.idx, .int .i64 (lg.base.idx + (lg.evs.length : Int)), .bool live, .bool out.refused, .int .i8 out.running, .int .u64 out.value, .int .u64 (dig m), .int .i64 pos, .int .i64 0, .int .i64 (-1)]) (T' := [(30, .agg #[.int .u8 4, .int .i64 pos, .int .i64 lg.base.idx, .int .i64 (lg.base.idx + (lg.evs.length : Int)), .bool live, .bool out.refused, .int .i8 out.running, .int .u64 out.value, .int .u64 (dig m), .int .i64 pos, .int .i64 0, .int .i64 (-1)]), (5, .pointer (some ⟨b37, 0, none⟩)), (4, .pointer (some ⟨b8, 0, none⟩)), (3, .pointer (some ⟨b2, 0, none⟩)), (0, .pointer (some ⟨bs, 0, none⟩)), (1, .agg #[.int .u8 ev.kind, .int .u32 ev.pick, .int .u64 ev.arg]), (6, .bool false), (29, .pointer (some ⟨bs, 0, none⟩))]) rfl
        clear h53
        refine nd_op ?_
        refine op_store tabOk {k := 3} (L' := [(bs, ⟨sessC (.pointer (some ⟨bl, 0, none⟩)) m out pos live, 60, false⟩), (bl, ⟨logC lg.base (.slice eo lg.evs.length ec) (.slice mo lg.mks.length mc) (.slice so lg.sns.length sc), 89, false⟩), (b2, ⟨[.int .u8 ev.kind, .int .u32 ev.pick, .int .u64 ev.arg], 31, false⟩), (b8, ⟨[.int .u8 4, .int .i64 pos, .int .i64 lg.base.idx, .int .i64 (lg.base.idx + (lg.evs.length : Int)), .bool live, .bool out.refused, .int .i8 out.running, .int .u64 out.value, .int .u64 (dig m), .int .i64 pos, .int .i64 0, .int .i64 (-1)], 46, false⟩), (b37, ⟨[.bool out0.refused, .int .i8 out0.running, .int .u64 out0.value], 44, false⟩)]) (φ := b8 = b8 ∧ Nat.ble (0 + 12) 12 = true) h55 rfl rfl rfl (by kernel_rfl) ⟨rfl, rfl⟩ fun w57 h58 => ?_
        clear h55
        refine nd_done ?_
        refine hK51 _ _ ?_
        clear hK51
        refine wp_ret ?_
        have hR : stepR (⟨lg, m, out, pos, live⟩ : Ss) ev = ((⟨lg, m, out, pos, live⟩ : Ss).stat 4, (⟨lg, m, out, pos, live⟩ : Ss)) := by unfold stepR; rw [if_neg (by show ¬ live = false; rw [hlive]; decide), if_pos (show 4096 < lg.used + lg.need ev from hfull)]
        try simp only [Exit.then, Exit.inBlock]
        try rw [if_pos trivial]
        exact s_ret tabOk tabZ_ok h58 [(.cell 4 46, {k := 3})] (vs := [.agg #[.int .u8 4, .int .i64 pos, .int .i64 lg.base.idx, .int .i64 (lg.base.idx + (lg.evs.length : Int)), .bool live, .bool out.refused, .int .i8 out.running, .int .u64 out.value, .int .u64 (dig m), .int .i64 pos, .int .i64 0, .int .i64 (-1)]]) (φ := (b8 = b8 ∧ Nat.ble (0 + 12) 12 = true) ∧ True) rfl (by kernel_rfl) ⟨⟨rfl, rfl⟩, trivial⟩ (by rw [hR]; exact ⟨⟨eo, ec, eF, mo, mc, mF, so, sc, sF⟩, rfl, ⟨h58.kn (k := 0) rfl, LogAt.of (h58.kn (k := 1) rfl) h58.inv hsep, hne, hsm⟩, h58.frame, fun b hb => .inl hb⟩)
      ·
        refine ⟨_, rfl, ?_⟩
        have h59q := h32.turn hfr1 (fun b hb => .inl hb) (A' := Rws [rl evC 31 3 ((lg.recd m ev).evs) eo1 ec1 eF1, rl mkC 93 2 ((lg.recd m ev).mks) mo1 mc1 mF1, rl ptC 84 15 ((lg.recd m ev).sns) so1 sc1 sF1]) (F' := Ff [rl evC 31 3 ((lg.recd m ev).evs) eo1 ec1 eF1, rl mkC 93 2 ((lg.recd m ev).mks) mo1 mc1 mF1, rl ptC 84 15 ((lg.recd m ev).sns) so1 sc1 sF1]) (L' := [(bs, ⟨sessC (.pointer (some ⟨bl, 0, none⟩)) (kstep m ev).1 out pos live, 60, false⟩), (bl, ⟨logC ((lg.recd m ev).base) (.slice eo1 (((lg.recd m ev).evs).length) ec1) (.slice mo1 (((lg.recd m ev).mks).length) mc1) (.slice so1 (((lg.recd m ev).sns).length) sc1), 89, false⟩), (b2, ⟨[.int .u8 ev.kind, .int .u32 ev.pick, .int .u64 ev.arg], 31, false⟩), (b8, ⟨[.int .u8 0, .int .i64 0, .int .i64 0, .int .i64 0, .bool false, .bool false, .int .i8 0, .int .u64 0, .int .u64 0, .int .i64 0, .int .i64 0, .int .i64 0], 46, false⟩)]) rfl (kcons hbm1 (kcons hb1 (kcons (h32.stays hfr1 (k := 2) rfl (by intro hq; rcases List.mem_cons.1 hq with hq | hq; exact h32.ne 2 0 rfl rfl rfl hq; rcases List.mem_cons.1 hq with hq | hq; exact h32.ne 2 1 rfl rfl rfl hq; exact h32.dj (k := 2) rfl rfl hq)) (kcons (h32.stays hfr1 (k := 3) rfl (by intro hq; rcases List.mem_cons.1 hq with hq | hq; exact h32.ne 3 0 rfl rfl rfl hq; rcases List.mem_cons.1 hq with hq | hq; exact h32.ne 3 1 rfl rfl rfl hq; exact h32.dj (k := 3) rfl rfl hq)) knil)))) hA1 Rws.stable hA1.low hF1
        have h59 := h59q.put (d := some 24) (v := .tuple #[.agg #[.bool ((kstep m ev).2.refused), .int .i8 ((kstep m ev).2.running), .int .u64 ((kstep m ev).2.value)], .bool true]) (T' := [(24, .tuple #[.agg #[.bool ((kstep m ev).2.refused), .int .i8 ((kstep m ev).2.running), .int .u64 ((kstep m ev).2.value)], .bool true]), (4, .pointer (some ⟨b8, 0, none⟩)), (3, .pointer (some ⟨b2, 0, none⟩)), (0, .pointer (some ⟨bs, 0, none⟩)), (1, .agg #[.int .u8 ev.kind, .int .u32 ev.pick, .int .u64 ev.arg]), (19, .pointer (some ⟨bl, 0, none⟩)), (22, .pointer (some ⟨bs, 1, none⟩)), (23, .agg #[.int .u8 ev.kind, .int .u32 ev.pick, .int .u64 ev.arg])]) rfl
        have hsz1 := h32.frame.size
        have hkh59 := h32.known
        refine ⟨keepNil, ?_⟩
        clear h32 h59q
        have htw := recd_wf hwl hm he hfull
        have ht0 := htw.b0
        have ht1 := htw.fin
        have ht2 := htw.len
        have ht3 : (lg.recd m ev).fin = (lg.recd m ev).base.idx + ((lg.recd m ev).evs.length : Int) := rfl
        refine dr_batch tabOk tabZ_ok (by repeat (first | exact PF.body | with_reducible apply PF.inB | with_reducible apply PF.next)) [(9, {}), (10, {}), (11, {})] [4, 3, 0, 1, 25, 26] (T' := [(4, .pointer (some ⟨b8, 0, none⟩)), (3, .pointer (some ⟨b2, 0, none⟩)), (0, .pointer (some ⟨bs, 0, none⟩)), (1, .agg #[.int .u8 ev.kind, .int .u32 ev.pick, .int .u64 ev.arg]), (25, .agg #[.bool ((kstep m ev).2.refused), .int .i8 ((kstep m ev).2.running), .int .u64 ((kstep m ev).2.value)]), (26, .bool true)]) (φ := True) (fuel := 3) h59 (by kernel_rfl) rfl (by kernel_rfl) (by kernel_rfl) ⟨trivial, trivial, trivial, trivial⟩ trivial fun a60 h61 => ?_
        clear h59
        refine wpAnyK_one (i := 12) (fuel := 2) (by kernel_rfl) ?_
        refine op_new tabOk (cells := [.bool false, .int .i8 0, .int .u64 0]) (ty := 44) (ln := none) (L1 := fun b62 => [(bs, ⟨sessC (.pointer (some ⟨bl, 0, none⟩)) (kstep m ev).1 out pos live, 60, false⟩), (bl, ⟨logC ((lg.recd m ev).base) (.slice eo1 (((lg.recd m ev).evs).length) ec1) (.slice mo1 (((lg.recd m ev).mks).length) mc1) (.slice so1 (((lg.recd m ev).sns).length) sc1), 89, false⟩), (b2, ⟨[.int .u8 ev.kind, .int .u32 ev.pick, .int .u64 ev.arg], 31, false⟩), (b8, ⟨[.int .u8 0, .int .i64 0, .int .i64 0, .int .i64 0, .bool false, .bool false, .int .i8 0, .int .u64 0, .int .u64 0, .int .i64 0, .int .i64 0, .int .i64 0], 46, false⟩), (b62, ⟨[.bool false, .int .i8 0, .int .u64 0], 44, false⟩)]) h61 rfl rfl rfl rfl (by kernel_rfl) (fun _ => rfl) fun b62 w63 a64 h65 hf66 hn67 => ?_
        refine ⟨(h61.keepFr hf66 (kcons (by simp) (kcons (by simp) (kcons (by simp) (kcons (by simp) knil))))), ?_⟩
        clear h61
        refine wpAnyK_one (i := 13) (fuel := 1) (by kernel_rfl) ?_
        refine op_store tabOk {k := 4} (L' := [(bs, ⟨sessC (.pointer (some ⟨bl, 0, none⟩)) (kstep m ev).1 out pos live, 60, false⟩), (bl, ⟨logC ((lg.recd m ev).base) (.slice eo1 (((lg.recd m ev).evs).length) ec1) (.slice mo1 (((lg.recd m ev).mks).length) mc1) (.slice so1 (((lg.recd m ev).sns).length) sc1), 89, false⟩), (b2, ⟨[.int .u8 ev.kind, .int .u32 ev.pick, .int .u64 ev.arg], 31, false⟩), (b8, ⟨[.int .u8 0, .int .i64 0, .int .i64 0, .int .i64 0, .bool false, .bool false, .int .i8 0, .int .u64 0, .int .u64 0, .int .i64 0, .int .i64 0, .int .i64 0], 46, false⟩), (b62, ⟨[.bool ((kstep m ev).2.refused), .int .i8 ((kstep m ev).2.running), .int .u64 ((kstep m ev).2.value)], 44, false⟩)]) (φ := b62 = b62 ∧ Nat.ble (0 + 3) 3 = true) h65 rfl rfl rfl (by kernel_rfl) ⟨rfl, rfl⟩ fun w68 h69 => ?_
        have hkh69 := h65.known
        refine ⟨keepNil, ?_⟩
        clear h65
        refine dr_batch tabOk tabZ_ok (by repeat (first | exact PF.body | with_reducible apply PF.inB | with_reducible apply PF.next)) [(14, {})] [5, 4, 3, 0, 1, 6] (T' := [(5, .pointer (some ⟨b62, 0, none⟩)), (4, .pointer (some ⟨b8, 0, none⟩)), (3, .pointer (some ⟨b2, 0, none⟩)), (0, .pointer (some ⟨bs, 0, none⟩)), (1, .agg #[.int .u8 ev.kind, .int .u32 ev.pick, .int .u64 ev.arg]), (6, .bool true)]) (φ := True) (fuel := 0) h69 (by kernel_rfl) rfl (by kernel_rfl) (by kernel_rfl) ⟨trivial, trivial⟩ trivial fun a70 h71 => ?_
        clear h69
        refine wpAnyK_done (by kernel_rfl) ?_ _
        refine hK27 _ _ ?_
        clear hK27
        refine wp_seq_k fun K72 hK72 => ?_
        refine wp_seq_k fun K73 hK73 => ?_
        refine nd_start (l := [0, 1]) rfl ?_
        refine nd_batch tabOk tabZ_ok [(0, {}), (1, {})] [5, 4, 3, 0, 1, 6, 28] (T' := [(5, .pointer (some ⟨b62, 0, none⟩)), (4, .pointer (some ⟨b8, 0, none⟩)), (3, .pointer (some ⟨b2, 0, none⟩)), (0, .pointer (some ⟨bs, 0, none⟩)), (1, .agg #[.int .u8 ev.kind, .int .u32 ev.pick, .int .u64 ev.arg]), (6, .bool true), (28, .bool false)]) (φ := True) (rest := []) h71 (by kernel_rfl) rfl trivial fun a74 h75 => ?_
        clear h71
        refine nd_done ?_
        refine hK73 _ _ ?_
        clear hK73
        refine c_false h75 rfl ?_
        refine wp_skip ?_
        refine hK72 _ _ ?_
        clear hK72
        refine wp_seq_k fun K76 hK76 => ?_
        refine nd_start (l := [0, 1, 2, 3, 4]) rfl ?_
        refine nd_batch tabOk tabZ_ok [(0, {}), (1, {k := 4}), (2, {}), (3, {})] [5, 4, 3, 0, 1, 6, 32, 34] (T' := [(5, .pointer (some ⟨b62, 0, none⟩)), (4, .pointer (some ⟨b8, 0, none⟩)), (3, .pointer (some ⟨b2, 0, none⟩)), (0, .pointer (some ⟨bs, 0, none⟩)), (1, .agg #[.int .u8 ev.kind, .int .u32 ev.pick, .int .u64 ev.arg]), (6, .bool true), (32, .agg #[.bool ((kstep m ev).2.refused), .int .i8 ((kstep m ev).2.running), .int .u64 ((kstep m ev).2.value)]), (34, .pointer (some ⟨bs, 12, none⟩))]) (φ := (b62 = b62 ∧ Nat.ble (0 + 3) 3 = true) ∧ True) (rest := [4]) h75 (by kernel_rfl) rfl ⟨⟨rfl, rfl⟩, trivial⟩ fun a77 h78 => ?_
        clear h75
        refine nd_op ?_
        refine op_store tabOk {k := 0} (L' := [(bs, ⟨[.pointer (some ⟨bl, 0, none⟩), .int .u64 ((kstep m ev).1.now), .int .i8 ((kstep m ev).1.cur), .int .u8 ((kstep m ev).1.s0), .int .u8 ((kstep m ev).1.s1), .int .u8 ((kstep m ev).1.s2), .int .u8 ((kstep m ev).1.s3), .int .u64 ((kstep m ev).1.r0), .int .u64 ((kstep m ev).1.r1), .int .u64 ((kstep m ev).1.r2), .int .u64 ((kstep m ev).1.r3), .int .u64 ((kstep m ev).1.word), .bool ((kstep m ev).2.refused), .int .i8 ((kstep m ev).2.running), .int .u64 ((kstep m ev).2.value), .int .i64 pos, .bool live], 60, false⟩), (bl, ⟨logC ((lg.recd m ev).base) (.slice eo1 (((lg.recd m ev).evs).length) ec1) (.slice mo1 (((lg.recd m ev).mks).length) mc1) (.slice so1 (((lg.recd m ev).sns).length) sc1), 89, false⟩), (b2, ⟨[.int .u8 ev.kind, .int .u32 ev.pick, .int .u64 ev.arg], 31, false⟩), (b8, ⟨[.int .u8 0, .int .i64 0, .int .i64 0, .int .i64 0, .bool false, .bool false, .int .i8 0, .int .u64 0, .int .u64 0, .int .i64 0, .int .i64 0, .int .i64 0], 46, false⟩), (b62, ⟨[.bool ((kstep m ev).2.refused), .int .i8 ((kstep m ev).2.running), .int .u64 ((kstep m ev).2.value)], 44, false⟩)]) (φ := bs = bs ∧ Nat.ble (12 + 3) 17 = true) h78 rfl rfl rfl (by kernel_rfl) ⟨rfl, rfl⟩ fun w79 h80 => ?_
        clear h78
        refine nd_done ?_
        refine hK76 _ _ ?_
        clear hK76
        refine wp_seq_k fun K81 hK81 => ?_
        refine nd_start (l := [0, 1, 2, 3, 4, 5, 6, 7]) rfl ?_
        refine nd_batch tabOk tabZ_ok [(0, {}), (1, {}), (2, {}), (3, {k := 0}), (4, {}), (5, {}), (6, {})] [5, 4, 3, 0, 1, 6, 39, 41] (T' := [(5, .pointer (some ⟨b62, 0, none⟩)), (4, .pointer (some ⟨b8, 0, none⟩)), (3, .pointer (some ⟨b2, 0, none⟩)), (0, .pointer (some ⟨bs, 0, none⟩)), (1, .agg #[.int .u8 ev.kind, .int .u32 ev.pick, .int .u64 ev.arg]), (6, .bool true), (39, .int .i64 (pos + 1)), (41, .pointer (some ⟨bs, 15, none⟩))]) (φ := (bs = bs ∧ Nat.ble (15 + 1) 17 = true) ∧ inR .i64 (pos + 1) ∧ True) (rest := [7]) h80 (by kernel_rfl) rfl ⟨⟨rfl, rfl⟩, ⟨by omega, by omega⟩, trivial⟩ fun a82 h83 => ?_
        clear h80
        refine nd_op ?_
        refine op_store tabOk {k := 0} (L' := [(bs, ⟨[.pointer (some ⟨bl, 0, none⟩), .int .u64 ((kstep m ev).1.now), .int .i8 ((kstep m ev).1.cur), .int .u8 ((kstep m ev).1.s0), .int .u8 ((kstep m ev).1.s1), .int .u8 ((kstep m ev).1.s2), .int .u8 ((kstep m ev).1.s3), .int .u64 ((kstep m ev).1.r0), .int .u64 ((kstep m ev).1.r1), .int .u64 ((kstep m ev).1.r2), .int .u64 ((kstep m ev).1.r3), .int .u64 ((kstep m ev).1.word), .bool ((kstep m ev).2.refused), .int .i8 ((kstep m ev).2.running), .int .u64 ((kstep m ev).2.value), .int .i64 (pos + 1), .bool live], 60, false⟩), (bl, ⟨logC ((lg.recd m ev).base) (.slice eo1 (((lg.recd m ev).evs).length) ec1) (.slice mo1 (((lg.recd m ev).mks).length) mc1) (.slice so1 (((lg.recd m ev).sns).length) sc1), 89, false⟩), (b2, ⟨[.int .u8 ev.kind, .int .u32 ev.pick, .int .u64 ev.arg], 31, false⟩), (b8, ⟨[.int .u8 0, .int .i64 0, .int .i64 0, .int .i64 0, .bool false, .bool false, .int .i8 0, .int .u64 0, .int .u64 0, .int .i64 0, .int .i64 0, .int .i64 0], 46, false⟩), (b62, ⟨[.bool ((kstep m ev).2.refused), .int .i8 ((kstep m ev).2.running), .int .u64 ((kstep m ev).2.value)], 44, false⟩)]) (φ := bs = bs ∧ Nat.ble (15 + 1) 17 = true) h83 rfl rfl rfl (by kernel_rfl) ⟨rfl, rfl⟩ fun w84 h85 => ?_
        clear h83
        refine nd_done ?_
        refine hK81 _ _ ?_
        clear hK81
        refine wp_seq_k fun K86 hK86 => ?_
        refine nd_start (l := [0, 1, 2, 3]) rfl ?_
        refine nd_batch tabOk tabZ_ok [(0, {})] [5, 4, 3, 0, 1, 6, 42] (T' := [(5, .pointer (some ⟨b62, 0, none⟩)), (4, .pointer (some ⟨b8, 0, none⟩)), (3, .pointer (some ⟨b2, 0, none⟩)), (0, .pointer (some ⟨bs, 0, none⟩)), (1, .agg #[.int .u8 ev.kind, .int .u32 ev.pick, .int .u64 ev.arg]), (6, .bool true), (42, .pointer (some ⟨bs, 0, none⟩))]) (φ := True) (rest := [1, 2, 3]) h85 (by kernel_rfl) rfl trivial fun a87 h88 => ?_
        clear h85
        refine nd_op ?_
        refine op_call h88 rfl rfl rfl (callOk Tryf.func29 (by decide) rfl) (args := [.pointer (some ⟨bs, 0, none⟩), .int .u8 0]) rfl (status_ok bs bl ((kstep m ev).1) (kstep_ok hm he) ((kstep m ev).2) (pos + 1) live ((lg.recd m ev).base) eo1 (((lg.recd m ev).evs).length) ec1 (.slice mo1 (((lg.recd m ev).mks).length) mc1) (.slice so1 (((lg.recd m ev).sns).length) sc1) 0 _ false false (h88.kn (k := 0) rfl) (h88.kn (k := 1) rfl) hne (by omega) (by omega) (by omega)) ?_
        rintro _ w89 ⟨rfl, hf91⟩
        refine ⟨_, rfl, ?_⟩
        have h90 := (h88.grow hf91).put (d := some 43) (v := .agg #[.int .u8 0, .int .i64 (pos + 1), .int .i64 ((lg.recd m ev).base.idx), .int .i64 ((lg.recd m ev).base.idx + (((lg.recd m ev).evs).length : Int)), .bool live, .bool ((kstep m ev).2.refused), .int .i8 ((kstep m ev).2.running), .int .u64 ((kstep m ev).2.value), .int .u64 (dig ((kstep m ev).1)), .int .i64 (pos + 1), .int .i64 0, .int .i64 (-1)]) (T' := [(43, .agg #[.int .u8 0, .int .i64 (pos + 1), .int .i64 ((lg.recd m ev).base.idx), .int .i64 ((lg.recd m ev).base.idx + (((lg.recd m ev).evs).length : Int)), .bool live, .bool ((kstep m ev).2.refused), .int .i8 ((kstep m ev).2.running), .int .u64 ((kstep m ev).2.value), .int .u64 (dig ((kstep m ev).1)), .int .i64 (pos + 1), .int .i64 0, .int .i64 (-1)]), (5, .pointer (some ⟨b62, 0, none⟩)), (4, .pointer (some ⟨b8, 0, none⟩)), (3, .pointer (some ⟨b2, 0, none⟩)), (0, .pointer (some ⟨bs, 0, none⟩)), (1, .agg #[.int .u8 ev.kind, .int .u32 ev.pick, .int .u64 ev.arg]), (6, .bool true), (42, .pointer (some ⟨bs, 0, none⟩))]) rfl
        clear h88
        refine nd_op ?_
        refine op_new tabOk (cells := [.int .u8 0, .int .i64 0, .int .i64 0, .int .i64 0, .bool false, .bool false, .int .i8 0, .int .u64 0, .int .u64 0, .int .i64 0, .int .i64 0, .int .i64 0]) (ty := 46) (ln := none) (L1 := fun b92 => [(bs, ⟨[.pointer (some ⟨bl, 0, none⟩), .int .u64 ((kstep m ev).1.now), .int .i8 ((kstep m ev).1.cur), .int .u8 ((kstep m ev).1.s0), .int .u8 ((kstep m ev).1.s1), .int .u8 ((kstep m ev).1.s2), .int .u8 ((kstep m ev).1.s3), .int .u64 ((kstep m ev).1.r0), .int .u64 ((kstep m ev).1.r1), .int .u64 ((kstep m ev).1.r2), .int .u64 ((kstep m ev).1.r3), .int .u64 ((kstep m ev).1.word), .bool ((kstep m ev).2.refused), .int .i8 ((kstep m ev).2.running), .int .u64 ((kstep m ev).2.value), .int .i64 (pos + 1), .bool live], 60, false⟩), (bl, ⟨logC ((lg.recd m ev).base) (.slice eo1 (((lg.recd m ev).evs).length) ec1) (.slice mo1 (((lg.recd m ev).mks).length) mc1) (.slice so1 (((lg.recd m ev).sns).length) sc1), 89, false⟩), (b2, ⟨[.int .u8 ev.kind, .int .u32 ev.pick, .int .u64 ev.arg], 31, false⟩), (b8, ⟨[.int .u8 0, .int .i64 0, .int .i64 0, .int .i64 0, .bool false, .bool false, .int .i8 0, .int .u64 0, .int .u64 0, .int .i64 0, .int .i64 0, .int .i64 0], 46, false⟩), (b62, ⟨[.bool ((kstep m ev).2.refused), .int .i8 ((kstep m ev).2.running), .int .u64 ((kstep m ev).2.value)], 44, false⟩), (b92, ⟨[.int .u8 0, .int .i64 0, .int .i64 0, .int .i64 0, .bool false, .bool false, .int .i8 0, .int .u64 0, .int .u64 0, .int .i64 0, .int .i64 0, .int .i64 0], 46, false⟩)]) h90 rfl rfl rfl rfl (by kernel_rfl) (fun _ => rfl) fun b92 w93 a94 h95 hf96 hn97 => ?_
        clear h90
        refine nd_op ?_
        refine op_store tabOk {k := 5} (L' := [(bs, ⟨[.pointer (some ⟨bl, 0, none⟩), .int .u64 ((kstep m ev).1.now), .int .i8 ((kstep m ev).1.cur), .int .u8 ((kstep m ev).1.s0), .int .u8 ((kstep m ev).1.s1), .int .u8 ((kstep m ev).1.s2), .int .u8 ((kstep m ev).1.s3), .int .u64 ((kstep m ev).1.r0), .int .u64 ((kstep m ev).1.r1), .int .u64 ((kstep m ev).1.r2), .int .u64 ((kstep m ev).1.r3), .int .u64 ((kstep m ev).1.word), .bool ((kstep m ev).2.refused), .int .i8 ((kstep m ev).2.running), .int .u64 ((kstep m ev).2.value), .int .i64 (pos + 1), .bool live], 60, false⟩), (bl, ⟨logC ((lg.recd m ev).base) (.slice eo1 (((lg.recd m ev).evs).length) ec1) (.slice mo1 (((lg.recd m ev).mks).length) mc1) (.slice so1 (((lg.recd m ev).sns).length) sc1), 89, false⟩), (b2, ⟨[.int .u8 ev.kind, .int .u32 ev.pick, .int .u64 ev.arg], 31, false⟩), (b8, ⟨[.int .u8 0, .int .i64 0, .int .i64 0, .int .i64 0, .bool false, .bool false, .int .i8 0, .int .u64 0, .int .u64 0, .int .i64 0, .int .i64 0, .int .i64 0], 46, false⟩), (b62, ⟨[.bool ((kstep m ev).2.refused), .int .i8 ((kstep m ev).2.running), .int .u64 ((kstep m ev).2.value)], 44, false⟩), (b92, ⟨[.int .u8 0, .int .i64 (pos + 1), .int .i64 ((lg.recd m ev).base.idx), .int .i64 ((lg.recd m ev).base.idx + (((lg.recd m ev).evs).length : Int)), .bool live, .bool ((kstep m ev).2.refused), .int .i8 ((kstep m ev).2.running), .int .u64 ((kstep m ev).2.value), .int .u64 (dig ((kstep m ev).1)), .int .i64 (pos + 1), .int .i64 0, .int .i64 (-1)], 46, false⟩)]) (φ := b92 = b92 ∧ Nat.ble (0 + 12) 12 = true) h95 rfl rfl rfl (by kernel_rfl) ⟨rfl, rfl⟩ fun w98 h99 => ?_
        clear h95
        refine nd_done ?_
        refine hK86 _ _ ?_
        clear hK86
        refine wp_seq_k fun K100 hK100 => ?_
        refine nd_start (l := [0, 1, 2, 3, 4, 5, 6, 7, 8]) rfl ?_
        refine nd_batch tabOk tabZ_ok [(0, {}), (1, {}), (2, {}), (3, {k := 0}), (4, {}), (5, {})] [7, 5, 4, 3, 0, 1, 6, 48, 49] (T' := [(7, .pointer (some ⟨b92, 0, none⟩)), (5, .pointer (some ⟨b62, 0, none⟩)), (4, .pointer (some ⟨b8, 0, none⟩)), (3, .pointer (some ⟨b2, 0, none⟩)), (0, .pointer (some ⟨bs, 0, none⟩)), (1, .agg #[.int .u8 ev.kind, .int .u32 ev.pick, .int .u64 ev.arg]), (6, .bool true), (48, .int .i64 ((pos + 1) - 1)), (49, .pointer (some ⟨b92, 9, none⟩))]) (φ := (bs = bs ∧ Nat.ble (15 + 1) 17 = true) ∧ inR .i64 ((pos + 1) - 1) ∧ True) (rest := [6, 7, 8]) h99 (by kernel_rfl) rfl ⟨⟨rfl, rfl⟩, ⟨by omega, by omega⟩, trivial⟩ fun a101 h102 => ?_
        clear h99
        refine nd_op ?_
        refine op_store tabOk {k := 5} (L' := [(bs, ⟨[.pointer (some ⟨bl, 0, none⟩), .int .u64 ((kstep m ev).1.now), .int .i8 ((kstep m ev).1.cur), .int .u8 ((kstep m ev).1.s0), .int .u8 ((kstep m ev).1.s1), .int .u8 ((kstep m ev).1.s2), .int .u8 ((kstep m ev).1.s3), .int .u64 ((kstep m ev).1.r0), .int .u64 ((kstep m ev).1.r1), .int .u64 ((kstep m ev).1.r2), .int .u64 ((kstep m ev).1.r3), .int .u64 ((kstep m ev).1.word), .bool ((kstep m ev).2.refused), .int .i8 ((kstep m ev).2.running), .int .u64 ((kstep m ev).2.value), .int .i64 (pos + 1), .bool live], 60, false⟩), (bl, ⟨logC ((lg.recd m ev).base) (.slice eo1 (((lg.recd m ev).evs).length) ec1) (.slice mo1 (((lg.recd m ev).mks).length) mc1) (.slice so1 (((lg.recd m ev).sns).length) sc1), 89, false⟩), (b2, ⟨[.int .u8 ev.kind, .int .u32 ev.pick, .int .u64 ev.arg], 31, false⟩), (b8, ⟨[.int .u8 0, .int .i64 0, .int .i64 0, .int .i64 0, .bool false, .bool false, .int .i8 0, .int .u64 0, .int .u64 0, .int .i64 0, .int .i64 0, .int .i64 0], 46, false⟩), (b62, ⟨[.bool ((kstep m ev).2.refused), .int .i8 ((kstep m ev).2.running), .int .u64 ((kstep m ev).2.value)], 44, false⟩), (b92, ⟨[.int .u8 0, .int .i64 (pos + 1), .int .i64 ((lg.recd m ev).base.idx), .int .i64 ((lg.recd m ev).base.idx + (((lg.recd m ev).evs).length : Int)), .bool live, .bool ((kstep m ev).2.refused), .int .i8 ((kstep m ev).2.running), .int .u64 ((kstep m ev).2.value), .int .u64 (dig ((kstep m ev).1)), .int .i64 ((pos + 1) - 1), .int .i64 0, .int .i64 (-1)], 46, false⟩)]) (φ := b92 = b92 ∧ Nat.ble (9 + 1) 12 = true) h102 rfl rfl rfl (by kernel_rfl) ⟨rfl, rfl⟩ fun w103 h104 => ?_
        clear h102
        refine nd_batch tabOk tabZ_ok [(7, {})] [7, 5, 4, 3, 0, 1, 6, 50] (T' := [(7, .pointer (some ⟨b92, 0, none⟩)), (5, .pointer (some ⟨b62, 0, none⟩)), (4, .pointer (some ⟨b8, 0, none⟩)), (3, .pointer (some ⟨b2, 0, none⟩)), (0, .pointer (some ⟨bs, 0, none⟩)), (1, .agg #[.int .u8 ev.kind, .int .u32 ev.pick, .int .u64 ev.arg]), (6, .bool true), (50, .pointer (some ⟨b92, 10, none⟩))]) (φ := True) (rest := [8]) h104 (by kernel_rfl) rfl trivial fun a105 h106 => ?_
        clear h104
        refine nd_op ?_
        refine op_store tabOk {k := 5} (L' := [(bs, ⟨[.pointer (some ⟨bl, 0, none⟩), .int .u64 ((kstep m ev).1.now), .int .i8 ((kstep m ev).1.cur), .int .u8 ((kstep m ev).1.s0), .int .u8 ((kstep m ev).1.s1), .int .u8 ((kstep m ev).1.s2), .int .u8 ((kstep m ev).1.s3), .int .u64 ((kstep m ev).1.r0), .int .u64 ((kstep m ev).1.r1), .int .u64 ((kstep m ev).1.r2), .int .u64 ((kstep m ev).1.r3), .int .u64 ((kstep m ev).1.word), .bool ((kstep m ev).2.refused), .int .i8 ((kstep m ev).2.running), .int .u64 ((kstep m ev).2.value), .int .i64 (pos + 1), .bool live], 60, false⟩), (bl, ⟨logC ((lg.recd m ev).base) (.slice eo1 (((lg.recd m ev).evs).length) ec1) (.slice mo1 (((lg.recd m ev).mks).length) mc1) (.slice so1 (((lg.recd m ev).sns).length) sc1), 89, false⟩), (b2, ⟨[.int .u8 ev.kind, .int .u32 ev.pick, .int .u64 ev.arg], 31, false⟩), (b8, ⟨[.int .u8 0, .int .i64 0, .int .i64 0, .int .i64 0, .bool false, .bool false, .int .i8 0, .int .u64 0, .int .u64 0, .int .i64 0, .int .i64 0, .int .i64 0], 46, false⟩), (b62, ⟨[.bool ((kstep m ev).2.refused), .int .i8 ((kstep m ev).2.running), .int .u64 ((kstep m ev).2.value)], 44, false⟩), (b92, ⟨[.int .u8 0, .int .i64 (pos + 1), .int .i64 ((lg.recd m ev).base.idx), .int .i64 ((lg.recd m ev).base.idx + (((lg.recd m ev).evs).length : Int)), .bool live, .bool ((kstep m ev).2.refused), .int .i8 ((kstep m ev).2.running), .int .u64 ((kstep m ev).2.value), .int .u64 (dig ((kstep m ev).1)), .int .i64 ((pos + 1) - 1), .int .i64 1, .int .i64 (-1)], 46, false⟩)]) (φ := b92 = b92 ∧ Nat.ble (10 + 1) 12 = true) h106 rfl rfl rfl (by kernel_rfl) ⟨rfl, rfl⟩ fun w107 h108 => ?_
        clear h106
        refine nd_done ?_
        refine hK100 _ _ ?_
        clear hK100
        refine wp_seq_k fun K109 hK109 => ?_
        refine nd_start (l := [0, 1]) rfl ?_
        refine nd_batch tabOk tabZ_ok [(0, {k := 5})] [7, 5, 4, 3, 0, 1, 6, 51] (T' := [(7, .pointer (some ⟨b92, 0, none⟩)), (5, .pointer (some ⟨b62, 0, none⟩)), (4, .pointer (some ⟨b8, 0, none⟩)), (3, .pointer (some ⟨b2, 0, none⟩)), (0, .pointer (some ⟨bs, 0, none⟩)), (1, .agg #[.int .u8 ev.kind, .int .u32 ev.pick, .int .u64 ev.arg]), (6, .bool true), (51, .agg #[.int .u8 0, .int .i64 (pos + 1), .int .i64 ((lg.recd m ev).base.idx), .int .i64 ((lg.recd m ev).base.idx + (((lg.recd m ev).evs).length : Int)), .bool live, .bool ((kstep m ev).2.refused), .int .i8 ((kstep m ev).2.running), .int .u64 ((kstep m ev).2.value), .int .u64 (dig ((kstep m ev).1)), .int .i64 ((pos + 1) - 1), .int .i64 1, .int .i64 (-1)])]) (φ := (b92 = b92 ∧ Nat.ble (0 + 12) 12 = true) ∧ True) (rest := [1]) h108 (by kernel_rfl) rfl ⟨⟨rfl, rfl⟩, trivial⟩ fun a110 h111 => ?_
        clear h108
        refine nd_op ?_
        refine op_store tabOk {k := 3} (L' := [(bs, ⟨[.pointer (some ⟨bl, 0, none⟩), .int .u64 ((kstep m ev).1.now), .int .i8 ((kstep m ev).1.cur), .int .u8 ((kstep m ev).1.s0), .int .u8 ((kstep m ev).1.s1), .int .u8 ((kstep m ev).1.s2), .int .u8 ((kstep m ev).1.s3), .int .u64 ((kstep m ev).1.r0), .int .u64 ((kstep m ev).1.r1), .int .u64 ((kstep m ev).1.r2), .int .u64 ((kstep m ev).1.r3), .int .u64 ((kstep m ev).1.word), .bool ((kstep m ev).2.refused), .int .i8 ((kstep m ev).2.running), .int .u64 ((kstep m ev).2.value), .int .i64 (pos + 1), .bool live], 60, false⟩), (bl, ⟨logC ((lg.recd m ev).base) (.slice eo1 (((lg.recd m ev).evs).length) ec1) (.slice mo1 (((lg.recd m ev).mks).length) mc1) (.slice so1 (((lg.recd m ev).sns).length) sc1), 89, false⟩), (b2, ⟨[.int .u8 ev.kind, .int .u32 ev.pick, .int .u64 ev.arg], 31, false⟩), (b8, ⟨[.int .u8 0, .int .i64 (pos + 1), .int .i64 ((lg.recd m ev).base.idx), .int .i64 ((lg.recd m ev).base.idx + (((lg.recd m ev).evs).length : Int)), .bool live, .bool ((kstep m ev).2.refused), .int .i8 ((kstep m ev).2.running), .int .u64 ((kstep m ev).2.value), .int .u64 (dig ((kstep m ev).1)), .int .i64 ((pos + 1) - 1), .int .i64 1, .int .i64 (-1)], 46, false⟩), (b62, ⟨[.bool ((kstep m ev).2.refused), .int .i8 ((kstep m ev).2.running), .int .u64 ((kstep m ev).2.value)], 44, false⟩), (b92, ⟨[.int .u8 0, .int .i64 (pos + 1), .int .i64 ((lg.recd m ev).base.idx), .int .i64 ((lg.recd m ev).base.idx + (((lg.recd m ev).evs).length : Int)), .bool live, .bool ((kstep m ev).2.refused), .int .i8 ((kstep m ev).2.running), .int .u64 ((kstep m ev).2.value), .int .u64 (dig ((kstep m ev).1)), .int .i64 ((pos + 1) - 1), .int .i64 1, .int .i64 (-1)], 46, false⟩)]) (φ := b8 = b8 ∧ Nat.ble (0 + 12) 12 = true) h111 rfl rfl rfl (by kernel_rfl) ⟨rfl, rfl⟩ fun w112 h113 => ?_
        clear h111
        refine nd_done ?_
        refine hK109 _ _ ?_
        clear hK109
        refine wp_ret ?_
        have hR : stepR (⟨lg, m, out, pos, live⟩ : Ss) ev = (stepRes (⟨lg, m, out, pos, live⟩ : Ss) ev, (⟨lg, m, out, pos, live⟩ : Ss).recd ev) := by unfold stepR; rw [if_neg (by show ¬ live = false; rw [hlive]; decide), if_neg (show ¬ 4096 < lg.used + lg.need ev from hfull)]
        try simp only [Exit.then, Exit.inBlock]
        try rw [if_pos trivial]
        exact s_ret tabOk tabZ_ok h113 [(.cell 4 46, {k := 3})] (vs := [.agg #[.int .u8 0, .int .i64 (pos + 1), .int .i64 ((lg.recd m ev).base.idx), .int .i64 ((lg.recd m ev).base.idx + (((lg.recd m ev).evs).length : Int)), .bool live, .bool ((kstep m ev).2.refused), .int .i8 ((kstep m ev).2.running), .int .u64 ((kstep m ev).2.value), .int .u64 (dig ((kstep m ev).1)), .int .i64 ((pos + 1) - 1), .int .i64 1, .int .i64 (-1)]]) (φ := (b8 = b8 ∧ Nat.ble (0 + 12) 12 = true) ∧ True) rfl (by kernel_rfl) ⟨⟨rfl, rfl⟩, trivial⟩ (by rw [hR]; exact ⟨⟨eo1, ec1, eF1, mo1, mc1, mF1, so1, sc1, sF1⟩, rfl, ⟨h113.kn (k := 0) rfl, LogAt.of (h113.kn (k := 1) rfl) h113.inv hsep1, hne, (h113.dj (k := 0) rfl rfl)⟩, h113.frame, fun b hb => by rcases hF1 b hb with hq | hq; exact .inl hq; exact .inr (Nat.le_trans hsz1 hq)⟩)
    ·
      refine op_new tabOk (cells := [.bool false, .int .i8 0, .int .u64 0]) (ty := 44) (ln := none) (L1 := fun b114 => [(bs, ⟨sessC (.pointer (some ⟨bl, 0, none⟩)) m out pos live, 60, false⟩), (bl, ⟨logC lg.base (.slice eo lg.evs.length ec) (.slice mo lg.mks.length mc) (.slice so lg.sns.length sc), 89, false⟩), (b2, ⟨[.int .u8 ev.kind, .int .u32 ev.pick, .int .u64 ev.arg], 31, false⟩), (b8, ⟨[.int .u8 0, .int .i64 0, .int .i64 0, .int .i64 0, .bool false, .bool false, .int .i8 0, .int .u64 0, .int .u64 0, .int .i64 0, .int .i64 0, .int .i64 0], 46, false⟩), (b114, ⟨[.bool false, .int .i8 0, .int .u64 0], 44, false⟩)]) h32 rfl rfl rfl rfl (by kernel_rfl) (fun _ => rfl) fun b114 w115 a116 h117 hf118 hn119 => ?_
      refine ⟨(h32.keepFr hf118 (kcons (by simp) (kcons (by simp) (kcons (by simp) (kcons (by simp) knil))))), ?_⟩
      clear h32
      refine wpAnyK_one (i := 8) (fuel := 5) (by kernel_rfl) ?_
      refine op_call h117 rfl rfl rfl (callOk Tryf.func40 (by decide) rfl) (args := [.pointer (some ⟨bl, 0, none⟩), .pointer (some ⟨bs, 1, none⟩), .agg #[.int .u8 ev.kind, .int .u32 ev.pick, .int .u64 ev.arg]]) rfl (record_or bl ⟨eo, ec, eF, mo, mc, mF, so, sc, sF⟩ lg _ (LogAt.ofSt h117 (k := 1) rfl (List.Sublist.refl _)) [.pointer (some ⟨bl, 0, none⟩)] (outC out ++ [.int .i64 pos, .bool live]) m hm ev he bs 60 (h117.kn (k := 0) rfl) hne hsm hwl.evs hb0 (by omega) hlen hml (by omega)) ?_
      rintro _ w120 (⟨hfull, rfl, hbm1, ⟨hb1, hA1, hsep1⟩, hfr1⟩ | ⟨hfull, ⟨eo1, ec1, eF1, mo1, mc1, mF1, so1, sc1, sF1⟩, rfl, hbm1, ⟨hb1, hA1, hsep1⟩, hfr1, hF1⟩)
      ·
        refine ⟨_, rfl, ?_⟩
        have h121q := h117.turn hfr1 (fun b hb => .inl hb) (A' := Rws [rl evC 31 3 lg.evs eo ec eF, rl mkC 93 2 lg.mks mo mc mF, rl ptC 84 15 lg.sns so sc sF]) (F' := Ff [rl evC 31 3 lg.evs eo ec eF, rl mkC 93 2 lg.mks mo mc mF, rl ptC 84 15 lg.sns so sc sF]) (L' := [(bs, ⟨sessC (.pointer (some ⟨bl, 0, none⟩)) m out pos live, 60, false⟩), (bl, ⟨logC lg.base (.slice eo lg.evs.length ec) (.slice mo lg.mks.length mc) (.slice so lg.sns.length sc), 89, false⟩), (b2, ⟨[.int .u8 ev.kind, .int .u32 ev.pick, .int .u64 ev.arg], 31, false⟩), (b8, ⟨[.int .u8 0, .int .i64 0, .int .i64 0, .int .i64 0, .bool false, .bool false, .int .i8 0, .int .u64 0, .int .u64 0, .int .i64 0, .int .i64 0, .int .i64 0], 46, false⟩), (b114, ⟨[.bool false, .int .i8 0, .int .u64 0], 44, false⟩)]) rfl (kcons hbm1 (kcons hb1 (kcons (h117.stays hfr1 (k := 2) rfl (by intro hq; rcases List.mem_cons.1 hq with hq | hq; exact h117.ne 2 0 rfl rfl rfl hq; rcases List.mem_cons.1 hq with hq | hq; exact h117.ne 2 1 rfl rfl rfl hq; exact h117.dj (k := 2) rfl rfl hq)) (kcons (h117.stays hfr1 (k := 3) rfl (by intro hq; rcases List.mem_cons.1 hq with hq | hq; exact h117.ne 3 0 rfl rfl rfl hq; rcases List.mem_cons.1 hq with hq | hq; exact h117.ne 3 1 rfl rfl rfl hq; exact h117.dj (k := 3) rfl rfl hq)) (kcons (h117.stays hfr1 (k := 4) rfl (by intro hq; rcases List.mem_cons.1 hq with hq | hq; exact h117.ne 4 0 rfl rfl rfl hq; rcases List.mem_cons.1 hq with hq | hq; exact h117.ne 4 1 rfl rfl rfl hq; exact h117.dj (k := 4) rfl rfl hq)) knil))))) hA1 Rws.stable hA1.low (fun b hb => .inl hb)
        have h121 := h121q.put (d := some 24) (v := .tuple #[.agg #[.bool out0.refused, .int .i8 out0.running, .int .u64 out0.value], .bool false]) (T' := [(24, .tuple #[.agg #[.bool out0.refused, .int .i8 out0.running, .int .u64 out0.value], .bool false]), (5, .pointer (some ⟨b114, 0, none⟩)), (4, .pointer (some ⟨b8, 0, none⟩)), (3, .pointer (some ⟨b2, 0, none⟩)), (0, .pointer (some ⟨bs, 0, none⟩)), (1, .agg #[.int .u8 ev.kind, .int .u32 ev.pick, .int .u64 ev.arg]), (19, .pointer (some ⟨bl, 0, none⟩)), (22, .pointer (some ⟨bs, 1, none⟩)), (23, .agg #[.int .u8 ev.kind, .int .u32 ev.pick, .int .u64 ev.arg])]) rfl
        have hsz1 := h117.frame.size
        have hkh121 := h117.known
        refine ⟨keepNil, ?_⟩
        clear h117 h121q
        refine dr_batch tabOk tabZ_ok (by repeat (first | exact PF.body | with_reducible apply PF.inB | with_reducible apply PF.next)) [(9, {}), (10, {}), (11, {})] [5, 4, 3, 0, 1, 25, 26] (T' := [(5, .pointer (some ⟨b114, 0, none⟩)), (4, .pointer (some ⟨b8, 0, none⟩)), (3, .pointer (some ⟨b2, 0, none⟩)), (0, .pointer (some ⟨bs, 0, none⟩)), (1, .agg #[.int .u8 ev.kind, .int .u32 ev.pick, .int .u64 ev.arg]), (25, .agg #[.bool out0.refused, .int .i8 out0.running, .int .u64 out0.value]), (26, .bool false)]) (φ := True) (fuel := 2) h121 (by kernel_rfl) rfl (by kernel_rfl) (by kernel_rfl) ⟨trivial, trivial, trivial, trivial⟩ trivial fun a122 h123 => ?_
        clear h121
        refine wpAnyK_one (i := 13) (fuel := 1) (by kernel_rfl) ?_
        refine op_store tabOk {k := 4} (L' := [(bs, ⟨sessC (.pointer (some ⟨bl, 0, none⟩)) m out pos live, 60, false⟩), (bl, ⟨logC lg.base (.slice eo lg.evs.length ec) (.slice mo lg.mks.length mc) (.slice so lg.sns.length sc), 89, false⟩), (b2, ⟨[.int .u8 ev.kind, .int .u32 ev.pick, .int .u64 ev.arg], 31, false⟩), (b8, ⟨[.int .u8 0, .int .i64 0, .int .i64 0, .int .i64 0, .bool false, .bool false, .int .i8 0, .int .u64 0, .int .u64 0, .int .i64 0, .int .i64 0, .int .i64 0], 46, false⟩), (b114, ⟨[.bool out0.refused, .int .i8 out0.running, .int .u64 out0.value], 44, false⟩)]) (φ := b114 = b114 ∧ Nat.ble (0 + 3) 3 = true) h123 rfl rfl rfl (by kernel_rfl) ⟨rfl, rfl⟩ fun w124 h125 => ?_
        have hkh125 := h123.known
        refine ⟨keepNil, ?_⟩
        clear h123
        refine dr_batch tabOk tabZ_ok (by repeat (first | exact PF.body | with_reducible apply PF.inB | with_reducible apply PF.next)) [(14, {})] [5, 4, 3, 0, 1, 6] (T' := [(5, .pointer (some ⟨b114, 0, none⟩)), (4, .pointer (some ⟨b8, 0, none⟩)), (3, .pointer (some ⟨b2, 0, none⟩)), (0, .pointer (some ⟨bs, 0, none⟩)), (1, .agg #[.int .u8 ev.kind, .int .u32 ev.pick, .int .u64 ev.arg]), (6, .bool false)]) (φ := True) (fuel := 0) h125 (by kernel_rfl) rfl (by kernel_rfl) (by kernel_rfl) ⟨trivial, trivial⟩ trivial fun a126 h127 => ?_
        clear h125
        refine wpAnyK_done (by kernel_rfl) ?_ _
        refine hK27 _ _ ?_
        clear hK27
        refine wp_seq_k fun K128 hK128 => ?_
        refine wp_seq_k fun K129 hK129 => ?_
        refine nd_start (l := [0, 1]) rfl ?_
        refine nd_batch tabOk tabZ_ok [(0, {}), (1, {})] [5, 4, 3, 0, 1, 6, 28] (T' := [(5, .pointer (some ⟨b114, 0, none⟩)), (4, .pointer (some ⟨b8, 0, none⟩)), (3, .pointer (some ⟨b2, 0, none⟩)), (0, .pointer (some ⟨bs, 0, none⟩)), (1, .agg #[.int .u8 ev.kind, .int .u32 ev.pick, .int .u64 ev.arg]), (6, .bool false), (28, .bool true)]) (φ := True) (rest := []) h127 (by kernel_rfl) rfl trivial fun a130 h131 => ?_
        clear h127
        refine nd_done ?_
        refine hK129 _ _ ?_
        clear hK129
        refine c_true h131 rfl ?_
        refine wp_seq_k fun K132 hK132 => ?_
        refine nd_start (l := [0, 1, 2]) rfl ?_
        refine nd_batch tabOk tabZ_ok [(0, {})] [5, 4, 3, 0, 1, 6, 29] (T' := [(5, .pointer (some ⟨b114, 0, none⟩)), (4, .pointer (some ⟨b8, 0, none⟩)), (3, .pointer (some ⟨b2, 0, none⟩)), (0, .pointer (some ⟨bs, 0, none⟩)), (1, .agg #[.int .u8 ev.kind, .int .u32 ev.pick, .int .u64 ev.arg]), (6, .bool false), (29, .pointer (some ⟨bs, 0, none⟩))]) (φ := True) (rest := [1, 2]) h131 (by kernel_rfl) rfl trivial fun a133 h134 => ?_
        clear h131
        refine nd_op ?_
        refine op_call h134 rfl rfl rfl (callOk Tryf.func29 (by decide) rfl) (args := [.pointer (some ⟨bs, 0, none⟩), .int .u8 4]) rfl (status_ok bs bl m hm out pos live lg.base eo lg.evs.length ec (.slice mo lg.mks.length mc) (.slice so lg.sns.length sc) 4 _ false false (h134.kn (k := 0) rfl) (h134.kn (k := 1) rfl) hne (by omega) (by omega) (by omega)) ?_
        rintro _ w135 ⟨rfl, hf137⟩
        refine ⟨_, rfl, ?_⟩
        have h136 := (h134.grow hf137).put (d := some 30) (v := .agg #[.int .u8 4, .int .i64 pos, .int .i64 lg.base.idx, .int .i64 (lg.base.idx + (lg.evs.length : Int)), .bool live, .bool out.refused, .int .i8 out.running, .int .u64 out.value, .int .u64 (dig m), .int .i64 pos, .int .i64 0, .int .i64 (-1)]) (T' := [(30, .agg #[.int .u8 4, .int .i64 pos, .int .i64 lg.base.idx, .int .i64 (lg.base.idx + (lg.evs.length : Int)), .bool live, .bool out.refused, .int .i8 out.running, .int .u64 out.value, .int .u64 (dig m), .int .i64 pos, .int .i64 0, .int .i64 (-1)]), (5, .pointer (some ⟨b114, 0, none⟩)), (4, .pointer (some ⟨b8, 0, none⟩)), (3, .pointer (some ⟨b2, 0, none⟩)), (0, .pointer (some ⟨bs, 0, none⟩)), (1, .agg #[.int .u8 ev.kind, .int .u32 ev.pick, .int .u64 ev.arg]), (6, .bool false), (29, .pointer (some ⟨bs, 0, none⟩))]) rfl
        clear h134
        refine nd_op ?_
        refine op_store tabOk {k := 3} (L' := [(bs, ⟨sessC (.pointer (some ⟨bl, 0, none⟩)) m out pos live, 60, false⟩), (bl, ⟨logC lg.base (.slice eo lg.evs.length ec) (.slice mo lg.mks.length mc) (.slice so lg.sns.length sc), 89, false⟩), (b2, ⟨[.int .u8 ev.kind, .int .u32 ev.pick, .int .u64 ev.arg], 31, false⟩), (b8, ⟨[.int .u8 4, .int .i64 pos, .int .i64 lg.base.idx, .int .i64 (lg.base.idx + (lg.evs.length : Int)), .bool live, .bool out.refused, .int .i8 out.running, .int .u64 out.value, .int .u64 (dig m), .int .i64 pos, .int .i64 0, .int .i64 (-1)], 46, false⟩), (b114, ⟨[.bool out0.refused, .int .i8 out0.running, .int .u64 out0.value], 44, false⟩)]) (φ := b8 = b8 ∧ Nat.ble (0 + 12) 12 = true) h136 rfl rfl rfl (by kernel_rfl) ⟨rfl, rfl⟩ fun w138 h139 => ?_
        clear h136
        refine nd_done ?_
        refine hK132 _ _ ?_
        clear hK132
        refine wp_ret ?_
        have hR : stepR (⟨lg, m, out, pos, live⟩ : Ss) ev = ((⟨lg, m, out, pos, live⟩ : Ss).stat 4, (⟨lg, m, out, pos, live⟩ : Ss)) := by unfold stepR; rw [if_neg (by show ¬ live = false; rw [hlive]; decide), if_pos (show 4096 < lg.used + lg.need ev from hfull)]
        try simp only [Exit.then, Exit.inBlock]
        try rw [if_pos trivial]
        exact s_ret tabOk tabZ_ok h139 [(.cell 4 46, {k := 3})] (vs := [.agg #[.int .u8 4, .int .i64 pos, .int .i64 lg.base.idx, .int .i64 (lg.base.idx + (lg.evs.length : Int)), .bool live, .bool out.refused, .int .i8 out.running, .int .u64 out.value, .int .u64 (dig m), .int .i64 pos, .int .i64 0, .int .i64 (-1)]]) (φ := (b8 = b8 ∧ Nat.ble (0 + 12) 12 = true) ∧ True) rfl (by kernel_rfl) ⟨⟨rfl, rfl⟩, trivial⟩ (by rw [hR]; exact ⟨⟨eo, ec, eF, mo, mc, mF, so, sc, sF⟩, rfl, ⟨h139.kn (k := 0) rfl, LogAt.of (h139.kn (k := 1) rfl) h139.inv hsep, hne, hsm⟩, h139.frame, fun b hb => .inl hb⟩)
      ·
        refine ⟨_, rfl, ?_⟩
        have h140q := h117.turn hfr1 (fun b hb => .inl hb) (A' := Rws [rl evC 31 3 ((lg.recd m ev).evs) eo1 ec1 eF1, rl mkC 93 2 ((lg.recd m ev).mks) mo1 mc1 mF1, rl ptC 84 15 ((lg.recd m ev).sns) so1 sc1 sF1]) (F' := Ff [rl evC 31 3 ((lg.recd m ev).evs) eo1 ec1 eF1, rl mkC 93 2 ((lg.recd m ev).mks) mo1 mc1 mF1, rl ptC 84 15 ((lg.recd m ev).sns) so1 sc1 sF1]) (L' := [(bs, ⟨sessC (.pointer (some ⟨bl, 0, none⟩)) (kstep m ev).1 out pos live, 60, false⟩), (bl, ⟨logC ((lg.recd m ev).base) (.slice eo1 (((lg.recd m ev).evs).length) ec1) (.slice mo1 (((lg.recd m ev).mks).length) mc1) (.slice so1 (((lg.recd m ev).sns).length) sc1), 89, false⟩), (b2, ⟨[.int .u8 ev.kind, .int .u32 ev.pick, .int .u64 ev.arg], 31, false⟩), (b8, ⟨[.int .u8 0, .int .i64 0, .int .i64 0, .int .i64 0, .bool false, .bool false, .int .i8 0, .int .u64 0, .int .u64 0, .int .i64 0, .int .i64 0, .int .i64 0], 46, false⟩), (b114, ⟨[.bool false, .int .i8 0, .int .u64 0], 44, false⟩)]) rfl (kcons hbm1 (kcons hb1 (kcons (h117.stays hfr1 (k := 2) rfl (by intro hq; rcases List.mem_cons.1 hq with hq | hq; exact h117.ne 2 0 rfl rfl rfl hq; rcases List.mem_cons.1 hq with hq | hq; exact h117.ne 2 1 rfl rfl rfl hq; exact h117.dj (k := 2) rfl rfl hq)) (kcons (h117.stays hfr1 (k := 3) rfl (by intro hq; rcases List.mem_cons.1 hq with hq | hq; exact h117.ne 3 0 rfl rfl rfl hq; rcases List.mem_cons.1 hq with hq | hq; exact h117.ne 3 1 rfl rfl rfl hq; exact h117.dj (k := 3) rfl rfl hq)) (kcons (h117.stays hfr1 (k := 4) rfl (by intro hq; rcases List.mem_cons.1 hq with hq | hq; exact h117.ne 4 0 rfl rfl rfl hq; rcases List.mem_cons.1 hq with hq | hq; exact h117.ne 4 1 rfl rfl rfl hq; exact h117.dj (k := 4) rfl rfl hq)) knil))))) hA1 Rws.stable hA1.low hF1
        have h140 := h140q.put (d := some 24) (v := .tuple #[.agg #[.bool ((kstep m ev).2.refused), .int .i8 ((kstep m ev).2.running), .int .u64 ((kstep m ev).2.value)], .bool true]) (T' := [(24, .tuple #[.agg #[.bool ((kstep m ev).2.refused), .int .i8 ((kstep m ev).2.running), .int .u64 ((kstep m ev).2.value)], .bool true]), (5, .pointer (some ⟨b114, 0, none⟩)), (4, .pointer (some ⟨b8, 0, none⟩)), (3, .pointer (some ⟨b2, 0, none⟩)), (0, .pointer (some ⟨bs, 0, none⟩)), (1, .agg #[.int .u8 ev.kind, .int .u32 ev.pick, .int .u64 ev.arg]), (19, .pointer (some ⟨bl, 0, none⟩)), (22, .pointer (some ⟨bs, 1, none⟩)), (23, .agg #[.int .u8 ev.kind, .int .u32 ev.pick, .int .u64 ev.arg])]) rfl
        have hsz1 := h117.frame.size
        have hkh140 := h117.known
        refine ⟨keepNil, ?_⟩
        clear h117 h140q
        have htw := recd_wf hwl hm he hfull
        have ht0 := htw.b0
        have ht1 := htw.fin
        have ht2 := htw.len
        have ht3 : (lg.recd m ev).fin = (lg.recd m ev).base.idx + ((lg.recd m ev).evs.length : Int) := rfl
        refine dr_batch tabOk tabZ_ok (by repeat (first | exact PF.body | with_reducible apply PF.inB | with_reducible apply PF.next)) [(9, {}), (10, {}), (11, {})] [5, 4, 3, 0, 1, 25, 26] (T' := [(5, .pointer (some ⟨b114, 0, none⟩)), (4, .pointer (some ⟨b8, 0, none⟩)), (3, .pointer (some ⟨b2, 0, none⟩)), (0, .pointer (some ⟨bs, 0, none⟩)), (1, .agg #[.int .u8 ev.kind, .int .u32 ev.pick, .int .u64 ev.arg]), (25, .agg #[.bool ((kstep m ev).2.refused), .int .i8 ((kstep m ev).2.running), .int .u64 ((kstep m ev).2.value)]), (26, .bool true)]) (φ := True) (fuel := 2) h140 (by kernel_rfl) rfl (by kernel_rfl) (by kernel_rfl) ⟨trivial, trivial, trivial, trivial⟩ trivial fun a141 h142 => ?_
        clear h140
        refine wpAnyK_one (i := 13) (fuel := 1) (by kernel_rfl) ?_
        refine op_store tabOk {k := 4} (L' := [(bs, ⟨sessC (.pointer (some ⟨bl, 0, none⟩)) (kstep m ev).1 out pos live, 60, false⟩), (bl, ⟨logC ((lg.recd m ev).base) (.slice eo1 (((lg.recd m ev).evs).length) ec1) (.slice mo1 (((lg.recd m ev).mks).length) mc1) (.slice so1 (((lg.recd m ev).sns).length) sc1), 89, false⟩), (b2, ⟨[.int .u8 ev.kind, .int .u32 ev.pick, .int .u64 ev.arg], 31, false⟩), (b8, ⟨[.int .u8 0, .int .i64 0, .int .i64 0, .int .i64 0, .bool false, .bool false, .int .i8 0, .int .u64 0, .int .u64 0, .int .i64 0, .int .i64 0, .int .i64 0], 46, false⟩), (b114, ⟨[.bool ((kstep m ev).2.refused), .int .i8 ((kstep m ev).2.running), .int .u64 ((kstep m ev).2.value)], 44, false⟩)]) (φ := b114 = b114 ∧ Nat.ble (0 + 3) 3 = true) h142 rfl rfl rfl (by kernel_rfl) ⟨rfl, rfl⟩ fun w143 h144 => ?_
        have hkh144 := h142.known
        refine ⟨keepNil, ?_⟩
        clear h142
        refine dr_batch tabOk tabZ_ok (by repeat (first | exact PF.body | with_reducible apply PF.inB | with_reducible apply PF.next)) [(14, {})] [5, 4, 3, 0, 1, 6] (T' := [(5, .pointer (some ⟨b114, 0, none⟩)), (4, .pointer (some ⟨b8, 0, none⟩)), (3, .pointer (some ⟨b2, 0, none⟩)), (0, .pointer (some ⟨bs, 0, none⟩)), (1, .agg #[.int .u8 ev.kind, .int .u32 ev.pick, .int .u64 ev.arg]), (6, .bool true)]) (φ := True) (fuel := 0) h144 (by kernel_rfl) rfl (by kernel_rfl) (by kernel_rfl) ⟨trivial, trivial⟩ trivial fun a145 h146 => ?_
        clear h144
        refine wpAnyK_done (by kernel_rfl) ?_ _
        refine hK27 _ _ ?_
        clear hK27
        refine wp_seq_k fun K147 hK147 => ?_
        refine wp_seq_k fun K148 hK148 => ?_
        refine nd_start (l := [0, 1]) rfl ?_
        refine nd_batch tabOk tabZ_ok [(0, {}), (1, {})] [5, 4, 3, 0, 1, 6, 28] (T' := [(5, .pointer (some ⟨b114, 0, none⟩)), (4, .pointer (some ⟨b8, 0, none⟩)), (3, .pointer (some ⟨b2, 0, none⟩)), (0, .pointer (some ⟨bs, 0, none⟩)), (1, .agg #[.int .u8 ev.kind, .int .u32 ev.pick, .int .u64 ev.arg]), (6, .bool true), (28, .bool false)]) (φ := True) (rest := []) h146 (by kernel_rfl) rfl trivial fun a149 h150 => ?_
        clear h146
        refine nd_done ?_
        refine hK148 _ _ ?_
        clear hK148
        refine c_false h150 rfl ?_
        refine wp_skip ?_
        refine hK147 _ _ ?_
        clear hK147
        refine wp_seq_k fun K151 hK151 => ?_
        refine nd_start (l := [0, 1, 2, 3, 4]) rfl ?_
        refine nd_batch tabOk tabZ_ok [(0, {}), (1, {k := 4}), (2, {}), (3, {})] [5, 4, 3, 0, 1, 6, 32, 34] (T' := [(5, .pointer (some ⟨b114, 0, none⟩)), (4, .pointer (some ⟨b8, 0, none⟩)), (3, .pointer (some ⟨b2, 0, none⟩)), (0, .pointer (some ⟨bs, 0, none⟩)), (1, .agg #[.int .u8 ev.kind, .int .u32 ev.pick, .int .u64 ev.arg]), (6, .bool true), (32, .agg #[.bool ((kstep m ev).2.refused), .int .i8 ((kstep m ev).2.running), .int .u64 ((kstep m ev).2.value)]), (34, .pointer (some ⟨bs, 12, none⟩))]) (φ := (b114 = b114 ∧ Nat.ble (0 + 3) 3 = true) ∧ True) (rest := [4]) h150 (by kernel_rfl) rfl ⟨⟨rfl, rfl⟩, trivial⟩ fun a152 h153 => ?_
        clear h150
        refine nd_op ?_
        refine op_store tabOk {k := 0} (L' := [(bs, ⟨[.pointer (some ⟨bl, 0, none⟩), .int .u64 ((kstep m ev).1.now), .int .i8 ((kstep m ev).1.cur), .int .u8 ((kstep m ev).1.s0), .int .u8 ((kstep m ev).1.s1), .int .u8 ((kstep m ev).1.s2), .int .u8 ((kstep m ev).1.s3), .int .u64 ((kstep m ev).1.r0), .int .u64 ((kstep m ev).1.r1), .int .u64 ((kstep m ev).1.r2), .int .u64 ((kstep m ev).1.r3), .int .u64 ((kstep m ev).1.word), .bool ((kstep m ev).2.refused), .int .i8 ((kstep m ev).2.running), .int .u64 ((kstep m ev).2.value), .int .i64 pos, .bool live], 60, false⟩), (bl, ⟨logC ((lg.recd m ev).base) (.slice eo1 (((lg.recd m ev).evs).length) ec1) (.slice mo1 (((lg.recd m ev).mks).length) mc1) (.slice so1 (((lg.recd m ev).sns).length) sc1), 89, false⟩), (b2, ⟨[.int .u8 ev.kind, .int .u32 ev.pick, .int .u64 ev.arg], 31, false⟩), (b8, ⟨[.int .u8 0, .int .i64 0, .int .i64 0, .int .i64 0, .bool false, .bool false, .int .i8 0, .int .u64 0, .int .u64 0, .int .i64 0, .int .i64 0, .int .i64 0], 46, false⟩), (b114, ⟨[.bool ((kstep m ev).2.refused), .int .i8 ((kstep m ev).2.running), .int .u64 ((kstep m ev).2.value)], 44, false⟩)]) (φ := bs = bs ∧ Nat.ble (12 + 3) 17 = true) h153 rfl rfl rfl (by kernel_rfl) ⟨rfl, rfl⟩ fun w154 h155 => ?_
        clear h153
        refine nd_done ?_
        refine hK151 _ _ ?_
        clear hK151
        refine wp_seq_k fun K156 hK156 => ?_
        refine nd_start (l := [0, 1, 2, 3, 4, 5, 6, 7]) rfl ?_
        refine nd_batch tabOk tabZ_ok [(0, {}), (1, {}), (2, {}), (3, {k := 0}), (4, {}), (5, {}), (6, {})] [5, 4, 3, 0, 1, 6, 39, 41] (T' := [(5, .pointer (some ⟨b114, 0, none⟩)), (4, .pointer (some ⟨b8, 0, none⟩)), (3, .pointer (some ⟨b2, 0, none⟩)), (0, .pointer (some ⟨bs, 0, none⟩)), (1, .agg #[.int .u8 ev.kind, .int .u32 ev.pick, .int .u64 ev.arg]), (6, .bool true), (39, .int .i64 (pos + 1)), (41, .pointer (some ⟨bs, 15, none⟩))]) (φ := (bs = bs ∧ Nat.ble (15 + 1) 17 = true) ∧ inR .i64 (pos + 1) ∧ True) (rest := [7]) h155 (by kernel_rfl) rfl ⟨⟨rfl, rfl⟩, ⟨by omega, by omega⟩, trivial⟩ fun a157 h158 => ?_
        clear h155
        refine nd_op ?_
        refine op_store tabOk {k := 0} (L' := [(bs, ⟨[.pointer (some ⟨bl, 0, none⟩), .int .u64 ((kstep m ev).1.now), .int .i8 ((kstep m ev).1.cur), .int .u8 ((kstep m ev).1.s0), .int .u8 ((kstep m ev).1.s1), .int .u8 ((kstep m ev).1.s2), .int .u8 ((kstep m ev).1.s3), .int .u64 ((kstep m ev).1.r0), .int .u64 ((kstep m ev).1.r1), .int .u64 ((kstep m ev).1.r2), .int .u64 ((kstep m ev).1.r3), .int .u64 ((kstep m ev).1.word), .bool ((kstep m ev).2.refused), .int .i8 ((kstep m ev).2.running), .int .u64 ((kstep m ev).2.value), .int .i64 (pos + 1), .bool live], 60, false⟩), (bl, ⟨logC ((lg.recd m ev).base) (.slice eo1 (((lg.recd m ev).evs).length) ec1) (.slice mo1 (((lg.recd m ev).mks).length) mc1) (.slice so1 (((lg.recd m ev).sns).length) sc1), 89, false⟩), (b2, ⟨[.int .u8 ev.kind, .int .u32 ev.pick, .int .u64 ev.arg], 31, false⟩), (b8, ⟨[.int .u8 0, .int .i64 0, .int .i64 0, .int .i64 0, .bool false, .bool false, .int .i8 0, .int .u64 0, .int .u64 0, .int .i64 0, .int .i64 0, .int .i64 0], 46, false⟩), (b114, ⟨[.bool ((kstep m ev).2.refused), .int .i8 ((kstep m ev).2.running), .int .u64 ((kstep m ev).2.value)], 44, false⟩)]) (φ := bs = bs ∧ Nat.ble (15 + 1) 17 = true) h158 rfl rfl rfl (by kernel_rfl) ⟨rfl, rfl⟩ fun w159 h160 => ?_
        clear h158
        refine nd_done ?_
        refine hK156 _ _ ?_
        clear hK156
        refine wp_seq_k fun K161 hK161 => ?_
        refine nd_start (l := [0, 1, 2, 3]) rfl ?_
        refine nd_batch tabOk tabZ_ok [(0, {})] [5, 4, 3, 0, 1, 6, 42] (T' := [(5, .pointer (some ⟨b114, 0, none⟩)), (4, .pointer (some ⟨b8, 0, none⟩)), (3, .pointer (some ⟨b2, 0, none⟩)), (0, .pointer (some ⟨bs, 0, none⟩)), (1, .agg #[.int .u8 ev.kind, .int .u32 ev.pick, .int .u64 ev.arg]), (6, .bool true), (42, .pointer (some ⟨bs, 0, none⟩))]) (φ := True) (rest := [1, 2, 3]) h160 (by kernel_rfl) rfl trivial fun a162 h163 => ?_
        clear h160
        refine nd_op ?_
        refine op_call h163 rfl rfl rfl (callOk Tryf.func29 (by decide) rfl) (args := [.pointer (some ⟨bs, 0, none⟩), .int .u8 0]) rfl (status_ok bs bl ((kstep m ev).1) (kstep_ok hm he) ((kstep m ev).2) (pos + 1) live ((lg.recd m ev).base) eo1 (((lg.recd m ev).evs).length) ec1 (.slice mo1 (((lg.recd m ev).mks).length) mc1) (.slice so1 (((lg.recd m ev).sns).length) sc1) 0 _ false false (h163.kn (k := 0) rfl) (h163.kn (k := 1) rfl) hne (by omega) (by omega) (by omega)) ?_
        rintro _ w164 ⟨rfl, hf166⟩
        refine ⟨_, rfl, ?_⟩
        have h165 := (h163.grow hf166).put (d := some 43) (v := .agg #[.int .u8 0, .int .i64 (pos + 1), .int .i64 ((lg.recd m ev).base.idx), .int .i64 ((lg.recd m ev).base.idx + (((lg.recd m ev).evs).length : Int)), .bool live, .bool ((kstep m ev).2.refused), .int .i8 ((kstep m ev).2.running), .int .u64 ((kstep m ev).2.value), .int .u64 (dig ((kstep m ev).1)), .int .i64 (pos + 1), .int .i64 0, .int .i64 (-1)]) (T' := [(43, .agg #[.int .u8 0, .int .i64 (pos + 1), .int .i64 ((lg.recd m ev).base.idx), .int .i64 ((lg.recd m ev).base.idx + (((lg.recd m ev).evs).length : Int)), .bool live, .bool ((kstep m ev).2.refused), .int .i8 ((kstep m ev).2.running), .int .u64 ((kstep m ev).2.value), .int .u64 (dig ((kstep m ev).1)), .int .i64 (pos + 1), .int .i64 0, .int .i64 (-1)]), (5, .pointer (some ⟨b114, 0, none⟩)), (4, .pointer (some ⟨b8, 0, none⟩)), (3, .pointer (some ⟨b2, 0, none⟩)), (0, .pointer (some ⟨bs, 0, none⟩)), (1, .agg #[.int .u8 ev.kind, .int .u32 ev.pick, .int .u64 ev.arg]), (6, .bool true), (42, .pointer (some ⟨bs, 0, none⟩))]) rfl
        clear h163
        refine nd_op ?_
        refine op_new tabOk (cells := [.int .u8 0, .int .i64 0, .int .i64 0, .int .i64 0, .bool false, .bool false, .int .i8 0, .int .u64 0, .int .u64 0, .int .i64 0, .int .i64 0, .int .i64 0]) (ty := 46) (ln := none) (L1 := fun b167 => [(bs, ⟨[.pointer (some ⟨bl, 0, none⟩), .int .u64 ((kstep m ev).1.now), .int .i8 ((kstep m ev).1.cur), .int .u8 ((kstep m ev).1.s0), .int .u8 ((kstep m ev).1.s1), .int .u8 ((kstep m ev).1.s2), .int .u8 ((kstep m ev).1.s3), .int .u64 ((kstep m ev).1.r0), .int .u64 ((kstep m ev).1.r1), .int .u64 ((kstep m ev).1.r2), .int .u64 ((kstep m ev).1.r3), .int .u64 ((kstep m ev).1.word), .bool ((kstep m ev).2.refused), .int .i8 ((kstep m ev).2.running), .int .u64 ((kstep m ev).2.value), .int .i64 (pos + 1), .bool live], 60, false⟩), (bl, ⟨logC ((lg.recd m ev).base) (.slice eo1 (((lg.recd m ev).evs).length) ec1) (.slice mo1 (((lg.recd m ev).mks).length) mc1) (.slice so1 (((lg.recd m ev).sns).length) sc1), 89, false⟩), (b2, ⟨[.int .u8 ev.kind, .int .u32 ev.pick, .int .u64 ev.arg], 31, false⟩), (b8, ⟨[.int .u8 0, .int .i64 0, .int .i64 0, .int .i64 0, .bool false, .bool false, .int .i8 0, .int .u64 0, .int .u64 0, .int .i64 0, .int .i64 0, .int .i64 0], 46, false⟩), (b114, ⟨[.bool ((kstep m ev).2.refused), .int .i8 ((kstep m ev).2.running), .int .u64 ((kstep m ev).2.value)], 44, false⟩), (b167, ⟨[.int .u8 0, .int .i64 0, .int .i64 0, .int .i64 0, .bool false, .bool false, .int .i8 0, .int .u64 0, .int .u64 0, .int .i64 0, .int .i64 0, .int .i64 0], 46, false⟩)]) h165 rfl rfl rfl rfl (by kernel_rfl) (fun _ => rfl) fun b167 w168 a169 h170 hf171 hn172 => ?_
        clear h165
        refine nd_op ?_
        refine op_store tabOk {k := 5} (L' := [(bs, ⟨[.pointer (some ⟨bl, 0, none⟩), .int .u64 ((kstep m ev).1.now), .int .i8 ((kstep m ev).1.cur), .int .u8 ((kstep m ev).1.s0), .int .u8 ((kstep m ev).1.s1), .int .u8 ((kstep m ev).1.s2), .int .u8 ((kstep m ev).1.s3), .int .u64 ((kstep m ev).1.r0), .int .u64 ((kstep m ev).1.r1), .int .u64 ((kstep m ev).1.r2), .int .u64 ((kstep m ev).1.r3), .int .u64 ((kstep m ev).1.word), .bool ((kstep m ev).2.refused), .int .i8 ((kstep m ev).2.running), .int .u64 ((kstep m ev).2.value), .int .i64 (pos + 1), .bool live], 60, false⟩), (bl, ⟨logC ((lg.recd m ev).base) (.slice eo1 (((lg.recd m ev).evs).length) ec1) (.slice mo1 (((lg.recd m ev).mks).length) mc1) (.slice so1 (((lg.recd m ev).sns).length) sc1), 89, false⟩), (b2, ⟨[.int .u8 ev.kind, .int .u32 ev.pick, .int .u64 ev.arg], 31, false⟩), (b8, ⟨[.int .u8 0, .int .i64 0, .int .i64 0, .int .i64 0, .bool false, .bool false, .int .i8 0, .int .u64 0, .int .u64 0, .int .i64 0, .int .i64 0, .int .i64 0], 46, false⟩), (b114, ⟨[.bool ((kstep m ev).2.refused), .int .i8 ((kstep m ev).2.running), .int .u64 ((kstep m ev).2.value)], 44, false⟩), (b167, ⟨[.int .u8 0, .int .i64 (pos + 1), .int .i64 ((lg.recd m ev).base.idx), .int .i64 ((lg.recd m ev).base.idx + (((lg.recd m ev).evs).length : Int)), .bool live, .bool ((kstep m ev).2.refused), .int .i8 ((kstep m ev).2.running), .int .u64 ((kstep m ev).2.value), .int .u64 (dig ((kstep m ev).1)), .int .i64 (pos + 1), .int .i64 0, .int .i64 (-1)], 46, false⟩)]) (φ := b167 = b167 ∧ Nat.ble (0 + 12) 12 = true) h170 rfl rfl rfl (by kernel_rfl) ⟨rfl, rfl⟩ fun w173 h174 => ?_
        clear h170
        refine nd_done ?_
        refine hK161 _ _ ?_
        clear hK161
        refine wp_seq_k fun K175 hK175 => ?_
        refine nd_start (l := [0, 1, 2, 3, 4, 5, 6, 7, 8]) rfl ?_
        refine nd_batch tabOk tabZ_ok [(0, {}), (1, {}), (2, {}), (3, {k := 0}), (4, {}), (5, {})] [7, 5, 4, 3, 0, 1, 6, 48, 49] (T' := [(7, .pointer (some ⟨b167, 0, none⟩)), (5, .pointer (some ⟨b114, 0, none⟩)), (4, .pointer (some ⟨b8, 0, none⟩)), (3, .pointer (some ⟨b2, 0, none⟩)), (0, .pointer (some ⟨bs, 0, none⟩)), (1, .agg #[.int .u8 ev.kind, .int .u32 ev.pick, .int .u64 ev.arg]), (6, .bool true), (48, .int .i64 ((pos + 1) - 1)), (49, .pointer (some ⟨b167, 9, none⟩))]) (φ := (bs = bs ∧ Nat.ble (15 + 1) 17 = true) ∧ inR .i64 ((pos + 1) - 1) ∧ True) (rest := [6, 7, 8]) h174 (by kernel_rfl) rfl ⟨⟨rfl, rfl⟩, ⟨by omega, by omega⟩, trivial⟩ fun a176 h177 => ?_
        clear h174
        refine nd_op ?_
        refine op_store tabOk {k := 5} (L' := [(bs, ⟨[.pointer (some ⟨bl, 0, none⟩), .int .u64 ((kstep m ev).1.now), .int .i8 ((kstep m ev).1.cur), .int .u8 ((kstep m ev).1.s0), .int .u8 ((kstep m ev).1.s1), .int .u8 ((kstep m ev).1.s2), .int .u8 ((kstep m ev).1.s3), .int .u64 ((kstep m ev).1.r0), .int .u64 ((kstep m ev).1.r1), .int .u64 ((kstep m ev).1.r2), .int .u64 ((kstep m ev).1.r3), .int .u64 ((kstep m ev).1.word), .bool ((kstep m ev).2.refused), .int .i8 ((kstep m ev).2.running), .int .u64 ((kstep m ev).2.value), .int .i64 (pos + 1), .bool live], 60, false⟩), (bl, ⟨logC ((lg.recd m ev).base) (.slice eo1 (((lg.recd m ev).evs).length) ec1) (.slice mo1 (((lg.recd m ev).mks).length) mc1) (.slice so1 (((lg.recd m ev).sns).length) sc1), 89, false⟩), (b2, ⟨[.int .u8 ev.kind, .int .u32 ev.pick, .int .u64 ev.arg], 31, false⟩), (b8, ⟨[.int .u8 0, .int .i64 0, .int .i64 0, .int .i64 0, .bool false, .bool false, .int .i8 0, .int .u64 0, .int .u64 0, .int .i64 0, .int .i64 0, .int .i64 0], 46, false⟩), (b114, ⟨[.bool ((kstep m ev).2.refused), .int .i8 ((kstep m ev).2.running), .int .u64 ((kstep m ev).2.value)], 44, false⟩), (b167, ⟨[.int .u8 0, .int .i64 (pos + 1), .int .i64 ((lg.recd m ev).base.idx), .int .i64 ((lg.recd m ev).base.idx + (((lg.recd m ev).evs).length : Int)), .bool live, .bool ((kstep m ev).2.refused), .int .i8 ((kstep m ev).2.running), .int .u64 ((kstep m ev).2.value), .int .u64 (dig ((kstep m ev).1)), .int .i64 ((pos + 1) - 1), .int .i64 0, .int .i64 (-1)], 46, false⟩)]) (φ := b167 = b167 ∧ Nat.ble (9 + 1) 12 = true) h177 rfl rfl rfl (by kernel_rfl) ⟨rfl, rfl⟩ fun w178 h179 => ?_
        clear h177
        refine nd_batch tabOk tabZ_ok [(7, {})] [7, 5, 4, 3, 0, 1, 6, 50] (T' := [(7, .pointer (some ⟨b167, 0, none⟩)), (5, .pointer (some ⟨b114, 0, none⟩)), (4, .pointer (some ⟨b8, 0, none⟩)), (3, .pointer (some ⟨b2, 0, none⟩)), (0, .pointer (some ⟨bs, 0, none⟩)), (1, .agg #[.int .u8 ev.kind, .int .u32 ev.pick, .int .u64 ev.arg]), (6, .bool true), (50, .pointer (some ⟨b167, 10, none⟩))]) (φ := True) (rest := [8]) h179 (by kernel_rfl) rfl trivial fun a180 h181 => ?_
        clear h179
        refine nd_op ?_
        refine op_store tabOk {k := 5} (L' := [(bs, ⟨[.pointer (some ⟨bl, 0, none⟩), .int .u64 ((kstep m ev).1.now), .int .i8 ((kstep m ev).1.cur), .int .u8 ((kstep m ev).1.s0), .int .u8 ((kstep m ev).1.s1), .int .u8 ((kstep m ev).1.s2), .int .u8 ((kstep m ev).1.s3), .int .u64 ((kstep m ev).1.r0), .int .u64 ((kstep m ev).1.r1), .int .u64 ((kstep m ev).1.r2), .int .u64 ((kstep m ev).1.r3), .int .u64 ((kstep m ev).1.word), .bool ((kstep m ev).2.refused), .int .i8 ((kstep m ev).2.running), .int .u64 ((kstep m ev).2.value), .int .i64 (pos + 1), .bool live], 60, false⟩), (bl, ⟨logC ((lg.recd m ev).base) (.slice eo1 (((lg.recd m ev).evs).length) ec1) (.slice mo1 (((lg.recd m ev).mks).length) mc1) (.slice so1 (((lg.recd m ev).sns).length) sc1), 89, false⟩), (b2, ⟨[.int .u8 ev.kind, .int .u32 ev.pick, .int .u64 ev.arg], 31, false⟩), (b8, ⟨[.int .u8 0, .int .i64 0, .int .i64 0, .int .i64 0, .bool false, .bool false, .int .i8 0, .int .u64 0, .int .u64 0, .int .i64 0, .int .i64 0, .int .i64 0], 46, false⟩), (b114, ⟨[.bool ((kstep m ev).2.refused), .int .i8 ((kstep m ev).2.running), .int .u64 ((kstep m ev).2.value)], 44, false⟩), (b167, ⟨[.int .u8 0, .int .i64 (pos + 1), .int .i64 ((lg.recd m ev).base.idx), .int .i64 ((lg.recd m ev).base.idx + (((lg.recd m ev).evs).length : Int)), .bool live, .bool ((kstep m ev).2.refused), .int .i8 ((kstep m ev).2.running), .int .u64 ((kstep m ev).2.value), .int .u64 (dig ((kstep m ev).1)), .int .i64 ((pos + 1) - 1), .int .i64 1, .int .i64 (-1)], 46, false⟩)]) (φ := b167 = b167 ∧ Nat.ble (10 + 1) 12 = true) h181 rfl rfl rfl (by kernel_rfl) ⟨rfl, rfl⟩ fun w182 h183 => ?_
        clear h181
        refine nd_done ?_
        refine hK175 _ _ ?_
        clear hK175
        refine wp_seq_k fun K184 hK184 => ?_
        refine nd_start (l := [0, 1]) rfl ?_
        refine nd_batch tabOk tabZ_ok [(0, {k := 5})] [7, 5, 4, 3, 0, 1, 6, 51] (T' := [(7, .pointer (some ⟨b167, 0, none⟩)), (5, .pointer (some ⟨b114, 0, none⟩)), (4, .pointer (some ⟨b8, 0, none⟩)), (3, .pointer (some ⟨b2, 0, none⟩)), (0, .pointer (some ⟨bs, 0, none⟩)), (1, .agg #[.int .u8 ev.kind, .int .u32 ev.pick, .int .u64 ev.arg]), (6, .bool true), (51, .agg #[.int .u8 0, .int .i64 (pos + 1), .int .i64 ((lg.recd m ev).base.idx), .int .i64 ((lg.recd m ev).base.idx + (((lg.recd m ev).evs).length : Int)), .bool live, .bool ((kstep m ev).2.refused), .int .i8 ((kstep m ev).2.running), .int .u64 ((kstep m ev).2.value), .int .u64 (dig ((kstep m ev).1)), .int .i64 ((pos + 1) - 1), .int .i64 1, .int .i64 (-1)])]) (φ := (b167 = b167 ∧ Nat.ble (0 + 12) 12 = true) ∧ True) (rest := [1]) h183 (by kernel_rfl) rfl ⟨⟨rfl, rfl⟩, trivial⟩ fun a185 h186 => ?_
        clear h183
        refine nd_op ?_
        refine op_store tabOk {k := 3} (L' := [(bs, ⟨[.pointer (some ⟨bl, 0, none⟩), .int .u64 ((kstep m ev).1.now), .int .i8 ((kstep m ev).1.cur), .int .u8 ((kstep m ev).1.s0), .int .u8 ((kstep m ev).1.s1), .int .u8 ((kstep m ev).1.s2), .int .u8 ((kstep m ev).1.s3), .int .u64 ((kstep m ev).1.r0), .int .u64 ((kstep m ev).1.r1), .int .u64 ((kstep m ev).1.r2), .int .u64 ((kstep m ev).1.r3), .int .u64 ((kstep m ev).1.word), .bool ((kstep m ev).2.refused), .int .i8 ((kstep m ev).2.running), .int .u64 ((kstep m ev).2.value), .int .i64 (pos + 1), .bool live], 60, false⟩), (bl, ⟨logC ((lg.recd m ev).base) (.slice eo1 (((lg.recd m ev).evs).length) ec1) (.slice mo1 (((lg.recd m ev).mks).length) mc1) (.slice so1 (((lg.recd m ev).sns).length) sc1), 89, false⟩), (b2, ⟨[.int .u8 ev.kind, .int .u32 ev.pick, .int .u64 ev.arg], 31, false⟩), (b8, ⟨[.int .u8 0, .int .i64 (pos + 1), .int .i64 ((lg.recd m ev).base.idx), .int .i64 ((lg.recd m ev).base.idx + (((lg.recd m ev).evs).length : Int)), .bool live, .bool ((kstep m ev).2.refused), .int .i8 ((kstep m ev).2.running), .int .u64 ((kstep m ev).2.value), .int .u64 (dig ((kstep m ev).1)), .int .i64 ((pos + 1) - 1), .int .i64 1, .int .i64 (-1)], 46, false⟩), (b114, ⟨[.bool ((kstep m ev).2.refused), .int .i8 ((kstep m ev).2.running), .int .u64 ((kstep m ev).2.value)], 44, false⟩), (b167, ⟨[.int .u8 0, .int .i64 (pos + 1), .int .i64 ((lg.recd m ev).base.idx), .int .i64 ((lg.recd m ev).base.idx + (((lg.recd m ev).evs).length : Int)), .bool live, .bool ((kstep m ev).2.refused), .int .i8 ((kstep m ev).2.running), .int .u64 ((kstep m ev).2.value), .int .u64 (dig ((kstep m ev).1)), .int .i64 ((pos + 1) - 1), .int .i64 1, .int .i64 (-1)], 46, false⟩)]) (φ := b8 = b8 ∧ Nat.ble (0 + 12) 12 = true) h186 rfl rfl rfl (by kernel_rfl) ⟨rfl, rfl⟩ fun w187 h188 => ?_
        clear h186
        refine nd_done ?_
        refine hK184 _ _ ?_
        clear hK184
        refine wp_ret ?_
        have hR : stepR (⟨lg, m, out, pos, live⟩ : Ss) ev = (stepRes (⟨lg, m, out, pos, live⟩ : Ss) ev, (⟨lg, m, out, pos, live⟩ : Ss).recd ev) := by unfold stepR; rw [if_neg (by show ¬ live = false; rw [hlive]; decide), if_neg (show ¬ 4096 < lg.used + lg.need ev from hfull)]
        try simp only [Exit.then, Exit.inBlock]
        try rw [if_pos trivial]
        exact s_ret tabOk tabZ_ok h188 [(.cell 4 46, {k := 3})] (vs := [.agg #[.int .u8 0, .int .i64 (pos + 1), .int .i64 ((lg.recd m ev).base.idx), .int .i64 ((lg.recd m ev).base.idx + (((lg.recd m ev).evs).length : Int)), .bool live, .bool ((kstep m ev).2.refused), .int .i8 ((kstep m ev).2.running), .int .u64 ((kstep m ev).2.value), .int .u64 (dig ((kstep m ev).1)), .int .i64 ((pos + 1) - 1), .int .i64 1, .int .i64 (-1)]]) (φ := (b8 = b8 ∧ Nat.ble (0 + 12) 12 = true) ∧ True) rfl (by kernel_rfl) ⟨⟨rfl, rfl⟩, trivial⟩ (by rw [hR]; exact ⟨⟨eo1, ec1, eF1, mo1, mc1, mF1, so1, sc1, sF1⟩, rfl, ⟨h188.kn (k := 0) rfl, LogAt.of (h188.kn (k := 1) rfl) h188.inv hsep1, hne, (h188.dj (k := 0) rfl rfl)⟩, h188.frame, fun b hb => by rcases hF1 b hb with hq | hq; exact .inl hq; exact .inr (Nat.le_trans hsz1 hq)⟩)

end Go.Proofs.Qxb6500919aFmt
