/-
  The session: moves. (Made by program: a symbolic walk that prints its steps.)
-/
import Derived.Test.Qxb6500919aFmtTab
import Derived.Test.Qxb6500919aFmtSe
import Derived.Test.Qxb6500919aFmtW1
import Derived.Test.Qxb6500919aFmtW2
import Derived.Test.Qxb6500919aFmtW3
import Derived.Test.Qxb6500919aFmtW4
import Derived.Test.Qxb6500919aFmtW5
import Derived.Test.Qxb6500919aFmtW6
import Derived.Test.Qxb6500919aFmtW9
namespace Go.Proofs.Qxb6500919aFmt
open Go.Sx Go.Rp
set_option maxRecDepth 100000
set_option maxHeartbeats 4000000
set_option linter.unusedVariables false
set_option linter.unusedSimpArgs false

theorem seek_ok (bs bl : Nat) (d : Hd) (s : Ss) (w : World) (hs : SessAt w bs bl d s) {B : Int} (hB : B ≤ 900000000) (hwf : s.wf B) (n : Int) :
    Calls Tryf.prog 22 #[.pointer (some ⟨bs, 0, none⟩), .int .i64 n] w (SOK w bs bl d (seekR s n).1 (seekR s n).2) := by
  obtain ⟨lg, m, out, pos, live⟩ := s
  obtain ⟨hwl, hm, hlo, hhi, hlv⟩ := hwf
  obtain ⟨hbs, hl, hne, hsm⟩ := hs
  simp only at hbs hl hwl hm hlo hhi hlv
  have hfq : lg.fin = lg.base.idx + (lg.evs.length : Int) := rfl
  have hb0 := hwl.b0
  have hfB := hwl.fin
  have hlen := hwl.len
  have hml := hwl.mlen
  have hsl := hwl.slen
  obtain ⟨eo, ec, eF, mo, mc, mF, so, sc, sF⟩ := d
  obtain ⟨hbl, hA, hsep⟩ := hl
  refine enter (n := 56) (K := [bs]) (A := Rws [rl evC 31 3 lg.evs eo ec eF, rl mkC 93 2 lg.mks mo mc mF, rl ptC 84 15 lg.sns so sc sF]) (F := Ff [rl evC 31 3 lg.evs eo ec eF, rl mkC 93 2 lg.mks mo mc mF, rl ptC 84 15 lg.sns so sc sF]) (T := [(0, .pointer (some ⟨bs, 0, none⟩)), (1, .int .i64 n)]) (L := [(bs, ⟨sessC (.pointer (some ⟨bl, 0, none⟩)) m out pos live, 60, false⟩), (bl, ⟨logC lg.base (.slice eo lg.evs.length ec) (.slice mo lg.mks.length mc) (.slice so lg.sns.length sc), 89, true⟩)]) (args := [.pointer (some ⟨bs, 0, none⟩), .int .i64 n]) Tryf.func22 rfl rfl rfl rfl (kcons hbs (kcons hbl knil)) (by simp [hne]) (kcons (by simp) (kcons (by intro hq; cases hq) knil)) hA Rws.stable (hA).low (kcons (fun _ => hsm) (kcons (by intro hq; cases hq) knil)) ?_
  intro a h
  refine wp_seq_k fun K1 hK1 => ?_
  refine nd_start (l := [0]) rfl ?_
  refine nd_op ?_
  refine op_new tabOk (cells := [.int .u8 0, .int .i64 0, .int .i64 0, .int .i64 0, .bool false, .bool false, .int .i8 0, .int .u64 0, .int .u64 0, .int .i64 0, .int .i64 0, .int .i64 0]) (ty := 46) (ln := none) (L1 := fun b2 => [(bs, ⟨sessC (.pointer (some ⟨bl, 0, none⟩)) m out pos live, 60, false⟩), (bl, ⟨logC lg.base (.slice eo lg.evs.length ec) (.slice mo lg.mks.length mc) (.slice so lg.sns.length sc), 89, true⟩), (b2, ⟨[.int .u8 0, .int .i64 0, .int .i64 0, .int .i64 0, .bool false, .bool false, .int .i8 0, .int .u64 0, .int .u64 0, .int .i64 0, .int .i64 0, .int .i64 0], 46, false⟩)]) h rfl rfl rfl rfl (by kernel_rfl) (fun _ => rfl) fun b2 w3 a4 h5 hf6 hn7 => ?_
  clear h
  refine nd_done ?_
  refine hK1 _ _ ?_
  clear hK1
  refine wp_seq_k fun K8 hK8 => ?_
  refine wp_seq_k fun K9 hK9 => ?_
  rcases Bool.eq_false_or_eq_true (decide (n < lg.base.idx)) with hb10 | hb10
  ·
    have hb10f : n < lg.base.idx := by simpa using hb10
    refine nd_start (l := [0, 1, 2, 3, 4, 5, 6, 7, 8, 9, 10, 11, 12, 13, 14, 15, 16, 17, 18]) rfl ?_
    refine nd_batch tabOk tabZ_ok [(0, {}), (1, {}), (2, {}), (3, {}), (4, {k := 0}), (5, {}), (6, {}), (7, {}), (8, {k := 1}), (9, {f := 2}), (10, {}), (11, {}), (12, {}), (13, {}), (14, {}), (15, {})] [4, 0, 1, 18, 19, 23] (T' := [(4, .pointer (some ⟨b2, 0, none⟩)), (0, .pointer (some ⟨bs, 0, none⟩)), (1, .int .i64 n), (18, .bool true), (19, .tuple #[]), (23, .tuple #[])]) (φ := (bs = bs ∧ Nat.ble (0 + 1) 17 = true) ∧ (bl = bl ∧ Nat.ble (0 + 1) 18 = true) ∧ (decide (n < lg.base.idx)) = true ∧ True) (rest := [16, 17, 18]) h5 (by kernel_rfl) rfl ⟨⟨rfl, rfl⟩, ⟨rfl, rfl⟩, hb10, trivial⟩ fun a11 h12 => ?_
    clear h5
    refine nd_batch tabOk tabZ_ok [(16, {})] [4, 0, 1, 18, 19, 24] (T' := [(4, .pointer (some ⟨b2, 0, none⟩)), (0, .pointer (some ⟨bs, 0, none⟩)), (1, .int .i64 n), (18, .bool true), (19, .tuple #[]), (24, .tuple #[])]) (φ := True) (rest := [17, 18]) h12 (by kernel_rfl) rfl trivial fun a13 h14 => ?_
    clear h12
    refine nd_batch tabOk tabZ_ok [(17, {}), (18, {})] [4, 0, 1, 26] (T' := [(4, .pointer (some ⟨b2, 0, none⟩)), (0, .pointer (some ⟨bs, 0, none⟩)), (1, .int .i64 n), (26, .bool true)]) (φ := True) (rest := []) h14 (by kernel_rfl) rfl trivial fun a15 h16 => ?_
    clear h14
    refine nd_done ?_
    refine hK9 _ _ ?_
    clear hK9
    refine c_true h16 rfl ?_
    refine wp_seq_k fun K17 hK17 => ?_
    refine nd_start (l := [0, 1, 2]) rfl ?_
    refine nd_batch tabOk tabZ_ok [(0, {})] [4, 0, 1, 27] (T' := [(4, .pointer (some ⟨b2, 0, none⟩)), (0, .pointer (some ⟨bs, 0, none⟩)), (1, .int .i64 n), (27, .pointer (some ⟨bs, 0, none⟩))]) (φ := True) (rest := [1, 2]) h16 (by kernel_rfl) rfl trivial fun a18 h19 => ?_
    clear h16
    refine nd_op ?_
    refine op_call h19 rfl rfl rfl (callOk Tryf.func29 (by decide) rfl) (args := [.pointer (some ⟨bs, 0, none⟩), .int .u8 1]) rfl (status_ok bs bl m hm out pos live lg.base eo lg.evs.length ec (.slice mo lg.mks.length mc) (.slice so lg.sns.length sc) 1 _ false true (h19.kn (k := 0) rfl) (h19.kn (k := 1) rfl) hne (by omega) (by omega) (by omega)) ?_
    rintro _ w20 ⟨rfl, hf22⟩
    refine ⟨_, rfl, ?_⟩
    have h21 := (h19.grow hf22).put (d := some 28) (v := .agg #[.int .u8 1, .int .i64 pos, .int .i64 lg.base.idx, .int .i64 (lg.base.idx + (lg.evs.length : Int)), .bool live, .bool out.refused, .int .i8 out.running, .int .u64 out.value, .int .u64 (dig m), .int .i64 pos, .int .i64 0, .int .i64 (-1)]) (T' := [(28, .agg #[.int .u8 1, .int .i64 pos, .int .i64 lg.base.idx, .int .i64 (lg.base.idx + (lg.evs.length : Int)), .bool live, .bool out.refused, .int .i8 out.running, .int .u64 out.value, .int .u64 (dig m), .int .i64 pos, .int .i64 0, .int .i64 (-1)]), (4, .pointer (some ⟨b2, 0, none⟩)), (0, .pointer (some ⟨bs, 0, none⟩)), (1, .int .i64 n), (27, .pointer (some ⟨bs, 0, none⟩))]) rfl
    clear h19
    refine nd_op ?_
    refine op_store tabOk {k := 2} (L' := [(bs, ⟨sessC (.pointer (some ⟨bl, 0, none⟩)) m out pos live, 60, false⟩), (bl, ⟨logC lg.base (.slice eo lg.evs.length ec) (.slice mo lg.mks.length mc) (.slice so lg.sns.length sc), 89, true⟩), (b2, ⟨[.int .u8 1, .int .i64 pos, .int .i64 lg.base.idx, .int .i64 (lg.base.idx + (lg.evs.length : Int)), .bool live, .bool out.refused, .int .i8 out.running, .int .u64 out.value, .int .u64 (dig m), .int .i64 pos, .int .i64 0, .int .i64 (-1)], 46, false⟩)]) (φ := b2 = b2 ∧ Nat.ble (0 + 12) 12 = true) h21 rfl rfl rfl (by kernel_rfl) ⟨rfl, rfl⟩ fun w23 h24 => ?_
    clear h21
    refine nd_done ?_
    refine hK17 _ _ ?_
    clear hK17
    refine wp_ret ?_
    have hR : seekR (⟨lg, m, out, pos, live⟩ : Ss) n = ((⟨lg, m, out, pos, live⟩ : Ss).stat 1, (⟨lg, m, out, pos, live⟩ : Ss)) := by unfold seekR; rw [if_pos (by show n < lg.base.idx ∨ lg.fin < n; omega)]
    try simp only [Exit.then, Exit.inBlock]
    try rw [if_pos trivial]
    exact s_ret tabOk tabZ_ok h24 [(.cell 4 46, {k := 2})] (vs := [.agg #[.int .u8 1, .int .i64 pos, .int .i64 lg.base.idx, .int .i64 (lg.base.idx + (lg.evs.length : Int)), .bool live, .bool out.refused, .int .i8 out.running, .int .u64 out.value, .int .u64 (dig m), .int .i64 pos, .int .i64 0, .int .i64 (-1)]]) (φ := (b2 = b2 ∧ Nat.ble (0 + 12) 12 = true) ∧ True) rfl (by kernel_rfl) ⟨⟨rfl, rfl⟩, trivial⟩ (by rw [hR]; exact ⟨⟨eo, ec, eF, mo, mc, mF, so, sc, sF⟩, rfl, ⟨h24.kn (k := 0) rfl, LogAt.of (h24.kn (k := 1) rfl) h24.inv hsep, hne, hsm⟩, (h24.frame.mono (fun b hb => by simp at hb; simp [hb])), fun b hb => .inl hb⟩)
  ·
    have hb10f : ¬ (n < lg.base.idx) := by simpa using hb10
    refine nd_start (l := [0, 1, 2, 3, 4, 5, 6, 7, 8, 9, 10, 11, 12, 13, 14, 15, 16, 17, 18]) rfl ?_
    refine nd_batch tabOk tabZ_ok [(0, {}), (1, {}), (2, {}), (3, {}), (4, {k := 0}), (5, {}), (6, {}), (7, {}), (8, {k := 1}), (9, {f := 1}), (10, {}), (11, {}), (12, {}), (13, {}), (14, {}), (15, {k := 0})] [4, 0, 1, 18, 19, 23] (T' := [(4, .pointer (some ⟨b2, 0, none⟩)), (0, .pointer (some ⟨bs, 0, none⟩)), (1, .int .i64 n), (18, .bool false), (19, .int .i64 n), (23, .pointer (some ⟨bl, 0, none⟩))]) (φ := (bs = bs ∧ Nat.ble (0 + 1) 17 = true) ∧ (bl = bl ∧ Nat.ble (0 + 1) 18 = true) ∧ (decide (n < lg.base.idx)) = false ∧ (bs = bs ∧ Nat.ble (0 + 1) 17 = true) ∧ True) (rest := [16, 17, 18]) h5 (by kernel_rfl) rfl ⟨⟨rfl, rfl⟩, ⟨rfl, rfl⟩, hb10, ⟨rfl, rfl⟩, trivial⟩ fun a25 h26 => ?_
    clear h5
    refine nd_op ?_
    refine op_call h26 rfl rfl rfl (callOk Tryf.func41 (by decide) rfl) (args := [.pointer (some ⟨bl, 0, none⟩)]) rfl (end_ok bl lg.base eo lg.evs.length ec (.slice mo lg.mks.length mc) (.slice so lg.sns.length sc) true _ (h26.kn (k := 1) rfl) hb0 (by omega) (by omega)) ?_
    rintro _ w27 ⟨rfl, hf29⟩
    refine ⟨_, rfl, ?_⟩
    have h28 := (h26.grow hf29).put (d := some 24) (v := .int .i64 (lg.base.idx + (lg.evs.length : Int))) (T' := [(24, .int .i64 (lg.base.idx + (lg.evs.length : Int))), (4, .pointer (some ⟨b2, 0, none⟩)), (0, .pointer (some ⟨bs, 0, none⟩)), (1, .int .i64 n), (18, .bool false), (19, .int .i64 n), (23, .pointer (some ⟨bl, 0, none⟩))]) rfl
    clear h26
    refine nd_batch tabOk tabZ_ok [(17, {}), (18, {})] [4, 0, 1, 26] (T' := [(4, .pointer (some ⟨b2, 0, none⟩)), (0, .pointer (some ⟨bs, 0, none⟩)), (1, .int .i64 n), (26, .bool (decide (n > (lg.base.idx + (lg.evs.length : Int)))))]) (φ := True) (rest := []) h28 (by kernel_rfl) rfl trivial fun a30 h31 => ?_
    clear h28
    refine nd_done ?_
    refine hK9 _ _ ?_
    clear hK9
    refine c_split h31 (b := decide (n > (lg.base.idx + (lg.evs.length : Int)))) rfl (fun hc32 => ?_) (fun hc32 => ?_)
    ·
      have hc32f : n > (lg.base.idx + (lg.evs.length : Int)) := by simpa using hc32
      refine wp_seq_k fun K33 hK33 => ?_
      refine nd_start (l := [0, 1, 2]) rfl ?_
      refine nd_batch tabOk tabZ_ok [(0, {})] [4, 0, 1, 27] (T' := [(4, .pointer (some ⟨b2, 0, none⟩)), (0, .pointer (some ⟨bs, 0, none⟩)), (1, .int .i64 n), (27, .pointer (some ⟨bs, 0, none⟩))]) (φ := True) (rest := [1, 2]) h31 (by kernel_rfl) rfl trivial fun a34 h35 => ?_
      clear h31
      refine nd_op ?_
      refine op_call h35 rfl rfl rfl (callOk Tryf.func29 (by decide) rfl) (args := [.pointer (some ⟨bs, 0, none⟩), .int .u8 1]) rfl (status_ok bs bl m hm out pos live lg.base eo lg.evs.length ec (.slice mo lg.mks.length mc) (.slice so lg.sns.length sc) 1 _ false true (h35.kn (k := 0) rfl) (h35.kn (k := 1) rfl) hne (by omega) (by omega) (by omega)) ?_
      rintro _ w36 ⟨rfl, hf38⟩
      refine ⟨_, rfl, ?_⟩
      have h37 := (h35.grow hf38).put (d := some 28) (v := .agg #[.int .u8 1, .int .i64 pos, .int .i64 lg.base.idx, .int .i64 (lg.base.idx + (lg.evs.length : Int)), .bool live, .bool out.refused, .int .i8 out.running, .int .u64 out.value, .int .u64 (dig m), .int .i64 pos, .int .i64 0, .int .i64 (-1)]) (T' := [(28, .agg #[.int .u8 1, .int .i64 pos, .int .i64 lg.base.idx, .int .i64 (lg.base.idx + (lg.evs.length : Int)), .bool live, .bool out.refused, .int .i8 out.running, .int .u64 out.value, .int .u64 (dig m), .int .i64 pos, .int .i64 0, .int .i64 (-1)]), (4, .pointer (some ⟨b2, 0, none⟩)), (0, .pointer (some ⟨bs, 0, none⟩)), (1, .int .i64 n), (27, .pointer (some ⟨bs, 0, none⟩))]) rfl
      clear h35
      refine nd_op ?_
      refine op_store tabOk {k := 2} (L' := [(bs, ⟨sessC (.pointer (some ⟨bl, 0, none⟩)) m out pos live, 60, false⟩), (bl, ⟨logC lg.base (.slice eo lg.evs.length ec) (.slice mo lg.mks.length mc) (.slice so lg.sns.length sc), 89, true⟩), (b2, ⟨[.int .u8 1, .int .i64 pos, .int .i64 lg.base.idx, .int .i64 (lg.base.idx + (lg.evs.length : Int)), .bool live, .bool out.refused, .int .i8 out.running, .int .u64 out.value, .int .u64 (dig m), .int .i64 pos, .int .i64 0, .int .i64 (-1)], 46, false⟩)]) (φ := b2 = b2 ∧ Nat.ble (0 + 12) 12 = true) h37 rfl rfl rfl (by kernel_rfl) ⟨rfl, rfl⟩ fun w39 h40 => ?_
      clear h37
      refine nd_done ?_
      refine hK33 _ _ ?_
      clear hK33
      refine wp_ret ?_
      have hR : seekR (⟨lg, m, out, pos, live⟩ : Ss) n = ((⟨lg, m, out, pos, live⟩ : Ss).stat 1, (⟨lg, m, out, pos, live⟩ : Ss)) := by unfold seekR; rw [if_pos (by show n < lg.base.idx ∨ lg.fin < n; omega)]
      try simp only [Exit.then, Exit.inBlock]
      try rw [if_pos trivial]
      exact s_ret tabOk tabZ_ok h40 [(.cell 4 46, {k := 2})] (vs := [.agg #[.int .u8 1, .int .i64 pos, .int .i64 lg.base.idx, .int .i64 (lg.base.idx + (lg.evs.length : Int)), .bool live, .bool out.refused, .int .i8 out.running, .int .u64 out.value, .int .u64 (dig m), .int .i64 pos, .int .i64 0, .int .i64 (-1)]]) (φ := (b2 = b2 ∧ Nat.ble (0 + 12) 12 = true) ∧ True) rfl (by kernel_rfl) ⟨⟨rfl, rfl⟩, trivial⟩ (by rw [hR]; exact ⟨⟨eo, ec, eF, mo, mc, mF, so, sc, sF⟩, rfl, ⟨h40.kn (k := 0) rfl, LogAt.of (h40.kn (k := 1) rfl) h40.inv hsep, hne, hsm⟩, (h40.frame.mono (fun b hb => by simp at hb; simp [hb])), fun b hb => .inl hb⟩)
    ·
      have hc32f : ¬ n > (lg.base.idx + (lg.evs.length : Int)) := by simpa using hc32
      have hmok2 := runF_ok (seg lg.evs ((lg.near n).idx - lg.base.idx).toNat (n - (lg.near n).idx).toNat) ((lg.near n).st, (lg.near n).out) (near_ok hwl n) (seg_ok hwl.evs _ _)
      refine wp_skip ?_
      refine hK8 _ _ ?_
      clear hK8
      refine wp_seq_k fun K41 hK41 => ?_
      refine nd_start (l := [0, 1, 2, 3, 4, 5, 6, 7, 8]) rfl ?_
      refine nd_batch tabOk tabZ_ok [(0, {}), (1, {}), (2, {}), (3, {k := 0}), (4, {})] [4, 0, 1, 32, 33] (T' := [(4, .pointer (some ⟨b2, 0, none⟩)), (0, .pointer (some ⟨bs, 0, none⟩)), (1, .int .i64 n), (32, .pointer (some ⟨bl, 0, none⟩)), (33, .int .i64 n)]) (φ := (bs = bs ∧ Nat.ble (0 + 1) 17 = true) ∧ True) (rest := [5, 6, 7, 8]) h31 (by kernel_rfl) rfl ⟨⟨rfl, rfl⟩, trivial⟩ fun a42 h43 => ?_
      clear h31
      refine nd_op ?_
      have hnle := near_le lg (n := n) (by omega)
      have hnge := near_ge hwl n
      have hnok := near_ok hwl n
      refine op_call h43 rfl rfl rfl (callOk Tryf.func43 (by decide) rfl) (args := [.pointer (some ⟨bl, 0, none⟩), .int .i64 n]) rfl (nearest_ok bl ⟨eo, ec, eF, mo, mc, mF, so, sc, sF⟩ lg _ (LogAt.of (d := ⟨eo, ec, eF, mo, mc, mF, so, sc, sF⟩) (h43.kn (k := 1) rfl) h43.inv hsep) n hwl.ssort (by omega)) ?_
      rintro _ w48 ⟨b44, off45, cs46, ty47, rfl, hnb, hnc, _, hf49⟩
      refine ⟨_, rfl, ?_⟩
      have h50 := (h43.grow hf49).put (d := some 34) (v := .pointer (some ⟨b44, off45, none⟩)) (T' := [(34, .pointer (some ⟨b44, off45, none⟩)), (4, .pointer (some ⟨b2, 0, none⟩)), (0, .pointer (some ⟨bs, 0, none⟩)), (1, .int .i64 n), (32, .pointer (some ⟨bl, 0, none⟩)), (33, .int .i64 n)]) rfl
      clear h43
      refine nd_op ?_
      refine op_call h50 rfl rfl rfl (callOk Tryf.func42 (by decide) rfl) (args := [.pointer (some ⟨b44, off45, none⟩)]) rfl (startAt_ok b44 off45 cs46 ty47 true (lg.near n) _ hnb hnc) ?_
      rintro _ w51 ⟨rfl, hf53⟩
      refine ⟨_, rfl, ?_⟩
      have h52 := (h50.grow hf53).put (d := some 35) (v := .agg #[.int .u64 ((lg.near n).st.now), .int .i8 ((lg.near n).st.cur), .int .u8 ((lg.near n).st.s0), .int .u8 ((lg.near n).st.s1), .int .u8 ((lg.near n).st.s2), .int .u8 ((lg.near n).st.s3), .int .u64 ((lg.near n).st.r0), .int .u64 ((lg.near n).st.r1), .int .u64 ((lg.near n).st.r2), .int .u64 ((lg.near n).st.r3), .int .u64 ((lg.near n).st.word), .bool ((lg.near n).out.refused), .int .i8 ((lg.near n).out.running), .int .u64 ((lg.near n).out.value), .int .i64 ((lg.near n).idx)]) (T' := [(35, .agg #[.int .u64 ((lg.near n).st.now), .int .i8 ((lg.near n).st.cur), .int .u8 ((lg.near n).st.s0), .int .u8 ((lg.near n).st.s1), .int .u8 ((lg.near n).st.s2), .int .u8 ((lg.near n).st.s3), .int .u64 ((lg.near n).st.r0), .int .u64 ((lg.near n).st.r1), .int .u64 ((lg.near n).st.r2), .int .u64 ((lg.near n).st.r3), .int .u64 ((lg.near n).st.word), .bool ((lg.near n).out.refused), .int .i8 ((lg.near n).out.running), .int .u64 ((lg.near n).out.value), .int .i64 ((lg.near n).idx)]), (34, .pointer (some ⟨b44, off45, none⟩)), (4, .pointer (some ⟨b2, 0, none⟩)), (0, .pointer (some ⟨bs, 0, none⟩)), (1, .int .i64 n), (32, .pointer (some ⟨bl, 0, none⟩)), (33, .int .i64 n)]) rfl
      clear h50
      refine nd_op ?_
      refine op_new tabOk (cells := [.int .u64 0, .int .i8 0, .int .u8 0, .int .u8 0, .int .u8 0, .int .u8 0, .int .u64 0, .int .u64 0, .int .u64 0, .int .u64 0, .int .u64 0, .bool false, .int .i8 0, .int .u64 0, .int .i64 0]) (ty := 105) (ln := none) (L1 := fun b54 => [(bs, ⟨sessC (.pointer (some ⟨bl, 0, none⟩)) m out pos live, 60, false⟩), (bl, ⟨logC lg.base (.slice eo lg.evs.length ec) (.slice mo lg.mks.length mc) (.slice so lg.sns.length sc), 89, true⟩), (b2, ⟨[.int .u8 0, .int .i64 0, .int .i64 0, .int .i64 0, .bool false, .bool false, .int .i8 0, .int .u64 0, .int .u64 0, .int .i64 0, .int .i64 0, .int .i64 0], 46, false⟩), (b54, ⟨[.int .u64 0, .int .i8 0, .int .u8 0, .int .u8 0, .int .u8 0, .int .u8 0, .int .u64 0, .int .u64 0, .int .u64 0, .int .u64 0, .int .u64 0, .bool false, .int .i8 0, .int .u64 0, .int .i64 0], 105, false⟩)]) h52 rfl rfl rfl rfl (by kernel_rfl) (fun _ => rfl) fun b54 w55 a56 h57 hf58 hn59 => ?_
      clear h52
      refine nd_op ?_
      refine op_store tabOk {k := 3} (L' := [(bs, ⟨sessC (.pointer (some ⟨bl, 0, none⟩)) m out pos live, 60, false⟩), (bl, ⟨logC lg.base (.slice eo lg.evs.length ec) (.slice mo lg.mks.length mc) (.slice so lg.sns.length sc), 89, true⟩), (b2, ⟨[.int .u8 0, .int .i64 0, .int .i64 0, .int .i64 0, .bool false, .bool false, .int .i8 0, .int .u64 0, .int .u64 0, .int .i64 0, .int .i64 0, .int .i64 0], 46, false⟩), (b54, ⟨[.int .u64 ((lg.near n).st.now), .int .i8 ((lg.near n).st.cur), .int .u8 ((lg.near n).st.s0), .int .u8 ((lg.near n).st.s1), .int .u8 ((lg.near n).st.s2), .int .u8 ((lg.near n).st.s3), .int .u64 ((lg.near n).st.r0), .int .u64 ((lg.near n).st.r1), .int .u64 ((lg.near n).st.r2), .int .u64 ((lg.near n).st.r3), .int .u64 ((lg.near n).st.word), .bool ((lg.near n).out.refused), .int .i8 ((lg.near n).out.running), .int .u64 ((lg.near n).out.value), .int .i64 ((lg.near n).idx)], 105, false⟩)]) (φ := b54 = b54 ∧ Nat.ble (0 + 15) 15 = true) h57 rfl rfl rfl (by kernel_rfl) ⟨rfl, rfl⟩ fun w60 h61 => ?_
      clear h57
      refine nd_done ?_
      refine hK41 _ _ ?_
      clear hK41
      refine wp_seq_k fun K62 hK62 => ?_
      refine nd_start (l := [0, 1, 2]) rfl ?_
      refine nd_batch tabOk tabZ_ok [(0, {}), (1, {k := 3}), (2, {})] [5, 4, 0, 1, 6] (T' := [(5, .pointer (some ⟨b54, 0, none⟩)), (4, .pointer (some ⟨b2, 0, none⟩)), (0, .pointer (some ⟨bs, 0, none⟩)), (1, .int .i64 n), (6, .int .i64 ((lg.near n).idx))]) (φ := (b54 = b54 ∧ Nat.ble (14 + 1) 15 = true) ∧ True) (rest := []) h61 (by kernel_rfl) rfl ⟨⟨rfl, rfl⟩, trivial⟩ fun a63 h64 => ?_
      clear h61
      refine nd_done ?_
      refine hK62 _ _ ?_
      clear hK62
      refine wp_seq_k fun K65 hK65 => ?_
      refine nd_start (l := [0, 1, 2, 3, 4, 5]) rfl ?_
      refine nd_batch tabOk tabZ_ok [(0, {}), (1, {}), (2, {}), (3, {k := 0}), (4, {})] [5, 4, 0, 1, 6, 41, 42] (T' := [(5, .pointer (some ⟨b54, 0, none⟩)), (4, .pointer (some ⟨b2, 0, none⟩)), (0, .pointer (some ⟨bs, 0, none⟩)), (1, .int .i64 n), (6, .int .i64 ((lg.near n).idx)), (41, .pointer (some ⟨bl, 0, none⟩)), (42, .int .i64 n)]) (φ := (bs = bs ∧ Nat.ble (0 + 1) 17 = true) ∧ True) (rest := [5]) h64 (by kernel_rfl) rfl ⟨⟨rfl, rfl⟩, trivial⟩ fun a66 h67 => ?_
      clear h64
      refine nd_op ?_
      refine op_call h67 rfl rfl rfl (callOk Tryf.func44 (by decide) rfl) (args := [.pointer (some ⟨b54, 0, none⟩), .pointer (some ⟨bl, 0, none⟩), .int .i64 n]) rfl (run_ok b54 bl ⟨eo, ec, eF, mo, mc, mF, so, sc, sF⟩ lg _ (LogAt.of (d := ⟨eo, ec, eF, mo, mc, mF, so, sc, sF⟩) (h67.kn (k := 1) rfl) h67.inv hsep) ((lg.near n).st) ((lg.near n).out) ((lg.near n).idx) n ((lg.near n).idx - lg.base.idx).toNat (n - (lg.near n).idx).toNat (h67.kn (k := 3) rfl) (h67.ne 3 1 rfl rfl rfl) (h67.dj (k := 3) rfl rfl) hwl.evs hnok (by omega) (by omega) (by omega) (by omega) hb0 (by omega)) ?_
      rintro _ w68 ⟨rfl, hbr, hf70⟩
      refine ⟨_, rfl, ?_⟩
      have h69 := (h67.setBlk (k := 3) rfl rfl hf70 hbr (L' := [(bs, ⟨sessC (.pointer (some ⟨bl, 0, none⟩)) m out pos live, 60, false⟩), (bl, ⟨logC lg.base (.slice eo lg.evs.length ec) (.slice mo lg.mks.length mc) (.slice so lg.sns.length sc), 89, true⟩), (b2, ⟨[.int .u8 0, .int .i64 0, .int .i64 0, .int .i64 0, .bool false, .bool false, .int .i8 0, .int .u64 0, .int .u64 0, .int .i64 0, .int .i64 0, .int .i64 0], 46, false⟩), (b54, ⟨curC ((runF (seg lg.evs ((lg.near n).idx - lg.base.idx).toNat (n - (lg.near n).idx).toNat) ((lg.near n).st, (lg.near n).out)).1) ((runF (seg lg.evs ((lg.near n).idx - lg.base.idx).toNat (n - (lg.near n).idx).toNat) ((lg.near n).st, (lg.near n).out)).2) n, 105, false⟩)]) rfl).put (d := some 43) (v := .tuple #[]) (T' := [(43, .tuple #[]), (5, .pointer (some ⟨b54, 0, none⟩)), (4, .pointer (some ⟨b2, 0, none⟩)), (0, .pointer (some ⟨bs, 0, none⟩)), (1, .int .i64 n), (6, .int .i64 ((lg.near n).idx)), (41, .pointer (some ⟨bl, 0, none⟩)), (42, .int .i64 n)]) rfl
      clear h67
      refine nd_done ?_
      refine hK65 _ _ ?_
      clear hK65
      refine wp_seq_k fun K71 hK71 => ?_
      refine nd_start (l := [0, 1, 2]) rfl ?_
      refine nd_batch tabOk tabZ_ok [(0, {}), (1, {k := 3})] [5, 4, 0, 1, 6, 44, 45] (T' := [(5, .pointer (some ⟨b54, 0, none⟩)), (4, .pointer (some ⟨b2, 0, none⟩)), (0, .pointer (some ⟨bs, 0, none⟩)), (1, .int .i64 n), (6, .int .i64 ((lg.near n).idx)), (44, .pointer (some ⟨bs, 0, none⟩)), (45, .agg #[.int .u64 ((runF (seg lg.evs ((lg.near n).idx - lg.base.idx).toNat (n - (lg.near n).idx).toNat) ((lg.near n).st, (lg.near n).out)).1.now), .int .i8 ((runF (seg lg.evs ((lg.near n).idx - lg.base.idx).toNat (n - (lg.near n).idx).toNat) ((lg.near n).st, (lg.near n).out)).1.cur), .int .u8 ((runF (seg lg.evs ((lg.near n).idx - lg.base.idx).toNat (n - (lg.near n).idx).toNat) ((lg.near n).st, (lg.near n).out)).1.s0), .int .u8 ((runF (seg lg.evs ((lg.near n).idx - lg.base.idx).toNat (n - (lg.near n).idx).toNat) ((lg.near n).st, (lg.near n).out)).1.s1), .int .u8 ((runF (seg lg.evs ((lg.near n).idx - lg.base.idx).toNat (n - (lg.near n).idx).toNat) ((lg.near n).st, (lg.near n).out)).1.s2), .int .u8 ((runF (seg lg.evs ((lg.near n).idx - lg.base.idx).toNat (n - (lg.near n).idx).toNat) ((lg.near n).st, (lg.near n).out)).1.s3), .int .u64 ((runF (seg lg.evs ((lg.near n).idx - lg.base.idx).toNat (n - (lg.near n).idx).toNat) ((lg.near n).st, (lg.near n).out)).1.r0), .int .u64 ((runF (seg lg.evs ((lg.near n).idx - lg.base.idx).toNat (n - (lg.near n).idx).toNat) ((lg.near n).st, (lg.near n).out)).1.r1), .int .u64 ((runF (seg lg.evs ((lg.near n).idx - lg.base.idx).toNat (n - (lg.near n).idx).toNat) ((lg.near n).st, (lg.near n).out)).1.r2), .int .u64 ((runF (seg lg.evs ((lg.near n).idx - lg.base.idx).toNat (n - (lg.near n).idx).toNat) ((lg.near n).st, (lg.near n).out)).1.r3), .int .u64 ((runF (seg lg.evs ((lg.near n).idx - lg.base.idx).toNat (n - (lg.near n).idx).toNat) ((lg.near n).st, (lg.near n).out)).1.word), .bool ((runF (seg lg.evs ((lg.near n).idx - lg.base.idx).toNat (n - (lg.near n).idx).toNat) ((lg.near n).st, (lg.near n).out)).2.refused), .int .i8 ((runF (seg lg.evs ((lg.near n).idx - lg.base.idx).toNat (n - (lg.near n).idx).toNat) ((lg.near n).st, (lg.near n).out)).2.running), .int .u64 ((runF (seg lg.evs ((lg.near n).idx - lg.base.idx).toNat (n - (lg.near n).idx).toNat) ((lg.near n).st, (lg.near n).out)).2.value), .int .i64 n])]) (φ := (b54 = b54 ∧ Nat.ble (0 + 15) 15 = true) ∧ True) (rest := [2]) h69 (by kernel_rfl) rfl ⟨⟨rfl, rfl⟩, trivial⟩ fun a72 h73 => ?_
      clear h69
      refine nd_op ?_
      refine op_call h73 rfl rfl rfl (callOk Tryf.func45 (by decide) rfl) (args := [.pointer (some ⟨bs, 0, none⟩), .agg #[.int .u64 ((runF (seg lg.evs ((lg.near n).idx - lg.base.idx).toNat (n - (lg.near n).idx).toNat) ((lg.near n).st, (lg.near n).out)).1.now), .int .i8 ((runF (seg lg.evs ((lg.near n).idx - lg.base.idx).toNat (n - (lg.near n).idx).toNat) ((lg.near n).st, (lg.near n).out)).1.cur), .int .u8 ((runF (seg lg.evs ((lg.near n).idx - lg.base.idx).toNat (n - (lg.near n).idx).toNat) ((lg.near n).st, (lg.near n).out)).1.s0), .int .u8 ((runF (seg lg.evs ((lg.near n).idx - lg.base.idx).toNat (n - (lg.near n).idx).toNat) ((lg.near n).st, (lg.near n).out)).1.s1), .int .u8 ((runF (seg lg.evs ((lg.near n).idx - lg.base.idx).toNat (n - (lg.near n).idx).toNat) ((lg.near n).st, (lg.near n).out)).1.s2), .int .u8 ((runF (seg lg.evs ((lg.near n).idx - lg.base.idx).toNat (n - (lg.near n).idx).toNat) ((lg.near n).st, (lg.near n).out)).1.s3), .int .u64 ((runF (seg lg.evs ((lg.near n).idx - lg.base.idx).toNat (n - (lg.near n).idx).toNat) ((lg.near n).st, (lg.near n).out)).1.r0), .int .u64 ((runF (seg lg.evs ((lg.near n).idx - lg.base.idx).toNat (n - (lg.near n).idx).toNat) ((lg.near n).st, (lg.near n).out)).1.r1), .int .u64 ((runF (seg lg.evs ((lg.near n).idx - lg.base.idx).toNat (n - (lg.near n).idx).toNat) ((lg.near n).st, (lg.near n).out)).1.r2), .int .u64 ((runF (seg lg.evs ((lg.near n).idx - lg.base.idx).toNat (n - (lg.near n).idx).toNat) ((lg.near n).st, (lg.near n).out)).1.r3), .int .u64 ((runF (seg lg.evs ((lg.near n).idx - lg.base.idx).toNat (n - (lg.near n).idx).toNat) ((lg.near n).st, (lg.near n).out)).1.word), .bool ((runF (seg lg.evs ((lg.near n).idx - lg.base.idx).toNat (n - (lg.near n).idx).toNat) ((lg.near n).st, (lg.near n).out)).2.refused), .int .i8 ((runF (seg lg.evs ((lg.near n).idx - lg.base.idx).toNat (n - (lg.near n).idx).toNat) ((lg.near n).st, (lg.near n).out)).2.running), .int .u64 ((runF (seg lg.evs ((lg.near n).idx - lg.base.idx).toNat (n - (lg.near n).idx).toNat) ((lg.near n).st, (lg.near n).out)).2.value), .int .i64 n]]) rfl (adopt_ok bs (.pointer (some ⟨bl, 0, none⟩)) m out pos live (runF (seg lg.evs ((lg.near n).idx - lg.base.idx).toNat (n - (lg.near n).idx).toNat) ((lg.near n).st, (lg.near n).out)).1 (runF (seg lg.evs ((lg.near n).idx - lg.base.idx).toNat (n - (lg.near n).idx).toNat) ((lg.near n).st, (lg.near n).out)).2 n _ (h73.kn (k := 0) rfl)) ?_
      rintro _ w74 ⟨rfl, hba, hf76⟩
      refine ⟨_, rfl, ?_⟩
      have h75 := (h73.setBlk (k := 0) rfl rfl hf76 hba (L' := [(bs, ⟨sessC (.pointer (some ⟨bl, 0, none⟩)) (runF (seg lg.evs ((lg.near n).idx - lg.base.idx).toNat (n - (lg.near n).idx).toNat) ((lg.near n).st, (lg.near n).out)).1 (runF (seg lg.evs ((lg.near n).idx - lg.base.idx).toNat (n - (lg.near n).idx).toNat) ((lg.near n).st, (lg.near n).out)).2 n false, 60, false⟩), (bl, ⟨logC lg.base (.slice eo lg.evs.length ec) (.slice mo lg.mks.length mc) (.slice so lg.sns.length sc), 89, true⟩), (b2, ⟨[.int .u8 0, .int .i64 0, .int .i64 0, .int .i64 0, .bool false, .bool false, .int .i8 0, .int .u64 0, .int .u64 0, .int .i64 0, .int .i64 0, .int .i64 0], 46, false⟩), (b54, ⟨curC ((runF (seg lg.evs ((lg.near n).idx - lg.base.idx).toNat (n - (lg.near n).idx).toNat) ((lg.near n).st, (lg.near n).out)).1) ((runF (seg lg.evs ((lg.near n).idx - lg.base.idx).toNat (n - (lg.near n).idx).toNat) ((lg.near n).st, (lg.near n).out)).2) n, 105, false⟩)]) rfl).put (d := some 46) (v := .tuple #[]) (T' := [(46, .tuple #[]), (5, .pointer (some ⟨b54, 0, none⟩)), (4, .pointer (some ⟨b2, 0, none⟩)), (0, .pointer (some ⟨bs, 0, none⟩)), (1, .int .i64 n), (6, .int .i64 ((lg.near n).idx)), (44, .pointer (some ⟨bs, 0, none⟩)), (45, .agg #[.int .u64 ((runF (seg lg.evs ((lg.near n).idx - lg.base.idx).toNat (n - (lg.near n).idx).toNat) ((lg.near n).st, (lg.near n).out)).1.now), .int .i8 ((runF (seg lg.evs ((lg.near n).idx - lg.base.idx).toNat (n - (lg.near n).idx).toNat) ((lg.near n).st, (lg.near n).out)).1.cur), .int .u8 ((runF (seg lg.evs ((lg.near n).idx - lg.base.idx).toNat (n - (lg.near n).idx).toNat) ((lg.near n).st, (lg.near n).out)).1.s0), .int .u8 ((runF (seg lg.evs ((lg.near n).idx - lg.base.idx).toNat (n - (lg.near n).idx).toNat) ((lg.near n).st, (lg.near n).out)).1.s1), .int .u8 ((runF (seg lg.evs ((lg.near n).idx - lg.base.idx).toNat (n - (lg.near n).idx).toNat) ((lg.near n).st, (lg.near n).out)).1.s2), .int .u8 ((runF (seg lg.evs ((lg.near n).idx - lg.base.idx).toNat (n - (lg.near n).idx).toNat) ((lg.near n).st, (lg.near n).out)).1.s3), .int .u64 ((runF (seg lg.evs ((lg.near n).idx - lg.base.idx).toNat (n - (lg.near n).idx).toNat) ((lg.near n).st, (lg.near n).out)).1.r0), .int .u64 ((runF (seg lg.evs ((lg.near n).idx - lg.base.idx).toNat (n - (lg.near n).idx).toNat) ((lg.near n).st, (lg.near n).out)).1.r1), .int .u64 ((runF (seg lg.evs ((lg.near n).idx - lg.base.idx).toNat (n - (lg.near n).idx).toNat) ((lg.near n).st, (lg.near n).out)).1.r2), .int .u64 ((runF (seg lg.evs ((lg.near n).idx - lg.base.idx).toNat (n - (lg.near n).idx).toNat) ((lg.near n).st, (lg.near n).out)).1.r3), .int .u64 ((runF (seg lg.evs ((lg.near n).idx - lg.base.idx).toNat (n - (lg.near n).idx).toNat) ((lg.near n).st, (lg.near n).out)).1.word), .bool ((runF (seg lg.evs ((lg.near n).idx - lg.base.idx).toNat (n - (lg.near n).idx).toNat) ((lg.near n).st, (lg.near n).out)).2.refused), .int .i8 ((runF (seg lg.evs ((lg.near n).idx - lg.base.idx).toNat (n - (lg.near n).idx).toNat) ((lg.near n).st, (lg.near n).out)).2.running), .int .u64 ((runF (seg lg.evs ((lg.near n).idx - lg.base.idx).toNat (n - (lg.near n).idx).toNat) ((lg.near n).st, (lg.near n).out)).2.value), .int .i64 n])]) rfl
      clear h73
      refine nd_done ?_
      refine hK71 _ _ ?_
      clear hK71
      refine wp_seq_k fun K77 hK77 => ?_
      refine nd_start (l := [0, 1, 2, 3]) rfl ?_
      refine nd_batch tabOk tabZ_ok [(0, {})] [5, 4, 0, 1, 6, 47] (T' := [(5, .pointer (some ⟨b54, 0, none⟩)), (4, .pointer (some ⟨b2, 0, none⟩)), (0, .pointer (some ⟨bs, 0, none⟩)), (1, .int .i64 n), (6, .int .i64 ((lg.near n).idx)), (47, .pointer (some ⟨bs, 0, none⟩))]) (φ := True) (rest := [1, 2, 3]) h75 (by kernel_rfl) rfl trivial fun a78 h79 => ?_
      clear h75
      refine nd_op ?_
      refine op_call h79 rfl rfl rfl (callOk Tryf.func29 (by decide) rfl) (args := [.pointer (some ⟨bs, 0, none⟩), .int .u8 0]) rfl (status_ok bs bl ((runF (seg lg.evs ((lg.near n).idx - lg.base.idx).toNat (n - (lg.near n).idx).toNat) ((lg.near n).st, (lg.near n).out)).1) hmok2 ((runF (seg lg.evs ((lg.near n).idx - lg.base.idx).toNat (n - (lg.near n).idx).toNat) ((lg.near n).st, (lg.near n).out)).2) n false lg.base eo lg.evs.length ec (.slice mo lg.mks.length mc) (.slice so lg.sns.length sc) 0 _ false true (h79.kn (k := 0) rfl) (h79.kn (k := 1) rfl) hne (by omega) (by omega) (by omega)) ?_
      rintro _ w80 ⟨rfl, hf82⟩
      refine ⟨_, rfl, ?_⟩
      have h81 := (h79.grow hf82).put (d := some 48) (v := .agg #[.int .u8 0, .int .i64 n, .int .i64 lg.base.idx, .int .i64 (lg.base.idx + (lg.evs.length : Int)), .bool false, .bool ((runF (seg lg.evs ((lg.near n).idx - lg.base.idx).toNat (n - (lg.near n).idx).toNat) ((lg.near n).st, (lg.near n).out)).2.refused), .int .i8 ((runF (seg lg.evs ((lg.near n).idx - lg.base.idx).toNat (n - (lg.near n).idx).toNat) ((lg.near n).st, (lg.near n).out)).2.running), .int .u64 ((runF (seg lg.evs ((lg.near n).idx - lg.base.idx).toNat (n - (lg.near n).idx).toNat) ((lg.near n).st, (lg.near n).out)).2.value), .int .u64 (dig ((runF (seg lg.evs ((lg.near n).idx - lg.base.idx).toNat (n - (lg.near n).idx).toNat) ((lg.near n).st, (lg.near n).out)).1)), .int .i64 n, .int .i64 0, .int .i64 (-1)]) (T' := [(48, .agg #[.int .u8 0, .int .i64 n, .int .i64 lg.base.idx, .int .i64 (lg.base.idx + (lg.evs.length : Int)), .bool false, .bool ((runF (seg lg.evs ((lg.near n).idx - lg.base.idx).toNat (n - (lg.near n).idx).toNat) ((lg.near n).st, (lg.near n).out)).2.refused), .int .i8 ((runF (seg lg.evs ((lg.near n).idx - lg.base.idx).toNat (n - (lg.near n).idx).toNat) ((lg.near n).st, (lg.near n).out)).2.running), .int .u64 ((runF (seg lg.evs ((lg.near n).idx - lg.base.idx).toNat (n - (lg.near n).idx).toNat) ((lg.near n).st, (lg.near n).out)).2.value), .int .u64 (dig ((runF (seg lg.evs ((lg.near n).idx - lg.base.idx).toNat (n - (lg.near n).idx).toNat) ((lg.near n).st, (lg.near n).out)).1)), .int .i64 n, .int .i64 0, .int .i64 (-1)]), (5, .pointer (some ⟨b54, 0, none⟩)), (4, .pointer (some ⟨b2, 0, none⟩)), (0, .pointer (some ⟨bs, 0, none⟩)), (1, .int .i64 n), (6, .int .i64 ((lg.near n).idx)), (47, .pointer (some ⟨bs, 0, none⟩))]) rfl
      clear h79
      refine nd_op ?_
      refine op_new tabOk (cells := [.int .u8 0, .int .i64 0, .int .i64 0, .int .i64 0, .bool false, .bool false, .int .i8 0, .int .u64 0, .int .u64 0, .int .i64 0, .int .i64 0, .int .i64 0]) (ty := 46) (ln := none) (L1 := fun b83 => [(bs, ⟨sessC (.pointer (some ⟨bl, 0, none⟩)) (runF (seg lg.evs ((lg.near n).idx - lg.base.idx).toNat (n - (lg.near n).idx).toNat) ((lg.near n).st, (lg.near n).out)).1 (runF (seg lg.evs ((lg.near n).idx - lg.base.idx).toNat (n - (lg.near n).idx).toNat) ((lg.near n).st, (lg.near n).out)).2 n false, 60, false⟩), (bl, ⟨logC lg.base (.slice eo lg.evs.length ec) (.slice mo lg.mks.length mc) (.slice so lg.sns.length sc), 89, true⟩), (b2, ⟨[.int .u8 0, .int .i64 0, .int .i64 0, .int .i64 0, .bool false, .bool false, .int .i8 0, .int .u64 0, .int .u64 0, .int .i64 0, .int .i64 0, .int .i64 0], 46, false⟩), (b54, ⟨curC ((runF (seg lg.evs ((lg.near n).idx - lg.base.idx).toNat (n - (lg.near n).idx).toNat) ((lg.near n).st, (lg.near n).out)).1) ((runF (seg lg.evs ((lg.near n).idx - lg.base.idx).toNat (n - (lg.near n).idx).toNat) ((lg.near n).st, (lg.near n).out)).2) n, 105, false⟩), (b83, ⟨[.int .u8 0, .int .i64 0, .int .i64 0, .int .i64 0, .bool false, .bool false, .int .i8 0, .int .u64 0, .int .u64 0, .int .i64 0, .int .i64 0, .int .i64 0], 46, false⟩)]) h81 rfl rfl rfl rfl (by kernel_rfl) (fun _ => rfl) fun b83 w84 a85 h86 hf87 hn88 => ?_
      clear h81
      refine nd_op ?_
      refine op_store tabOk {k := 4} (L' := [(bs, ⟨sessC (.pointer (some ⟨bl, 0, none⟩)) (runF (seg lg.evs ((lg.near n).idx - lg.base.idx).toNat (n - (lg.near n).idx).toNat) ((lg.near n).st, (lg.near n).out)).1 (runF (seg lg.evs ((lg.near n).idx - lg.base.idx).toNat (n - (lg.near n).idx).toNat) ((lg.near n).st, (lg.near n).out)).2 n false, 60, false⟩), (bl, ⟨logC lg.base (.slice eo lg.evs.length ec) (.slice mo lg.mks.length mc) (.slice so lg.sns.length sc), 89, true⟩), (b2, ⟨[.int .u8 0, .int .i64 0, .int .i64 0, .int .i64 0, .bool false, .bool false, .int .i8 0, .int .u64 0, .int .u64 0, .int .i64 0, .int .i64 0, .int .i64 0], 46, false⟩), (b54, ⟨curC ((runF (seg lg.evs ((lg.near n).idx - lg.base.idx).toNat (n - (lg.near n).idx).toNat) ((lg.near n).st, (lg.near n).out)).1) ((runF (seg lg.evs ((lg.near n).idx - lg.base.idx).toNat (n - (lg.near n).idx).toNat) ((lg.near n).st, (lg.near n).out)).2) n, 105, false⟩), (b83, ⟨[.int .u8 0, .int .i64 n, .int .i64 lg.base.idx, .int .i64 (lg.base.idx + (lg.evs.length : Int)), .bool false, .bool ((runF (seg lg.evs ((lg.near n).idx - lg.base.idx).toNat (n - (lg.near n).idx).toNat) ((lg.near n).st, (lg.near n).out)).2.refused), .int .i8 ((runF (seg lg.evs ((lg.near n).idx - lg.base.idx).toNat (n - (lg.near n).idx).toNat) ((lg.near n).st, (lg.near n).out)).2.running), .int .u64 ((runF (seg lg.evs ((lg.near n).idx - lg.base.idx).toNat (n - (lg.near n).idx).toNat) ((lg.near n).st, (lg.near n).out)).2.value), .int .u64 (dig ((runF (seg lg.evs ((lg.near n).idx - lg.base.idx).toNat (n - (lg.near n).idx).toNat) ((lg.near n).st, (lg.near n).out)).1)), .int .i64 n, .int .i64 0, .int .i64 (-1)], 46, false⟩)]) (φ := b83 = b83 ∧ Nat.ble (0 + 12) 12 = true) h86 rfl rfl rfl (by kernel_rfl) ⟨rfl, rfl⟩ fun w89 h90 => ?_
      clear h86
      refine nd_done ?_
      refine hK77 _ _ ?_
      clear hK77
      refine wp_seq_k fun K91 hK91 => ?_
      refine nd_start (l := [0, 1, 2, 3, 4, 5, 6, 7]) rfl ?_
      refine nd_batch tabOk tabZ_ok [(0, {}), (1, {}), (2, {}), (3, {}), (4, {})] [7, 5, 4, 0, 1, 6, 49, 52, 53] (T' := [(7, .pointer (some ⟨b83, 0, none⟩)), (5, .pointer (some ⟨b54, 0, none⟩)), (4, .pointer (some ⟨b2, 0, none⟩)), (0, .pointer (some ⟨bs, 0, none⟩)), (1, .int .i64 n), (6, .int .i64 ((lg.near n).idx)), (49, .int .i64 ((lg.near n).idx)), (52, .int .i64 (n - ((lg.near n).idx))), (53, .pointer (some ⟨b83, 9, none⟩))]) (φ := inR .i64 (n - ((lg.near n).idx)) ∧ True) (rest := [5, 6, 7]) h90 (by kernel_rfl) rfl ⟨⟨by omega, by omega⟩, trivial⟩ fun a92 h93 => ?_
      clear h90
      refine nd_op ?_
      refine op_store tabOk {k := 4} (L' := [(bs, ⟨sessC (.pointer (some ⟨bl, 0, none⟩)) (runF (seg lg.evs ((lg.near n).idx - lg.base.idx).toNat (n - (lg.near n).idx).toNat) ((lg.near n).st, (lg.near n).out)).1 (runF (seg lg.evs ((lg.near n).idx - lg.base.idx).toNat (n - (lg.near n).idx).toNat) ((lg.near n).st, (lg.near n).out)).2 n false, 60, false⟩), (bl, ⟨logC lg.base (.slice eo lg.evs.length ec) (.slice mo lg.mks.length mc) (.slice so lg.sns.length sc), 89, true⟩), (b2, ⟨[.int .u8 0, .int .i64 0, .int .i64 0, .int .i64 0, .bool false, .bool false, .int .i8 0, .int .u64 0, .int .u64 0, .int .i64 0, .int .i64 0, .int .i64 0], 46, false⟩), (b54, ⟨curC ((runF (seg lg.evs ((lg.near n).idx - lg.base.idx).toNat (n - (lg.near n).idx).toNat) ((lg.near n).st, (lg.near n).out)).1) ((runF (seg lg.evs ((lg.near n).idx - lg.base.idx).toNat (n - (lg.near n).idx).toNat) ((lg.near n).st, (lg.near n).out)).2) n, 105, false⟩), (b83, ⟨[.int .u8 0, .int .i64 n, .int .i64 lg.base.idx, .int .i64 (lg.base.idx + (lg.evs.length : Int)), .bool false, .bool ((runF (seg lg.evs ((lg.near n).idx - lg.base.idx).toNat (n - (lg.near n).idx).toNat) ((lg.near n).st, (lg.near n).out)).2.refused), .int .i8 ((runF (seg lg.evs ((lg.near n).idx - lg.base.idx).toNat (n - (lg.near n).idx).toNat) ((lg.near n).st, (lg.near n).out)).2.running), .int .u64 ((runF (seg lg.evs ((lg.near n).idx - lg.base.idx).toNat (n - (lg.near n).idx).toNat) ((lg.near n).st, (lg.near n).out)).2.value), .int .u64 (dig ((runF (seg lg.evs ((lg.near n).idx - lg.base.idx).toNat (n - (lg.near n).idx).toNat) ((lg.near n).st, (lg.near n).out)).1)), .int .i64 ((lg.near n).idx), .int .i64 0, .int .i64 (-1)], 46, false⟩)]) (φ := b83 = b83 ∧ Nat.ble (9 + 1) 12 = true) h93 rfl rfl rfl (by kernel_rfl) ⟨rfl, rfl⟩ fun w94 h95 => ?_
      clear h93
      refine nd_batch tabOk tabZ_ok [(6, {})] [7, 5, 4, 0, 1, 6, 52, 54] (T' := [(7, .pointer (some ⟨b83, 0, none⟩)), (5, .pointer (some ⟨b54, 0, none⟩)), (4, .pointer (some ⟨b2, 0, none⟩)), (0, .pointer (some ⟨bs, 0, none⟩)), (1, .int .i64 n), (6, .int .i64 ((lg.near n).idx)), (52, .int .i64 (n - ((lg.near n).idx))), (54, .pointer (some ⟨b83, 10, none⟩))]) (φ := True) (rest := [7]) h95 (by kernel_rfl) rfl trivial fun a96 h97 => ?_
      clear h95
      refine nd_op ?_
      refine op_store tabOk {k := 4} (L' := [(bs, ⟨sessC (.pointer (some ⟨bl, 0, none⟩)) (runF (seg lg.evs ((lg.near n).idx - lg.base.idx).toNat (n - (lg.near n).idx).toNat) ((lg.near n).st, (lg.near n).out)).1 (runF (seg lg.evs ((lg.near n).idx - lg.base.idx).toNat (n - (lg.near n).idx).toNat) ((lg.near n).st, (lg.near n).out)).2 n false, 60, false⟩), (bl, ⟨logC lg.base (.slice eo lg.evs.length ec) (.slice mo lg.mks.length mc) (.slice so lg.sns.length sc), 89, true⟩), (b2, ⟨[.int .u8 0, .int .i64 0, .int .i64 0, .int .i64 0, .bool false, .bool false, .int .i8 0, .int .u64 0, .int .u64 0, .int .i64 0, .int .i64 0, .int .i64 0], 46, false⟩), (b54, ⟨curC ((runF (seg lg.evs ((lg.near n).idx - lg.base.idx).toNat (n - (lg.near n).idx).toNat) ((lg.near n).st, (lg.near n).out)).1) ((runF (seg lg.evs ((lg.near n).idx - lg.base.idx).toNat (n - (lg.near n).idx).toNat) ((lg.near n).st, (lg.near n).out)).2) n, 105, false⟩), (b83, ⟨[.int .u8 0, .int .i64 n, .int .i64 lg.base.idx, .int .i64 (lg.base.idx + (lg.evs.length : Int)), .bool false, .bool ((runF (seg lg.evs ((lg.near n).idx - lg.base.idx).toNat (n - (lg.near n).idx).toNat) ((lg.near n).st, (lg.near n).out)).2.refused), .int .i8 ((runF (seg lg.evs ((lg.near n).idx - lg.base.idx).toNat (n - (lg.near n).idx).toNat) ((lg.near n).st, (lg.near n).out)).2.running), .int .u64 ((runF (seg lg.evs ((lg.near n).idx - lg.base.idx).toNat (n - (lg.near n).idx).toNat) ((lg.near n).st, (lg.near n).out)).2.value), .int .u64 (dig ((runF (seg lg.evs ((lg.near n).idx - lg.base.idx).toNat (n - (lg.near n).idx).toNat) ((lg.near n).st, (lg.near n).out)).1)), .int .i64 ((lg.near n).idx), .int .i64 (n - ((lg.near n).idx)), .int .i64 (-1)], 46, false⟩)]) (φ := b83 = b83 ∧ Nat.ble (10 + 1) 12 = true) h97 rfl rfl rfl (by kernel_rfl) ⟨rfl, rfl⟩ fun w98 h99 => ?_
      clear h97
      refine nd_done ?_
      refine hK91 _ _ ?_
      clear hK91
      refine wp_seq_k fun K100 hK100 => ?_
      refine nd_start (l := [0, 1]) rfl ?_
      refine nd_batch tabOk tabZ_ok [(0, {k := 4})] [7, 5, 4, 0, 1, 6, 55] (T' := [(7, .pointer (some ⟨b83, 0, none⟩)), (5, .pointer (some ⟨b54, 0, none⟩)), (4, .pointer (some ⟨b2, 0, none⟩)), (0, .pointer (some ⟨bs, 0, none⟩)), (1, .int .i64 n), (6, .int .i64 ((lg.near n).idx)), (55, .agg #[.int .u8 0, .int .i64 n, .int .i64 lg.base.idx, .int .i64 (lg.base.idx + (lg.evs.length : Int)), .bool false, .bool ((runF (seg lg.evs ((lg.near n).idx - lg.base.idx).toNat (n - (lg.near n).idx).toNat) ((lg.near n).st, (lg.near n).out)).2.refused), .int .i8 ((runF (seg lg.evs ((lg.near n).idx - lg.base.idx).toNat (n - (lg.near n).idx).toNat) ((lg.near n).st, (lg.near n).out)).2.running), .int .u64 ((runF (seg lg.evs ((lg.near n).idx - lg.base.idx).toNat (n - (lg.near n).idx).toNat) ((lg.near n).st, (lg.near n).out)).2.value), .int .u64 (dig ((runF (seg lg.evs ((lg.near n).idx - lg.base.idx).toNat (n - (lg.near n).idx).toNat) ((lg.near n).st, (lg.near n).out)).1)), .int .i64 ((lg.near n).idx), .int .i64 (n - ((lg.near n).idx)), .int .i64 (-1)])]) (φ := (b83 = b83 ∧ Nat.ble (0 + 12) 12 = true) ∧ True) (rest := [1]) h99 (by kernel_rfl) rfl ⟨⟨rfl, rfl⟩, trivial⟩ fun a101 h102 => ?_
      clear h99
      refine nd_op ?_
      refine op_store tabOk {k := 2} (L' := [(bs, ⟨sessC (.pointer (some ⟨bl, 0, none⟩)) (runF (seg lg.evs ((lg.near n).idx - lg.base.idx).toNat (n - (lg.near n).idx).toNat) ((lg.near n).st, (lg.near n).out)).1 (runF (seg lg.evs ((lg.near n).idx - lg.base.idx).toNat (n - (lg.near n).idx).toNat) ((lg.near n).st, (lg.near n).out)).2 n false, 60, false⟩), (bl, ⟨logC lg.base (.slice eo lg.evs.length ec) (.slice mo lg.mks.length mc) (.slice so lg.sns.length sc), 89, true⟩), (b2, ⟨[.int .u8 0, .int .i64 n, .int .i64 lg.base.idx, .int .i64 (lg.base.idx + (lg.evs.length : Int)), .bool false, .bool ((runF (seg lg.evs ((lg.near n).idx - lg.base.idx).toNat (n - (lg.near n).idx).toNat) ((lg.near n).st, (lg.near n).out)).2.refused), .int .i8 ((runF (seg lg.evs ((lg.near n).idx - lg.base.idx).toNat (n - (lg.near n).idx).toNat) ((lg.near n).st, (lg.near n).out)).2.running), .int .u64 ((runF (seg lg.evs ((lg.near n).idx - lg.base.idx).toNat (n - (lg.near n).idx).toNat) ((lg.near n).st, (lg.near n).out)).2.value), .int .u64 (dig ((runF (seg lg.evs ((lg.near n).idx - lg.base.idx).toNat (n - (lg.near n).idx).toNat) ((lg.near n).st, (lg.near n).out)).1)), .int .i64 ((lg.near n).idx), .int .i64 (n - ((lg.near n).idx)), .int .i64 (-1)], 46, false⟩), (b54, ⟨curC ((runF (seg lg.evs ((lg.near n).idx - lg.base.idx).toNat (n - (lg.near n).idx).toNat) ((lg.near n).st, (lg.near n).out)).1) ((runF (seg lg.evs ((lg.near n).idx - lg.base.idx).toNat (n - (lg.near n).idx).toNat) ((lg.near n).st, (lg.near n).out)).2) n, 105, false⟩), (b83, ⟨[.int .u8 0, .int .i64 n, .int .i64 lg.base.idx, .int .i64 (lg.base.idx + (lg.evs.length : Int)), .bool false, .bool ((runF (seg lg.evs ((lg.near n).idx - lg.base.idx).toNat (n - (lg.near n).idx).toNat) ((lg.near n).st, (lg.near n).out)).2.refused), .int .i8 ((runF (seg lg.evs ((lg.near n).idx - lg.base.idx).toNat (n - (lg.near n).idx).toNat) ((lg.near n).st, (lg.near n).out)).2.running), .int .u64 ((runF (seg lg.evs ((lg.near n).idx - lg.base.idx).toNat (n - (lg.near n).idx).toNat) ((lg.near n).st, (lg.near n).out)).2.value), .int .u64 (dig ((runF (seg lg.evs ((lg.near n).idx - lg.base.idx).toNat (n - (lg.near n).idx).toNat) ((lg.near n).st, (lg.near n).out)).1)), .int .i64 ((lg.near n).idx), .int .i64 (n - ((lg.near n).idx)), .int .i64 (-1)], 46, false⟩)]) (φ := b2 = b2 ∧ Nat.ble (0 + 12) 12 = true) h102 rfl rfl rfl (by kernel_rfl) ⟨rfl, rfl⟩ fun w103 h104 => ?_
      clear h102
      refine nd_done ?_
      refine hK100 _ _ ?_
      clear hK100
      refine wp_ret ?_
      have hR : seekR (⟨lg, m, out, pos, live⟩ : Ss) n = (let s' := Ss.go (⟨lg, m, out, pos, live⟩ : Ss) (lg.run ((lg.near n).st, (lg.near n).out) (lg.near n).idx n) n; ({ s'.stat 0 with from_ := (lg.near n).idx, replayed := n - (lg.near n).idx }, s')) := by unfold seekR; rw [if_neg (by show ¬ (n < lg.base.idx ∨ lg.fin < n); omega)]
      try simp only [Exit.then, Exit.inBlock]
      try rw [if_pos trivial]
      exact s_ret tabOk tabZ_ok h104 [(.cell 4 46, {k := 2})] (vs := [.agg #[.int .u8 0, .int .i64 n, .int .i64 lg.base.idx, .int .i64 (lg.base.idx + (lg.evs.length : Int)), .bool false, .bool ((runF (seg lg.evs ((lg.near n).idx - lg.base.idx).toNat (n - (lg.near n).idx).toNat) ((lg.near n).st, (lg.near n).out)).2.refused), .int .i8 ((runF (seg lg.evs ((lg.near n).idx - lg.base.idx).toNat (n - (lg.near n).idx).toNat) ((lg.near n).st, (lg.near n).out)).2.running), .int .u64 ((runF (seg lg.evs ((lg.near n).idx - lg.base.idx).toNat (n - (lg.near n).idx).toNat) ((lg.near n).st, (lg.near n).out)).2.value), .int .u64 (dig ((runF (seg lg.evs ((lg.near n).idx - lg.base.idx).toNat (n - (lg.near n).idx).toNat) ((lg.near n).st, (lg.near n).out)).1)), .int .i64 ((lg.near n).idx), .int .i64 (n - ((lg.near n).idx)), .int .i64 (-1)]]) (φ := (b2 = b2 ∧ Nat.ble (0 + 12) 12 = true) ∧ True) rfl (by kernel_rfl) ⟨⟨rfl, rfl⟩, trivial⟩ (by rw [hR]; exact ⟨⟨eo, ec, eF, mo, mc, mF, so, sc, sF⟩, rfl, ⟨h104.kn (k := 0) rfl, LogAt.of (h104.kn (k := 1) rfl) h104.inv hsep, hne, hsm⟩, (h104.frame.mono (fun b hb => by simp at hb; simp [hb])), fun b hb => .inl hb⟩)

end Go.Proofs.Qxb6500919aFmt
