/-
  The session: Back, Forward. (Made by program: a symbolic walk that prints its steps.)
-/
import Derived.Test.Qxb6500919aFmtTab
import Derived.Test.Qxb6500919aFmtSe
import Derived.Test.Qxb6500919aFmtW1
import Derived.Test.Qxb6500919aFmtW2
import Derived.Test.Qxb6500919aFmtW3
import Derived.Test.Qxb6500919aFmtW4
import Derived.Test.Qxb6500919aFmtW5
import Derived.Test.Qxb6500919aFmtW6
import Derived.Test.Qxb6500919aFmtW9
import Derived.Test.Qxb6500919aFmtWC
namespace Go.Proofs.Qxb6500919aFmt
open Go.Sx Go.Rp
set_option maxRecDepth 100000
set_option maxHeartbeats 4000000
set_option linter.unusedVariables false
set_option linter.unusedSimpArgs false

theorem back_ok (bs bl : Nat) (d : Hd) (s : Ss) (w : World) (hs : SessAt w bs bl d s) {B : Int} (hB : B ≤ 900000000) (hwf : s.wf B) (n : Int) :
    Calls Tryf.prog 23 #[.pointer (some ⟨bs, 0, none⟩), .int .i64 n] w (SOK w bs bl d (backR s n).1 (backR s n).2) := by
  obtain ⟨lg, m, out, pos, live⟩ := s
  obtain ⟨hwl, hm, hlo, hhi, hlv⟩ := hwf
  obtain ⟨hbs, hl, hne, hsm⟩ := hs
  simp only at hbs hl hwl hm hlo hhi hlv
  have hfq : lg.fin = lg.base.idx + (lg.evs.length : Int) := rfl
  have hb0 := hwl.b0
  have hfB := hwl.fin
  have hlen := hwl.len
  have hml := hwl.mlen
  have hsl := hwl.slen
  obtain ⟨eo, ec, eF, mo, mc, mF, so, sc, sF⟩ := d
  obtain ⟨hbl, hA, hsep⟩ := hl
  refine enter (n := 34) (K := (bs :: bl :: (eF ++ (mF ++ (sF ++ []))))) (A := Rws [rl evC 31 3 lg.evs eo ec eF, rl mkC 93 2 lg.mks mo mc mF, rl ptC 84 15 lg.sns so sc sF]) (F := Ff [rl evC 31 3 lg.evs eo ec eF, rl mkC 93 2 lg.mks mo mc mF, rl ptC 84 15 lg.sns so sc sF]) (T := [(0, .pointer (some ⟨bs, 0, none⟩)), (1, .int .i64 n)]) (L := [(bs, ⟨sessC (.pointer (some ⟨bl, 0, none⟩)) m out pos live, 60, false⟩), (bl, ⟨logC lg.base (.slice eo lg.evs.length ec) (.slice mo lg.mks.length mc) (.slice so lg.sns.length sc), 89, true⟩)]) (args := [.pointer (some ⟨bs, 0, none⟩), .int .i64 n]) Tryf.func23 rfl rfl rfl rfl (kcons hbs (kcons hbl knil)) (by simp [hne]) (kcons (by simp) (kcons (by intro hq; cases hq) knil)) hA Rws.stable (hA).low (kcons (fun _ => hsm) (kcons (by intro hq; cases hq) knil)) ?_
  intro a h
  refine wp_seq_k fun K1 hK1 => ?_
  refine nd_start (l := [0]) rfl ?_
  refine nd_op ?_
  refine op_new tabOk (cells := [.int .u8 0, .int .i64 0, .int .i64 0, .int .i64 0, .bool false, .bool false, .int .i8 0, .int .u64 0, .int .u64 0, .int .i64 0, .int .i64 0, .int .i64 0]) (ty := 46) (ln := none) (L1 := fun b2 => [(bs, ⟨sessC (.pointer (some ⟨bl, 0, none⟩)) m out pos live, 60, false⟩), (bl, ⟨logC lg.base (.slice eo lg.evs.length ec) (.slice mo lg.mks.length mc) (.slice so lg.sns.length sc), 89, true⟩), (b2, ⟨[.int .u8 0, .int .i64 0, .int .i64 0, .int .i64 0, .bool false, .bool false, .int .i8 0, .int .u64 0, .int .u64 0, .int .i64 0, .int .i64 0, .int .i64 0], 46, false⟩)]) h rfl rfl rfl rfl (by kernel_rfl) (fun _ => rfl) fun b2 w3 a4 h5 hf6 hn7 => ?_
  clear h
  refine nd_done ?_
  refine hK1 _ _ ?_
  clear hK1
  refine wp_seq_k fun K8 hK8 => ?_
  refine wp_seq_k fun K9 hK9 => ?_
  rcases Bool.eq_false_or_eq_true (decide (n < 0)) with hb10 | hb10
  ·
    have hb10f : n < 0 := by simpa using hb10
    refine dr_start (KB := [bs, bl, b2]) (Bi := [[0, 1, 2], [0, 1, 2], [0, 1, 2], [0, 1, 2], [0, 1, 2], [0, 1, 2], [0, 1, 2], [0, 1, 2], [0, 1, 2], [0, 1, 2], [0, 1, 2], [0, 1, 2], [0, 1, 2], [0, 1, 2], [0, 1, 2], [0, 1, 2], [0, 1, 2], [0, 1, 2], [0, 1, 2]]) mixed h5 fun w11 h12 => ?_
    clear h5
    refine dr_batch tabOk tabZ_ok (by repeat (first | exact PF.body | with_reducible apply PF.inB | with_reducible apply PF.next)) [(0, {}), (1, {f := 2}), (2, {}), (3, {}), (4, {}), (5, {}), (6, {}), (7, {k := 0, p := 0}), (8, {}), (9, {}), (10, {}), (11, {k := 0, p := 0}), (12, {}), (13, {}), (14, {}), (15, {k := 0, p := 0}), (16, {}), (17, {}), (18, {})] [4, 0, 1, 23] (T' := [(4, .pointer (some ⟨b2, 0, none⟩)), (0, .pointer (some ⟨bs, 0, none⟩)), (1, .int .i64 n), (23, .bool true)]) (φ := (decide (n < 0)) = true ∧ True) (fuel := 0) h12 (by kernel_rfl) rfl (by kernel_rfl) (by kernel_rfl) ⟨trivial, trivial, trivial, trivial, trivial, trivial, trivial, rfl, trivial, trivial, trivial, rfl, trivial, trivial, trivial, rfl, trivial, trivial, trivial, trivial⟩ ⟨hb10, trivial⟩ fun a14 h15 => ?_
    clear h12
    refine wpAnyK_done (by kernel_rfl) ?_ _
    refine hK9 _ _ ?_
    clear hK9
    refine c_true h15 rfl ?_
    refine wp_seq_k fun K16 hK16 => ?_
    refine nd_start (l := [0, 1, 2]) rfl ?_
    refine nd_batch tabOk tabZ_ok [(0, {})] [4, 0, 1, 24] (T' := [(4, .pointer (some ⟨b2, 0, none⟩)), (0, .pointer (some ⟨bs, 0, none⟩)), (1, .int .i64 n), (24, .pointer (some ⟨bs, 0, none⟩))]) (φ := True) (rest := [1, 2]) h15 (by kernel_rfl) rfl trivial fun a17 h18 => ?_
    clear h15
    refine nd_op ?_
    refine op_call h18 rfl rfl rfl (callOk Tryf.func29 (by decide) rfl) (args := [.pointer (some ⟨bs, 0, none⟩), .int .u8 1]) rfl (status_ok bs bl m hm out pos live lg.base eo lg.evs.length ec (.slice mo lg.mks.length mc) (.slice so lg.sns.length sc) 1 _ false true (h18.kn (k := 0) rfl) (h18.kn (k := 1) rfl) hne (by omega) (by omega) (by omega)) ?_
    rintro _ w19 ⟨rfl, hf21⟩
    refine ⟨_, rfl, ?_⟩
    have h20 := (h18.grow hf21).put (d := some 25) (v := .agg #[.int .u8 1, .int .i64 pos, .int .i64 lg.base.idx, .int .i64 (lg.base.idx + (lg.evs.length : Int)), .bool live, .bool out.refused, .int .i8 out.running, .int .u64 out.value, .int .u64 (dig m), .int .i64 pos, .int .i64 0, .int .i64 (-1)]) (T' := [(25, .agg #[.int .u8 1, .int .i64 pos, .int .i64 lg.base.idx, .int .i64 (lg.base.idx + (lg.evs.length : Int)), .bool live, .bool out.refused, .int .i8 out.running, .int .u64 out.value, .int .u64 (dig m), .int .i64 pos, .int .i64 0, .int .i64 (-1)]), (4, .pointer (some ⟨b2, 0, none⟩)), (0, .pointer (some ⟨bs, 0, none⟩)), (1, .int .i64 n), (24, .pointer (some ⟨bs, 0, none⟩))]) rfl
    clear h18
    refine nd_op ?_
    refine op_store tabOk {k := 2} (L' := [(bs, ⟨sessC (.pointer (some ⟨bl, 0, none⟩)) m out pos live, 60, false⟩), (bl, ⟨logC lg.base (.slice eo lg.evs.length ec) (.slice mo lg.mks.length mc) (.slice so lg.sns.length sc), 89, true⟩), (b2, ⟨[.int .u8 1, .int .i64 pos, .int .i64 lg.base.idx, .int .i64 (lg.base.idx + (lg.evs.length : Int)), .bool live, .bool out.refused, .int .i8 out.running, .int .u64 out.value, .int .u64 (dig m), .int .i64 pos, .int .i64 0, .int .i64 (-1)], 46, false⟩)]) (φ := b2 = b2 ∧ Nat.ble (0 + 12) 12 = true) h20 rfl rfl rfl (by kernel_rfl) ⟨rfl, rfl⟩ fun w22 h23 => ?_
    clear h20
    refine nd_done ?_
    refine hK16 _ _ ?_
    clear hK16
    refine wp_ret ?_
    have hR : backR (⟨lg, m, out, pos, live⟩ : Ss) n = ((⟨lg, m, out, pos, live⟩ : Ss).stat 1, (⟨lg, m, out, pos, live⟩ : Ss)) := by unfold backR; rw [if_pos (by show n < 0 ∨ pos - lg.base.idx < n; omega)]
    try simp only [Exit.then, Exit.inBlock]
    try rw [if_pos trivial]
    exact s_ret tabOk tabZ_ok h23 [(.cell 4 46, {k := 2})] (vs := [.agg #[.int .u8 1, .int .i64 pos, .int .i64 lg.base.idx, .int .i64 (lg.base.idx + (lg.evs.length : Int)), .bool live, .bool out.refused, .int .i8 out.running, .int .u64 out.value, .int .u64 (dig m), .int .i64 pos, .int .i64 0, .int .i64 (-1)]]) (φ := (b2 = b2 ∧ Nat.ble (0 + 12) 12 = true) ∧ True) rfl (by kernel_rfl) ⟨⟨rfl, rfl⟩, trivial⟩ (by rw [hR]; exact ⟨⟨eo, ec, eF, mo, mc, mF, so, sc, sF⟩, rfl, ⟨h23.kn (k := 0) rfl, LogAt.of (h23.kn (k := 1) rfl) h23.inv hsep, hne, hsm⟩, h23.frame, fun b hb => .inl hb⟩)
  ·
    have hb10f : ¬ (n < 0) := by simpa using hb10
    refine dr_start (KB := [bs, bl, b2]) (Bi := [[0, 1, 2], [0, 1, 2], [0, 1, 2], [0, 1, 2], [0, 1, 2], [0, 1, 2], [0, 1, 2], [0, 1, 2], [0, 1, 2], [0, 1, 2], [0, 1, 2], [0, 1, 2], [0, 1, 2], [0, 1, 2], [0, 1, 2], [0, 1, 2], [0, 1, 2], [0, 1, 2], [0, 1, 2]]) mixed h5 fun w24 h25 => ?_
    clear h5
    refine dr_batch tabOk tabZ_ok (by repeat (first | exact PF.body | with_reducible apply PF.inB | with_reducible apply PF.next)) [(0, {}), (1, {f := 1}), (2, {}), (3, {}), (4, {}), (5, {}), (6, {}), (7, {k := 0, p := 0}), (8, {}), (9, {}), (10, {}), (11, {k := 0, p := 0}), (12, {}), (13, {}), (14, {}), (15, {k := 1, p := 1}), (16, {}), (17, {}), (18, {})] [4, 0, 1, 23] (T' := [(4, .pointer (some ⟨b2, 0, none⟩)), (0, .pointer (some ⟨bs, 0, none⟩)), (1, .int .i64 n), (23, .bool (decide (n > (pos - lg.base.idx))))]) (φ := (decide (n < 0)) = false ∧ (bs = bs ∧ Nat.ble (15 + 1) 17 = true) ∧ (bs = bs ∧ Nat.ble (0 + 1) 17 = true) ∧ (bl = bl ∧ Nat.ble (0 + 1) 18 = true) ∧ inR .i64 (pos - lg.base.idx) ∧ True) (fuel := 0) h25 (by kernel_rfl) rfl (by kernel_rfl) (by kernel_rfl) ⟨trivial, trivial, trivial, trivial, trivial, trivial, trivial, rfl, trivial, trivial, trivial, rfl, trivial, trivial, trivial, rfl, trivial, trivial, trivial, trivial⟩ ⟨hb10, ⟨rfl, rfl⟩, ⟨rfl, rfl⟩, ⟨rfl, rfl⟩, ⟨by omega, by omega⟩, trivial⟩ fun a27 h28 => ?_
    clear h25
    refine wpAnyK_done (by kernel_rfl) ?_ _
    refine hK9 _ _ ?_
    clear hK9
    refine c_split h28 (b := decide (n > (pos - lg.base.idx))) rfl (fun hc29 => ?_) (fun hc29 => ?_)
    ·
      have hc29f : n > (pos - lg.base.idx) := by simpa using hc29
      refine wp_seq_k fun K30 hK30 => ?_
      refine nd_start (l := [0, 1, 2]) rfl ?_
      refine nd_batch tabOk tabZ_ok [(0, {})] [4, 0, 1, 24] (T' := [(4, .pointer (some ⟨b2, 0, none⟩)), (0, .pointer (some ⟨bs, 0, none⟩)), (1, .int .i64 n), (24, .pointer (some ⟨bs, 0, none⟩))]) (φ := True) (rest := [1, 2]) h28 (by kernel_rfl) rfl trivial fun a31 h32 => ?_
      clear h28
      refine nd_op ?_
      refine op_call h32 rfl rfl rfl (callOk Tryf.func29 (by decide) rfl) (args := [.pointer (some ⟨bs, 0, none⟩), .int .u8 1]) rfl (status_ok bs bl m hm out pos live lg.base eo lg.evs.length ec (.slice mo lg.mks.length mc) (.slice so lg.sns.length sc) 1 _ false true (h32.kn (k := 0) rfl) (h32.kn (k := 1) rfl) hne (by omega) (by omega) (by omega)) ?_
      rintro _ w33 ⟨rfl, hf35⟩
      refine ⟨_, rfl, ?_⟩
      have h34 := (h32.grow hf35).put (d := some 25) (v := .agg #[.int .u8 1, .int .i64 pos, .int .i64 lg.base.idx, .int .i64 (lg.base.idx + (lg.evs.length : Int)), .bool live, .bool out.refused, .int .i8 out.running, .int .u64 out.value, .int .u64 (dig m), .int .i64 pos, .int .i64 0, .int .i64 (-1)]) (T' := [(25, .agg #[.int .u8 1, .int .i64 pos, .int .i64 lg.base.idx, .int .i64 (lg.base.idx + (lg.evs.length : Int)), .bool live, .bool out.refused, .int .i8 out.running, .int .u64 out.value, .int .u64 (dig m), .int .i64 pos, .int .i64 0, .int .i64 (-1)]), (4, .pointer (some ⟨b2, 0, none⟩)), (0, .pointer (some ⟨bs, 0, none⟩)), (1, .int .i64 n), (24, .pointer (some ⟨bs, 0, none⟩))]) rfl
      clear h32
      refine nd_op ?_
      refine op_store tabOk {k := 2} (L' := [(bs, ⟨sessC (.pointer (some ⟨bl, 0, none⟩)) m out pos live, 60, false⟩), (bl, ⟨logC lg.base (.slice eo lg.evs.length ec) (.slice mo lg.mks.length mc) (.slice so lg.sns.length sc), 89, true⟩), (b2, ⟨[.int .u8 1, .int .i64 pos, .int .i64 lg.base.idx, .int .i64 (lg.base.idx + (lg.evs.length : Int)), .bool live, .bool out.refused, .int .i8 out.running, .int .u64 out.value, .int .u64 (dig m), .int .i64 pos, .int .i64 0, .int .i64 (-1)], 46, false⟩)]) (φ := b2 = b2 ∧ Nat.ble (0 + 12) 12 = true) h34 rfl rfl rfl (by kernel_rfl) ⟨rfl, rfl⟩ fun w36 h37 => ?_
      clear h34
      refine nd_done ?_
      refine hK30 _ _ ?_
      clear hK30
      refine wp_ret ?_
      have hR : backR (⟨lg, m, out, pos, live⟩ : Ss) n = ((⟨lg, m, out, pos, live⟩ : Ss).stat 1, (⟨lg, m, out, pos, live⟩ : Ss)) := by unfold backR; rw [if_pos (by show n < 0 ∨ pos - lg.base.idx < n; omega)]
      try simp only [Exit.then, Exit.inBlock]
      try rw [if_pos trivial]
      exact s_ret tabOk tabZ_ok h37 [(.cell 4 46, {k := 2})] (vs := [.agg #[.int .u8 1, .int .i64 pos, .int .i64 lg.base.idx, .int .i64 (lg.base.idx + (lg.evs.length : Int)), .bool live, .bool out.refused, .int .i8 out.running, .int .u64 out.value, .int .u64 (dig m), .int .i64 pos, .int .i64 0, .int .i64 (-1)]]) (φ := (b2 = b2 ∧ Nat.ble (0 + 12) 12 = true) ∧ True) rfl (by kernel_rfl) ⟨⟨rfl, rfl⟩, trivial⟩ (by rw [hR]; exact ⟨⟨eo, ec, eF, mo, mc, mF, so, sc, sF⟩, rfl, ⟨h37.kn (k := 0) rfl, LogAt.of (h37.kn (k := 1) rfl) h37.inv hsep, hne, hsm⟩, h37.frame, fun b hb => .inl hb⟩)
    ·
      have hc29f : ¬ n > (pos - lg.base.idx) := by simpa using hc29
      refine wp_skip ?_
      refine hK8 _ _ ?_
      clear hK8
      refine wp_seq_k fun K38 hK38 => ?_
      refine nd_start (l := [0, 1, 2, 3, 4, 5, 6, 7, 8]) rfl ?_
      refine nd_batch tabOk tabZ_ok [(0, {}), (1, {}), (2, {}), (3, {}), (4, {k := 0}), (5, {}), (6, {})] [4, 0, 1, 26, 32] (T' := [(4, .pointer (some ⟨b2, 0, none⟩)), (0, .pointer (some ⟨bs, 0, none⟩)), (1, .int .i64 n), (26, .pointer (some ⟨bs, 0, none⟩)), (32, .int .i64 (pos - n))]) (φ := (bs = bs ∧ Nat.ble (15 + 1) 17 = true) ∧ inR .i64 (pos - n) ∧ True) (rest := [7, 8]) h28 (by kernel_rfl) rfl ⟨⟨rfl, rfl⟩, ⟨by omega, by omega⟩, trivial⟩ fun a39 h40 => ?_
      clear h28
      refine nd_op ?_
      refine op_call h40 rfl rfl rfl (callOk Tryf.func22 (by decide) rfl) (args := [.pointer (some ⟨bs, 0, none⟩), .int .i64 (pos - n)]) rfl (seek_ok bs bl ⟨eo, ec, eF, mo, mc, mF, so, sc, sF⟩ (⟨lg, m, out, pos, live⟩ : Ss) _ ⟨h40.kn (k := 0) rfl, LogAt.of (h40.kn (k := 1) rfl) h40.inv hsep, hne, hsm⟩ hB ⟨hwl, hm, hlo, hhi, hlv⟩ (pos - n)) ?_
      rintro _ w41 ⟨d46, rfl, hs43, hf44, hF45⟩
      refine ⟨_, rfl, ?_⟩
      have h42q := h40.callSub hf44 (fun b hb => .inl hb) (A' := fun w => SessAt w bs bl d46 (seekR (⟨lg, m, out, pos, live⟩ : Ss) (pos - n)).2) (F' := bs :: bl :: d46.F) (L' := [(b2, ⟨[.int .u8 0, .int .i64 0, .int .i64 0, .int .i64 0, .bool false, .bool false, .int .i8 0, .int .u64 0, .int .u64 0, .int .i64 0, .int .i64 0, .int .i64 0], 46, false⟩)]) (List.Sublist.cons _ (List.Sublist.cons _ (List.Sublist.cons_cons _ List.Sublist.slnil))) (kcons (by intro hq; rcases List.mem_cons.1 hq with hq | hq; exact h40.ne 2 0 rfl rfl rfl hq; rcases List.mem_cons.1 hq with hq | hq; exact h40.ne 2 1 rfl rfl rfl hq; exact h40.dj (k := 2) rfl rfl hq) knil) hs43 SessAt.stable hs43.low (fun b hb => by rcases List.mem_cons.1 hb with rfl | hb; exact .inl (by simp); rcases List.mem_cons.1 hb with rfl | hb; exact .inl (by simp); rcases hF45 b hb with hq | hq; exact .inl (List.mem_cons_of_mem _ (List.mem_cons_of_mem _ hq)); exact .inr (.inr hq))
      have h42 := h42q.put (d := some 33) (v := .agg #[.int .u8 ((seekR (⟨lg, m, out, pos, live⟩ : Ss) (pos - n)).1.code), .int .i64 ((seekR (⟨lg, m, out, pos, live⟩ : Ss) (pos - n)).1.pos), .int .i64 ((seekR (⟨lg, m, out, pos, live⟩ : Ss) (pos - n)).1.base), .int .i64 ((seekR (⟨lg, m, out, pos, live⟩ : Ss) (pos - n)).1.fin), .bool ((seekR (⟨lg, m, out, pos, live⟩ : Ss) (pos - n)).1.live), .bool ((seekR (⟨lg, m, out, pos, live⟩ : Ss) (pos - n)).1.out.refused), .int .i8 ((seekR (⟨lg, m, out, pos, live⟩ : Ss) (pos - n)).1.out.running), .int .u64 ((seekR (⟨lg, m, out, pos, live⟩ : Ss) (pos - n)).1.out.value), .int .u64 ((seekR (⟨lg, m, out, pos, live⟩ : Ss) (pos - n)).1.dig), .int .i64 ((seekR (⟨lg, m, out, pos, live⟩ : Ss) (pos - n)).1.from_), .int .i64 ((seekR (⟨lg, m, out, pos, live⟩ : Ss) (pos - n)).1.replayed), .int .i64 ((seekR (⟨lg, m, out, pos, live⟩ : Ss) (pos - n)).1.at_)]) (T' := [(33, .agg #[.int .u8 ((seekR (⟨lg, m, out, pos, live⟩ : Ss) (pos - n)).1.code), .int .i64 ((seekR (⟨lg, m, out, pos, live⟩ : Ss) (pos - n)).1.pos), .int .i64 ((seekR (⟨lg, m, out, pos, live⟩ : Ss) (pos - n)).1.base), .int .i64 ((seekR (⟨lg, m, out, pos, live⟩ : Ss) (pos - n)).1.fin), .bool ((seekR (⟨lg, m, out, pos, live⟩ : Ss) (pos - n)).1.live), .bool ((seekR (⟨lg, m, out, pos, live⟩ : Ss) (pos - n)).1.out.refused), .int .i8 ((seekR (⟨lg, m, out, pos, live⟩ : Ss) (pos - n)).1.out.running), .int .u64 ((seekR (⟨lg, m, out, pos, live⟩ : Ss) (pos - n)).1.out.value), .int .u64 ((seekR (⟨lg, m, out, pos, live⟩ : Ss) (pos - n)).1.dig), .int .i64 ((seekR (⟨lg, m, out, pos, live⟩ : Ss) (pos - n)).1.from_), .int .i64 ((seekR (⟨lg, m, out, pos, live⟩ : Ss) (pos - n)).1.replayed), .int .i64 ((seekR (⟨lg, m, out, pos, live⟩ : Ss) (pos - n)).1.at_)]), (4, .pointer (some ⟨b2, 0, none⟩)), (0, .pointer (some ⟨bs, 0, none⟩)), (1, .int .i64 n), (26, .pointer (some ⟨bs, 0, none⟩)), (32, .int .i64 (pos - n))]) rfl
      have hszh42 := h40.frame.size
      clear h40 h42q
      refine nd_op ?_
      refine op_store tabOk {k := 0} (L' := [(b2, ⟨[.int .u8 ((seekR (⟨lg, m, out, pos, live⟩ : Ss) (pos - n)).1.code), .int .i64 ((seekR (⟨lg, m, out, pos, live⟩ : Ss) (pos - n)).1.pos), .int .i64 ((seekR (⟨lg, m, out, pos, live⟩ : Ss) (pos - n)).1.base), .int .i64 ((seekR (⟨lg, m, out, pos, live⟩ : Ss) (pos - n)).1.fin), .bool ((seekR (⟨lg, m, out, pos, live⟩ : Ss) (pos - n)).1.live), .bool ((seekR (⟨lg, m, out, pos, live⟩ : Ss) (pos - n)).1.out.refused), .int .i8 ((seekR (⟨lg, m, out, pos, live⟩ : Ss) (pos - n)).1.out.running), .int .u64 ((seekR (⟨lg, m, out, pos, live⟩ : Ss) (pos - n)).1.out.value), .int .u64 ((seekR (⟨lg, m, out, pos, live⟩ : Ss) (pos - n)).1.dig), .int .i64 ((seekR (⟨lg, m, out, pos, live⟩ : Ss) (pos - n)).1.from_), .int .i64 ((seekR (⟨lg, m, out, pos, live⟩ : Ss) (pos - n)).1.replayed), .int .i64 ((seekR (⟨lg, m, out, pos, live⟩ : Ss) (pos - n)).1.at_)], 46, false⟩)]) (φ := b2 = b2 ∧ Nat.ble (0 + 12) 12 = true) h42 rfl rfl rfl (by kernel_rfl) ⟨rfl, rfl⟩ fun w47 h48 => ?_
      clear h42
      refine nd_done ?_
      refine hK38 _ _ ?_
      clear hK38
      refine wp_ret ?_
      have hR : backR (⟨lg, m, out, pos, live⟩ : Ss) n = seekR (⟨lg, m, out, pos, live⟩ : Ss) (pos - n) := by unfold backR; rw [if_neg (by show ¬ (n < 0 ∨ pos - lg.base.idx < n); omega)]
      try simp only [Exit.then, Exit.inBlock]
      try rw [if_pos trivial]
      exact s_ret tabOk tabZ_ok h48 [(.cell 4 46, {k := 0})] (vs := [.agg #[.int .u8 ((seekR (⟨lg, m, out, pos, live⟩ : Ss) (pos - n)).1.code), .int .i64 ((seekR (⟨lg, m, out, pos, live⟩ : Ss) (pos - n)).1.pos), .int .i64 ((seekR (⟨lg, m, out, pos, live⟩ : Ss) (pos - n)).1.base), .int .i64 ((seekR (⟨lg, m, out, pos, live⟩ : Ss) (pos - n)).1.fin), .bool ((seekR (⟨lg, m, out, pos, live⟩ : Ss) (pos - n)).1.live), .bool ((seekR (⟨lg, m, out, pos, live⟩ : Ss) (pos - n)).1.out.refused), .int .i8 ((seekR (⟨lg, m, out, pos, live⟩ : Ss) (pos - n)).1.out.running), .int .u64 ((seekR (⟨lg, m, out, pos, live⟩ : Ss) (pos - n)).1.out.value), .int .u64 ((seekR (⟨lg, m, out, pos, live⟩ : Ss) (pos - n)).1.dig), .int .i64 ((seekR (⟨lg, m, out, pos, live⟩ : Ss) (pos - n)).1.from_), .int .i64 ((seekR (⟨lg, m, out, pos, live⟩ : Ss) (pos - n)).1.replayed), .int .i64 ((seekR (⟨lg, m, out, pos, live⟩ : Ss) (pos - n)).1.at_)]]) (φ := (b2 = b2 ∧ Nat.ble (0 + 12) 12 = true) ∧ True) rfl (by kernel_rfl) ⟨⟨rfl, rfl⟩, trivial⟩ (by rw [hR]; exact ⟨d46, rfl, h48.inv, h48.frame, fun b hb => by rcases hF45 b hb with hq | hq; exact .inl hq; exact .inr (Nat.le_trans hszh42 hq)⟩)

theorem forw_ok (bs bl : Nat) (d : Hd) (s : Ss) (w : World) (hs : SessAt w bs bl d s) {B : Int} (hB : B ≤ 900000000) (hwf : s.wf B) (n : Int) :
    Calls Tryf.prog 24 #[.pointer (some ⟨bs, 0, none⟩), .int .i64 n] w (SOK w bs bl d (forwR s n).1 (forwR s n).2) := by
  obtain ⟨lg, m, out, pos, live⟩ := s
  obtain ⟨hwl, hm, hlo, hhi, hlv⟩ := hwf
  obtain ⟨hbs, hl, hne, hsm⟩ := hs
  simp only at hbs hl hwl hm hlo hhi hlv
  have hfq : lg.fin = lg.base.idx + (lg.evs.length : Int) := rfl
  have hb0 := hwl.b0
  have hfB := hwl.fin
  have hlen := hwl.len
  have hml := hwl.mlen
  have hsl := hwl.slen
  obtain ⟨eo, ec, eF, mo, mc, mF, so, sc, sF⟩ := d
  obtain ⟨hbl, hA, hsep⟩ := hl
  refine enter (n := 64) (K := [bs]) (A := Rws [rl evC 31 3 lg.evs eo ec eF, rl mkC 93 2 lg.mks mo mc mF, rl ptC 84 15 lg.sns so sc sF]) (F := Ff [rl evC 31 3 lg.evs eo ec eF, rl mkC 93 2 lg.mks mo mc mF, rl ptC 84 15 lg.sns so sc sF]) (T := [(0, .pointer (some ⟨bs, 0, none⟩)), (1, .int .i64 n)]) (L := [(bs, ⟨sessC (.pointer (some ⟨bl, 0, none⟩)) m out pos live, 60, false⟩), (bl, ⟨logC lg.base (.slice eo lg.evs.length ec) (.slice mo lg.mks.length mc) (.slice so lg.sns.length sc), 89, true⟩)]) (args := [.pointer (some ⟨bs, 0, none⟩), .int .i64 n]) Tryf.func24 rfl rfl rfl rfl (kcons hbs (kcons hbl knil)) (by simp [hne]) (kcons (by simp) (kcons (by intro hq; cases hq) knil)) hA Rws.stable (hA).low (kcons (fun _ => hsm) (kcons (by intro hq; cases hq) knil)) ?_
  intro a h
  refine wp_seq_k fun K1 hK1 => ?_
  refine nd_start (l := [0]) rfl ?_
  refine nd_op ?_
  refine op_new tabOk (cells := [.int .u8 0, .int .i64 0, .int .i64 0, .int .i64 0, .bool false, .bool false, .int .i8 0, .int .u64 0, .int .u64 0, .int .i64 0, .int .i64 0, .int .i64 0]) (ty := 46) (ln := none) (L1 := fun b2 => [(bs, ⟨sessC (.pointer (some ⟨bl, 0, none⟩)) m out pos live, 60, false⟩), (bl, ⟨logC lg.base (.slice eo lg.evs.length ec) (.slice mo lg.mks.length mc) (.slice so lg.sns.length sc), 89, true⟩), (b2, ⟨[.int .u8 0, .int .i64 0, .int .i64 0, .int .i64 0, .bool false, .bool false, .int .i8 0, .int .u64 0, .int .u64 0, .int .i64 0, .int .i64 0, .int .i64 0], 46, false⟩)]) h rfl rfl rfl rfl (by kernel_rfl) (fun _ => rfl) fun b2 w3 a4 h5 hf6 hn7 => ?_
  clear h
  refine nd_done ?_
  refine hK1 _ _ ?_
  clear hK1
  refine wp_seq_k fun K8 hK8 => ?_
  refine wp_seq_k fun K9 hK9 => ?_
  rcases Bool.eq_false_or_eq_true (decide (n < 0)) with hb10 | hb10
  ·
    have hb10f : n < 0 := by simpa using hb10
    refine dr_start (KB := [bs, bl, b2]) (Bi := [[0, 1, 2], [0, 1, 2], [0, 1, 2], [0, 1, 2], [0, 1, 2], [0, 1, 2], [0, 1, 2], [0, 1, 2], [0], [0, 1, 2], [0, 1, 2], [0, 1, 2], [0, 1, 2], [0, 1, 2], [0, 1, 2], [0, 1, 2]]) mixed h5 fun w11 h12 => ?_
    clear h5
    refine dr_batch tabOk tabZ_ok (by repeat (first | exact PF.body | with_reducible apply PF.inB | with_reducible apply PF.next)) [(0, {}), (1, {f := 2}), (2, {}), (3, {}), (4, {}), (5, {}), (6, {}), (7, {k := 0, p := 0}), (9, {}), (10, {}), (11, {}), (12, {k := 0, p := 0})] [4, 0, 1, 9, 10, 14, 19] (T' := [(4, .pointer (some ⟨b2, 0, none⟩)), (0, .pointer (some ⟨bs, 0, none⟩)), (1, .int .i64 n), (9, .bool true), (10, .tuple #[]), (14, .tuple #[]), (19, .tuple #[])]) (φ := (decide (n < 0)) = true ∧ True) (fuel := 4) h12 (by kernel_rfl) rfl (by kernel_rfl) (by kernel_rfl) ⟨trivial, trivial, trivial, trivial, trivial, trivial, trivial, rfl, trivial, trivial, trivial, rfl, trivial⟩ ⟨hb10, trivial⟩ fun a14 h15 => ?_
    clear h12
    refine dr_batch tabOk tabZ_ok (by repeat (first | exact PF.body | with_reducible apply PF.inB | with_reducible apply PF.next)) [(8, {})] [4, 0, 1, 9, 10, 19, 15] (T' := [(4, .pointer (some ⟨b2, 0, none⟩)), (0, .pointer (some ⟨bs, 0, none⟩)), (1, .int .i64 n), (9, .bool true), (10, .tuple #[]), (19, .tuple #[]), (15, .tuple #[])]) (φ := True) (fuel := 3) h15 (by kernel_rfl) rfl (by kernel_rfl) (by kernel_rfl) ⟨trivial, trivial⟩ trivial fun a16 h17 => ?_
    clear h15
    refine dr_batch tabOk tabZ_ok (by repeat (first | exact PF.body | with_reducible apply PF.inB | with_reducible apply PF.next)) [(13, {}), (14, {}), (15, {})] [4, 0, 1, 22] (T' := [(4, .pointer (some ⟨b2, 0, none⟩)), (0, .pointer (some ⟨bs, 0, none⟩)), (1, .int .i64 n), (22, .bool true)]) (φ := True) (fuel := 0) h17 (by kernel_rfl) rfl (by kernel_rfl) (by kernel_rfl) ⟨trivial, trivial, trivial, trivial⟩ trivial fun a18 h19 => ?_
    clear h17
    refine wpAnyK_done (by kernel_rfl) ?_ _
    refine hK9 _ _ ?_
    clear hK9
    refine c_true h19 rfl ?_
    refine wp_seq_k fun K20 hK20 => ?_
    refine nd_start (l := [0, 1, 2]) rfl ?_
    refine nd_batch tabOk tabZ_ok [(0, {})] [4, 0, 1, 23] (T' := [(4, .pointer (some ⟨b2, 0, none⟩)), (0, .pointer (some ⟨bs, 0, none⟩)), (1, .int .i64 n), (23, .pointer (some ⟨bs, 0, none⟩))]) (φ := True) (rest := [1, 2]) h19 (by kernel_rfl) rfl trivial fun a21 h22 => ?_
    clear h19
    refine nd_op ?_
    refine op_call h22 rfl rfl rfl (callOk Tryf.func29 (by decide) rfl) (args := [.pointer (some ⟨bs, 0, none⟩), .int .u8 1]) rfl (status_ok bs bl m hm out pos live lg.base eo lg.evs.length ec (.slice mo lg.mks.length mc) (.slice so lg.sns.length sc) 1 _ false true (h22.kn (k := 0) rfl) (h22.kn (k := 1) rfl) hne (by omega) (by omega) (by omega)) ?_
    rintro _ w23 ⟨rfl, hf25⟩
    refine ⟨_, rfl, ?_⟩
    have h24 := (h22.grow hf25).put (d := some 24) (v := .agg #[.int .u8 1, .int .i64 pos, .int .i64 lg.base.idx, .int .i64 (lg.base.idx + (lg.evs.length : Int)), .bool live, .bool out.refused, .int .i8 out.running, .int .u64 out.value, .int .u64 (dig m), .int .i64 pos, .int .i64 0, .int .i64 (-1)]) (T' := [(24, .agg #[.int .u8 1, .int .i64 pos, .int .i64 lg.base.idx, .int .i64 (lg.base.idx + (lg.evs.length : Int)), .bool live, .bool out.refused, .int .i8 out.running, .int .u64 out.value, .int .u64 (dig m), .int .i64 pos, .int .i64 0, .int .i64 (-1)]), (4, .pointer (some ⟨b2, 0, none⟩)), (0, .pointer (some ⟨bs, 0, none⟩)), (1, .int .i64 n), (23, .pointer (some ⟨bs, 0, none⟩))]) rfl
    clear h22
    refine nd_op ?_
    refine op_store tabOk {k := 2} (L' := [(bs, ⟨sessC (.pointer (some ⟨bl, 0, none⟩)) m out pos live, 60, false⟩), (bl, ⟨logC lg.base (.slice eo lg.evs.length ec) (.slice mo lg.mks.length mc) (.slice so lg.sns.length sc), 89, true⟩), (b2, ⟨[.int .u8 1, .int .i64 pos, .int .i64 lg.base.idx, .int .i64 (lg.base.idx + (lg.evs.length : Int)), .bool live, .bool out.refused, .int .i8 out.running, .int .u64 out.value, .int .u64 (dig m), .int .i64 pos, .int .i64 0, .int .i64 (-1)], 46, false⟩)]) (φ := b2 = b2 ∧ Nat.ble (0 + 12) 12 = true) h24 rfl rfl rfl (by kernel_rfl) ⟨rfl, rfl⟩ fun w26 h27 => ?_
    clear h24
    refine nd_done ?_
    refine hK20 _ _ ?_
    clear hK20
    refine wp_ret ?_
    have hR : forwR (⟨lg, m, out, pos, live⟩ : Ss) n = ((⟨lg, m, out, pos, live⟩ : Ss).stat 1, (⟨lg, m, out, pos, live⟩ : Ss)) := by unfold forwR; rw [if_pos (by show n < 0 ∨ lg.fin - pos < n; omega)]
    try simp only [Exit.then, Exit.inBlock]
    try rw [if_pos trivial]
    exact s_ret tabOk tabZ_ok h27 [(.cell 4 46, {k := 2})] (vs := [.agg #[.int .u8 1, .int .i64 pos, .int .i64 lg.base.idx, .int .i64 (lg.base.idx + (lg.evs.length : Int)), .bool live, .bool out.refused, .int .i8 out.running, .int .u64 out.value, .int .u64 (dig m), .int .i64 pos, .int .i64 0, .int .i64 (-1)]]) (φ := (b2 = b2 ∧ Nat.ble (0 + 12) 12 = true) ∧ True) rfl (by kernel_rfl) ⟨⟨rfl, rfl⟩, trivial⟩ (by rw [hR]; exact ⟨⟨eo, ec, eF, mo, mc, mF, so, sc, sF⟩, rfl, ⟨h27.kn (k := 0) rfl, LogAt.of (h27.kn (k := 1) rfl) h27.inv hsep, hne, hsm⟩, (h27.frame.mono (fun b hb => by simp at hb; simp [hb])), fun b hb => .inl hb⟩)
  ·
    have hb10f : ¬ (n < 0) := by simpa using hb10
    refine dr_start (KB := [bs, bl, b2]) (Bi := [[0, 1, 2], [0, 1, 2], [0, 1, 2], [0, 1, 2], [0, 1, 2], [0, 1, 2], [0, 1, 2], [0, 1, 2], [0], [0, 1, 2], [0, 1, 2], [0, 1, 2], [0, 1, 2], [0, 1, 2], [0, 1, 2], [0, 1, 2]]) mixed h5 fun w28 h29 => ?_
    clear h5
    refine dr_batch tabOk tabZ_ok (by repeat (first | exact PF.body | with_reducible apply PF.inB | with_reducible apply PF.next)) [(0, {}), (1, {f := 1}), (2, {}), (3, {}), (4, {}), (5, {}), (6, {}), (7, {k := 0, p := 0}), (9, {}), (10, {}), (11, {}), (12, {k := 0, p := 0})] [4, 0, 1, 9, 10, 14, 19] (T' := [(4, .pointer (some ⟨b2, 0, none⟩)), (0, .pointer (some ⟨bs, 0, none⟩)), (1, .int .i64 n), (9, .bool false), (10, .int .i64 n), (14, .pointer (some ⟨bl, 0, none⟩)), (19, .int .i64 pos)]) (φ := (decide (n < 0)) = false ∧ (bs = bs ∧ Nat.ble (0 + 1) 17 = true) ∧ (bs = bs ∧ Nat.ble (15 + 1) 17 = true) ∧ True) (fuel := 4) h29 (by kernel_rfl) rfl (by kernel_rfl) (by kernel_rfl) ⟨trivial, trivial, trivial, trivial, trivial, trivial, trivial, rfl, trivial, trivial, trivial, rfl, trivial⟩ ⟨hb10, ⟨rfl, rfl⟩, ⟨rfl, rfl⟩, trivial⟩ fun a31 h32 => ?_
    clear h29
    refine wpAnyK_one (i := 8) (fuel := 3) (by kernel_rfl) ?_
    refine op_call h32 rfl rfl rfl (callOk Tryf.func41 (by decide) rfl) (args := [.pointer (some ⟨bl, 0, none⟩)]) rfl (end_ok bl lg.base eo lg.evs.length ec (.slice mo lg.mks.length mc) (.slice so lg.sns.length sc) true _ (h32.kn (k := 1) rfl) hb0 (by omega) (by omega)) ?_
    rintro _ w33 ⟨rfl, hf35⟩
    refine ⟨_, rfl, ?_⟩
    have h34 := (h32.grow hf35).put (d := some 15) (v := .int .i64 (lg.base.idx + (lg.evs.length : Int))) (T' := [(15, .int .i64 (lg.base.idx + (lg.evs.length : Int))), (4, .pointer (some ⟨b2, 0, none⟩)), (0, .pointer (some ⟨bs, 0, none⟩)), (1, .int .i64 n), (9, .bool false), (10, .int .i64 n), (14, .pointer (some ⟨bl, 0, none⟩)), (19, .int .i64 pos)]) rfl
    refine ⟨(h32.keepFr hf35 (kcons (by simp) knil)), ?_⟩
    clear h32
    refine dr_batch tabOk tabZ_ok (by repeat (first | exact PF.body | with_reducible apply PF.inB | with_reducible apply PF.next)) [(13, {}), (14, {}), (15, {})] [4, 0, 1, 22] (T' := [(4, .pointer (some ⟨b2, 0, none⟩)), (0, .pointer (some ⟨bs, 0, none⟩)), (1, .int .i64 n), (22, .bool (decide (n > ((lg.base.idx + (lg.evs.length : Int)) - pos))))]) (φ := inR .i64 ((lg.base.idx + (lg.evs.length : Int)) - pos) ∧ True) (fuel := 0) h34 (by kernel_rfl) rfl (by kernel_rfl) (by kernel_rfl) ⟨trivial, trivial, trivial, trivial⟩ ⟨⟨by omega, by omega⟩, trivial⟩ fun a36 h37 => ?_
    clear h34
    refine wpAnyK_done (by kernel_rfl) ?_ _
    refine hK9 _ _ ?_
    clear hK9
    refine c_split h37 (b := decide (n > ((lg.base.idx + (lg.evs.length : Int)) - pos))) rfl (fun hc38 => ?_) (fun hc38 => ?_)
    ·
      have hc38f : n > ((lg.base.idx + (lg.evs.length : Int)) - pos) := by simpa using hc38
      refine wp_seq_k fun K39 hK39 => ?_
      refine nd_start (l := [0, 1, 2]) rfl ?_
      refine nd_batch tabOk tabZ_ok [(0, {})] [4, 0, 1, 23] (T' := [(4, .pointer (some ⟨b2, 0, none⟩)), (0, .pointer (some ⟨bs, 0, none⟩)), (1, .int .i64 n), (23, .pointer (some ⟨bs, 0, none⟩))]) (φ := True) (rest := [1, 2]) h37 (by kernel_rfl) rfl trivial fun a40 h41 => ?_
      clear h37
      refine nd_op ?_
      refine op_call h41 rfl rfl rfl (callOk Tryf.func29 (by decide) rfl) (args := [.pointer (some ⟨bs, 0, none⟩), .int .u8 1]) rfl (status_ok bs bl m hm out pos live lg.base eo lg.evs.length ec (.slice mo lg.mks.length mc) (.slice so lg.sns.length sc) 1 _ false true (h41.kn (k := 0) rfl) (h41.kn (k := 1) rfl) hne (by omega) (by omega) (by omega)) ?_
      rintro _ w42 ⟨rfl, hf44⟩
      refine ⟨_, rfl, ?_⟩
      have h43 := (h41.grow hf44).put (d := some 24) (v := .agg #[.int .u8 1, .int .i64 pos, .int .i64 lg.base.idx, .int .i64 (lg.base.idx + (lg.evs.length : Int)), .bool live, .bool out.refused, .int .i8 out.running, .int .u64 out.value, .int .u64 (dig m), .int .i64 pos, .int .i64 0, .int .i64 (-1)]) (T' := [(24, .agg #[.int .u8 1, .int .i64 pos, .int .i64 lg.base.idx, .int .i64 (lg.base.idx + (lg.evs.length : Int)), .bool live, .bool out.refused, .int .i8 out.running, .int .u64 out.value, .int .u64 (dig m), .int .i64 pos, .int .i64 0, .int .i64 (-1)]), (4, .pointer (some ⟨b2, 0, none⟩)), (0, .pointer (some ⟨bs, 0, none⟩)), (1, .int .i64 n), (23, .pointer (some ⟨bs, 0, none⟩))]) rfl
      clear h41
      refine nd_op ?_
      refine op_store tabOk {k := 2} (L' := [(bs, ⟨sessC (.pointer (some ⟨bl, 0, none⟩)) m out pos live, 60, false⟩), (bl, ⟨logC lg.base (.slice eo lg.evs.length ec) (.slice mo lg.mks.length mc) (.slice so lg.sns.length sc), 89, true⟩), (b2, ⟨[.int .u8 1, .int .i64 pos, .int .i64 lg.base.idx, .int .i64 (lg.base.idx + (lg.evs.length : Int)), .bool live, .bool out.refused, .int .i8 out.running, .int .u64 out.value, .int .u64 (dig m), .int .i64 pos, .int .i64 0, .int .i64 (-1)], 46, false⟩)]) (φ := b2 = b2 ∧ Nat.ble (0 + 12) 12 = true) h43 rfl rfl rfl (by kernel_rfl) ⟨rfl, rfl⟩ fun w45 h46 => ?_
      clear h43
      refine nd_done ?_
      refine hK39 _ _ ?_
      clear hK39
      refine wp_ret ?_
      have hR : forwR (⟨lg, m, out, pos, live⟩ : Ss) n = ((⟨lg, m, out, pos, live⟩ : Ss).stat 1, (⟨lg, m, out, pos, live⟩ : Ss)) := by unfold forwR; rw [if_pos (by show n < 0 ∨ lg.fin - pos < n; omega)]
      try simp only [Exit.then, Exit.inBlock]
      try rw [if_pos trivial]
      exact s_ret tabOk tabZ_ok h46 [(.cell 4 46, {k := 2})] (vs := [.agg #[.int .u8 1, .int .i64 pos, .int .i64 lg.base.idx, .int .i64 (lg.base.idx + (lg.evs.length : Int)), .bool live, .bool out.refused, .int .i8 out.running, .int .u64 out.value, .int .u64 (dig m), .int .i64 pos, .int .i64 0, .int .i64 (-1)]]) (φ := (b2 = b2 ∧ Nat.ble (0 + 12) 12 = true) ∧ True) rfl (by kernel_rfl) ⟨⟨rfl, rfl⟩, trivial⟩ (by rw [hR]; exact ⟨⟨eo, ec, eF, mo, mc, mF, so, sc, sF⟩, rfl, ⟨h46.kn (k := 0) rfl, LogAt.of (h46.kn (k := 1) rfl) h46.inv hsep, hne, hsm⟩, (h46.frame.mono (fun b hb => by simp at hb; simp [hb])), fun b hb => .inl hb⟩)
    ·
      have hc38f : ¬ n > ((lg.base.idx + (lg.evs.length : Int)) - pos) := by simpa using hc38
      have hmok2 := runF_ok (seg lg.evs (pos - lg.base.idx).toNat (pos + n - pos).toNat) (m, out) hm (seg_ok hwl.evs _ _)
      refine wp_skip ?_
      refine hK8 _ _ ?_
      clear hK8
      refine wp_seq_k fun K47 hK47 => ?_
      refine dr_start (KB := [bs, bl, b2]) (Bi := [[0, 1, 2], [0, 1, 2], [0, 1, 2], [0, 1, 2], [0, 1, 2], [0, 1, 2], [0, 1, 2], [0, 1, 2], [0, 1, 2], [0, 1, 2], [0, 1, 2], [0, 1, 2], [0, 1, 2], [0, 1, 2], []]) mixed h37 fun w48 h49 => ?_
      clear h37
      refine dr_batch tabOk tabZ_ok (by repeat (first | exact PF.body | with_reducible apply PF.inB | with_reducible apply PF.next)) [(0, {}), (1, {}), (2, {}), (3, {k := 0, p := 0}), (4, {}), (5, {}), (6, {}), (7, {k := 0, p := 0}), (8, {}), (9, {}), (10, {}), (11, {k := 0, p := 0}), (12, {})] [4, 0, 1, 37] (T' := [(4, .pointer (some ⟨b2, 0, none⟩)), (0, .pointer (some ⟨bs, 0, none⟩)), (1, .int .i64 n), (37, .agg #[.int .u64 m.now, .int .i8 m.cur, .int .u8 m.s0, .int .u8 m.s1, .int .u8 m.s2, .int .u8 m.s3, .int .u64 m.r0, .int .u64 m.r1, .int .u64 m.r2, .int .u64 m.r3, .int .u64 m.word, .bool out.refused, .int .i8 out.running, .int .u64 out.value, .int .i64 pos])]) (φ := (bs = bs ∧ Nat.ble (1 + 11) 17 = true) ∧ (bs = bs ∧ Nat.ble (12 + 3) 17 = true) ∧ (bs = bs ∧ Nat.ble (15 + 1) 17 = true) ∧ True) (fuel := 2) h49 (by kernel_rfl) rfl (by kernel_rfl) (by kernel_rfl) ⟨trivial, trivial, trivial, rfl, trivial, trivial, trivial, rfl, trivial, trivial, trivial, rfl, trivial, trivial⟩ ⟨⟨rfl, rfl⟩, ⟨rfl, rfl⟩, ⟨rfl, rfl⟩, trivial⟩ fun a51 h52 => ?_
      clear h49
      refine wpAnyK_one (i := 13) (fuel := 1) (by kernel_rfl) ?_
      refine op_new tabOk (cells := [.int .u64 0, .int .i8 0, .int .u8 0, .int .u8 0, .int .u8 0, .int .u8 0, .int .u64 0, .int .u64 0, .int .u64 0, .int .u64 0, .int .u64 0, .bool false, .int .i8 0, .int .u64 0, .int .i64 0]) (ty := 105) (ln := none) (L1 := fun b53 => [(bs, ⟨sessC (.pointer (some ⟨bl, 0, none⟩)) m out pos live, 60, false⟩), (bl, ⟨logC lg.base (.slice eo lg.evs.length ec) (.slice mo lg.mks.length mc) (.slice so lg.sns.length sc), 89, true⟩), (b2, ⟨[.int .u8 0, .int .i64 0, .int .i64 0, .int .i64 0, .bool false, .bool false, .int .i8 0, .int .u64 0, .int .u64 0, .int .i64 0, .int .i64 0, .int .i64 0], 46, false⟩), (b53, ⟨[.int .u64 0, .int .i8 0, .int .u8 0, .int .u8 0, .int .u8 0, .int .u8 0, .int .u64 0, .int .u64 0, .int .u64 0, .int .u64 0, .int .u64 0, .bool false, .int .i8 0, .int .u64 0, .int .i64 0], 105, false⟩)]) h52 rfl rfl rfl rfl (by kernel_rfl) (fun _ => rfl) fun b53 w54 a55 h56 hf57 hn58 => ?_
      refine ⟨(h52.keepFr hf57 (kcons (by simp) (kcons (by simp) (kcons (by simp) knil)))), ?_⟩
      clear h52
      refine wpAnyK_one (i := 14) (fuel := 0) (by kernel_rfl) ?_
      refine op_store tabOk {k := 3} (L' := [(bs, ⟨sessC (.pointer (some ⟨bl, 0, none⟩)) m out pos live, 60, false⟩), (bl, ⟨logC lg.base (.slice eo lg.evs.length ec) (.slice mo lg.mks.length mc) (.slice so lg.sns.length sc), 89, true⟩), (b2, ⟨[.int .u8 0, .int .i64 0, .int .i64 0, .int .i64 0, .bool false, .bool false, .int .i8 0, .int .u64 0, .int .u64 0, .int .i64 0, .int .i64 0, .int .i64 0], 46, false⟩), (b53, ⟨[.int .u64 m.now, .int .i8 m.cur, .int .u8 m.s0, .int .u8 m.s1, .int .u8 m.s2, .int .u8 m.s3, .int .u64 m.r0, .int .u64 m.r1, .int .u64 m.r2, .int .u64 m.r3, .int .u64 m.word, .bool out.refused, .int .i8 out.running, .int .u64 out.value, .int .i64 pos], 105, false⟩)]) (φ := b53 = b53 ∧ Nat.ble (0 + 15) 15 = true) h56 rfl rfl rfl (by kernel_rfl) ⟨rfl, rfl⟩ fun w59 h60 => ?_
      have hkh60 := h56.known
      refine ⟨keepNil, ?_⟩
      clear h56
      refine wpAnyK_done (by kernel_rfl) ?_ _
      refine hK47 _ _ ?_
      clear hK47
      refine wp_seq_k fun K61 hK61 => ?_
      refine dr_start (KB := [bs, bl, b2, b53]) (Bi := [[0, 1, 2, 3], [0, 1, 2, 3], [0, 1, 2, 3], [0, 1, 2, 3], [0, 1, 2, 3], [0, 1, 2, 3], [0, 1, 2, 3], [0, 1, 2, 3], [0, 1, 2, 3], [0, 1, 2, 3], []]) mixed h60 fun w62 h63 => ?_
      clear h60
      refine dr_batch tabOk tabZ_ok (by repeat (first | exact PF.body | with_reducible apply PF.inB | with_reducible apply PF.next)) [(0, {}), (1, {}), (2, {}), (3, {k := 0, p := 0}), (4, {}), (5, {}), (6, {}), (7, {k := 0, p := 0}), (8, {}), (9, {})] [5, 4, 0, 1, 41, 47] (T' := [(5, .pointer (some ⟨b53, 0, none⟩)), (4, .pointer (some ⟨b2, 0, none⟩)), (0, .pointer (some ⟨bs, 0, none⟩)), (1, .int .i64 n), (41, .pointer (some ⟨bl, 0, none⟩)), (47, .int .i64 (pos + n))]) (φ := (bs = bs ∧ Nat.ble (0 + 1) 17 = true) ∧ (bs = bs ∧ Nat.ble (15 + 1) 17 = true) ∧ inR .i64 (pos + n) ∧ True) (fuel := 1) h63 (by kernel_rfl) rfl (by kernel_rfl) (by kernel_rfl) ⟨trivial, trivial, trivial, rfl, trivial, trivial, trivial, rfl, trivial, trivial, trivial⟩ ⟨⟨rfl, rfl⟩, ⟨rfl, rfl⟩, ⟨by omega, by omega⟩, trivial⟩ fun a65 h66 => ?_
      clear h63
      refine wpAnyK_one (i := 10) (fuel := 0) (by kernel_rfl) ?_
      refine op_call h66 rfl rfl rfl (callOk Tryf.func44 (by decide) rfl) (args := [.pointer (some ⟨b53, 0, none⟩), .pointer (some ⟨bl, 0, none⟩), .int .i64 (pos + n)]) rfl (run_ok b53 bl ⟨eo, ec, eF, mo, mc, mF, so, sc, sF⟩ lg _ (LogAt.of (d := ⟨eo, ec, eF, mo, mc, mF, so, sc, sF⟩) (h66.kn (k := 1) rfl) h66.inv hsep) m out pos (pos + n) (pos - lg.base.idx).toNat ((pos + n) - pos).toNat (h66.kn (k := 3) rfl) (h66.ne 3 1 rfl rfl rfl) (h66.dj (k := 3) rfl rfl) hwl.evs hm (by omega) (by omega) (by omega) (by omega) hb0 (by omega)) ?_
      rintro _ w67 ⟨rfl, hbr, hf69⟩
      refine ⟨_, rfl, ?_⟩
      have h68 := (h66.setBlk (k := 3) rfl rfl hf69 hbr (L' := [(bs, ⟨sessC (.pointer (some ⟨bl, 0, none⟩)) m out pos live, 60, false⟩), (bl, ⟨logC lg.base (.slice eo lg.evs.length ec) (.slice mo lg.mks.length mc) (.slice so lg.sns.length sc), 89, true⟩), (b2, ⟨[.int .u8 0, .int .i64 0, .int .i64 0, .int .i64 0, .bool false, .bool false, .int .i8 0, .int .u64 0, .int .u64 0, .int .i64 0, .int .i64 0, .int .i64 0], 46, false⟩), (b53, ⟨curC ((runF (seg lg.evs (pos - lg.base.idx).toNat ((pos + n) - pos).toNat) (m, out)).1) ((runF (seg lg.evs (pos - lg.base.idx).toNat ((pos + n) - pos).toNat) (m, out)).2) (pos + n), 105, false⟩)]) rfl).put (d := some 48) (v := .tuple #[]) (T' := [(48, .tuple #[]), (5, .pointer (some ⟨b53, 0, none⟩)), (4, .pointer (some ⟨b2, 0, none⟩)), (0, .pointer (some ⟨bs, 0, none⟩)), (1, .int .i64 n), (41, .pointer (some ⟨bl, 0, none⟩)), (47, .int .i64 (pos + n))]) rfl
      have hkh68 := h66.known
      refine ⟨keepNil, ?_⟩
      clear h66
      refine wpAnyK_done (by kernel_rfl) ?_ _
      refine hK61 _ _ ?_
      clear hK61
      refine wp_seq_k fun K70 hK70 => ?_
      refine nd_start (l := [0, 1, 2]) rfl ?_
      refine nd_batch tabOk tabZ_ok [(0, {}), (1, {k := 3})] [5, 4, 0, 1, 49, 50] (T' := [(5, .pointer (some ⟨b53, 0, none⟩)), (4, .pointer (some ⟨b2, 0, none⟩)), (0, .pointer (some ⟨bs, 0, none⟩)), (1, .int .i64 n), (49, .pointer (some ⟨bs, 0, none⟩)), (50, .agg #[.int .u64 ((runF (seg lg.evs (pos - lg.base.idx).toNat ((pos + n) - pos).toNat) (m, out)).1.now), .int .i8 ((runF (seg lg.evs (pos - lg.base.idx).toNat ((pos + n) - pos).toNat) (m, out)).1.cur), .int .u8 ((runF (seg lg.evs (pos - lg.base.idx).toNat ((pos + n) - pos).toNat) (m, out)).1.s0), .int .u8 ((runF (seg lg.evs (pos - lg.base.idx).toNat ((pos + n) - pos).toNat) (m, out)).1.s1), .int .u8 ((runF (seg lg.evs (pos - lg.base.idx).toNat ((pos + n) - pos).toNat) (m, out)).1.s2), .int .u8 ((runF (seg lg.evs (pos - lg.base.idx).toNat ((pos + n) - pos).toNat) (m, out)).1.s3), .int .u64 ((runF (seg lg.evs (pos - lg.base.idx).toNat ((pos + n) - pos).toNat) (m, out)).1.r0), .int .u64 ((runF (seg lg.evs (pos - lg.base.idx).toNat ((pos + n) - pos).toNat) (m, out)).1.r1), .int .u64 ((runF (seg lg.evs (pos - lg.base.idx).toNat ((pos + n) - pos).toNat) (m, out)).1.r2), .int .u64 ((runF (seg lg.evs (pos - lg.base.idx).toNat ((pos + n) - pos).toNat) (m, out)).1.r3), .int .u64 ((runF (seg lg.evs (pos - lg.base.idx).toNat ((pos + n) - pos).toNat) (m, out)).1.word), .bool ((runF (seg lg.evs (pos - lg.base.idx).toNat ((pos + n) - pos).toNat) (m, out)).2.refused), .int .i8 ((runF (seg lg.evs (pos - lg.base.idx).toNat ((pos + n) - pos).toNat) (m, out)).2.running), .int .u64 ((runF (seg lg.evs (pos - lg.base.idx).toNat ((pos + n) - pos).toNat) (m, out)).2.value), .int .i64 (pos + n)])]) (φ := (b53 = b53 ∧ Nat.ble (0 + 15) 15 = true) ∧ True) (rest := [2]) h68 (by kernel_rfl) rfl ⟨⟨rfl, rfl⟩, trivial⟩ fun a71 h72 => ?_
      clear h68
      refine nd_op ?_
      refine op_call h72 rfl rfl rfl (callOk Tryf.func45 (by decide) rfl) (args := [.pointer (some ⟨bs, 0, none⟩), .agg #[.int .u64 ((runF (seg lg.evs (pos - lg.base.idx).toNat ((pos + n) - pos).toNat) (m, out)).1.now), .int .i8 ((runF (seg lg.evs (pos - lg.base.idx).toNat ((pos + n) - pos).toNat) (m, out)).1.cur), .int .u8 ((runF (seg lg.evs (pos - lg.base.idx).toNat ((pos + n) - pos).toNat) (m, out)).1.s0), .int .u8 ((runF (seg lg.evs (pos - lg.base.idx).toNat ((pos + n) - pos).toNat) (m, out)).1.s1), .int .u8 ((runF (seg lg.evs (pos - lg.base.idx).toNat ((pos + n) - pos).toNat) (m, out)).1.s2), .int .u8 ((runF (seg lg.evs (pos - lg.base.idx).toNat ((pos + n) - pos).toNat) (m, out)).1.s3), .int .u64 ((runF (seg lg.evs (pos - lg.base.idx).toNat ((pos + n) - pos).toNat) (m, out)).1.r0), .int .u64 ((runF (seg lg.evs (pos - lg.base.idx).toNat ((pos + n) - pos).toNat) (m, out)).1.r1), .int .u64 ((runF (seg lg.evs (pos - lg.base.idx).toNat ((pos + n) - pos).toNat) (m, out)).1.r2), .int .u64 ((runF (seg lg.evs (pos - lg.base.idx).toNat ((pos + n) - pos).toNat) (m, out)).1.r3), .int .u64 ((runF (seg lg.evs (pos - lg.base.idx).toNat ((pos + n) - pos).toNat) (m, out)).1.word), .bool ((runF (seg lg.evs (pos - lg.base.idx).toNat ((pos + n) - pos).toNat) (m, out)).2.refused), .int .i8 ((runF (seg lg.evs (pos - lg.base.idx).toNat ((pos + n) - pos).toNat) (m, out)).2.running), .int .u64 ((runF (seg lg.evs (pos - lg.base.idx).toNat ((pos + n) - pos).toNat) (m, out)).2.value), .int .i64 (pos + n)]]) rfl (adopt_ok bs (.pointer (some ⟨bl, 0, none⟩)) m out pos live (runF (seg lg.evs (pos - lg.base.idx).toNat ((pos + n) - pos).toNat) (m, out)).1 (runF (seg lg.evs (pos - lg.base.idx).toNat ((pos + n) - pos).toNat) (m, out)).2 (pos + n) _ (h72.kn (k := 0) rfl)) ?_
      rintro _ w73 ⟨rfl, hba, hf75⟩
      refine ⟨_, rfl, ?_⟩
      have h74 := (h72.setBlk (k := 0) rfl rfl hf75 hba (L' := [(bs, ⟨sessC (.pointer (some ⟨bl, 0, none⟩)) (runF (seg lg.evs (pos - lg.base.idx).toNat ((pos + n) - pos).toNat) (m, out)).1 (runF (seg lg.evs (pos - lg.base.idx).toNat ((pos + n) - pos).toNat) (m, out)).2 (pos + n) false, 60, false⟩), (bl, ⟨logC lg.base (.slice eo lg.evs.length ec) (.slice mo lg.mks.length mc) (.slice so lg.sns.length sc), 89, true⟩), (b2, ⟨[.int .u8 0, .int .i64 0, .int .i64 0, .int .i64 0, .bool false, .bool false, .int .i8 0, .int .u64 0, .int .u64 0, .int .i64 0, .int .i64 0, .int .i64 0], 46, false⟩), (b53, ⟨curC ((runF (seg lg.evs (pos - lg.base.idx).toNat ((pos + n) - pos).toNat) (m, out)).1) ((runF (seg lg.evs (pos - lg.base.idx).toNat ((pos + n) - pos).toNat) (m, out)).2) (pos + n), 105, false⟩)]) rfl).put (d := some 51) (v := .tuple #[]) (T' := [(51, .tuple #[]), (5, .pointer (some ⟨b53, 0, none⟩)), (4, .pointer (some ⟨b2, 0, none⟩)), (0, .pointer (some ⟨bs, 0, none⟩)), (1, .int .i64 n), (49, .pointer (some ⟨bs, 0, none⟩)), (50, .agg #[.int .u64 ((runF (seg lg.evs (pos - lg.base.idx).toNat ((pos + n) - pos).toNat) (m, out)).1.now), .int .i8 ((runF (seg lg.evs (pos - lg.base.idx).toNat ((pos + n) - pos).toNat) (m, out)).1.cur), .int .u8 ((runF (seg lg.evs (pos - lg.base.idx).toNat ((pos + n) - pos).toNat) (m, out)).1.s0), .int .u8 ((runF (seg lg.evs (pos - lg.base.idx).toNat ((pos + n) - pos).toNat) (m, out)).1.s1), .int .u8 ((runF (seg lg.evs (pos - lg.base.idx).toNat ((pos + n) - pos).toNat) (m, out)).1.s2), .int .u8 ((runF (seg lg.evs (pos - lg.base.idx).toNat ((pos + n) - pos).toNat) (m, out)).1.s3), .int .u64 ((runF (seg lg.evs (pos - lg.base.idx).toNat ((pos + n) - pos).toNat) (m, out)).1.r0), .int .u64 ((runF (seg lg.evs (pos - lg.base.idx).toNat ((pos + n) - pos).toNat) (m, out)).1.r1), .int .u64 ((runF (seg lg.evs (pos - lg.base.idx).toNat ((pos + n) - pos).toNat) (m, out)).1.r2), .int .u64 ((runF (seg lg.evs (pos - lg.base.idx).toNat ((pos + n) - pos).toNat) (m, out)).1.r3), .int .u64 ((runF (seg lg.evs (pos - lg.base.idx).toNat ((pos + n) - pos).toNat) (m, out)).1.word), .bool ((runF (seg lg.evs (pos - lg.base.idx).toNat ((pos + n) - pos).toNat) (m, out)).2.refused), .int .i8 ((runF (seg lg.evs (pos - lg.base.idx).toNat ((pos + n) - pos).toNat) (m, out)).2.running), .int .u64 ((runF (seg lg.evs (pos - lg.base.idx).toNat ((pos + n) - pos).toNat) (m, out)).2.value), .int .i64 (pos + n)])]) rfl
      clear h72
      refine nd_done ?_
      refine hK70 _ _ ?_
      clear hK70
      refine wp_seq_k fun K76 hK76 => ?_
      refine nd_start (l := [0, 1, 2, 3]) rfl ?_
      refine nd_batch tabOk tabZ_ok [(0, {})] [5, 4, 0, 1, 52] (T' := [(5, .pointer (some ⟨b53, 0, none⟩)), (4, .pointer (some ⟨b2, 0, none⟩)), (0, .pointer (some ⟨bs, 0, none⟩)), (1, .int .i64 n), (52, .pointer (some ⟨bs, 0, none⟩))]) (φ := True) (rest := [1, 2, 3]) h74 (by kernel_rfl) rfl trivial fun a77 h78 => ?_
      clear h74
      refine nd_op ?_
      refine op_call h78 rfl rfl rfl (callOk Tryf.func29 (by decide) rfl) (args := [.pointer (some ⟨bs, 0, none⟩), .int .u8 0]) rfl (status_ok bs bl ((runF (seg lg.evs (pos - lg.base.idx).toNat ((pos + n) - pos).toNat) (m, out)).1) hmok2 ((runF (seg lg.evs (pos - lg.base.idx).toNat ((pos + n) - pos).toNat) (m, out)).2) (pos + n) false lg.base eo lg.evs.length ec (.slice mo lg.mks.length mc) (.slice so lg.sns.length sc) 0 _ false true (h78.kn (k := 0) rfl) (h78.kn (k := 1) rfl) hne (by omega) (by omega) (by omega)) ?_
      rintro _ w79 ⟨rfl, hf81⟩
      refine ⟨_, rfl, ?_⟩
      have h80 := (h78.grow hf81).put (d := some 53) (v := .agg #[.int .u8 0, .int .i64 (pos + n), .int .i64 lg.base.idx, .int .i64 (lg.base.idx + (lg.evs.length : Int)), .bool false, .bool ((runF (seg lg.evs (pos - lg.base.idx).toNat ((pos + n) - pos).toNat) (m, out)).2.refused), .int .i8 ((runF (seg lg.evs (pos - lg.base.idx).toNat ((pos + n) - pos).toNat) (m, out)).2.running), .int .u64 ((runF (seg lg.evs (pos - lg.base.idx).toNat ((pos + n) - pos).toNat) (m, out)).2.value), .int .u64 (dig ((runF (seg lg.evs (pos - lg.base.idx).toNat ((pos + n) - pos).toNat) (m, out)).1)), .int .i64 (pos + n), .int .i64 0, .int .i64 (-1)]) (T' := [(53, .agg #[.int .u8 0, .int .i64 (pos + n), .int .i64 lg.base.idx, .int .i64 (lg.base.idx + (lg.evs.length : Int)), .bool false, .bool ((runF (seg lg.evs (pos - lg.base.idx).toNat ((pos + n) - pos).toNat) (m, out)).2.refused), .int .i8 ((runF (seg lg.evs (pos - lg.base.idx).toNat ((pos + n) - pos).toNat) (m, out)).2.running), .int .u64 ((runF (seg lg.evs (pos - lg.base.idx).toNat ((pos + n) - pos).toNat) (m, out)).2.value), .int .u64 (dig ((runF (seg lg.evs (pos - lg.base.idx).toNat ((pos + n) - pos).toNat) (m, out)).1)), .int .i64 (pos + n), .int .i64 0, .int .i64 (-1)]), (5, .pointer (some ⟨b53, 0, none⟩)), (4, .pointer (some ⟨b2, 0, none⟩)), (0, .pointer (some ⟨bs, 0, none⟩)), (1, .int .i64 n), (52, .pointer (some ⟨bs, 0, none⟩))]) rfl
      clear h78
      refine nd_op ?_
      refine op_new tabOk (cells := [.int .u8 0, .int .i64 0, .int .i64 0, .int .i64 0, .bool false, .bool false, .int .i8 0, .int .u64 0, .int .u64 0, .int .i64 0, .int .i64 0, .int .i64 0]) (ty := 46) (ln := none) (L1 := fun b82 => [(bs, ⟨sessC (.pointer (some ⟨bl, 0, none⟩)) (runF (seg lg.evs (pos - lg.base.idx).toNat ((pos + n) - pos).toNat) (m, out)).1 (runF (seg lg.evs (pos - lg.base.idx).toNat ((pos + n) - pos).toNat) (m, out)).2 (pos + n) false, 60, false⟩), (bl, ⟨logC lg.base (.slice eo lg.evs.length ec) (.slice mo lg.mks.length mc) (.slice so lg.sns.length sc), 89, true⟩), (b2, ⟨[.int .u8 0, .int .i64 0, .int .i64 0, .int .i64 0, .bool false, .bool false, .int .i8 0, .int .u64 0, .int .u64 0, .int .i64 0, .int .i64 0, .int .i64 0], 46, false⟩), (b53, ⟨curC ((runF (seg lg.evs (pos - lg.base.idx).toNat ((pos + n) - pos).toNat) (m, out)).1) ((runF (seg lg.evs (pos - lg.base.idx).toNat ((pos + n) - pos).toNat) (m, out)).2) (pos + n), 105, false⟩), (b82, ⟨[.int .u8 0, .int .i64 0, .int .i64 0, .int .i64 0, .bool false, .bool false, .int .i8 0, .int .u64 0, .int .u64 0, .int .i64 0, .int .i64 0, .int .i64 0], 46, false⟩)]) h80 rfl rfl rfl rfl (by kernel_rfl) (fun _ => rfl) fun b82 w83 a84 h85 hf86 hn87 => ?_
      clear h80
      refine nd_op ?_
      refine op_store tabOk {k := 4} (L' := [(bs, ⟨sessC (.pointer (some ⟨bl, 0, none⟩)) (runF (seg lg.evs (pos - lg.base.idx).toNat ((pos + n) - pos).toNat) (m, out)).1 (runF (seg lg.evs (pos - lg.base.idx).toNat ((pos + n) - pos).toNat) (m, out)).2 (pos + n) false, 60, false⟩), (bl, ⟨logC lg.base (.slice eo lg.evs.length ec) (.slice mo lg.mks.length mc) (.slice so lg.sns.length sc), 89, true⟩), (b2, ⟨[.int .u8 0, .int .i64 0, .int .i64 0, .int .i64 0, .bool false, .bool false, .int .i8 0, .int .u64 0, .int .u64 0, .int .i64 0, .int .i64 0, .int .i64 0], 46, false⟩), (b53, ⟨curC ((runF (seg lg.evs (pos - lg.base.idx).toNat ((pos + n) - pos).toNat) (m, out)).1) ((runF (seg lg.evs (pos - lg.base.idx).toNat ((pos + n) - pos).toNat) (m, out)).2) (pos + n), 105, false⟩), (b82, ⟨[.int .u8 0, .int .i64 (pos + n), .int .i64 lg.base.idx, .int .i64 (lg.base.idx + (lg.evs.length : Int)), .bool false, .bool ((runF (seg lg.evs (pos - lg.base.idx).toNat ((pos + n) - pos).toNat) (m, out)).2.refused), .int .i8 ((runF (seg lg.evs (pos - lg.base.idx).toNat ((pos + n) - pos).toNat) (m, out)).2.running), .int .u64 ((runF (seg lg.evs (pos - lg.base.idx).toNat ((pos + n) - pos).toNat) (m, out)).2.value), .int .u64 (dig ((runF (seg lg.evs (pos - lg.base.idx).toNat ((pos + n) - pos).toNat) (m, out)).1)), .int .i64 (pos + n), .int .i64 0, .int .i64 (-1)], 46, false⟩)]) (φ := b82 = b82 ∧ Nat.ble (0 + 12) 12 = true) h85 rfl rfl rfl (by kernel_rfl) ⟨rfl, rfl⟩ fun w88 h89 => ?_
      clear h85
      refine nd_done ?_
      refine hK76 _ _ ?_
      clear hK76
      refine wp_seq_k fun K90 hK90 => ?_
      refine nd_start (l := [0, 1, 2, 3, 4, 5, 6, 7, 8, 9, 10]) rfl ?_
      refine nd_batch tabOk tabZ_ok [(0, {}), (1, {}), (2, {}), (3, {k := 0}), (4, {}), (5, {}), (6, {}), (7, {})] [6, 5, 4, 0, 1, 59, 60, 61] (T' := [(6, .pointer (some ⟨b82, 0, none⟩)), (5, .pointer (some ⟨b53, 0, none⟩)), (4, .pointer (some ⟨b2, 0, none⟩)), (0, .pointer (some ⟨bs, 0, none⟩)), (1, .int .i64 n), (59, .int .i64 ((pos + n) - n)), (60, .int .i64 n), (61, .pointer (some ⟨b82, 9, none⟩))]) (φ := (bs = bs ∧ Nat.ble (15 + 1) 17 = true) ∧ inR .i64 ((pos + n) - n) ∧ True) (rest := [8, 9, 10]) h89 (by kernel_rfl) rfl ⟨⟨rfl, rfl⟩, ⟨by omega, by omega⟩, trivial⟩ fun a91 h92 => ?_
      clear h89
      refine nd_op ?_
      refine op_store tabOk {k := 4} (L' := [(bs, ⟨sessC (.pointer (some ⟨bl, 0, none⟩)) (runF (seg lg.evs (pos - lg.base.idx).toNat ((pos + n) - pos).toNat) (m, out)).1 (runF (seg lg.evs (pos - lg.base.idx).toNat ((pos + n) - pos).toNat) (m, out)).2 (pos + n) false, 60, false⟩), (bl, ⟨logC lg.base (.slice eo lg.evs.length ec) (.slice mo lg.mks.length mc) (.slice so lg.sns.length sc), 89, true⟩), (b2, ⟨[.int .u8 0, .int .i64 0, .int .i64 0, .int .i64 0, .bool false, .bool false, .int .i8 0, .int .u64 0, .int .u64 0, .int .i64 0, .int .i64 0, .int .i64 0], 46, false⟩), (b53, ⟨curC ((runF (seg lg.evs (pos - lg.base.idx).toNat ((pos + n) - pos).toNat) (m, out)).1) ((runF (seg lg.evs (pos - lg.base.idx).toNat ((pos + n) - pos).toNat) (m, out)).2) (pos + n), 105, false⟩), (b82, ⟨[.int .u8 0, .int .i64 (pos + n), .int .i64 lg.base.idx, .int .i64 (lg.base.idx + (lg.evs.length : Int)), .bool false, .bool ((runF (seg lg.evs (pos - lg.base.idx).toNat ((pos + n) - pos).toNat) (m, out)).2.refused), .int .i8 ((runF (seg lg.evs (pos - lg.base.idx).toNat ((pos + n) - pos).toNat) (m, out)).2.running), .int .u64 ((runF (seg lg.evs (pos - lg.base.idx).toNat ((pos + n) - pos).toNat) (m, out)).2.value), .int .u64 (dig ((runF (seg lg.evs (pos - lg.base.idx).toNat ((pos + n) - pos).toNat) (m, out)).1)), .int .i64 ((pos + n) - n), .int .i64 0, .int .i64 (-1)], 46, false⟩)]) (φ := b82 = b82 ∧ Nat.ble (9 + 1) 12 = true) h92 rfl rfl rfl (by kernel_rfl) ⟨rfl, rfl⟩ fun w93 h94 => ?_
      clear h92
      refine nd_batch tabOk tabZ_ok [(9, {})] [6, 5, 4, 0, 1, 60, 62] (T' := [(6, .pointer (some ⟨b82, 0, none⟩)), (5, .pointer (some ⟨b53, 0, none⟩)), (4, .pointer (some ⟨b2, 0, none⟩)), (0, .pointer (some ⟨bs, 0, none⟩)), (1, .int .i64 n), (60, .int .i64 n), (62, .pointer (some ⟨b82, 10, none⟩))]) (φ := True) (rest := [10]) h94 (by kernel_rfl) rfl trivial fun a95 h96 => ?_
      clear h94
      refine nd_op ?_
      refine op_store tabOk {k := 4} (L' := [(bs, ⟨sessC (.pointer (some ⟨bl, 0, none⟩)) (runF (seg lg.evs (pos - lg.base.idx).toNat ((pos + n) - pos).toNat) (m, out)).1 (runF (seg lg.evs (pos - lg.base.idx).toNat ((pos + n) - pos).toNat) (m, out)).2 (pos + n) false, 60, false⟩), (bl, ⟨logC lg.base (.slice eo lg.evs.length ec) (.slice mo lg.mks.length mc) (.slice so lg.sns.length sc), 89, true⟩), (b2, ⟨[.int .u8 0, .int .i64 0, .int .i64 0, .int .i64 0, .bool false, .bool false, .int .i8 0, .int .u64 0, .int .u64 0, .int .i64 0, .int .i64 0, .int .i64 0], 46, false⟩), (b53, ⟨curC ((runF (seg lg.evs (pos - lg.base.idx).toNat ((pos + n) - pos).toNat) (m, out)).1) ((runF (seg lg.evs (pos - lg.base.idx).toNat ((pos + n) - pos).toNat) (m, out)).2) (pos + n), 105, false⟩), (b82, ⟨[.int .u8 0, .int .i64 (pos + n), .int .i64 lg.base.idx, .int .i64 (lg.base.idx + (lg.evs.length : Int)), .bool false, .bool ((runF (seg lg.evs (pos - lg.base.idx).toNat ((pos + n) - pos).toNat) (m, out)).2.refused), .int .i8 ((runF (seg lg.evs (pos - lg.base.idx).toNat ((pos + n) - pos).toNat) (m, out)).2.running), .int .u64 ((runF (seg lg.evs (pos - lg.base.idx).toNat ((pos + n) - pos).toNat) (m, out)).2.value), .int .u64 (dig ((runF (seg lg.evs (pos - lg.base.idx).toNat ((pos + n) - pos).toNat) (m, out)).1)), .int .i64 ((pos + n) - n), .int .i64 n, .int .i64 (-1)], 46, false⟩)]) (φ := b82 = b82 ∧ Nat.ble (10 + 1) 12 = true) h96 rfl rfl rfl (by kernel_rfl) ⟨rfl, rfl⟩ fun w97 h98 => ?_
      clear h96
      refine nd_done ?_
      refine hK90 _ _ ?_
      clear hK90
      refine wp_seq_k fun K99 hK99 => ?_
      refine nd_start (l := [0, 1]) rfl ?_
      refine nd_batch tabOk tabZ_ok [(0, {k := 4})] [6, 5, 4, 0, 1, 63] (T' := [(6, .pointer (some ⟨b82, 0, none⟩)), (5, .pointer (some ⟨b53, 0, none⟩)), (4, .pointer (some ⟨b2, 0, none⟩)), (0, .pointer (some ⟨bs, 0, none⟩)), (1, .int .i64 n), (63, .agg #[.int .u8 0, .int .i64 (pos + n), .int .i64 lg.base.idx, .int .i64 (lg.base.idx + (lg.evs.length : Int)), .bool false, .bool ((runF (seg lg.evs (pos - lg.base.idx).toNat ((pos + n) - pos).toNat) (m, out)).2.refused), .int .i8 ((runF (seg lg.evs (pos - lg.base.idx).toNat ((pos + n) - pos).toNat) (m, out)).2.running), .int .u64 ((runF (seg lg.evs (pos - lg.base.idx).toNat ((pos + n) - pos).toNat) (m, out)).2.value), .int .u64 (dig ((runF (seg lg.evs (pos - lg.base.idx).toNat ((pos + n) - pos).toNat) (m, out)).1)), .int .i64 ((pos + n) - n), .int .i64 n, .int .i64 (-1)])]) (φ := (b82 = b82 ∧ Nat.ble (0 + 12) 12 = true) ∧ True) (rest := [1]) h98 (by kernel_rfl) rfl ⟨⟨rfl, rfl⟩, trivial⟩ fun a100 h101 => ?_
      clear h98
      refine nd_op ?_
      refine op_store tabOk {k := 2} (L' := [(bs, ⟨sessC (.pointer (some ⟨bl, 0, none⟩)) (runF (seg lg.evs (pos - lg.base.idx).toNat ((pos + n) - pos).toNat) (m, out)).1 (runF (seg lg.evs (pos - lg.base.idx).toNat ((pos + n) - pos).toNat) (m, out)).2 (pos + n) false, 60, false⟩), (bl, ⟨logC lg.base (.slice eo lg.evs.length ec) (.slice mo lg.mks.length mc) (.slice so lg.sns.length sc), 89, true⟩), (b2, ⟨[.int .u8 0, .int .i64 (pos + n), .int .i64 lg.base.idx, .int .i64 (lg.base.idx + (lg.evs.length : Int)), .bool false, .bool ((runF (seg lg.evs (pos - lg.base.idx).toNat ((pos + n) - pos).toNat) (m, out)).2.refused), .int .i8 ((runF (seg lg.evs (pos - lg.base.idx).toNat ((pos + n) - pos).toNat) (m, out)).2.running), .int .u64 ((runF (seg lg.evs (pos - lg.base.idx).toNat ((pos + n) - pos).toNat) (m, out)).2.value), .int .u64 (dig ((runF (seg lg.evs (pos - lg.base.idx).toNat ((pos + n) - pos).toNat) (m, out)).1)), .int .i64 ((pos + n) - n), .int .i64 n, .int .i64 (-1)], 46, false⟩), (b53, ⟨curC ((runF (seg lg.evs (pos - lg.base.idx).toNat ((pos + n) - pos).toNat) (m, out)).1) ((runF (seg lg.evs (pos - lg.base.idx).toNat ((pos + n) - pos).toNat) (m, out)).2) (pos + n), 105, false⟩), (b82, ⟨[.int .u8 0, .int .i64 (pos + n), .int .i64 lg.base.idx, .int .i64 (lg.base.idx + (lg.evs.length : Int)), .bool false, .bool ((runF (seg lg.evs (pos - lg.base.idx).toNat ((pos + n) - pos).toNat) (m, out)).2.refused), .int .i8 ((runF (seg lg.evs (pos - lg.base.idx).toNat ((pos + n) - pos).toNat) (m, out)).2.running), .int .u64 ((runF (seg lg.evs (pos - lg.base.idx).toNat ((pos + n) - pos).toNat) (m, out)).2.value), .int .u64 (dig ((runF (seg lg.evs (pos - lg.base.idx).toNat ((pos + n) - pos).toNat) (m, out)).1)), .int .i64 ((pos + n) - n), .int .i64 n, .int .i64 (-1)], 46, false⟩)]) (φ := b2 = b2 ∧ Nat.ble (0 + 12) 12 = true) h101 rfl rfl rfl (by kernel_rfl) ⟨rfl, rfl⟩ fun w102 h103 => ?_
      clear h101
      refine nd_done ?_
      refine hK99 _ _ ?_
      clear hK99
      refine wp_ret ?_
      have hR : forwR (⟨lg, m, out, pos, live⟩ : Ss) n = (let s' := Ss.go (⟨lg, m, out, pos, live⟩ : Ss) (lg.run (m, out) pos (pos + n)) (pos + n); ({ s'.stat 0 with from_ := pos + n - n, replayed := n }, s')) := by unfold forwR; rw [if_neg (by show ¬ (n < 0 ∨ lg.fin - pos < n); omega)]
      try simp only [Exit.then, Exit.inBlock]
      try rw [if_pos trivial]
      exact s_ret tabOk tabZ_ok h103 [(.cell 4 46, {k := 2})] (vs := [.agg #[.int .u8 0, .int .i64 (pos + n), .int .i64 lg.base.idx, .int .i64 (lg.base.idx + (lg.evs.length : Int)), .bool false, .bool ((runF (seg lg.evs (pos - lg.base.idx).toNat ((pos + n) - pos).toNat) (m, out)).2.refused), .int .i8 ((runF (seg lg.evs (pos - lg.base.idx).toNat ((pos + n) - pos).toNat) (m, out)).2.running), .int .u64 ((runF (seg lg.evs (pos - lg.base.idx).toNat ((pos + n) - pos).toNat) (m, out)).2.value), .int .u64 (dig ((runF (seg lg.evs (pos - lg.base.idx).toNat ((pos + n) - pos).toNat) (m, out)).1)), .int .i64 ((pos + n) - n), .int .i64 n, .int .i64 (-1)]]) (φ := (b2 = b2 ∧ Nat.ble (0 + 12) 12 = true) ∧ True) rfl (by kernel_rfl) ⟨⟨rfl, rfl⟩, trivial⟩ (by rw [hR]; exact ⟨⟨eo, ec, eF, mo, mc, mF, so, sc, sF⟩, rfl, ⟨h103.kn (k := 0) rfl, LogAt.of (h103.kn (k := 1) rfl) h103.inv hsep, hne, hsm⟩, (h103.frame.mono (fun b hb => by simp at hb; simp [hb])), fun b hb => .inl hb⟩)

end Go.Proofs.Qxb6500919aFmt
