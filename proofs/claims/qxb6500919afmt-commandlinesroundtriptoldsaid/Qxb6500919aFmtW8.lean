/-
  Record. (Made by program: a symbolic walk that prints its steps.)
-/
import Derived.Test.Qxb6500919aFmtTab
import Derived.Test.Qxb6500919aFmtLib
import Derived.Test.Qxb6500919aFmtW1
import Derived.Test.Qxb6500919aFmtW2
import Derived.Test.Qxb6500919aFmtW3
import Derived.Test.Qxb6500919aFmtW4
import Derived.Test.Qxb6500919aFmtW5
import Derived.Test.Qxb6500919aFmtW6
import Derived.Test.Qxb6500919aFmtW7
namespace Go.Proofs.Qxb6500919aFmt
open Go.Sx Go.Rp
set_option maxRecDepth 100000
set_option linter.unusedVariables false
set_option linter.unusedSimpArgs false

theorem record_or (bl : Nat) (d : Hd) (lg : Lg) (w : World) (hl : LogAt w bl d lg) (pre post : List Value) (m : Mach) (hm : m.ok) (ev : Ev) (he : ev.ok) (bm : Nat) (ty : TypeId) (hbm : w.heap[bm]? = some (Blk.obj ⟨pre ++ machC m ++ post, ty, false⟩)) (hne : bm ≠ bl) (hsm : bm ∉ d.F)
    (hev : ∀ e ∈ lg.evs, e.ok) (hb0 : 0 ≤ lg.base.idx) (hb1 : lg.base.idx ≤ 900000000) (hlen : lg.evs.length ≤ 1000) (hml : lg.mks.length ≤ 1000) (hsl : lg.sns.length ≤ 1000) :
    Calls Tryf.prog 40 #[.pointer (some ⟨bl, 0, none⟩), .pointer (some ⟨bm, pre.length, none⟩), .agg (evC ev).toArray] w fun e w' =>
      (lg.full ev ∧ e = .returned (.tuple #[.agg (outC out0).toArray, .bool false]) ∧ w'.heap[bm]? = some (Blk.obj ⟨pre ++ machC m ++ post, ty, false⟩) ∧ LogAt w' bl d lg ∧ Fr (bm :: bl :: d.F) w w') ∨
      (¬ lg.full ev ∧ ∃ d', e = .returned (.tuple #[.agg (outC (kstep m ev).2).toArray, .bool true]) ∧ w'.heap[bm]? = some (Blk.obj ⟨pre ++ machC (kstep m ev).1 ++ post, ty, false⟩) ∧ LogAt w' bl d' (lg.recd m ev) ∧ Fr (bm :: bl :: d.F) w w' ∧ ∀ b ∈ d'.F, b ∈ d.F ∨ w.heap.size ≤ b) := by
  have hub : lg.used ≤ 100000 := by have := costs_bd lg.evs; unfold Lg.used; omega
  have hub0 : 0 ≤ lg.used := by have := costs_bd lg.evs; unfold Lg.used; omega
  have hcb := cost_bd ev
  obtain ⟨eo, ec, eF, mo, mc, mF, so, sc, sF⟩ := d
  obtain ⟨hbl, hA, hsep⟩ := hl
  refine enter (n := 90) (K := (bm :: bl :: (eF ++ (mF ++ (sF ++ []))))) (A := Rws [rl evC 31 3 lg.evs eo ec eF, rl mkC 93 2 lg.mks mo mc mF, rl ptC 84 15 lg.sns so sc sF]) (F := Ff [rl evC 31 3 lg.evs eo ec eF, rl mkC 93 2 lg.mks mo mc mF, rl ptC 84 15 lg.sns so sc sF]) (T := [(0, .pointer (some ⟨bl, 0, none⟩)), (1, .pointer (some ⟨bm, pre.length, none⟩)), (2, .agg #[.int .u8 ev.kind, .int .u32 ev.pick, .int .u64 ev.arg])]) (L := [(bl, ⟨logC lg.base (.slice eo lg.evs.length ec) (.slice mo lg.mks.length mc) (.slice so lg.sns.length sc), 89, false⟩), (bm, ⟨pre ++ machC m ++ post, ty, false⟩)]) (args := [.pointer (some ⟨bl, 0, none⟩), .pointer (some ⟨bm, pre.length, none⟩), .agg #[.int .u8 ev.kind, .int .u32 ev.pick, .int .u64 ev.arg]]) Tryf.func40 rfl rfl rfl rfl (kcons hbl (kcons hbm knil)) (by simp [Ne.symm hne]) (kcons (by simp) (kcons (by simp) knil)) hA Rws.stable (hA).low (kcons (fun _ => hsep) (kcons (fun _ => hsm) knil)) ?_
  intro a h
  refine wp_seq_k fun K1 hK1 => ?_
  refine nd_start (l := [0, 1, 2]) rfl ?_
  refine nd_op ?_
  refine op_new tabOk (cells := [.int .u8 ev.kind, .int .u32 ev.pick, .int .u64 ev.arg]) (ty := 31) (ln := none) (L1 := fun b2 => [(bl, ⟨logC lg.base (.slice eo lg.evs.length ec) (.slice mo lg.mks.length mc) (.slice so lg.sns.length sc), 89, false⟩), (bm, ⟨pre ++ machC m ++ post, ty, false⟩), (b2, ⟨[.int .u8 ev.kind, .int .u32 ev.pick, .int .u64 ev.arg], 31, false⟩)]) h rfl rfl rfl rfl (by kernel_rfl) (fun _ => rfl) fun b2 w3 a4 h5 hf6 hn7 => ?_
  clear h
  refine nd_op ?_
  refine op_new tabOk (cells := [.bool false, .int .i8 0, .int .u64 0]) (ty := 44) (ln := none) (L1 := fun b8 => [(bl, ⟨logC lg.base (.slice eo lg.evs.length ec) (.slice mo lg.mks.length mc) (.slice so lg.sns.length sc), 89, false⟩), (bm, ⟨pre ++ machC m ++ post, ty, false⟩), (b2, ⟨[.int .u8 ev.kind, .int .u32 ev.pick, .int .u64 ev.arg], 31, false⟩), (b8, ⟨[.bool false, .int .i8 0, .int .u64 0], 44, false⟩)]) h5 rfl rfl rfl rfl (by kernel_rfl) (fun _ => rfl) fun b8 w9 a10 h11 hf12 hn13 => ?_
  clear h5
  refine nd_batch tabOk tabZ_ok [(2, {})] [6, 5, 0, 1, 2, 7] (T' := [(6, .pointer (some ⟨b8, 0, none⟩)), (5, .pointer (some ⟨b2, 0, none⟩)), (0, .pointer (some ⟨bl, 0, none⟩)), (1, .pointer (some ⟨bm, pre.length, none⟩)), (2, .agg #[.int .u8 ev.kind, .int .u32 ev.pick, .int .u64 ev.arg]), (7, .bool false)]) (φ := True) (rest := []) h11 (by kernel_rfl) rfl trivial fun a14 h15 => ?_
  clear h11
  refine nd_done ?_
  refine hK1 _ _ ?_
  clear hK1
  refine wp_seq_k fun K16 hK16 => ?_
  refine nd_start (l := [0, 1, 2, 3]) rfl ?_
  refine nd_batch tabOk tabZ_ok [(0, {})] [6, 5, 0, 1, 2, 7, 11] (T' := [(6, .pointer (some ⟨b8, 0, none⟩)), (5, .pointer (some ⟨b2, 0, none⟩)), (0, .pointer (some ⟨bl, 0, none⟩)), (1, .pointer (some ⟨bm, pre.length, none⟩)), (2, .agg #[.int .u8 ev.kind, .int .u32 ev.pick, .int .u64 ev.arg]), (7, .bool false), (11, .pointer (some ⟨bl, 0, none⟩))]) (φ := True) (rest := [1, 2, 3]) h15 (by kernel_rfl) rfl trivial fun a17 h18 => ?_
  clear h15
  refine nd_op ?_
  refine op_call h18 rfl rfl rfl (callOk Tryf.func41 (by decide) rfl) (args := [.pointer (some ⟨bl, 0, none⟩)]) rfl (end_ok bl lg.base eo lg.evs.length ec (.slice mo lg.mks.length mc) (.slice so lg.sns.length sc) false _ (h18.kn (k := 0) rfl) hb0 (by omega) (by omega)) ?_
  rintro _ w19 ⟨rfl, hf21⟩
  refine ⟨_, rfl, ?_⟩
  have h20 := (h18.grow hf21).put (d := some 12) (v := .int .i64 (lg.base.idx + (lg.evs.length : Int))) (T' := [(12, .int .i64 (lg.base.idx + (lg.evs.length : Int))), (6, .pointer (some ⟨b8, 0, none⟩)), (5, .pointer (some ⟨b2, 0, none⟩)), (0, .pointer (some ⟨bl, 0, none⟩)), (1, .pointer (some ⟨bm, pre.length, none⟩)), (2, .agg #[.int .u8 ev.kind, .int .u32 ev.pick, .int .u64 ev.arg]), (7, .bool false), (11, .pointer (some ⟨bl, 0, none⟩))]) rfl
  clear h18
  refine nd_batch tabOk tabZ_ok [(2, {}), (3, {})] [6, 5, 0, 1, 2, 7, 8] (T' := [(6, .pointer (some ⟨b8, 0, none⟩)), (5, .pointer (some ⟨b2, 0, none⟩)), (0, .pointer (some ⟨bl, 0, none⟩)), (1, .pointer (some ⟨bm, pre.length, none⟩)), (2, .agg #[.int .u8 ev.kind, .int .u32 ev.pick, .int .u64 ev.arg]), (7, .bool false), (8, .int .i64 ((lg.base.idx + (lg.evs.length : Int)) + 1))]) (φ := inR .i64 ((lg.base.idx + (lg.evs.length : Int)) + 1) ∧ True) (rest := []) h20 (by kernel_rfl) rfl ⟨⟨by omega, by omega⟩, trivial⟩ fun a22 h23 => ?_
  clear h20
  refine nd_done ?_
  refine hK16 _ _ ?_
  clear hK16
  refine wp_seq_k fun K24 hK24 => ?_
  refine nd_start (l := [0, 1, 2]) rfl ?_
  refine nd_batch tabOk tabZ_ok [(0, {k := 2})] [6, 5, 0, 1, 2, 7, 8, 14] (T' := [(6, .pointer (some ⟨b8, 0, none⟩)), (5, .pointer (some ⟨b2, 0, none⟩)), (0, .pointer (some ⟨bl, 0, none⟩)), (1, .pointer (some ⟨bm, pre.length, none⟩)), (2, .agg #[.int .u8 ev.kind, .int .u32 ev.pick, .int .u64 ev.arg]), (7, .bool false), (8, .int .i64 ((lg.base.idx + (lg.evs.length : Int)) + 1)), (14, .agg #[.int .u8 ev.kind, .int .u32 ev.pick, .int .u64 ev.arg])]) (φ := (b2 = b2 ∧ Nat.ble (0 + 3) 3 = true) ∧ True) (rest := [1, 2]) h23 (by kernel_rfl) rfl ⟨⟨rfl, rfl⟩, trivial⟩ fun a25 h26 => ?_
  clear h23
  refine nd_op ?_
  refine op_call h26 rfl rfl rfl (callOk Tryf.func61 (by decide) rfl) (args := [.agg #[.int .u8 ev.kind, .int .u32 ev.pick, .int .u64 ev.arg]]) rfl (cost_ok ev he _) ?_
  rintro _ w27 ⟨rfl, hf29⟩
  refine ⟨_, rfl, ?_⟩
  have h28 := (h26.grow hf29).put (d := some 15) (v := .int .i64 (cost ev)) (T' := [(15, .int .i64 (cost ev)), (6, .pointer (some ⟨b8, 0, none⟩)), (5, .pointer (some ⟨b2, 0, none⟩)), (0, .pointer (some ⟨bl, 0, none⟩)), (1, .pointer (some ⟨bm, pre.length, none⟩)), (2, .agg #[.int .u8 ev.kind, .int .u32 ev.pick, .int .u64 ev.arg]), (7, .bool false), (8, .int .i64 ((lg.base.idx + (lg.evs.length : Int)) + 1)), (14, .agg #[.int .u8 ev.kind, .int .u32 ev.pick, .int .u64 ev.arg])]) rfl
  clear h26
  refine nd_batch tabOk tabZ_ok [(2, {})] [6, 5, 0, 1, 2, 7, 8, 9] (T' := [(6, .pointer (some ⟨b8, 0, none⟩)), (5, .pointer (some ⟨b2, 0, none⟩)), (0, .pointer (some ⟨bl, 0, none⟩)), (1, .pointer (some ⟨bm, pre.length, none⟩)), (2, .agg #[.int .u8 ev.kind, .int .u32 ev.pick, .int .u64 ev.arg]), (7, .bool false), (8, .int .i64 ((lg.base.idx + (lg.evs.length : Int)) + 1)), (9, .int .i64 (cost ev))]) (φ := True) (rest := []) h28 (by kernel_rfl) rfl trivial fun a30 h31 => ?_
  clear h28
  refine nd_done ?_
  refine hK24 _ _ ?_
  clear hK24
  refine wp_seq_k fun K32 hK32 => ?_
  refine wp_seq_k fun K33 hK33 => ?_
  refine nd_start (l := [0, 1, 2]) rfl ?_
  refine nd_batch tabOk tabZ_ok [(0, {}), (1, {}), (2, {})] [6, 5, 0, 1, 2, 7, 8, 9, 18] (T' := [(6, .pointer (some ⟨b8, 0, none⟩)), (5, .pointer (some ⟨b2, 0, none⟩)), (0, .pointer (some ⟨bl, 0, none⟩)), (1, .pointer (some ⟨bm, pre.length, none⟩)), (2, .agg #[.int .u8 ev.kind, .int .u32 ev.pick, .int .u64 ev.arg]), (7, .bool false), (8, .int .i64 ((lg.base.idx + (lg.evs.length : Int)) + 1)), (9, .int .i64 (cost ev)), (18, .bool ((((lg.base.idx + (lg.evs.length : Int)) + 1) % 8) == 0))]) (φ := (0 ≤ ((lg.base.idx + (lg.evs.length : Int)) + 1) ∧ 0 < (8 : Int)) ∧ True) (rest := []) h31 (by kernel_rfl) rfl ⟨⟨by omega, by omega⟩, trivial⟩ fun a34 h35 => ?_
  clear h31
  refine nd_done ?_
  refine hK33 _ _ ?_
  clear hK33
  refine c_split h35 (b := ((((lg.base.idx + (lg.evs.length : Int)) + 1) % 8) == 0)) rfl (fun hc36 => ?_) (fun hc36 => ?_)
  ·
    have hc36f : (((lg.base.idx + (lg.evs.length : Int)) + 1) % 8) = 0 := by simpa using hc36
    have hn8 : (((lg.base.idx + (lg.evs.length : Int)) + 1) % 8 = 0) := hc36f
    refine nd_start (l := [0, 1, 2]) rfl ?_
    refine nd_batch tabOk tabZ_ok [(0, {}), (1, {}), (2, {})] [6, 5, 0, 1, 2, 7, 8, 9] (T' := [(6, .pointer (some ⟨b8, 0, none⟩)), (5, .pointer (some ⟨b2, 0, none⟩)), (0, .pointer (some ⟨bl, 0, none⟩)), (1, .pointer (some ⟨bm, pre.length, none⟩)), (2, .agg #[.int .u8 ev.kind, .int .u32 ev.pick, .int .u64 ev.arg]), (7, .bool false), (8, .int .i64 ((lg.base.idx + (lg.evs.length : Int)) + 1)), (9, .int .i64 ((cost ev) + 10))]) (φ := inR .i64 ((cost ev) + 10) ∧ True) (rest := []) h35 (by kernel_rfl) rfl ⟨⟨by omega, by omega⟩, trivial⟩ fun a37 h38 => ?_
    clear h35
    refine nd_done ?_
    refine hK32 _ _ ?_
    clear hK32
    refine wp_seq_k fun K39 hK39 => ?_
    refine wp_seq_k fun K40 hK40 => ?_
    refine nd_start (l := [0, 1, 2, 3, 4]) rfl ?_
    refine nd_batch tabOk tabZ_ok [(0, {})] [6, 5, 0, 1, 2, 7, 8, 9, 21] (T' := [(6, .pointer (some ⟨b8, 0, none⟩)), (5, .pointer (some ⟨b2, 0, none⟩)), (0, .pointer (some ⟨bl, 0, none⟩)), (1, .pointer (some ⟨bm, pre.length, none⟩)), (2, .agg #[.int .u8 ev.kind, .int .u32 ev.pick, .int .u64 ev.arg]), (7, .bool false), (8, .int .i64 ((lg.base.idx + (lg.evs.length : Int)) + 1)), (9, .int .i64 ((cost ev) + 10)), (21, .pointer (some ⟨bl, 0, none⟩))]) (φ := True) (rest := [1, 2, 3, 4]) h38 (by kernel_rfl) rfl trivial fun a41 h42 => ?_
    clear h38
    refine nd_op ?_
    refine op_call h42 rfl rfl rfl (callOk Tryf.func62 (by decide) rfl) (args := [.pointer (some ⟨bl, 0, none⟩)]) rfl (used_ok bl ⟨eo, ec, eF, mo, mc, mF, so, sc, sF⟩ lg _ (LogAt.ofSt h42 (k := 0) rfl (List.Sublist.refl _)) hev hlen hml) ?_
    rintro _ w43 ⟨rfl, hf45⟩
    refine ⟨_, rfl, ?_⟩
    have h44 := (h42.grow hf45).put (d := some 22) (v := .int .i64 lg.used) (T' := [(22, .int .i64 lg.used), (6, .pointer (some ⟨b8, 0, none⟩)), (5, .pointer (some ⟨b2, 0, none⟩)), (0, .pointer (some ⟨bl, 0, none⟩)), (1, .pointer (some ⟨bm, pre.length, none⟩)), (2, .agg #[.int .u8 ev.kind, .int .u32 ev.pick, .int .u64 ev.arg]), (7, .bool false), (8, .int .i64 ((lg.base.idx + (lg.evs.length : Int)) + 1)), (9, .int .i64 ((cost ev) + 10)), (21, .pointer (some ⟨bl, 0, none⟩))]) rfl
    clear h42
    refine nd_batch tabOk tabZ_ok [(2, {}), (3, {}), (4, {})] [6, 5, 0, 1, 2, 7, 8, 9, 25] (T' := [(6, .pointer (some ⟨b8, 0, none⟩)), (5, .pointer (some ⟨b2, 0, none⟩)), (0, .pointer (some ⟨bl, 0, none⟩)), (1, .pointer (some ⟨bm, pre.length, none⟩)), (2, .agg #[.int .u8 ev.kind, .int .u32 ev.pick, .int .u64 ev.arg]), (7, .bool false), (8, .int .i64 ((lg.base.idx + (lg.evs.length : Int)) + 1)), (9, .int .i64 ((cost ev) + 10)), (25, .bool (decide ((lg.used + ((cost ev) + 10)) > 4096)))]) (φ := inR .i64 (lg.used + ((cost ev) + 10)) ∧ True) (rest := []) h44 (by kernel_rfl) rfl ⟨⟨by omega, by omega⟩, trivial⟩ fun a46 h47 => ?_
    clear h44
    refine nd_done ?_
    refine hK40 _ _ ?_
    clear hK40
    refine c_split h47 (b := decide ((lg.used + ((cost ev) + 10)) > 4096)) rfl (fun hc48 => ?_) (fun hc48 => ?_)
    ·
      have hc48f : (lg.used + ((cost ev) + 10)) > 4096 := by simpa using hc48
      have hnd : lg.need ev = cost ev + 10 := by unfold Lg.need Lg.fin; rw [if_pos hn8]
      have hfull : lg.full ev := by unfold Lg.full; omega
      refine wp_seq_k fun K49 hK49 => ?_
      refine nd_start (l := [0, 1, 2]) rfl ?_
      refine nd_batch tabOk tabZ_ok [(0, {})] [6, 5, 0, 1, 2, 7, 8, 9, 26] (T' := [(6, .pointer (some ⟨b8, 0, none⟩)), (5, .pointer (some ⟨b2, 0, none⟩)), (0, .pointer (some ⟨bl, 0, none⟩)), (1, .pointer (some ⟨bm, pre.length, none⟩)), (2, .agg #[.int .u8 ev.kind, .int .u32 ev.pick, .int .u64 ev.arg]), (7, .bool false), (8, .int .i64 ((lg.base.idx + (lg.evs.length : Int)) + 1)), (9, .int .i64 ((cost ev) + 10)), (26, .agg #[.bool false, .int .i8 0, .int .u64 0])]) (φ := True) (rest := [1, 2]) h47 (by kernel_rfl) rfl trivial fun a50 h51 => ?_
      clear h47
      refine nd_op ?_
      refine op_store tabOk {k := 3} (L' := [(bl, ⟨logC lg.base (.slice eo lg.evs.length ec) (.slice mo lg.mks.length mc) (.slice so lg.sns.length sc), 89, false⟩), (bm, ⟨pre ++ machC m ++ post, ty, false⟩), (b2, ⟨[.int .u8 ev.kind, .int .u32 ev.pick, .int .u64 ev.arg], 31, false⟩), (b8, ⟨[.bool false, .int .i8 0, .int .u64 0], 44, false⟩)]) (φ := b8 = b8 ∧ Nat.ble (0 + 3) 3 = true) h51 rfl rfl rfl (by kernel_rfl) ⟨rfl, rfl⟩ fun w52 h53 => ?_
      clear h51
      refine nd_batch tabOk tabZ_ok [(2, {})] [6, 5, 0, 1, 2, 8, 9, 7] (T' := [(6, .pointer (some ⟨b8, 0, none⟩)), (5, .pointer (some ⟨b2, 0, none⟩)), (0, .pointer (some ⟨bl, 0, none⟩)), (1, .pointer (some ⟨bm, pre.length, none⟩)), (2, .agg #[.int .u8 ev.kind, .int .u32 ev.pick, .int .u64 ev.arg]), (8, .int .i64 ((lg.base.idx + (lg.evs.length : Int)) + 1)), (9, .int .i64 ((cost ev) + 10)), (7, .bool false)]) (φ := True) (rest := []) h53 (by kernel_rfl) rfl trivial fun a54 h55 => ?_
      clear h53
      refine nd_done ?_
      refine hK49 _ _ ?_
      clear hK49
      refine wp_ret ?_
      try simp only [Exit.then, Exit.inBlock]
      try rw [if_pos trivial]
      exact s_ret tabOk tabZ_ok h55 [(.cell 6 44, {k := 3}), (.tmp 7, {})] (vs := [.agg #[.bool false, .int .i8 0, .int .u64 0], .bool false]) (φ := (b8 = b8 ∧ Nat.ble (0 + 3) 3 = true) ∧ True) rfl (by kernel_rfl) ⟨⟨rfl, rfl⟩, trivial⟩ (.inl ⟨hfull, rfl, h55.kn (k := 1) rfl, LogAt.ofSt h55 (k := 0) rfl (List.Sublist.refl _), h55.frame⟩)
    ·
      have hc48f : ¬ (lg.used + ((cost ev) + 10)) > 4096 := by simpa using hc48
      have hnd : lg.need ev = cost ev + 10 := by unfold Lg.need Lg.fin; rw [if_pos hn8]
      have hfull : ¬ lg.full ev := by unfold Lg.full; omega
      refine wp_skip ?_
      refine hK39 _ _ ?_
      clear hK39
      refine wp_seq_k fun K56 hK56 => ?_
      refine nd_start (l := [0, 1, 2, 3, 4]) rfl ?_
      refine nd_batch tabOk tabZ_ok [(0, {}), (1, {k := 2})] [6, 5, 0, 1, 2, 7, 8, 9, 27, 28] (T' := [(6, .pointer (some ⟨b8, 0, none⟩)), (5, .pointer (some ⟨b2, 0, none⟩)), (0, .pointer (some ⟨bl, 0, none⟩)), (1, .pointer (some ⟨bm, pre.length, none⟩)), (2, .agg #[.int .u8 ev.kind, .int .u32 ev.pick, .int .u64 ev.arg]), (7, .bool false), (8, .int .i64 ((lg.base.idx + (lg.evs.length : Int)) + 1)), (9, .int .i64 ((cost ev) + 10)), (27, .pointer (some ⟨bm, pre.length, none⟩)), (28, .agg #[.int .u8 ev.kind, .int .u32 ev.pick, .int .u64 ev.arg])]) (φ := (b2 = b2 ∧ Nat.ble (0 + 3) 3 = true) ∧ True) (rest := [2, 3, 4]) h47 (by kernel_rfl) rfl ⟨⟨rfl, rfl⟩, trivial⟩ fun a57 h58 => ?_
      clear h47
      refine nd_op ?_
      refine op_call h58 rfl rfl rfl (callOk Tryf.func63 (by decide) rfl) (args := [.pointer (some ⟨bm, pre.length, none⟩), .agg #[.int .u8 ev.kind, .int .u32 ev.pick, .int .u64 ev.arg]]) rfl (step_calls pre post m hm ev he bm ty false _ (h58.kn (k := 1) rfl)) ?_
      rintro _ w59 ⟨rfl, hbs, hf61⟩
      refine ⟨_, rfl, ?_⟩
      have h60 := (h58.setBlk (k := 1) rfl rfl hf61 hbs (L' := [(bl, ⟨logC lg.base (.slice eo lg.evs.length ec) (.slice mo lg.mks.length mc) (.slice so lg.sns.length sc), 89, false⟩), (bm, ⟨pre ++ machC ((kstep m ev).1) ++ post, ty, false⟩), (b2, ⟨[.int .u8 ev.kind, .int .u32 ev.pick, .int .u64 ev.arg], 31, false⟩), (b8, ⟨[.bool false, .int .i8 0, .int .u64 0], 44, false⟩)]) rfl).put (d := some 29) (v := .agg #[.bool ((kstep m ev).2.refused), .int .i8 ((kstep m ev).2.running), .int .u64 ((kstep m ev).2.value)]) (T' := [(29, .agg #[.bool ((kstep m ev).2.refused), .int .i8 ((kstep m ev).2.running), .int .u64 ((kstep m ev).2.value)]), (6, .pointer (some ⟨b8, 0, none⟩)), (5, .pointer (some ⟨b2, 0, none⟩)), (0, .pointer (some ⟨bl, 0, none⟩)), (1, .pointer (some ⟨bm, pre.length, none⟩)), (2, .agg #[.int .u8 ev.kind, .int .u32 ev.pick, .int .u64 ev.arg]), (7, .bool false), (8, .int .i64 ((lg.base.idx + (lg.evs.length : Int)) + 1)), (9, .int .i64 ((cost ev) + 10)), (27, .pointer (some ⟨bm, pre.length, none⟩)), (28, .agg #[.int .u8 ev.kind, .int .u32 ev.pick, .int .u64 ev.arg])]) rfl
      clear h58
      refine nd_op ?_
      refine op_new tabOk (cells := [.bool false, .int .i8 0, .int .u64 0]) (ty := 44) (ln := none) (L1 := fun b62 => [(bl, ⟨logC lg.base (.slice eo lg.evs.length ec) (.slice mo lg.mks.length mc) (.slice so lg.sns.length sc), 89, false⟩), (bm, ⟨pre ++ machC ((kstep m ev).1) ++ post, ty, false⟩), (b2, ⟨[.int .u8 ev.kind, .int .u32 ev.pick, .int .u64 ev.arg], 31, false⟩), (b8, ⟨[.bool false, .int .i8 0, .int .u64 0], 44, false⟩), (b62, ⟨[.bool false, .int .i8 0, .int .u64 0], 44, false⟩)]) h60 rfl rfl rfl rfl (by kernel_rfl) (fun _ => rfl) fun b62 w63 a64 h65 hf66 hn67 => ?_
      clear h60
      refine nd_op ?_
      refine op_store tabOk {k := 4} (L' := [(bl, ⟨logC lg.base (.slice eo lg.evs.length ec) (.slice mo lg.mks.length mc) (.slice so lg.sns.length sc), 89, false⟩), (bm, ⟨pre ++ machC ((kstep m ev).1) ++ post, ty, false⟩), (b2, ⟨[.int .u8 ev.kind, .int .u32 ev.pick, .int .u64 ev.arg], 31, false⟩), (b8, ⟨[.bool false, .int .i8 0, .int .u64 0], 44, false⟩), (b62, ⟨[.bool ((kstep m ev).2.refused), .int .i8 ((kstep m ev).2.running), .int .u64 ((kstep m ev).2.value)], 44, false⟩)]) (φ := b62 = b62 ∧ Nat.ble (0 + 3) 3 = true) h65 rfl rfl rfl (by kernel_rfl) ⟨rfl, rfl⟩ fun w68 h69 => ?_
      clear h65
      refine nd_done ?_
      refine hK56 _ _ ?_
      clear hK56
      refine wp_seq_k fun K70 hK70 => ?_
      refine dr_start (KB := [bl, bm, b2, b8, b62]) (Bi := [[0, 1, 2, 3, 4], [0, 1, 2, 3, 4], [0, 1, 2, 3, 4], [0, 1, 2, 3, 4], [0, 1, 2, 3, 4], [0, 1, 2, 3, 4], [0, 1, 2, 3, 4], [], [0, 1, 2, 3, 4], [0, 1, 2, 3, 4], []]) mixed h69 fun w71 h72 => ?_
      clear h69
      refine dr_batch tabOk tabZ_ok (by repeat (first | exact PF.body | with_reducible apply PF.inB | with_reducible apply PF.next)) [(0, {}), (1, {}), (2, {}), (3, {}), (4, {k := 0, p := 0}), (5, {k := 2, p := 2})] [10, 6, 5, 0, 1, 2, 7, 8, 9, 30, 34, 35] (T' := [(10, .pointer (some ⟨b62, 0, none⟩)), (6, .pointer (some ⟨b8, 0, none⟩)), (5, .pointer (some ⟨b2, 0, none⟩)), (0, .pointer (some ⟨bl, 0, none⟩)), (1, .pointer (some ⟨bm, pre.length, none⟩)), (2, .agg #[.int .u8 ev.kind, .int .u32 ev.pick, .int .u64 ev.arg]), (7, .bool false), (8, .int .i64 ((lg.base.idx + (lg.evs.length : Int)) + 1)), (9, .int .i64 ((cost ev) + 10)), (30, .pointer (some ⟨bl, 0, none⟩)), (34, .slice eo lg.evs.length ec), (35, .agg #[.int .u8 ev.kind, .int .u32 ev.pick, .int .u64 ev.arg])]) (φ := (bl = bl ∧ Nat.ble (15 + 1) 18 = true) ∧ (b2 = b2 ∧ Nat.ble (0 + 3) 3 = true) ∧ True) (fuel := 5) h72 (by kernel_rfl) rfl (by kernel_rfl) (by kernel_rfl) ⟨trivial, trivial, trivial, trivial, rfl, rfl, trivial⟩ ⟨⟨rfl, rfl⟩, ⟨rfl, rfl⟩, trivial⟩ fun a74 h75 => ?_
      clear h72
      refine wpAnyK_one (i := 6) (fuel := 4) (by kernel_rfl) ?_
      refine op_new tabOk (cells := [.int .u8 ev.kind, .int .u32 ev.pick, .int .u64 ev.arg]) (ty := 31) (ln := (some 1)) (L1 := fun b76 => [(bl, ⟨logC lg.base (.slice eo lg.evs.length ec) (.slice mo lg.mks.length mc) (.slice so lg.sns.length sc), 89, false⟩), (bm, ⟨pre ++ machC ((kstep m ev).1) ++ post, ty, false⟩), (b2, ⟨[.int .u8 ev.kind, .int .u32 ev.pick, .int .u64 ev.arg], 31, false⟩), (b8, ⟨[.bool false, .int .i8 0, .int .u64 0], 44, false⟩), (b62, ⟨[.bool ((kstep m ev).2.refused), .int .i8 ((kstep m ev).2.running), .int .u64 ((kstep m ev).2.value)], 44, false⟩), (b76, ⟨[.int .u8 ev.kind, .int .u32 ev.pick, .int .u64 ev.arg], 31, false⟩)]) h75 rfl rfl rfl rfl (by kernel_rfl) (fun _ => rfl) fun b76 w77 a78 h79 hf80 hn81 => ?_
      refine ⟨(h75.keepFr hf80 (kcons (by simp) (kcons (by simp) (kcons (by simp) (kcons (by simp) (kcons (by simp) knil)))))), ?_⟩
      clear h75
      refine wpAnyK_one (i := 7) (fuel := 3) (by kernel_rfl) ?_
      refine op_append tabOk (e := 31) (so := eo) (n := lg.evs.length) (c := ec) (xo := some ⟨b76, 0, none⟩) (m := 1) (cx := 1) (vals := lg.evs.flatMap evC) (vs := [.int .u8 ev.kind, .int .u32 ev.pick, .int .u64 ev.arg]) (F := eF) h79 rfl rfl rfl rfl rfl rfl rfl rfl rfl rfl rfl rfl (h79.inv.get (j := 0) rfl) (src_one (h79.kn (k := 5) rfl) rfl ⟨rfl, rfl, rfl, trivial⟩) (by omega) rfl ?_
      intro o82 c83 F84 w85 hr86 hf87 hF88
      have hr862 := rl_app1 (enc := evC) (xs := lg.evs) (y := ev) hr86
      have hKh89 := row1_keys (K := (bm :: bl :: (eF ++ (mF ++ (sF ++ []))))) (fun b hb => .inl (by simp [hb])) h79.frame.size hF88
      rw [show lg.evs.length + 1 = (lg.evs ++ [ev]).length by simp]
      have h89 := (h79.rowSet (j := 0) (r' := rl evC 31 3 (lg.evs ++ [ev]) o82 c83 F84) (R' := [rl evC 31 3 (lg.evs ++ [ev]) o82 c83 F84, rl mkC 93 2 lg.mks mo mc mF, rl ptC 84 15 lg.sns so sc sF]) rfl hr862 hf87 hF88 (fun b hb => .inl (by simp [hb])) (kcons (by intro hq; cases hq) (kcons (by intro hq; cases hq) (kcons (by intro hq; cases hq) (kcons (by intro hq; cases hq) (kcons (by intro hq; cases hq) (kcons (by intro hq; cases hq) knil)))))) rfl).put (d := some 37) (v := .slice o82 ((lg.evs ++ [ev]).length) c83) (T' := [(37, .slice o82 ((lg.evs ++ [ev]).length) c83), (36, .slice (some ⟨b76, 0, none⟩) 1 1), (10, .pointer (some ⟨b62, 0, none⟩)), (6, .pointer (some ⟨b8, 0, none⟩)), (5, .pointer (some ⟨b2, 0, none⟩)), (0, .pointer (some ⟨bl, 0, none⟩)), (1, .pointer (some ⟨bm, pre.length, none⟩)), (2, .agg #[.int .u8 ev.kind, .int .u32 ev.pick, .int .u64 ev.arg]), (7, .bool false), (8, .int .i64 ((lg.base.idx + (lg.evs.length : Int)) + 1)), (9, .int .i64 ((cost ev) + 10)), (30, .pointer (some ⟨bl, 0, none⟩)), (34, .slice eo lg.evs.length ec), (35, .agg #[.int .u8 ev.kind, .int .u32 ev.pick, .int .u64 ev.arg])]) rfl
      have hkh89 := h79.known
      refine ⟨keepNil, ?_⟩
      clear h79
      refine dr_batch tabOk tabZ_ok (by repeat (first | exact PF.body | with_reducible apply PF.inB | with_reducible apply PF.next)) [(8, {}), (9, {})] [37, 10, 6, 5, 0, 1, 2, 7, 8, 9, 39] (T' := [(37, .slice o82 ((lg.evs ++ [ev]).length) c83), (10, .pointer (some ⟨b62, 0, none⟩)), (6, .pointer (some ⟨b8, 0, none⟩)), (5, .pointer (some ⟨b2, 0, none⟩)), (0, .pointer (some ⟨bl, 0, none⟩)), (1, .pointer (some ⟨bm, pre.length, none⟩)), (2, .agg #[.int .u8 ev.kind, .int .u32 ev.pick, .int .u64 ev.arg]), (7, .bool false), (8, .int .i64 ((lg.base.idx + (lg.evs.length : Int)) + 1)), (9, .int .i64 ((cost ev) + 10)), (39, .pointer (some ⟨bl, 15, none⟩))]) (φ := True) (fuel := 1) h89 (by kernel_rfl) rfl (by kernel_rfl) (by kernel_rfl) ⟨trivial, trivial, trivial⟩ trivial fun a90 h91 => ?_
      clear h89
      refine wpAnyK_one (i := 10) (fuel := 0) (by kernel_rfl) ?_
      refine op_store tabOk {k := 0} (L' := [(bl, ⟨[.int .i64 lg.base.idx, .int .u64 lg.base.st.now, .int .i8 lg.base.st.cur, .int .u8 lg.base.st.s0, .int .u8 lg.base.st.s1, .int .u8 lg.base.st.s2, .int .u8 lg.base.st.s3, .int .u64 lg.base.st.r0, .int .u64 lg.base.st.r1, .int .u64 lg.base.st.r2, .int .u64 lg.base.st.r3, .int .u64 lg.base.st.word, .bool lg.base.out.refused, .int .i8 lg.base.out.running, .int .u64 lg.base.out.value, .slice o82 ((lg.evs ++ [ev]).length) c83, .slice mo lg.mks.length mc, .slice so lg.sns.length sc], 89, false⟩), (bm, ⟨pre ++ machC ((kstep m ev).1) ++ post, ty, false⟩), (b2, ⟨[.int .u8 ev.kind, .int .u32 ev.pick, .int .u64 ev.arg], 31, false⟩), (b8, ⟨[.bool false, .int .i8 0, .int .u64 0], 44, false⟩), (b62, ⟨[.bool ((kstep m ev).2.refused), .int .i8 ((kstep m ev).2.running), .int .u64 ((kstep m ev).2.value)], 44, false⟩), (b76, ⟨[.int .u8 ev.kind, .int .u32 ev.pick, .int .u64 ev.arg], 31, false⟩)]) (φ := bl = bl ∧ Nat.ble (15 + 1) 18 = true) h91 rfl rfl rfl (by kernel_rfl) ⟨rfl, rfl⟩ fun w92 h93 => ?_
      have hkh93 := h91.known
      refine ⟨keepNil, ?_⟩
      clear h91
      refine wpAnyK_done (by kernel_rfl) ?_ _
      refine hK70 _ _ ?_
      clear hK70
      refine wp_seq_k fun K94 hK94 => ?_
      refine wp_seq_k fun K95 hK95 => ?_
      refine nd_start (l := [0, 1, 2]) rfl ?_
      refine nd_batch tabOk tabZ_ok [(0, {}), (1, {}), (2, {})] [10, 6, 5, 0, 1, 2, 7, 8, 9, 42] (T' := [(10, .pointer (some ⟨b62, 0, none⟩)), (6, .pointer (some ⟨b8, 0, none⟩)), (5, .pointer (some ⟨b2, 0, none⟩)), (0, .pointer (some ⟨bl, 0, none⟩)), (1, .pointer (some ⟨bm, pre.length, none⟩)), (2, .agg #[.int .u8 ev.kind, .int .u32 ev.pick, .int .u64 ev.arg]), (7, .bool false), (8, .int .i64 ((lg.base.idx + (lg.evs.length : Int)) + 1)), (9, .int .i64 ((cost ev) + 10)), (42, .bool ((((lg.base.idx + (lg.evs.length : Int)) + 1) % 8) == 0))]) (φ := (0 ≤ ((lg.base.idx + (lg.evs.length : Int)) + 1) ∧ 0 < (8 : Int)) ∧ True) (rest := []) h93 (by kernel_rfl) rfl ⟨⟨by omega, by omega⟩, trivial⟩ fun a96 h97 => ?_
      clear h93
      refine nd_done ?_
      refine hK95 _ _ ?_
      clear hK95
      refine c_split h97 (b := ((((lg.base.idx + (lg.evs.length : Int)) + 1) % 8) == 0)) rfl (fun hc98 => ?_) (fun hc98 => ?_)
      ·
        have hc98f : (((lg.base.idx + (lg.evs.length : Int)) + 1) % 8) = 0 := by simpa using hc98
        refine dr_start (KB := [bl, bm, b2, b8, b62, b76]) (Bi := [[0, 1, 2, 3, 4, 5], [0, 1, 2, 3, 4, 5], [0, 1, 2, 3, 4, 5], [0, 1, 2, 3, 4, 5], [0, 1, 2, 3, 4, 5], [0, 1, 2, 3, 4, 5], [0, 1, 2, 3, 4, 5], [0], [0, 1, 2, 3, 4, 5], [0, 1, 2, 3, 4, 5], [], [0, 1, 2, 3, 4, 5], [0, 1, 2, 3, 4, 5], []]) mixed h97 fun w99 h100 => ?_
        clear h97
        refine dr_batch tabOk tabZ_ok (by repeat (first | exact PF.body | with_reducible apply PF.inB | with_reducible apply PF.next)) [(0, {}), (1, {}), (2, {}), (3, {}), (4, {k := 0, p := 0}), (5, {}), (6, {})] [10, 6, 5, 0, 1, 2, 7, 8, 9, 43, 47, 48, 49] (T' := [(10, .pointer (some ⟨b62, 0, none⟩)), (6, .pointer (some ⟨b8, 0, none⟩)), (5, .pointer (some ⟨b2, 0, none⟩)), (0, .pointer (some ⟨bl, 0, none⟩)), (1, .pointer (some ⟨bm, pre.length, none⟩)), (2, .agg #[.int .u8 ev.kind, .int .u32 ev.pick, .int .u64 ev.arg]), (7, .bool false), (8, .int .i64 ((lg.base.idx + (lg.evs.length : Int)) + 1)), (9, .int .i64 ((cost ev) + 10)), (43, .pointer (some ⟨bl, 0, none⟩)), (47, .slice mo lg.mks.length mc), (48, .int .i64 ((lg.base.idx + (lg.evs.length : Int)) + 1)), (49, .pointer (some ⟨bm, pre.length, none⟩))]) (φ := (bl = bl ∧ Nat.ble (16 + 1) 18 = true) ∧ True) (fuel := 7) h100 (by kernel_rfl) rfl (by kernel_rfl) (by kernel_rfl) ⟨trivial, trivial, trivial, trivial, rfl, trivial, trivial, trivial⟩ ⟨⟨rfl, rfl⟩, trivial⟩ fun a102 h103 => ?_
        clear h100
        refine wpAnyK_one (i := 7) (fuel := 6) (by kernel_rfl) ?_
        refine op_call h103 rfl rfl rfl (callOk Tryf.func51 (by decide) rfl) (args := [.pointer (some ⟨bm, pre.length, none⟩)]) rfl (digest_ok pre post (kstep m ev).1 (kstep_ok hm he) bm ty false _ (h103.kn (k := 1) rfl)) ?_
        rintro _ w104 ⟨rfl, hf106⟩
        refine ⟨_, rfl, ?_⟩
        have h105 := (h103.grow hf106).put (d := some 50) (v := .int .u64 (dig (kstep m ev).1)) (T' := [(50, .int .u64 (dig (kstep m ev).1)), (10, .pointer (some ⟨b62, 0, none⟩)), (6, .pointer (some ⟨b8, 0, none⟩)), (5, .pointer (some ⟨b2, 0, none⟩)), (0, .pointer (some ⟨bl, 0, none⟩)), (1, .pointer (some ⟨bm, pre.length, none⟩)), (2, .agg #[.int .u8 ev.kind, .int .u32 ev.pick, .int .u64 ev.arg]), (7, .bool false), (8, .int .i64 ((lg.base.idx + (lg.evs.length : Int)) + 1)), (9, .int .i64 ((cost ev) + 10)), (43, .pointer (some ⟨bl, 0, none⟩)), (47, .slice mo lg.mks.length mc), (48, .int .i64 ((lg.base.idx + (lg.evs.length : Int)) + 1)), (49, .pointer (some ⟨bm, pre.length, none⟩))]) rfl
        refine ⟨(h103.keepFr hf106 (kcons (by simp) knil)), ?_⟩
        clear h103
        refine dr_batch tabOk tabZ_ok (by repeat (first | exact PF.body | with_reducible apply PF.inB | with_reducible apply PF.next)) [(8, {})] [10, 6, 5, 0, 1, 2, 7, 8, 9, 43, 47, 51] (T' := [(10, .pointer (some ⟨b62, 0, none⟩)), (6, .pointer (some ⟨b8, 0, none⟩)), (5, .pointer (some ⟨b2, 0, none⟩)), (0, .pointer (some ⟨bl, 0, none⟩)), (1, .pointer (some ⟨bm, pre.length, none⟩)), (2, .agg #[.int .u8 ev.kind, .int .u32 ev.pick, .int .u64 ev.arg]), (7, .bool false), (8, .int .i64 ((lg.base.idx + (lg.evs.length : Int)) + 1)), (9, .int .i64 ((cost ev) + 10)), (43, .pointer (some ⟨bl, 0, none⟩)), (47, .slice mo lg.mks.length mc), (51, .agg #[.int .i64 ((lg.base.idx + (lg.evs.length : Int)) + 1), .int .u64 (dig (kstep m ev).1)])]) (φ := True) (fuel := 5) h105 (by kernel_rfl) rfl (by kernel_rfl) (by kernel_rfl) ⟨trivial, trivial⟩ trivial fun a107 h108 => ?_
        clear h105
        refine wpAnyK_one (i := 9) (fuel := 4) (by kernel_rfl) ?_
        refine op_new tabOk (cells := [.int .i64 ((lg.base.idx + (lg.evs.length : Int)) + 1), .int .u64 (dig (kstep m ev).1)]) (ty := 93) (ln := (some 1)) (L1 := fun b109 => [(bl, ⟨[.int .i64 lg.base.idx, .int .u64 lg.base.st.now, .int .i8 lg.base.st.cur, .int .u8 lg.base.st.s0, .int .u8 lg.base.st.s1, .int .u8 lg.base.st.s2, .int .u8 lg.base.st.s3, .int .u64 lg.base.st.r0, .int .u64 lg.base.st.r1, .int .u64 lg.base.st.r2, .int .u64 lg.base.st.r3, .int .u64 lg.base.st.word, .bool lg.base.out.refused, .int .i8 lg.base.out.running, .int .u64 lg.base.out.value, .slice o82 ((lg.evs ++ [ev]).length) c83, .slice mo lg.mks.length mc, .slice so lg.sns.length sc], 89, false⟩), (bm, ⟨pre ++ machC ((kstep m ev).1) ++ post, ty, false⟩), (b2, ⟨[.int .u8 ev.kind, .int .u32 ev.pick, .int .u64 ev.arg], 31, false⟩), (b8, ⟨[.bool false, .int .i8 0, .int .u64 0], 44, false⟩), (b62, ⟨[.bool ((kstep m ev).2.refused), .int .i8 ((kstep m ev).2.running), .int .u64 ((kstep m ev).2.value)], 44, false⟩), (b76, ⟨[.int .u8 ev.kind, .int .u32 ev.pick, .int .u64 ev.arg], 31, false⟩), (b109, ⟨[.int .i64 ((lg.base.idx + (lg.evs.length : Int)) + 1), .int .u64 (dig (kstep m ev).1)], 93, false⟩)]) h108 rfl rfl rfl rfl (by kernel_rfl) (fun _ => rfl) fun b109 w110 a111 h112 hf113 hn114 => ?_
        refine ⟨(h108.keepFr hf113 (kcons (by simp) (kcons (by simp) (kcons (by simp) (kcons (by simp) (kcons (by simp) (kcons (by simp) knil))))))), ?_⟩
        clear h108
        refine wpAnyK_one (i := 10) (fuel := 3) (by kernel_rfl) ?_
        refine op_append tabOk (e := 93) (so := mo) (n := lg.mks.length) (c := mc) (xo := some ⟨b109, 0, none⟩) (m := 1) (cx := 1) (vals := lg.mks.flatMap mkC) (vs := [.int .i64 ((lg.base.idx + (lg.evs.length : Int)) + 1), .int .u64 (dig (kstep m ev).1)]) (F := mF) h112 rfl rfl rfl rfl rfl rfl rfl rfl rfl rfl rfl rfl (h112.inv.get (j := 1) rfl) (src_one (h112.kn (k := 6) rfl) rfl ⟨rfl, rfl, trivial⟩) (by omega) rfl ?_
        intro o115 c116 F117 w118 hr119 hf120 hF121
        have hr1192 := rl_app1 (enc := mkC) (xs := lg.mks) (y := (⟨((lg.base.idx + (lg.evs.length : Int)) + 1), dig (kstep m ev).1⟩ : Mk)) hr119
        have hKh122 := row1_keys (K := (bm :: bl :: (eF ++ (mF ++ (sF ++ []))))) (fun b hb => .inl (by simp [hb])) h112.frame.size hF121
        rw [show lg.mks.length + 1 = (lg.mks ++ [(⟨((lg.base.idx + (lg.evs.length : Int)) + 1), dig (kstep m ev).1⟩ : Mk)]).length by simp]
        have h122 := (h112.rowSet (j := 1) (r' := rl mkC 93 2 (lg.mks ++ [(⟨((lg.base.idx + (lg.evs.length : Int)) + 1), dig (kstep m ev).1⟩ : Mk)]) o115 c116 F117) (R' := [rl evC 31 3 (lg.evs ++ [ev]) o82 c83 F84, rl mkC 93 2 (lg.mks ++ [(⟨((lg.base.idx + (lg.evs.length : Int)) + 1), dig (kstep m ev).1⟩ : Mk)]) o115 c116 F117, rl ptC 84 15 lg.sns so sc sF]) rfl hr1192 hf120 hF121 (fun b hb => .inl (by simp [hb])) (kcons (by intro hq; cases hq) (kcons (by intro hq; cases hq) (kcons (by intro hq; cases hq) (kcons (by intro hq; cases hq) (kcons (by intro hq; cases hq) (kcons (by intro hq; cases hq) (kcons (by intro hq; cases hq) knil))))))) rfl).put (d := some 53) (v := .slice o115 ((lg.mks ++ [(⟨((lg.base.idx + (lg.evs.length : Int)) + 1), dig (kstep m ev).1⟩ : Mk)]).length) c116) (T' := [(53, .slice o115 ((lg.mks ++ [(⟨((lg.base.idx + (lg.evs.length : Int)) + 1), dig (kstep m ev).1⟩ : Mk)]).length) c116), (52, .slice (some ⟨b109, 0, none⟩) 1 1), (10, .pointer (some ⟨b62, 0, none⟩)), (6, .pointer (some ⟨b8, 0, none⟩)), (5, .pointer (some ⟨b2, 0, none⟩)), (0, .pointer (some ⟨bl, 0, none⟩)), (1, .pointer (some ⟨bm, pre.length, none⟩)), (2, .agg #[.int .u8 ev.kind, .int .u32 ev.pick, .int .u64 ev.arg]), (7, .bool false), (8, .int .i64 ((lg.base.idx + (lg.evs.length : Int)) + 1)), (9, .int .i64 ((cost ev) + 10)), (43, .pointer (some ⟨bl, 0, none⟩)), (47, .slice mo lg.mks.length mc), (51, .agg #[.int .i64 ((lg.base.idx + (lg.evs.length : Int)) + 1), .int .u64 (dig (kstep m ev).1)])]) rfl
        have hkh122 := h112.known
        refine ⟨keepNil, ?_⟩
        clear h112
        refine dr_batch tabOk tabZ_ok (by repeat (first | exact PF.body | with_reducible apply PF.inB | with_reducible apply PF.next)) [(11, {}), (12, {})] [53, 10, 6, 5, 0, 1, 2, 7, 8, 9, 55] (T' := [(53, .slice o115 ((lg.mks ++ [(⟨((lg.base.idx + (lg.evs.length : Int)) + 1), dig (kstep m ev).1⟩ : Mk)]).length) c116), (10, .pointer (some ⟨b62, 0, none⟩)), (6, .pointer (some ⟨b8, 0, none⟩)), (5, .pointer (some ⟨b2, 0, none⟩)), (0, .pointer (some ⟨bl, 0, none⟩)), (1, .pointer (some ⟨bm, pre.length, none⟩)), (2, .agg #[.int .u8 ev.kind, .int .u32 ev.pick, .int .u64 ev.arg]), (7, .bool false), (8, .int .i64 ((lg.base.idx + (lg.evs.length : Int)) + 1)), (9, .int .i64 ((cost ev) + 10)), (55, .pointer (some ⟨bl, 16, none⟩))]) (φ := True) (fuel := 1) h122 (by kernel_rfl) rfl (by kernel_rfl) (by kernel_rfl) ⟨trivial, trivial, trivial⟩ trivial fun a123 h124 => ?_
        clear h122
        refine wpAnyK_one (i := 13) (fuel := 0) (by kernel_rfl) ?_
        refine op_store tabOk {k := 0} (L' := [(bl, ⟨[.int .i64 lg.base.idx, .int .u64 lg.base.st.now, .int .i8 lg.base.st.cur, .int .u8 lg.base.st.s0, .int .u8 lg.base.st.s1, .int .u8 lg.base.st.s2, .int .u8 lg.base.st.s3, .int .u64 lg.base.st.r0, .int .u64 lg.base.st.r1, .int .u64 lg.base.st.r2, .int .u64 lg.base.st.r3, .int .u64 lg.base.st.word, .bool lg.base.out.refused, .int .i8 lg.base.out.running, .int .u64 lg.base.out.value, .slice o82 ((lg.evs ++ [ev]).length) c83, .slice o115 ((lg.mks ++ [(⟨((lg.base.idx + (lg.evs.length : Int)) + 1), dig (kstep m ev).1⟩ : Mk)]).length) c116, .slice so lg.sns.length sc], 89, false⟩), (bm, ⟨pre ++ machC ((kstep m ev).1) ++ post, ty, false⟩), (b2, ⟨[.int .u8 ev.kind, .int .u32 ev.pick, .int .u64 ev.arg], 31, false⟩), (b8, ⟨[.bool false, .int .i8 0, .int .u64 0], 44, false⟩), (b62, ⟨[.bool ((kstep m ev).2.refused), .int .i8 ((kstep m ev).2.running), .int .u64 ((kstep m ev).2.value)], 44, false⟩), (b76, ⟨[.int .u8 ev.kind, .int .u32 ev.pick, .int .u64 ev.arg], 31, false⟩), (b109, ⟨[.int .i64 ((lg.base.idx + (lg.evs.length : Int)) + 1), .int .u64 (dig (kstep m ev).1)], 93, false⟩)]) (φ := bl = bl ∧ Nat.ble (16 + 1) 18 = true) h124 rfl rfl rfl (by kernel_rfl) ⟨rfl, rfl⟩ fun w125 h126 => ?_
        have hkh126 := h124.known
        refine ⟨keepNil, ?_⟩
        clear h124
        refine wpAnyK_done (by kernel_rfl) ?_ _
        refine hK94 _ _ ?_
        clear hK94
        refine wp_seq_k fun K127 hK127 => ?_
        refine wp_seq_k fun K128 hK128 => ?_
        refine nd_start (l := [0, 1, 2]) rfl ?_
        refine nd_batch tabOk tabZ_ok [(0, {}), (1, {}), (2, {})] [10, 6, 5, 0, 1, 2, 7, 8, 9, 58] (T' := [(10, .pointer (some ⟨b62, 0, none⟩)), (6, .pointer (some ⟨b8, 0, none⟩)), (5, .pointer (some ⟨b2, 0, none⟩)), (0, .pointer (some ⟨bl, 0, none⟩)), (1, .pointer (some ⟨bm, pre.length, none⟩)), (2, .agg #[.int .u8 ev.kind, .int .u32 ev.pick, .int .u64 ev.arg]), (7, .bool false), (8, .int .i64 ((lg.base.idx + (lg.evs.length : Int)) + 1)), (9, .int .i64 ((cost ev) + 10)), (58, .bool ((((lg.base.idx + (lg.evs.length : Int)) + 1) % 32) == 0))]) (φ := (0 ≤ ((lg.base.idx + (lg.evs.length : Int)) + 1) ∧ 0 < (32 : Int)) ∧ True) (rest := []) h126 (by kernel_rfl) rfl ⟨⟨by omega, by omega⟩, trivial⟩ fun a129 h130 => ?_
        clear h126
        refine nd_done ?_
        refine hK128 _ _ ?_
        clear hK128
        refine c_split h130 (b := ((((lg.base.idx + (lg.evs.length : Int)) + 1) % 32) == 0)) rfl (fun hc131 => ?_) (fun hc131 => ?_)
        ·
          have hc131f : (((lg.base.idx + (lg.evs.length : Int)) + 1) % 32) = 0 := by simpa using hc131
          have hn32 : (((lg.base.idx + (lg.evs.length : Int)) + 1) % 32 = 0) := hc131f
          refine wp_seq_k fun K132 hK132 => ?_
          refine dr_start (KB := [bl, bm, b2, b8, b62, b76, b109]) (Bi := [[0, 1, 2, 3, 4, 5, 6], [0, 1, 2, 3, 4, 5, 6], [0, 1, 2, 3, 4, 5, 6], [0, 1, 2, 3, 4, 5, 6], [0, 1, 2, 3, 4, 5, 6], [0, 1, 2, 3, 4, 5, 6], [0, 1, 2, 3, 4, 5, 6], [0, 1, 2, 3, 4, 5, 6], [0, 1, 2, 3, 4, 5, 6], [0, 1, 2, 3, 4, 5, 6], [0, 1, 2, 3, 4, 5, 6], [0, 1, 2, 3, 4, 5, 6], [], [0, 1, 2, 3, 4, 5, 6], [0, 1, 2, 3, 4, 5, 6], []]) mixed h130 fun w133 h134 => ?_
          clear h130
          refine dr_batch tabOk tabZ_ok (by repeat (first | exact PF.body | with_reducible apply PF.inB | with_reducible apply PF.next)) [(0, {}), (1, {}), (2, {}), (3, {}), (4, {k := 0, p := 0}), (5, {}), (6, {}), (7, {}), (8, {k := 1, m := 1, vs := [.int .u64 (((kstep m ev).1).now), .int .i8 (((kstep m ev).1).cur), .int .u8 (((kstep m ev).1).s0), .int .u8 (((kstep m ev).1).s1), .int .u8 (((kstep m ev).1).s2), .int .u8 (((kstep m ev).1).s3), .int .u64 (((kstep m ev).1).r0), .int .u64 (((kstep m ev).1).r1), .int .u64 (((kstep m ev).1).r2), .int .u64 (((kstep m ev).1).r3), .int .u64 (((kstep m ev).1).word)], p := 1}), (9, {k := 4, p := 4}), (10, {})] [10, 6, 5, 0, 1, 2, 7, 8, 9, 59, 63, 69] (T' := [(10, .pointer (some ⟨b62, 0, none⟩)), (6, .pointer (some ⟨b8, 0, none⟩)), (5, .pointer (some ⟨b2, 0, none⟩)), (0, .pointer (some ⟨bl, 0, none⟩)), (1, .pointer (some ⟨bm, pre.length, none⟩)), (2, .agg #[.int .u8 ev.kind, .int .u32 ev.pick, .int .u64 ev.arg]), (7, .bool false), (8, .int .i64 ((lg.base.idx + (lg.evs.length : Int)) + 1)), (9, .int .i64 ((cost ev) + 10)), (59, .pointer (some ⟨bl, 0, none⟩)), (63, .slice so lg.sns.length sc), (69, .agg #[.int .i64 ((lg.base.idx + (lg.evs.length : Int)) + 1), .int .u64 (((kstep m ev).1).now), .int .i8 (((kstep m ev).1).cur), .int .u8 (((kstep m ev).1).s0), .int .u8 (((kstep m ev).1).s1), .int .u8 (((kstep m ev).1).s2), .int .u8 (((kstep m ev).1).s3), .int .u64 (((kstep m ev).1).r0), .int .u64 (((kstep m ev).1).r1), .int .u64 (((kstep m ev).1).r2), .int .u64 (((kstep m ev).1).r3), .int .u64 (((kstep m ev).1).word), .bool ((kstep m ev).2.refused), .int .i8 ((kstep m ev).2.running), .int .u64 ((kstep m ev).2.value)])]) (φ := (bl = bl ∧ Nat.ble (17 + 1) 18 = true) ∧ (bm = bm ∧ cellsAre (pre ++ machC ((kstep m ev).1) ++ post) pre.length [.int .u64 (((kstep m ev).1).now), .int .i8 (((kstep m ev).1).cur), .int .u8 (((kstep m ev).1).s0), .int .u8 (((kstep m ev).1).s1), .int .u8 (((kstep m ev).1).s2), .int .u8 (((kstep m ev).1).s3), .int .u64 (((kstep m ev).1).r0), .int .u64 (((kstep m ev).1).r1), .int .u64 (((kstep m ev).1).r2), .int .u64 (((kstep m ev).1).r3), .int .u64 (((kstep m ev).1).word)]) ∧ (b62 = b62 ∧ Nat.ble (0 + 3) 3 = true) ∧ True) (fuel := 5) h134 (by kernel_rfl) rfl (by kernel_rfl) (by kernel_rfl) ⟨trivial, trivial, trivial, trivial, rfl, trivial, trivial, trivial, rfl, rfl, trivial, trivial⟩ ⟨⟨rfl, rfl⟩, ⟨rfl, (mid_all pre post ((kstep m ev).1))⟩, ⟨rfl, rfl⟩, trivial⟩ fun a136 h137 => ?_
          clear h134
          refine wpAnyK_one (i := 11) (fuel := 4) (by kernel_rfl) ?_
          refine op_new tabOk (cells := [.int .i64 ((lg.base.idx + (lg.evs.length : Int)) + 1), .int .u64 (((kstep m ev).1).now), .int .i8 (((kstep m ev).1).cur), .int .u8 (((kstep m ev).1).s0), .int .u8 (((kstep m ev).1).s1), .int .u8 (((kstep m ev).1).s2), .int .u8 (((kstep m ev).1).s3), .int .u64 (((kstep m ev).1).r0), .int .u64 (((kstep m ev).1).r1), .int .u64 (((kstep m ev).1).r2), .int .u64 (((kstep m ev).1).r3), .int .u64 (((kstep m ev).1).word), .bool ((kstep m ev).2.refused), .int .i8 ((kstep m ev).2.running), .int .u64 ((kstep m ev).2.value)]) (ty := 84) (ln := (some 1)) (L1 := fun b138 => [(bl, ⟨[.int .i64 lg.base.idx, .int .u64 lg.base.st.now, .int .i8 lg.base.st.cur, .int .u8 lg.base.st.s0, .int .u8 lg.base.st.s1, .int .u8 lg.base.st.s2, .int .u8 lg.base.st.s3, .int .u64 lg.base.st.r0, .int .u64 lg.base.st.r1, .int .u64 lg.base.st.r2, .int .u64 lg.base.st.r3, .int .u64 lg.base.st.word, .bool lg.base.out.refused, .int .i8 lg.base.out.running, .int .u64 lg.base.out.value, .slice o82 ((lg.evs ++ [ev]).length) c83, .slice o115 ((lg.mks ++ [(⟨((lg.base.idx + (lg.evs.length : Int)) + 1), dig (kstep m ev).1⟩ : Mk)]).length) c116, .slice so lg.sns.length sc], 89, false⟩), (bm, ⟨pre ++ machC ((kstep m ev).1) ++ post, ty, false⟩), (b2, ⟨[.int .u8 ev.kind, .int .u32 ev.pick, .int .u64 ev.arg], 31, false⟩), (b8, ⟨[.bool false, .int .i8 0, .int .u64 0], 44, false⟩), (b62, ⟨[.bool ((kstep m ev).2.refused), .int .i8 ((kstep m ev).2.running), .int .u64 ((kstep m ev).2.value)], 44, false⟩), (b76, ⟨[.int .u8 ev.kind, .int .u32 ev.pick, .int .u64 ev.arg], 31, false⟩), (b109, ⟨[.int .i64 ((lg.base.idx + (lg.evs.length : Int)) + 1), .int .u64 (dig (kstep m ev).1)], 93, false⟩), (b138, ⟨[.int .i64 ((lg.base.idx + (lg.evs.length : Int)) + 1), .int .u64 (((kstep m ev).1).now), .int .i8 (((kstep m ev).1).cur), .int .u8 (((kstep m ev).1).s0), .int .u8 (((kstep m ev).1).s1), .int .u8 (((kstep m ev).1).s2), .int .u8 (((kstep m ev).1).s3), .int .u64 (((kstep m ev).1).r0), .int .u64 (((kstep m ev).1).r1), .int .u64 (((kstep m ev).1).r2), .int .u64 (((kstep m ev).1).r3), .int .u64 (((kstep m ev).1).word), .bool ((kstep m ev).2.refused), .int .i8 ((kstep m ev).2.running), .int .u64 ((kstep m ev).2.value)], 84, false⟩)]) h137 rfl rfl rfl rfl (by kernel_rfl) (fun _ => rfl) fun b138 w139 a140 h141 hf142 hn143 => ?_
          refine ⟨(h137.keepFr hf142 (kcons (by simp) (kcons (by simp) (kcons (by simp) (kcons (by simp) (kcons (by simp) (kcons (by simp) (kcons (by simp) knil)))))))), ?_⟩
          clear h137
          refine wpAnyK_one (i := 12) (fuel := 3) (by kernel_rfl) ?_
          refine op_append tabOk (e := 84) (so := so) (n := lg.sns.length) (c := sc) (xo := some ⟨b138, 0, none⟩) (m := 1) (cx := 1) (vals := lg.sns.flatMap ptC) (vs := [.int .i64 ((lg.base.idx + (lg.evs.length : Int)) + 1), .int .u64 (((kstep m ev).1).now), .int .i8 (((kstep m ev).1).cur), .int .u8 (((kstep m ev).1).s0), .int .u8 (((kstep m ev).1).s1), .int .u8 (((kstep m ev).1).s2), .int .u8 (((kstep m ev).1).s3), .int .u64 (((kstep m ev).1).r0), .int .u64 (((kstep m ev).1).r1), .int .u64 (((kstep m ev).1).r2), .int .u64 (((kstep m ev).1).r3), .int .u64 (((kstep m ev).1).word), .bool ((kstep m ev).2.refused), .int .i8 ((kstep m ev).2.running), .int .u64 ((kstep m ev).2.value)]) (F := sF) h141 rfl rfl rfl rfl rfl rfl rfl rfl rfl rfl rfl rfl (h141.inv.get (j := 2) rfl) (src_one (h141.kn (k := 7) rfl) rfl ⟨rfl, rfl, rfl, rfl, rfl, rfl, rfl, rfl, rfl, rfl, rfl, rfl, rfl, rfl, rfl, trivial⟩) (by omega) rfl ?_
          intro o144 c145 F146 w147 hr148 hf149 hF150
          have hr1482 := rl_app1 (enc := ptC) (xs := lg.sns) (y := (⟨((lg.base.idx + (lg.evs.length : Int)) + 1), (kstep m ev).1, (kstep m ev).2⟩ : Pt)) hr148
          have hKh151 := row1_keys (K := (bm :: bl :: (eF ++ (mF ++ (sF ++ []))))) (fun b hb => .inl (by simp [hb])) h141.frame.size hF150
          rw [show lg.sns.length + 1 = (lg.sns ++ [(⟨((lg.base.idx + (lg.evs.length : Int)) + 1), (kstep m ev).1, (kstep m ev).2⟩ : Pt)]).length by simp]
          have h151 := (h141.rowSet (j := 2) (r' := rl ptC 84 15 (lg.sns ++ [(⟨((lg.base.idx + (lg.evs.length : Int)) + 1), (kstep m ev).1, (kstep m ev).2⟩ : Pt)]) o144 c145 F146) (R' := [rl evC 31 3 (lg.evs ++ [ev]) o82 c83 F84, rl mkC 93 2 (lg.mks ++ [(⟨((lg.base.idx + (lg.evs.length : Int)) + 1), dig (kstep m ev).1⟩ : Mk)]) o115 c116 F117, rl ptC 84 15 (lg.sns ++ [(⟨((lg.base.idx + (lg.evs.length : Int)) + 1), (kstep m ev).1, (kstep m ev).2⟩ : Pt)]) o144 c145 F146]) rfl hr1482 hf149 hF150 (fun b hb => .inl (by simp [hb])) (kcons (by intro hq; cases hq) (kcons (by intro hq; cases hq) (kcons (by intro hq; cases hq) (kcons (by intro hq; cases hq) (kcons (by intro hq; cases hq) (kcons (by intro hq; cases hq) (kcons (by intro hq; cases hq) (kcons (by intro hq; cases hq) knil)))))))) rfl).put (d := some 71) (v := .slice o144 ((lg.sns ++ [(⟨((lg.base.idx + (lg.evs.length : Int)) + 1), (kstep m ev).1, (kstep m ev).2⟩ : Pt)]).length) c145) (T' := [(71, .slice o144 ((lg.sns ++ [(⟨((lg.base.idx + (lg.evs.length : Int)) + 1), (kstep m ev).1, (kstep m ev).2⟩ : Pt)]).length) c145), (70, .slice (some ⟨b138, 0, none⟩) 1 1), (10, .pointer (some ⟨b62, 0, none⟩)), (6, .pointer (some ⟨b8, 0, none⟩)), (5, .pointer (some ⟨b2, 0, none⟩)), (0, .pointer (some ⟨bl, 0, none⟩)), (1, .pointer (some ⟨bm, pre.length, none⟩)), (2, .agg #[.int .u8 ev.kind, .int .u32 ev.pick, .int .u64 ev.arg]), (7, .bool false), (8, .int .i64 ((lg.base.idx + (lg.evs.length : Int)) + 1)), (9, .int .i64 ((cost ev) + 10)), (59, .pointer (some ⟨bl, 0, none⟩)), (63, .slice so lg.sns.length sc), (69, .agg #[.int .i64 ((lg.base.idx + (lg.evs.length : Int)) + 1), .int .u64 (((kstep m ev).1).now), .int .i8 (((kstep m ev).1).cur), .int .u8 (((kstep m ev).1).s0), .int .u8 (((kstep m ev).1).s1), .int .u8 (((kstep m ev).1).s2), .int .u8 (((kstep m ev).1).s3), .int .u64 (((kstep m ev).1).r0), .int .u64 (((kstep m ev).1).r1), .int .u64 (((kstep m ev).1).r2), .int .u64 (((kstep m ev).1).r3), .int .u64 (((kstep m ev).1).word), .bool ((kstep m ev).2.refused), .int .i8 ((kstep m ev).2.running), .int .u64 ((kstep m ev).2.value)])]) rfl
          have hkh151 := h141.known
          refine ⟨keepNil, ?_⟩
          clear h141
          refine dr_batch tabOk tabZ_ok (by repeat (first | exact PF.body | with_reducible apply PF.inB | with_reducible apply PF.next)) [(13, {}), (14, {})] [71, 10, 6, 5, 0, 1, 2, 7, 8, 9, 73] (T' := [(71, .slice o144 ((lg.sns ++ [(⟨((lg.base.idx + (lg.evs.length : Int)) + 1), (kstep m ev).1, (kstep m ev).2⟩ : Pt)]).length) c145), (10, .pointer (some ⟨b62, 0, none⟩)), (6, .pointer (some ⟨b8, 0, none⟩)), (5, .pointer (some ⟨b2, 0, none⟩)), (0, .pointer (some ⟨bl, 0, none⟩)), (1, .pointer (some ⟨bm, pre.length, none⟩)), (2, .agg #[.int .u8 ev.kind, .int .u32 ev.pick, .int .u64 ev.arg]), (7, .bool false), (8, .int .i64 ((lg.base.idx + (lg.evs.length : Int)) + 1)), (9, .int .i64 ((cost ev) + 10)), (73, .pointer (some ⟨bl, 17, none⟩))]) (φ := True) (fuel := 1) h151 (by kernel_rfl) rfl (by kernel_rfl) (by kernel_rfl) ⟨trivial, trivial, trivial⟩ trivial fun a152 h153 => ?_
          clear h151
          refine wpAnyK_one (i := 15) (fuel := 0) (by kernel_rfl) ?_
          refine op_store tabOk {k := 0} (L' := [(bl, ⟨[.int .i64 lg.base.idx, .int .u64 lg.base.st.now, .int .i8 lg.base.st.cur, .int .u8 lg.base.st.s0, .int .u8 lg.base.st.s1, .int .u8 lg.base.st.s2, .int .u8 lg.base.st.s3, .int .u64 lg.base.st.r0, .int .u64 lg.base.st.r1, .int .u64 lg.base.st.r2, .int .u64 lg.base.st.r3, .int .u64 lg.base.st.word, .bool lg.base.out.refused, .int .i8 lg.base.out.running, .int .u64 lg.base.out.value, .slice o82 ((lg.evs ++ [ev]).length) c83, .slice o115 ((lg.mks ++ [(⟨((lg.base.idx + (lg.evs.length : Int)) + 1), dig (kstep m ev).1⟩ : Mk)]).length) c116, .slice o144 ((lg.sns ++ [(⟨((lg.base.idx + (lg.evs.length : Int)) + 1), (kstep m ev).1, (kstep m ev).2⟩ : Pt)]).length) c145], 89, false⟩), (bm, ⟨pre ++ machC ((kstep m ev).1) ++ post, ty, false⟩), (b2, ⟨[.int .u8 ev.kind, .int .u32 ev.pick, .int .u64 ev.arg], 31, false⟩), (b8, ⟨[.bool false, .int .i8 0, .int .u64 0], 44, false⟩), (b62, ⟨[.bool ((kstep m ev).2.refused), .int .i8 ((kstep m ev).2.running), .int .u64 ((kstep m ev).2.value)], 44, false⟩), (b76, ⟨[.int .u8 ev.kind, .int .u32 ev.pick, .int .u64 ev.arg], 31, false⟩), (b109, ⟨[.int .i64 ((lg.base.idx + (lg.evs.length : Int)) + 1), .int .u64 (dig (kstep m ev).1)], 93, false⟩), (b138, ⟨[.int .i64 ((lg.base.idx + (lg.evs.length : Int)) + 1), .int .u64 (((kstep m ev).1).now), .int .i8 (((kstep m ev).1).cur), .int .u8 (((kstep m ev).1).s0), .int .u8 (((kstep m ev).1).s1), .int .u8 (((kstep m ev).1).s2), .int .u8 (((kstep m ev).1).s3), .int .u64 (((kstep m ev).1).r0), .int .u64 (((kstep m ev).1).r1), .int .u64 (((kstep m ev).1).r2), .int .u64 (((kstep m ev).1).r3), .int .u64 (((kstep m ev).1).word), .bool ((kstep m ev).2.refused), .int .i8 ((kstep m ev).2.running), .int .u64 ((kstep m ev).2.value)], 84, false⟩)]) (φ := bl = bl ∧ Nat.ble (17 + 1) 18 = true) h153 rfl rfl rfl (by kernel_rfl) ⟨rfl, rfl⟩ fun w154 h155 => ?_
          have hkh155 := h153.known
          refine ⟨keepNil, ?_⟩
          clear h153
          refine wpAnyK_done (by kernel_rfl) ?_ _
          refine hK132 _ _ ?_
          clear hK132
          refine wp_seq_k fun K156 hK156 => ?_
          refine nd_start (l := [0, 1, 2, 3, 4, 5]) rfl ?_
          refine nd_batch tabOk tabZ_ok [(0, {}), (1, {}), (2, {}), (3, {k := 0}), (4, {}), (5, {})] [10, 6, 5, 0, 1, 2, 7, 8, 9, 79] (T' := [(10, .pointer (some ⟨b62, 0, none⟩)), (6, .pointer (some ⟨b8, 0, none⟩)), (5, .pointer (some ⟨b2, 0, none⟩)), (0, .pointer (some ⟨bl, 0, none⟩)), (1, .pointer (some ⟨bm, pre.length, none⟩)), (2, .agg #[.int .u8 ev.kind, .int .u32 ev.pick, .int .u64 ev.arg]), (7, .bool false), (8, .int .i64 ((lg.base.idx + (lg.evs.length : Int)) + 1)), (9, .int .i64 ((cost ev) + 10)), (79, .bool (decide ((((lg.sns ++ [(⟨((lg.base.idx + (lg.evs.length : Int)) + 1), (kstep m ev).1, (kstep m ev).2⟩ : Pt)]).length : Nat) : Int) > 6)))]) (φ := (bl = bl ∧ Nat.ble (17 + 1) 18 = true) ∧ True) (rest := []) h155 (by kernel_rfl) rfl ⟨⟨rfl, rfl⟩, trivial⟩ fun a157 h158 => ?_
          clear h155
          refine nd_done ?_
          refine hK156 _ _ ?_
          clear hK156
          refine c_split h158 (b := decide ((((lg.sns ++ [(⟨((lg.base.idx + (lg.evs.length : Int)) + 1), (kstep m ev).1, (kstep m ev).2⟩ : Pt)]).length : Nat) : Int) > 6)) rfl (fun hc159 => ?_) (fun hc159 => ?_)
          ·
            have hc159f : (((lg.sns ++ [(⟨((lg.base.idx + (lg.evs.length : Int)) + 1), (kstep m ev).1, (kstep m ev).2⟩ : Pt)]).length : Nat) : Int) > 6 := by simpa using hc159
            have hl6 : (6 < (lg.sns ++ [(⟨((lg.base.idx + (lg.evs.length : Int)) + 1), (kstep m ev).1, (kstep m ev).2⟩ : Pt)]).length) := by omega
            refine nd_start (l := [0, 1, 2, 3, 4, 5, 6, 7, 8, 9]) rfl ?_
            refine nd_batch tabOk tabZ_ok [(0, {}), (1, {}), (2, {}), (3, {}), (4, {k := 0}), (5, {})] [10, 6, 5, 0, 1, 2, 7, 8, 9, 80, 85] (T' := [(10, .pointer (some ⟨b62, 0, none⟩)), (6, .pointer (some ⟨b8, 0, none⟩)), (5, .pointer (some ⟨b2, 0, none⟩)), (0, .pointer (some ⟨bl, 0, none⟩)), (1, .pointer (some ⟨bm, pre.length, none⟩)), (2, .agg #[.int .u8 ev.kind, .int .u32 ev.pick, .int .u64 ev.arg]), (7, .bool false), (8, .int .i64 ((lg.base.idx + (lg.evs.length : Int)) + 1)), (9, .int .i64 ((cost ev) + 10)), (80, .pointer (some ⟨bl, 0, none⟩)), (85, .slice (sliceBase o144 c145 1 15) (((lg.sns ++ [(⟨((lg.base.idx + (lg.evs.length : Int)) + 1), (kstep m ev).1, (kstep m ev).2⟩ : Pt)]).length) - 1) (c145 - 1))]) (φ := (bl = bl ∧ Nat.ble (17 + 1) 18 = true) ∧ (0 ≤ (1 : Int) ∧ (1 : Int) ≤ (((lg.sns ++ [(⟨((lg.base.idx + (lg.evs.length : Int)) + 1), (kstep m ev).1, (kstep m ev).2⟩ : Pt)]).length : Nat) : Int)) ∧ True) (rest := [6, 7, 8, 9]) h158 (by kernel_rfl) rfl ⟨⟨rfl, rfl⟩, ⟨by omega, by omega⟩, trivial⟩ fun a160 h161 => ?_
            clear h158
            refine nd_op ?_
            have h162 := h161.rowNil 84 15
            clear h161
            have h162r : St ⟨90, (bm :: bl :: (eF ++ (mF ++ (sF ++ [])))), w, Rws [rl evC 31 3 (lg.evs ++ [ev]) o82 c83 F84, rl mkC 93 2 (lg.mks ++ [(⟨((lg.base.idx + (lg.evs.length : Int)) + 1), dig (kstep m ev).1⟩ : Mk)]) o115 c116 F117, rl ptC 84 15 (lg.sns ++ [(⟨((lg.base.idx + (lg.evs.length : Int)) + 1), (kstep m ev).1, (kstep m ev).2⟩ : Pt)]) o144 c145 F146, rl ptC 84 15 ([] : List Pt) none 0 ([])], Ff [rl evC 31 3 (lg.evs ++ [ev]) o82 c83 F84, rl mkC 93 2 (lg.mks ++ [(⟨((lg.base.idx + (lg.evs.length : Int)) + 1), dig (kstep m ev).1⟩ : Mk)]) o115 c116 F117, rl ptC 84 15 (lg.sns ++ [(⟨((lg.base.idx + (lg.evs.length : Int)) + 1), (kstep m ev).1, (kstep m ev).2⟩ : Pt)]) o144 c145 F146, rl ptC 84 15 ([] : List Pt) none 0 ([])]⟩ [(10, .pointer (some ⟨b62, 0, none⟩)), (6, .pointer (some ⟨b8, 0, none⟩)), (5, .pointer (some ⟨b2, 0, none⟩)), (0, .pointer (some ⟨bl, 0, none⟩)), (1, .pointer (some ⟨bm, pre.length, none⟩)), (2, .agg #[.int .u8 ev.kind, .int .u32 ev.pick, .int .u64 ev.arg]), (7, .bool false), (8, .int .i64 ((lg.base.idx + (lg.evs.length : Int)) + 1)), (9, .int .i64 ((cost ev) + 10)), (80, .pointer (some ⟨bl, 0, none⟩)), (85, .slice (sliceBase o144 c145 1 15) (((lg.sns ++ [(⟨((lg.base.idx + (lg.evs.length : Int)) + 1), (kstep m ev).1, (kstep m ev).2⟩ : Pt)]).length) - 1) (c145 - 1))] [(bl, ⟨[.int .i64 lg.base.idx, .int .u64 lg.base.st.now, .int .i8 lg.base.st.cur, .int .u8 lg.base.st.s0, .int .u8 lg.base.st.s1, .int .u8 lg.base.st.s2, .int .u8 lg.base.st.s3, .int .u64 lg.base.st.r0, .int .u64 lg.base.st.r1, .int .u64 lg.base.st.r2, .int .u64 lg.base.st.r3, .int .u64 lg.base.st.word, .bool lg.base.out.refused, .int .i8 lg.base.out.running, .int .u64 lg.base.out.value, .slice o82 ((lg.evs ++ [ev]).length) c83, .slice o115 ((lg.mks ++ [(⟨((lg.base.idx + (lg.evs.length : Int)) + 1), dig (kstep m ev).1⟩ : Mk)]).length) c116, .slice o144 ((lg.sns ++ [(⟨((lg.base.idx + (lg.evs.length : Int)) + 1), (kstep m ev).1, (kstep m ev).2⟩ : Pt)]).length) c145], 89, false⟩), (bm, ⟨pre ++ machC ((kstep m ev).1) ++ post, ty, false⟩), (b2, ⟨[.int .u8 ev.kind, .int .u32 ev.pick, .int .u64 ev.arg], 31, false⟩), (b8, ⟨[.bool false, .int .i8 0, .int .u64 0], 44, false⟩), (b62, ⟨[.bool ((kstep m ev).2.refused), .int .i8 ((kstep m ev).2.running), .int .u64 ((kstep m ev).2.value)], 44, false⟩), (b76, ⟨[.int .u8 ev.kind, .int .u32 ev.pick, .int .u64 ev.arg], 31, false⟩), (b109, ⟨[.int .i64 ((lg.base.idx + (lg.evs.length : Int)) + 1), .int .u64 (dig (kstep m ev).1)], 93, false⟩), (b138, ⟨[.int .i64 ((lg.base.idx + (lg.evs.length : Int)) + 1), .int .u64 (((kstep m ev).1).now), .int .i8 (((kstep m ev).1).cur), .int .u8 (((kstep m ev).1).s0), .int .u8 (((kstep m ev).1).s1), .int .u8 (((kstep m ev).1).s2), .int .u8 (((kstep m ev).1).s3), .int .u64 (((kstep m ev).1).r0), .int .u64 (((kstep m ev).1).r1), .int .u64 (((kstep m ev).1).r2), .int .u64 (((kstep m ev).1).r3), .int .u64 (((kstep m ev).1).word), .bool ((kstep m ev).2.refused), .int .i8 ((kstep m ev).2.running), .int .u64 ((kstep m ev).2.value)], 84, false⟩)] _ _ := h162
            clear h162
            refine op_append tabOk (e := 84) (so := none) (n := 0) (c := 0) (xo := (sliceBase o144 c145 1 15)) (m := ((lg.sns ++ [(⟨((lg.base.idx + (lg.evs.length : Int)) + 1), (kstep m ev).1, (kstep m ev).2⟩ : Pt)]).length) - 1) (cx := c145 - 1) (vals := []) (vs := ((lg.sns ++ [(⟨((lg.base.idx + (lg.evs.length : Int)) + 1), (kstep m ev).1, (kstep m ev).2⟩ : Pt)]).drop 1).flatMap ptC) (F := []) h162r rfl rfl rfl rfl rfl rfl rfl rfl rfl rfl rfl rfl (Row.nil _ 84 15) (src_from (h162r.inv.get (j := 2) rfl) ptC_len (by omega)) (by first | omega | (simp only [List.length_append, List.length_cons, List.length_nil]; omega)) (allOne_flat ptC_one _) ?_
            intro o163 c164 F165 w166 hr167 hf168 hF169
            have hr1672 : (rl ptC 84 15 ((lg.sns ++ [(⟨((lg.base.idx + (lg.evs.length : Int)) + 1), (kstep m ev).1, (kstep m ev).2⟩ : Pt)]).drop 1) o163 c164 F165).at w166 := by simpa [RS.at] using hr167
            have hKh170 := row1_keys (K := (bm :: bl :: (eF ++ (mF ++ (sF ++ []))))) (fun _ hq => by cases hq) h162r.frame.size hF169
            rw [show 0 + (((lg.sns ++ [(⟨((lg.base.idx + (lg.evs.length : Int)) + 1), (kstep m ev).1, (kstep m ev).2⟩ : Pt)]).length) - 1) = ((lg.sns ++ [(⟨((lg.base.idx + (lg.evs.length : Int)) + 1), (kstep m ev).1, (kstep m ev).2⟩ : Pt)]).drop 1).length by simp]
            have h170 := (h162r.rowSet (j := 3) (r := rl ptC 84 15 ([] : List Pt) none 0 ([])) (r' := rl ptC 84 15 ((lg.sns ++ [(⟨((lg.base.idx + (lg.evs.length : Int)) + 1), (kstep m ev).1, (kstep m ev).2⟩ : Pt)]).drop 1) o163 c164 F165) (R' := [rl evC 31 3 (lg.evs ++ [ev]) o82 c83 F84, rl mkC 93 2 (lg.mks ++ [(⟨((lg.base.idx + (lg.evs.length : Int)) + 1), dig (kstep m ev).1⟩ : Mk)]) o115 c116 F117, rl ptC 84 15 (lg.sns ++ [(⟨((lg.base.idx + (lg.evs.length : Int)) + 1), (kstep m ev).1, (kstep m ev).2⟩ : Pt)]) o144 c145 F146, rl ptC 84 15 ((lg.sns ++ [(⟨((lg.base.idx + (lg.evs.length : Int)) + 1), (kstep m ev).1, (kstep m ev).2⟩ : Pt)]).drop 1) o163 c164 F165]) rfl hr1672 hf168 hF169 (fun _ hq => by cases hq) (fun _ _ _ hq => by cases hq) rfl).put (d := some 86) (v := .slice o163 (((lg.sns ++ [(⟨((lg.base.idx + (lg.evs.length : Int)) + 1), (kstep m ev).1, (kstep m ev).2⟩ : Pt)]).drop 1).length) c164) (T' := [(86, .slice o163 (((lg.sns ++ [(⟨((lg.base.idx + (lg.evs.length : Int)) + 1), (kstep m ev).1, (kstep m ev).2⟩ : Pt)]).drop 1).length) c164), (10, .pointer (some ⟨b62, 0, none⟩)), (6, .pointer (some ⟨b8, 0, none⟩)), (5, .pointer (some ⟨b2, 0, none⟩)), (0, .pointer (some ⟨bl, 0, none⟩)), (1, .pointer (some ⟨bm, pre.length, none⟩)), (2, .agg #[.int .u8 ev.kind, .int .u32 ev.pick, .int .u64 ev.arg]), (7, .bool false), (8, .int .i64 ((lg.base.idx + (lg.evs.length : Int)) + 1)), (9, .int .i64 ((cost ev) + 10)), (80, .pointer (some ⟨bl, 0, none⟩)), (85, .slice (sliceBase o144 c145 1 15) (((lg.sns ++ [(⟨((lg.base.idx + (lg.evs.length : Int)) + 1), (kstep m ev).1, (kstep m ev).2⟩ : Pt)]).length) - 1) (c145 - 1))]) rfl
            clear h162r
            refine nd_batch tabOk tabZ_ok [(7, {}), (8, {})] [86, 10, 6, 5, 0, 1, 2, 7, 8, 9, 88] (T' := [(86, .slice o163 (((lg.sns ++ [(⟨((lg.base.idx + (lg.evs.length : Int)) + 1), (kstep m ev).1, (kstep m ev).2⟩ : Pt)]).drop 1).length) c164), (10, .pointer (some ⟨b62, 0, none⟩)), (6, .pointer (some ⟨b8, 0, none⟩)), (5, .pointer (some ⟨b2, 0, none⟩)), (0, .pointer (some ⟨bl, 0, none⟩)), (1, .pointer (some ⟨bm, pre.length, none⟩)), (2, .agg #[.int .u8 ev.kind, .int .u32 ev.pick, .int .u64 ev.arg]), (7, .bool false), (8, .int .i64 ((lg.base.idx + (lg.evs.length : Int)) + 1)), (9, .int .i64 ((cost ev) + 10)), (88, .pointer (some ⟨bl, 17, none⟩))]) (φ := True) (rest := [9]) h170 (by kernel_rfl) rfl trivial fun a171 h172 => ?_
            clear h170
            refine nd_op ?_
            refine op_store tabOk {k := 0} (L' := [(bl, ⟨[.int .i64 lg.base.idx, .int .u64 lg.base.st.now, .int .i8 lg.base.st.cur, .int .u8 lg.base.st.s0, .int .u8 lg.base.st.s1, .int .u8 lg.base.st.s2, .int .u8 lg.base.st.s3, .int .u64 lg.base.st.r0, .int .u64 lg.base.st.r1, .int .u64 lg.base.st.r2, .int .u64 lg.base.st.r3, .int .u64 lg.base.st.word, .bool lg.base.out.refused, .int .i8 lg.base.out.running, .int .u64 lg.base.out.value, .slice o82 ((lg.evs ++ [ev]).length) c83, .slice o115 ((lg.mks ++ [(⟨((lg.base.idx + (lg.evs.length : Int)) + 1), dig (kstep m ev).1⟩ : Mk)]).length) c116, .slice o163 (((lg.sns ++ [(⟨((lg.base.idx + (lg.evs.length : Int)) + 1), (kstep m ev).1, (kstep m ev).2⟩ : Pt)]).drop 1).length) c164], 89, false⟩), (bm, ⟨pre ++ machC ((kstep m ev).1) ++ post, ty, false⟩), (b2, ⟨[.int .u8 ev.kind, .int .u32 ev.pick, .int .u64 ev.arg], 31, false⟩), (b8, ⟨[.bool false, .int .i8 0, .int .u64 0], 44, false⟩), (b62, ⟨[.bool ((kstep m ev).2.refused), .int .i8 ((kstep m ev).2.running), .int .u64 ((kstep m ev).2.value)], 44, false⟩), (b76, ⟨[.int .u8 ev.kind, .int .u32 ev.pick, .int .u64 ev.arg], 31, false⟩), (b109, ⟨[.int .i64 ((lg.base.idx + (lg.evs.length : Int)) + 1), .int .u64 (dig (kstep m ev).1)], 93, false⟩), (b138, ⟨[.int .i64 ((lg.base.idx + (lg.evs.length : Int)) + 1), .int .u64 (((kstep m ev).1).now), .int .i8 (((kstep m ev).1).cur), .int .u8 (((kstep m ev).1).s0), .int .u8 (((kstep m ev).1).s1), .int .u8 (((kstep m ev).1).s2), .int .u8 (((kstep m ev).1).s3), .int .u64 (((kstep m ev).1).r0), .int .u64 (((kstep m ev).1).r1), .int .u64 (((kstep m ev).1).r2), .int .u64 (((kstep m ev).1).r3), .int .u64 (((kstep m ev).1).word), .bool ((kstep m ev).2.refused), .int .i8 ((kstep m ev).2.running), .int .u64 ((kstep m ev).2.value)], 84, false⟩)]) (φ := bl = bl ∧ Nat.ble (17 + 1) 18 = true) h172 rfl rfl rfl (by kernel_rfl) ⟨rfl, rfl⟩ fun w173 h174 => ?_
            clear h172
            refine nd_done ?_
            refine hK127 _ _ ?_
            clear hK127
            refine wp_seq_k fun K175 hK175 => ?_
            refine nd_start (l := [0, 1, 2]) rfl ?_
            refine nd_batch tabOk tabZ_ok [(0, {k := 4})] [10, 6, 5, 0, 1, 2, 7, 8, 9, 89] (T' := [(10, .pointer (some ⟨b62, 0, none⟩)), (6, .pointer (some ⟨b8, 0, none⟩)), (5, .pointer (some ⟨b2, 0, none⟩)), (0, .pointer (some ⟨bl, 0, none⟩)), (1, .pointer (some ⟨bm, pre.length, none⟩)), (2, .agg #[.int .u8 ev.kind, .int .u32 ev.pick, .int .u64 ev.arg]), (7, .bool false), (8, .int .i64 ((lg.base.idx + (lg.evs.length : Int)) + 1)), (9, .int .i64 ((cost ev) + 10)), (89, .agg #[.bool ((kstep m ev).2.refused), .int .i8 ((kstep m ev).2.running), .int .u64 ((kstep m ev).2.value)])]) (φ := (b62 = b62 ∧ Nat.ble (0 + 3) 3 = true) ∧ True) (rest := [1, 2]) h174 (by kernel_rfl) rfl ⟨⟨rfl, rfl⟩, trivial⟩ fun a176 h177 => ?_
            clear h174
            refine nd_op ?_
            refine op_store tabOk {k := 3} (L' := [(bl, ⟨[.int .i64 lg.base.idx, .int .u64 lg.base.st.now, .int .i8 lg.base.st.cur, .int .u8 lg.base.st.s0, .int .u8 lg.base.st.s1, .int .u8 lg.base.st.s2, .int .u8 lg.base.st.s3, .int .u64 lg.base.st.r0, .int .u64 lg.base.st.r1, .int .u64 lg.base.st.r2, .int .u64 lg.base.st.r3, .int .u64 lg.base.st.word, .bool lg.base.out.refused, .int .i8 lg.base.out.running, .int .u64 lg.base.out.value, .slice o82 ((lg.evs ++ [ev]).length) c83, .slice o115 ((lg.mks ++ [(⟨((lg.base.idx + (lg.evs.length : Int)) + 1), dig (kstep m ev).1⟩ : Mk)]).length) c116, .slice o163 (((lg.sns ++ [(⟨((lg.base.idx + (lg.evs.length : Int)) + 1), (kstep m ev).1, (kstep m ev).2⟩ : Pt)]).drop 1).length) c164], 89, false⟩), (bm, ⟨pre ++ machC ((kstep m ev).1) ++ post, ty, false⟩), (b2, ⟨[.int .u8 ev.kind, .int .u32 ev.pick, .int .u64 ev.arg], 31, false⟩), (b8, ⟨[.bool ((kstep m ev).2.refused), .int .i8 ((kstep m ev).2.running), .int .u64 ((kstep m ev).2.value)], 44, false⟩), (b62, ⟨[.bool ((kstep m ev).2.refused), .int .i8 ((kstep m ev).2.running), .int .u64 ((kstep m ev).2.value)], 44, false⟩), (b76, ⟨[.int .u8 ev.kind, .int .u32 ev.pick, .int .u64 ev.arg], 31, false⟩), (b109, ⟨[.int .i64 ((lg.base.idx + (lg.evs.length : Int)) + 1), .int .u64 (dig (kstep m ev).1)], 93, false⟩), (b138, ⟨[.int .i64 ((lg.base.idx + (lg.evs.length : Int)) + 1), .int .u64 (((kstep m ev).1).now), .int .i8 (((kstep m ev).1).cur), .int .u8 (((kstep m ev).1).s0), .int .u8 (((kstep m ev).1).s1), .int .u8 (((kstep m ev).1).s2), .int .u8 (((kstep m ev).1).s3), .int .u64 (((kstep m ev).1).r0), .int .u64 (((kstep m ev).1).r1), .int .u64 (((kstep m ev).1).r2), .int .u64 (((kstep m ev).1).r3), .int .u64 (((kstep m ev).1).word), .bool ((kstep m ev).2.refused), .int .i8 ((kstep m ev).2.running), .int .u64 ((kstep m ev).2.value)], 84, false⟩)]) (φ := b8 = b8 ∧ Nat.ble (0 + 3) 3 = true) h177 rfl rfl rfl (by kernel_rfl) ⟨rfl, rfl⟩ fun w178 h179 => ?_
            clear h177
            refine nd_batch tabOk tabZ_ok [(2, {})] [10, 6, 5, 0, 1, 2, 8, 9, 7] (T' := [(10, .pointer (some ⟨b62, 0, none⟩)), (6, .pointer (some ⟨b8, 0, none⟩)), (5, .pointer (some ⟨b2, 0, none⟩)), (0, .pointer (some ⟨bl, 0, none⟩)), (1, .pointer (some ⟨bm, pre.length, none⟩)), (2, .agg #[.int .u8 ev.kind, .int .u32 ev.pick, .int .u64 ev.arg]), (8, .int .i64 ((lg.base.idx + (lg.evs.length : Int)) + 1)), (9, .int .i64 ((cost ev) + 10)), (7, .bool true)]) (φ := True) (rest := []) h179 (by kernel_rfl) rfl trivial fun a180 h181 => ?_
            clear h179
            refine nd_done ?_
            refine hK175 _ _ ?_
            clear hK175
            refine wp_ret ?_
            have hrec : lg.recd m ev = (⟨lg.base, lg.evs ++ [ev], lg.mks ++ [(⟨((lg.base.idx + (lg.evs.length : Int)) + 1), dig (kstep m ev).1⟩ : Mk)], ((lg.sns ++ [(⟨((lg.base.idx + (lg.evs.length : Int)) + 1), (kstep m ev).1, (kstep m ev).2⟩ : Pt)]).drop 1)⟩ : Lg) := by
              unfold Lg.recd Lg.fin addSnap
              simp only []
              rw [if_pos hn8, if_pos hn32, if_pos hl6]
            have hLA : LogAt _ bl ⟨o82, c83, F84, o115, c116, F117, o163, c164, F165⟩ (⟨lg.base, lg.evs ++ [ev], lg.mks ++ [(⟨((lg.base.idx + (lg.evs.length : Int)) + 1), dig (kstep m ev).1⟩ : Mk)], ((lg.sns ++ [(⟨((lg.base.idx + (lg.evs.length : Int)) + 1), (kstep m ev).1, (kstep m ev).2⟩ : Pt)]).drop 1)⟩ : Lg) := LogAt.ofSt h181 (k := 0) rfl (.cons_cons _ (.cons_cons _ (.cons _ (.cons_cons _ .slnil))))
            rw [← hrec] at hLA
            have hsq := hLA.sep
            have hsq2 : bm ∉ (Hd.F ⟨o82, c83, F84, o115, c116, F117, o163, c164, F165⟩) := by intro hq; rw [Hd.F_rows ⟨o82, c83, F84, o115, c116, F117, o163, c164, F165⟩ (lg.recd m ev), hrec] at hq; exact h181.disj _ (List.mem_cons_of_mem _ (List.mem_cons_self ..)) rfl ((Ff_sub (.cons_cons _ (.cons_cons _ (.cons _ (.cons_cons _ .slnil))))).mem hq)
            have hsub : ∀ b ∈ (Hd.F ⟨o82, c83, F84, o115, c116, F117, o163, c164, F165⟩), b ∈ (Hd.F ⟨eo, ec, eF, mo, mc, mF, so, sc, sF⟩) ∨ w.heap.size ≤ b := by
              intro b hbF
              have hbq := hbF
              simp only [Hd.F, List.mem_append, List.append_nil] at hbq
              rcases hbq with hb | hb | hb
              · exact orMap (hKh89 b hb) (fun hq => by simp only [List.mem_cons] at hq; rcases hq with rfl | rfl | hq; exact absurd hbF hsq2; exact absurd hbF hsq; simpa [Hd.F] using hq) id
              · exact orMap (hKh122 b hb) (fun hq => by simp only [List.mem_cons] at hq; rcases hq with rfl | rfl | hq; exact absurd hbF hsq2; exact absurd hbF hsq; simpa [Hd.F] using hq) id
              · exact orMap (hKh170 b hb) (fun hq => by simp only [List.mem_cons] at hq; rcases hq with rfl | rfl | hq; exact absurd hbF hsq2; exact absurd hbF hsq; simpa [Hd.F] using hq) id
            try simp only [Exit.then, Exit.inBlock]
            try rw [if_pos trivial]
            exact s_ret tabOk tabZ_ok h181 [(.cell 6 44, {k := 3}), (.tmp 7, {})] (vs := [.agg #[.bool ((kstep m ev).2.refused), .int .i8 ((kstep m ev).2.running), .int .u64 ((kstep m ev).2.value)], .bool true]) (φ := (b8 = b8 ∧ Nat.ble (0 + 3) 3 = true) ∧ True) rfl (by kernel_rfl) ⟨⟨rfl, rfl⟩, trivial⟩ (.inr ⟨hfull, ⟨o82, c83, F84, o115, c116, F117, o163, c164, F165⟩, rfl, h181.kn (k := 1) rfl, hLA, h181.frame, hsub⟩)
          ·
            have hc159f : ¬ (((lg.sns ++ [(⟨((lg.base.idx + (lg.evs.length : Int)) + 1), (kstep m ev).1, (kstep m ev).2⟩ : Pt)]).length : Nat) : Int) > 6 := by simpa using hc159
            have hl6 : ¬ (6 < (lg.sns ++ [(⟨((lg.base.idx + (lg.evs.length : Int)) + 1), (kstep m ev).1, (kstep m ev).2⟩ : Pt)]).length) := by omega
            refine wp_skip ?_
            refine hK127 _ _ ?_
            clear hK127
            refine wp_seq_k fun K182 hK182 => ?_
            refine nd_start (l := [0, 1, 2]) rfl ?_
            refine nd_batch tabOk tabZ_ok [(0, {k := 4})] [10, 6, 5, 0, 1, 2, 7, 8, 9, 89] (T' := [(10, .pointer (some ⟨b62, 0, none⟩)), (6, .pointer (some ⟨b8, 0, none⟩)), (5, .pointer (some ⟨b2, 0, none⟩)), (0, .pointer (some ⟨bl, 0, none⟩)), (1, .pointer (some ⟨bm, pre.length, none⟩)), (2, .agg #[.int .u8 ev.kind, .int .u32 ev.pick, .int .u64 ev.arg]), (7, .bool false), (8, .int .i64 ((lg.base.idx + (lg.evs.length : Int)) + 1)), (9, .int .i64 ((cost ev) + 10)), (89, .agg #[.bool ((kstep m ev).2.refused), .int .i8 ((kstep m ev).2.running), .int .u64 ((kstep m ev).2.value)])]) (φ := (b62 = b62 ∧ Nat.ble (0 + 3) 3 = true) ∧ True) (rest := [1, 2]) h158 (by kernel_rfl) rfl ⟨⟨rfl, rfl⟩, trivial⟩ fun a183 h184 => ?_
            clear h158
            refine nd_op ?_
            refine op_store tabOk {k := 3} (L' := [(bl, ⟨[.int .i64 lg.base.idx, .int .u64 lg.base.st.now, .int .i8 lg.base.st.cur, .int .u8 lg.base.st.s0, .int .u8 lg.base.st.s1, .int .u8 lg.base.st.s2, .int .u8 lg.base.st.s3, .int .u64 lg.base.st.r0, .int .u64 lg.base.st.r1, .int .u64 lg.base.st.r2, .int .u64 lg.base.st.r3, .int .u64 lg.base.st.word, .bool lg.base.out.refused, .int .i8 lg.base.out.running, .int .u64 lg.base.out.value, .slice o82 ((lg.evs ++ [ev]).length) c83, .slice o115 ((lg.mks ++ [(⟨((lg.base.idx + (lg.evs.length : Int)) + 1), dig (kstep m ev).1⟩ : Mk)]).length) c116, .slice o144 ((lg.sns ++ [(⟨((lg.base.idx + (lg.evs.length : Int)) + 1), (kstep m ev).1, (kstep m ev).2⟩ : Pt)]).length) c145], 89, false⟩), (bm, ⟨pre ++ machC ((kstep m ev).1) ++ post, ty, false⟩), (b2, ⟨[.int .u8 ev.kind, .int .u32 ev.pick, .int .u64 ev.arg], 31, false⟩), (b8, ⟨[.bool ((kstep m ev).2.refused), .int .i8 ((kstep m ev).2.running), .int .u64 ((kstep m ev).2.value)], 44, false⟩), (b62, ⟨[.bool ((kstep m ev).2.refused), .int .i8 ((kstep m ev).2.running), .int .u64 ((kstep m ev).2.value)], 44, false⟩), (b76, ⟨[.int .u8 ev.kind, .int .u32 ev.pick, .int .u64 ev.arg], 31, false⟩), (b109, ⟨[.int .i64 ((lg.base.idx + (lg.evs.length : Int)) + 1), .int .u64 (dig (kstep m ev).1)], 93, false⟩), (b138, ⟨[.int .i64 ((lg.base.idx + (lg.evs.length : Int)) + 1), .int .u64 (((kstep m ev).1).now), .int .i8 (((kstep m ev).1).cur), .int .u8 (((kstep m ev).1).s0), .int .u8 (((kstep m ev).1).s1), .int .u8 (((kstep m ev).1).s2), .int .u8 (((kstep m ev).1).s3), .int .u64 (((kstep m ev).1).r0), .int .u64 (((kstep m ev).1).r1), .int .u64 (((kstep m ev).1).r2), .int .u64 (((kstep m ev).1).r3), .int .u64 (((kstep m ev).1).word), .bool ((kstep m ev).2.refused), .int .i8 ((kstep m ev).2.running), .int .u64 ((kstep m ev).2.value)], 84, false⟩)]) (φ := b8 = b8 ∧ Nat.ble (0 + 3) 3 = true) h184 rfl rfl rfl (by kernel_rfl) ⟨rfl, rfl⟩ fun w185 h186 => ?_
            clear h184
            refine nd_batch tabOk tabZ_ok [(2, {})] [10, 6, 5, 0, 1, 2, 8, 9, 7] (T' := [(10, .pointer (some ⟨b62, 0, none⟩)), (6, .pointer (some ⟨b8, 0, none⟩)), (5, .pointer (some ⟨b2, 0, none⟩)), (0, .pointer (some ⟨bl, 0, none⟩)), (1, .pointer (some ⟨bm, pre.length, none⟩)), (2, .agg #[.int .u8 ev.kind, .int .u32 ev.pick, .int .u64 ev.arg]), (8, .int .i64 ((lg.base.idx + (lg.evs.length : Int)) + 1)), (9, .int .i64 ((cost ev) + 10)), (7, .bool true)]) (φ := True) (rest := []) h186 (by kernel_rfl) rfl trivial fun a187 h188 => ?_
            clear h186
            refine nd_done ?_
            refine hK182 _ _ ?_
            clear hK182
            refine wp_ret ?_
            have hrec : lg.recd m ev = (⟨lg.base, lg.evs ++ [ev], lg.mks ++ [(⟨((lg.base.idx + (lg.evs.length : Int)) + 1), dig (kstep m ev).1⟩ : Mk)], lg.sns ++ [(⟨((lg.base.idx + (lg.evs.length : Int)) + 1), (kstep m ev).1, (kstep m ev).2⟩ : Pt)]⟩ : Lg) := by
              unfold Lg.recd Lg.fin addSnap
              simp only []
              rw [if_pos hn8, if_pos hn32, if_neg hl6]
            have hLA : LogAt _ bl ⟨o82, c83, F84, o115, c116, F117, o144, c145, F146⟩ (⟨lg.base, lg.evs ++ [ev], lg.mks ++ [(⟨((lg.base.idx + (lg.evs.length : Int)) + 1), dig (kstep m ev).1⟩ : Mk)], lg.sns ++ [(⟨((lg.base.idx + (lg.evs.length : Int)) + 1), (kstep m ev).1, (kstep m ev).2⟩ : Pt)]⟩ : Lg) := LogAt.ofSt h188 (k := 0) rfl (List.Sublist.refl _)
            rw [← hrec] at hLA
            have hsq := hLA.sep
            have hsq2 : bm ∉ (Hd.F ⟨o82, c83, F84, o115, c116, F117, o144, c145, F146⟩) := by intro hq; rw [Hd.F_rows ⟨o82, c83, F84, o115, c116, F117, o144, c145, F146⟩ (lg.recd m ev), hrec] at hq; exact h188.disj _ (List.mem_cons_of_mem _ (List.mem_cons_self ..)) rfl ((Ff_sub (List.Sublist.refl _)).mem hq)
            have hsub : ∀ b ∈ (Hd.F ⟨o82, c83, F84, o115, c116, F117, o144, c145, F146⟩), b ∈ (Hd.F ⟨eo, ec, eF, mo, mc, mF, so, sc, sF⟩) ∨ w.heap.size ≤ b := by
              intro b hbF
              have hbq := hbF
              simp only [Hd.F, List.mem_append, List.append_nil] at hbq
              rcases hbq with hb | hb | hb
              · exact orMap (hKh89 b hb) (fun hq => by simp only [List.mem_cons] at hq; rcases hq with rfl | rfl | hq; exact absurd hbF hsq2; exact absurd hbF hsq; simpa [Hd.F] using hq) id
              · exact orMap (hKh122 b hb) (fun hq => by simp only [List.mem_cons] at hq; rcases hq with rfl | rfl | hq; exact absurd hbF hsq2; exact absurd hbF hsq; simpa [Hd.F] using hq) id
              · exact orMap (hKh151 b hb) (fun hq => by simp only [List.mem_cons] at hq; rcases hq with rfl | rfl | hq; exact absurd hbF hsq2; exact absurd hbF hsq; simpa [Hd.F] using hq) id
            try simp only [Exit.then, Exit.inBlock]
            try rw [if_pos trivial]
            exact s_ret tabOk tabZ_ok h188 [(.cell 6 44, {k := 3}), (.tmp 7, {})] (vs := [.agg #[.bool ((kstep m ev).2.refused), .int .i8 ((kstep m ev).2.running), .int .u64 ((kstep m ev).2.value)], .bool true]) (φ := (b8 = b8 ∧ Nat.ble (0 + 3) 3 = true) ∧ True) rfl (by kernel_rfl) ⟨⟨rfl, rfl⟩, trivial⟩ (.inr ⟨hfull, ⟨o82, c83, F84, o115, c116, F117, o144, c145, F146⟩, rfl, h188.kn (k := 1) rfl, hLA, h188.frame, hsub⟩)
        ·
          have hc131f : (((lg.base.idx + (lg.evs.length : Int)) + 1) % 32) ≠ 0 := by simpa using hc131
          have hn32 : ¬ (((lg.base.idx + (lg.evs.length : Int)) + 1) % 32 = 0) := hc131f
          refine wp_skip ?_
          refine hK127 _ _ ?_
          clear hK127
          refine wp_seq_k fun K189 hK189 => ?_
          refine nd_start (l := [0, 1, 2]) rfl ?_
          refine nd_batch tabOk tabZ_ok [(0, {k := 4})] [10, 6, 5, 0, 1, 2, 7, 8, 9, 89] (T' := [(10, .pointer (some ⟨b62, 0, none⟩)), (6, .pointer (some ⟨b8, 0, none⟩)), (5, .pointer (some ⟨b2, 0, none⟩)), (0, .pointer (some ⟨bl, 0, none⟩)), (1, .pointer (some ⟨bm, pre.length, none⟩)), (2, .agg #[.int .u8 ev.kind, .int .u32 ev.pick, .int .u64 ev.arg]), (7, .bool false), (8, .int .i64 ((lg.base.idx + (lg.evs.length : Int)) + 1)), (9, .int .i64 ((cost ev) + 10)), (89, .agg #[.bool ((kstep m ev).2.refused), .int .i8 ((kstep m ev).2.running), .int .u64 ((kstep m ev).2.value)])]) (φ := (b62 = b62 ∧ Nat.ble (0 + 3) 3 = true) ∧ True) (rest := [1, 2]) h130 (by kernel_rfl) rfl ⟨⟨rfl, rfl⟩, trivial⟩ fun a190 h191 => ?_
          clear h130
          refine nd_op ?_
          refine op_store tabOk {k := 3} (L' := [(bl, ⟨[.int .i64 lg.base.idx, .int .u64 lg.base.st.now, .int .i8 lg.base.st.cur, .int .u8 lg.base.st.s0, .int .u8 lg.base.st.s1, .int .u8 lg.base.st.s2, .int .u8 lg.base.st.s3, .int .u64 lg.base.st.r0, .int .u64 lg.base.st.r1, .int .u64 lg.base.st.r2, .int .u64 lg.base.st.r3, .int .u64 lg.base.st.word, .bool lg.base.out.refused, .int .i8 lg.base.out.running, .int .u64 lg.base.out.value, .slice o82 ((lg.evs ++ [ev]).length) c83, .slice o115 ((lg.mks ++ [(⟨((lg.base.idx + (lg.evs.length : Int)) + 1), dig (kstep m ev).1⟩ : Mk)]).length) c116, .slice so lg.sns.length sc], 89, false⟩), (bm, ⟨pre ++ machC ((kstep m ev).1) ++ post, ty, false⟩), (b2, ⟨[.int .u8 ev.kind, .int .u32 ev.pick, .int .u64 ev.arg], 31, false⟩), (b8, ⟨[.bool ((kstep m ev).2.refused), .int .i8 ((kstep m ev).2.running), .int .u64 ((kstep m ev).2.value)], 44, false⟩), (b62, ⟨[.bool ((kstep m ev).2.refused), .int .i8 ((kstep m ev).2.running), .int .u64 ((kstep m ev).2.value)], 44, false⟩), (b76, ⟨[.int .u8 ev.kind, .int .u32 ev.pick, .int .u64 ev.arg], 31, false⟩), (b109, ⟨[.int .i64 ((lg.base.idx + (lg.evs.length : Int)) + 1), .int .u64 (dig (kstep m ev).1)], 93, false⟩)]) (φ := b8 = b8 ∧ Nat.ble (0 + 3) 3 = true) h191 rfl rfl rfl (by kernel_rfl) ⟨rfl, rfl⟩ fun w192 h193 => ?_
          clear h191
          refine nd_batch tabOk tabZ_ok [(2, {})] [10, 6, 5, 0, 1, 2, 8, 9, 7] (T' := [(10, .pointer (some ⟨b62, 0, none⟩)), (6, .pointer (some ⟨b8, 0, none⟩)), (5, .pointer (some ⟨b2, 0, none⟩)), (0, .pointer (some ⟨bl, 0, none⟩)), (1, .pointer (some ⟨bm, pre.length, none⟩)), (2, .agg #[.int .u8 ev.kind, .int .u32 ev.pick, .int .u64 ev.arg]), (8, .int .i64 ((lg.base.idx + (lg.evs.length : Int)) + 1)), (9, .int .i64 ((cost ev) + 10)), (7, .bool true)]) (φ := True) (rest := []) h193 (by kernel_rfl) rfl trivial fun a194 h195 => ?_
          clear h193
          refine nd_done ?_
          refine hK189 _ _ ?_
          clear hK189
          refine wp_ret ?_
          have hrec : lg.recd m ev = (⟨lg.base, lg.evs ++ [ev], lg.mks ++ [(⟨((lg.base.idx + (lg.evs.length : Int)) + 1), dig (kstep m ev).1⟩ : Mk)], lg.sns⟩ : Lg) := by
            unfold Lg.recd Lg.fin
            simp only []
            rw [if_pos hn8, if_neg hn32]
          have hLA : LogAt _ bl ⟨o82, c83, F84, o115, c116, F117, so, sc, sF⟩ (⟨lg.base, lg.evs ++ [ev], lg.mks ++ [(⟨((lg.base.idx + (lg.evs.length : Int)) + 1), dig (kstep m ev).1⟩ : Mk)], lg.sns⟩ : Lg) := LogAt.ofSt h195 (k := 0) rfl (List.Sublist.refl _)
          rw [← hrec] at hLA
          have hsq := hLA.sep
          have hsq2 : bm ∉ (Hd.F ⟨o82, c83, F84, o115, c116, F117, so, sc, sF⟩) := by intro hq; rw [Hd.F_rows ⟨o82, c83, F84, o115, c116, F117, so, sc, sF⟩ (lg.recd m ev), hrec] at hq; exact h195.disj _ (List.mem_cons_of_mem _ (List.mem_cons_self ..)) rfl ((Ff_sub (List.Sublist.refl _)).mem hq)
          have hsub : ∀ b ∈ (Hd.F ⟨o82, c83, F84, o115, c116, F117, so, sc, sF⟩), b ∈ (Hd.F ⟨eo, ec, eF, mo, mc, mF, so, sc, sF⟩) ∨ w.heap.size ≤ b := by
            intro b hbF
            have hbq := hbF
            simp only [Hd.F, List.mem_append, List.append_nil] at hbq
            rcases hbq with hb | hb | hb
            · exact orMap (hKh89 b hb) (fun hq => by simp only [List.mem_cons] at hq; rcases hq with rfl | rfl | hq; exact absurd hbF hsq2; exact absurd hbF hsq; simpa [Hd.F] using hq) id
            · exact orMap (hKh122 b hb) (fun hq => by simp only [List.mem_cons] at hq; rcases hq with rfl | rfl | hq; exact absurd hbF hsq2; exact absurd hbF hsq; simpa [Hd.F] using hq) id
            · exact .inl ((fun hb => by simp [Hd.F, hb]) hb)
          try simp only [Exit.then, Exit.inBlock]
          try rw [if_pos trivial]
          exact s_ret tabOk tabZ_ok h195 [(.cell 6 44, {k := 3}), (.tmp 7, {})] (vs := [.agg #[.bool ((kstep m ev).2.refused), .int .i8 ((kstep m ev).2.running), .int .u64 ((kstep m ev).2.value)], .bool true]) (φ := (b8 = b8 ∧ Nat.ble (0 + 3) 3 = true) ∧ True) rfl (by kernel_rfl) ⟨⟨rfl, rfl⟩, trivial⟩ (.inr ⟨hfull, ⟨o82, c83, F84, o115, c116, F117, so, sc, sF⟩, rfl, h195.kn (k := 1) rfl, hLA, h195.frame, hsub⟩)
      ·
        exact absurd (hc98.symm.trans hc36) (by decide)
  ·
    have hc36f : (((lg.base.idx + (lg.evs.length : Int)) + 1) % 8) ≠ 0 := by simpa using hc36
    have hn8 : ¬ (((lg.base.idx + (lg.evs.length : Int)) + 1) % 8 = 0) := hc36f
    refine wp_skip ?_
    refine hK32 _ _ ?_
    clear hK32
    refine wp_seq_k fun K196 hK196 => ?_
    refine wp_seq_k fun K197 hK197 => ?_
    refine nd_start (l := [0, 1, 2, 3, 4]) rfl ?_
    refine nd_batch tabOk tabZ_ok [(0, {})] [6, 5, 0, 1, 2, 7, 8, 9, 21] (T' := [(6, .pointer (some ⟨b8, 0, none⟩)), (5, .pointer (some ⟨b2, 0, none⟩)), (0, .pointer (some ⟨bl, 0, none⟩)), (1, .pointer (some ⟨bm, pre.length, none⟩)), (2, .agg #[.int .u8 ev.kind, .int .u32 ev.pick, .int .u64 ev.arg]), (7, .bool false), (8, .int .i64 ((lg.base.idx + (lg.evs.length : Int)) + 1)), (9, .int .i64 (cost ev)), (21, .pointer (some ⟨bl, 0, none⟩))]) (φ := True) (rest := [1, 2, 3, 4]) h35 (by kernel_rfl) rfl trivial fun a198 h199 => ?_
    clear h35
    refine nd_op ?_
    refine op_call h199 rfl rfl rfl (callOk Tryf.func62 (by decide) rfl) (args := [.pointer (some ⟨bl, 0, none⟩)]) rfl (used_ok bl ⟨eo, ec, eF, mo, mc, mF, so, sc, sF⟩ lg _ (LogAt.ofSt h199 (k := 0) rfl (List.Sublist.refl _)) hev hlen hml) ?_
    rintro _ w200 ⟨rfl, hf202⟩
    refine ⟨_, rfl, ?_⟩
    have h201 := (h199.grow hf202).put (d := some 22) (v := .int .i64 lg.used) (T' := [(22, .int .i64 lg.used), (6, .pointer (some ⟨b8, 0, none⟩)), (5, .pointer (some ⟨b2, 0, none⟩)), (0, .pointer (some ⟨bl, 0, none⟩)), (1, .pointer (some ⟨bm, pre.length, none⟩)), (2, .agg #[.int .u8 ev.kind, .int .u32 ev.pick, .int .u64 ev.arg]), (7, .bool false), (8, .int .i64 ((lg.base.idx + (lg.evs.length : Int)) + 1)), (9, .int .i64 (cost ev)), (21, .pointer (some ⟨bl, 0, none⟩))]) rfl
    clear h199
    refine nd_batch tabOk tabZ_ok [(2, {}), (3, {}), (4, {})] [6, 5, 0, 1, 2, 7, 8, 9, 25] (T' := [(6, .pointer (some ⟨b8, 0, none⟩)), (5, .pointer (some ⟨b2, 0, none⟩)), (0, .pointer (some ⟨bl, 0, none⟩)), (1, .pointer (some ⟨bm, pre.length, none⟩)), (2, .agg #[.int .u8 ev.kind, .int .u32 ev.pick, .int .u64 ev.arg]), (7, .bool false), (8, .int .i64 ((lg.base.idx + (lg.evs.length : Int)) + 1)), (9, .int .i64 (cost ev)), (25, .bool (decide ((lg.used + (cost ev)) > 4096)))]) (φ := inR .i64 (lg.used + (cost ev)) ∧ True) (rest := []) h201 (by kernel_rfl) rfl ⟨⟨by omega, by omega⟩, trivial⟩ fun a203 h204 => ?_
    clear h201
    refine nd_done ?_
    refine hK197 _ _ ?_
    clear hK197
    refine c_split h204 (b := decide ((lg.used + (cost ev)) > 4096)) rfl (fun hc205 => ?_) (fun hc205 => ?_)
    ·
      have hc205f : (lg.used + (cost ev)) > 4096 := by simpa using hc205
      have hnd : lg.need ev = cost ev := by unfold Lg.need Lg.fin; rw [if_neg hn8]
      have hfull : lg.full ev := by unfold Lg.full; omega
      refine wp_seq_k fun K206 hK206 => ?_
      refine nd_start (l := [0, 1, 2]) rfl ?_
      refine nd_batch tabOk tabZ_ok [(0, {})] [6, 5, 0, 1, 2, 7, 8, 9, 26] (T' := [(6, .pointer (some ⟨b8, 0, none⟩)), (5, .pointer (some ⟨b2, 0, none⟩)), (0, .pointer (some ⟨bl, 0, none⟩)), (1, .pointer (some ⟨bm, pre.length, none⟩)), (2, .agg #[.int .u8 ev.kind, .int .u32 ev.pick, .int .u64 ev.arg]), (7, .bool false), (8, .int .i64 ((lg.base.idx + (lg.evs.length : Int)) + 1)), (9, .int .i64 (cost ev)), (26, .agg #[.bool false, .int .i8 0, .int .u64 0])]) (φ := True) (rest := [1, 2]) h204 (by kernel_rfl) rfl trivial fun a207 h208 => ?_
      clear h204
      refine nd_op ?_
      refine op_store tabOk {k := 3} (L' := [(bl, ⟨logC lg.base (.slice eo lg.evs.length ec) (.slice mo lg.mks.length mc) (.slice so lg.sns.length sc), 89, false⟩), (bm, ⟨pre ++ machC m ++ post, ty, false⟩), (b2, ⟨[.int .u8 ev.kind, .int .u32 ev.pick, .int .u64 ev.arg], 31, false⟩), (b8, ⟨[.bool false, .int .i8 0, .int .u64 0], 44, false⟩)]) (φ := b8 = b8 ∧ Nat.ble (0 + 3) 3 = true) h208 rfl rfl rfl (by kernel_rfl) ⟨rfl, rfl⟩ fun w209 h210 => ?_
      clear h208
      refine nd_batch tabOk tabZ_ok [(2, {})] [6, 5, 0, 1, 2, 8, 9, 7] (T' := [(6, .pointer (some ⟨b8, 0, none⟩)), (5, .pointer (some ⟨b2, 0, none⟩)), (0, .pointer (some ⟨bl, 0, none⟩)), (1, .pointer (some ⟨bm, pre.length, none⟩)), (2, .agg #[.int .u8 ev.kind, .int .u32 ev.pick, .int .u64 ev.arg]), (8, .int .i64 ((lg.base.idx + (lg.evs.length : Int)) + 1)), (9, .int .i64 (cost ev)), (7, .bool false)]) (φ := True) (rest := []) h210 (by kernel_rfl) rfl trivial fun a211 h212 => ?_
      clear h210
      refine nd_done ?_
      refine hK206 _ _ ?_
      clear hK206
      refine wp_ret ?_
      try simp only [Exit.then, Exit.inBlock]
      try rw [if_pos trivial]
      exact s_ret tabOk tabZ_ok h212 [(.cell 6 44, {k := 3}), (.tmp 7, {})] (vs := [.agg #[.bool false, .int .i8 0, .int .u64 0], .bool false]) (φ := (b8 = b8 ∧ Nat.ble (0 + 3) 3 = true) ∧ True) rfl (by kernel_rfl) ⟨⟨rfl, rfl⟩, trivial⟩ (.inl ⟨hfull, rfl, h212.kn (k := 1) rfl, LogAt.ofSt h212 (k := 0) rfl (List.Sublist.refl _), h212.frame⟩)
    ·
      have hc205f : ¬ (lg.used + (cost ev)) > 4096 := by simpa using hc205
      have hnd : lg.need ev = cost ev := by unfold Lg.need Lg.fin; rw [if_neg hn8]
      have hfull : ¬ lg.full ev := by unfold Lg.full; omega
      refine wp_skip ?_
      refine hK196 _ _ ?_
      clear hK196
      refine wp_seq_k fun K213 hK213 => ?_
      refine nd_start (l := [0, 1, 2, 3, 4]) rfl ?_
      refine nd_batch tabOk tabZ_ok [(0, {}), (1, {k := 2})] [6, 5, 0, 1, 2, 7, 8, 9, 27, 28] (T' := [(6, .pointer (some ⟨b8, 0, none⟩)), (5, .pointer (some ⟨b2, 0, none⟩)), (0, .pointer (some ⟨bl, 0, none⟩)), (1, .pointer (some ⟨bm, pre.length, none⟩)), (2, .agg #[.int .u8 ev.kind, .int .u32 ev.pick, .int .u64 ev.arg]), (7, .bool false), (8, .int .i64 ((lg.base.idx + (lg.evs.length : Int)) + 1)), (9, .int .i64 (cost ev)), (27, .pointer (some ⟨bm, pre.length, none⟩)), (28, .agg #[.int .u8 ev.kind, .int .u32 ev.pick, .int .u64 ev.arg])]) (φ := (b2 = b2 ∧ Nat.ble (0 + 3) 3 = true) ∧ True) (rest := [2, 3, 4]) h204 (by kernel_rfl) rfl ⟨⟨rfl, rfl⟩, trivial⟩ fun a214 h215 => ?_
      clear h204
      refine nd_op ?_
      refine op_call h215 rfl rfl rfl (callOk Tryf.func63 (by decide) rfl) (args := [.pointer (some ⟨bm, pre.length, none⟩), .agg #[.int .u8 ev.kind, .int .u32 ev.pick, .int .u64 ev.arg]]) rfl (step_calls pre post m hm ev he bm ty false _ (h215.kn (k := 1) rfl)) ?_
      rintro _ w216 ⟨rfl, hbs, hf218⟩
      refine ⟨_, rfl, ?_⟩
      have h217 := (h215.setBlk (k := 1) rfl rfl hf218 hbs (L' := [(bl, ⟨logC lg.base (.slice eo lg.evs.length ec) (.slice mo lg.mks.length mc) (.slice so lg.sns.length sc), 89, false⟩), (bm, ⟨pre ++ machC ((kstep m ev).1) ++ post, ty, false⟩), (b2, ⟨[.int .u8 ev.kind, .int .u32 ev.pick, .int .u64 ev.arg], 31, false⟩), (b8, ⟨[.bool false, .int .i8 0, .int .u64 0], 44, false⟩)]) rfl).put (d := some 29) (v := .agg #[.bool ((kstep m ev).2.refused), .int .i8 ((kstep m ev).2.running), .int .u64 ((kstep m ev).2.value)]) (T' := [(29, .agg #[.bool ((kstep m ev).2.refused), .int .i8 ((kstep m ev).2.running), .int .u64 ((kstep m ev).2.value)]), (6, .pointer (some ⟨b8, 0, none⟩)), (5, .pointer (some ⟨b2, 0, none⟩)), (0, .pointer (some ⟨bl, 0, none⟩)), (1, .pointer (some ⟨bm, pre.length, none⟩)), (2, .agg #[.int .u8 ev.kind, .int .u32 ev.pick, .int .u64 ev.arg]), (7, .bool false), (8, .int .i64 ((lg.base.idx + (lg.evs.length : Int)) + 1)), (9, .int .i64 (cost ev)), (27, .pointer (some ⟨bm, pre.length, none⟩)), (28, .agg #[.int .u8 ev.kind, .int .u32 ev.pick, .int .u64 ev.arg])]) rfl
      clear h215
      refine nd_op ?_
      refine op_new tabOk (cells := [.bool false, .int .i8 0, .int .u64 0]) (ty := 44) (ln := none) (L1 := fun b219 => [(bl, ⟨logC lg.base (.slice eo lg.evs.length ec) (.slice mo lg.mks.length mc) (.slice so lg.sns.length sc), 89, false⟩), (bm, ⟨pre ++ machC ((kstep m ev).1) ++ post, ty, false⟩), (b2, ⟨[.int .u8 ev.kind, .int .u32 ev.pick, .int .u64 ev.arg], 31, false⟩), (b8, ⟨[.bool false, .int .i8 0, .int .u64 0], 44, false⟩), (b219, ⟨[.bool false, .int .i8 0, .int .u64 0], 44, false⟩)]) h217 rfl rfl rfl rfl (by kernel_rfl) (fun _ => rfl) fun b219 w220 a221 h222 hf223 hn224 => ?_
      clear h217
      refine nd_op ?_
      refine op_store tabOk {k := 4} (L' := [(bl, ⟨logC lg.base (.slice eo lg.evs.length ec) (.slice mo lg.mks.length mc) (.slice so lg.sns.length sc), 89, false⟩), (bm, ⟨pre ++ machC ((kstep m ev).1) ++ post, ty, false⟩), (b2, ⟨[.int .u8 ev.kind, .int .u32 ev.pick, .int .u64 ev.arg], 31, false⟩), (b8, ⟨[.bool false, .int .i8 0, .int .u64 0], 44, false⟩), (b219, ⟨[.bool ((kstep m ev).2.refused), .int .i8 ((kstep m ev).2.running), .int .u64 ((kstep m ev).2.value)], 44, false⟩)]) (φ := b219 = b219 ∧ Nat.ble (0 + 3) 3 = true) h222 rfl rfl rfl (by kernel_rfl) ⟨rfl, rfl⟩ fun w225 h226 => ?_
      clear h222
      refine nd_done ?_
      refine hK213 _ _ ?_
      clear hK213
      refine wp_seq_k fun K227 hK227 => ?_
      refine dr_start (KB := [bl, bm, b2, b8, b219]) (Bi := [[0, 1, 2, 3, 4], [0, 1, 2, 3, 4], [0, 1, 2, 3, 4], [0, 1, 2, 3, 4], [0, 1, 2, 3, 4], [0, 1, 2, 3, 4], [0, 1, 2, 3, 4], [], [0, 1, 2, 3, 4], [0, 1, 2, 3, 4], []]) mixed h226 fun w228 h229 => ?_
      clear h226
      refine dr_batch tabOk tabZ_ok (by repeat (first | exact PF.body | with_reducible apply PF.inB | with_reducible apply PF.next)) [(0, {}), (1, {}), (2, {}), (3, {}), (4, {k := 0, p := 0}), (5, {k := 2, p := 2})] [10, 6, 5, 0, 1, 2, 7, 8, 9, 30, 34, 35] (T' := [(10, .pointer (some ⟨b219, 0, none⟩)), (6, .pointer (some ⟨b8, 0, none⟩)), (5, .pointer (some ⟨b2, 0, none⟩)), (0, .pointer (some ⟨bl, 0, none⟩)), (1, .pointer (some ⟨bm, pre.length, none⟩)), (2, .agg #[.int .u8 ev.kind, .int .u32 ev.pick, .int .u64 ev.arg]), (7, .bool false), (8, .int .i64 ((lg.base.idx + (lg.evs.length : Int)) + 1)), (9, .int .i64 (cost ev)), (30, .pointer (some ⟨bl, 0, none⟩)), (34, .slice eo lg.evs.length ec), (35, .agg #[.int .u8 ev.kind, .int .u32 ev.pick, .int .u64 ev.arg])]) (φ := (bl = bl ∧ Nat.ble (15 + 1) 18 = true) ∧ (b2 = b2 ∧ Nat.ble (0 + 3) 3 = true) ∧ True) (fuel := 5) h229 (by kernel_rfl) rfl (by kernel_rfl) (by kernel_rfl) ⟨trivial, trivial, trivial, trivial, rfl, rfl, trivial⟩ ⟨⟨rfl, rfl⟩, ⟨rfl, rfl⟩, trivial⟩ fun a231 h232 => ?_
      clear h229
      refine wpAnyK_one (i := 6) (fuel := 4) (by kernel_rfl) ?_
      refine op_new tabOk (cells := [.int .u8 ev.kind, .int .u32 ev.pick, .int .u64 ev.arg]) (ty := 31) (ln := (some 1)) (L1 := fun b233 => [(bl, ⟨logC lg.base (.slice eo lg.evs.length ec) (.slice mo lg.mks.length mc) (.slice so lg.sns.length sc), 89, false⟩), (bm, ⟨pre ++ machC ((kstep m ev).1) ++ post, ty, false⟩), (b2, ⟨[.int .u8 ev.kind, .int .u32 ev.pick, .int .u64 ev.arg], 31, false⟩), (b8, ⟨[.bool false, .int .i8 0, .int .u64 0], 44, false⟩), (b219, ⟨[.bool ((kstep m ev).2.refused), .int .i8 ((kstep m ev).2.running), .int .u64 ((kstep m ev).2.value)], 44, false⟩), (b233, ⟨[.int .u8 ev.kind, .int .u32 ev.pick, .int .u64 ev.arg], 31, false⟩)]) h232 rfl rfl rfl rfl (by kernel_rfl) (fun _ => rfl) fun b233 w234 a235 h236 hf237 hn238 => ?_
      refine ⟨(h232.keepFr hf237 (kcons (by simp) (kcons (by simp) (kcons (by simp) (kcons (by simp) (kcons (by simp) knil)))))), ?_⟩
      clear h232
      refine wpAnyK_one (i := 7) (fuel := 3) (by kernel_rfl) ?_
      refine op_append tabOk (e := 31) (so := eo) (n := lg.evs.length) (c := ec) (xo := some ⟨b233, 0, none⟩) (m := 1) (cx := 1) (vals := lg.evs.flatMap evC) (vs := [.int .u8 ev.kind, .int .u32 ev.pick, .int .u64 ev.arg]) (F := eF) h236 rfl rfl rfl rfl rfl rfl rfl rfl rfl rfl rfl rfl (h236.inv.get (j := 0) rfl) (src_one (h236.kn (k := 5) rfl) rfl ⟨rfl, rfl, rfl, trivial⟩) (by omega) rfl ?_
      intro o239 c240 F241 w242 hr243 hf244 hF245
      have hr2432 := rl_app1 (enc := evC) (xs := lg.evs) (y := ev) hr243
      have hKh246 := row1_keys (K := (bm :: bl :: (eF ++ (mF ++ (sF ++ []))))) (fun b hb => .inl (by simp [hb])) h236.frame.size hF245
      rw [show lg.evs.length + 1 = (lg.evs ++ [ev]).length by simp]
      have h246 := (h236.rowSet (j := 0) (r' := rl evC 31 3 (lg.evs ++ [ev]) o239 c240 F241) (R' := [rl evC 31 3 (lg.evs ++ [ev]) o239 c240 F241, rl mkC 93 2 lg.mks mo mc mF, rl ptC 84 15 lg.sns so sc sF]) rfl hr2432 hf244 hF245 (fun b hb => .inl (by simp [hb])) (kcons (by intro hq; cases hq) (kcons (by intro hq; cases hq) (kcons (by intro hq; cases hq) (kcons (by intro hq; cases hq) (kcons (by intro hq; cases hq) (kcons (by intro hq; cases hq) knil)))))) rfl).put (d := some 37) (v := .slice o239 ((lg.evs ++ [ev]).length) c240) (T' := [(37, .slice o239 ((lg.evs ++ [ev]).length) c240), (36, .slice (some ⟨b233, 0, none⟩) 1 1), (10, .pointer (some ⟨b219, 0, none⟩)), (6, .pointer (some ⟨b8, 0, none⟩)), (5, .pointer (some ⟨b2, 0, none⟩)), (0, .pointer (some ⟨bl, 0, none⟩)), (1, .pointer (some ⟨bm, pre.length, none⟩)), (2, .agg #[.int .u8 ev.kind, .int .u32 ev.pick, .int .u64 ev.arg]), (7, .bool false), (8, .int .i64 ((lg.base.idx + (lg.evs.length : Int)) + 1)), (9, .int .i64 (cost ev)), (30, .pointer (some ⟨bl, 0, none⟩)), (34, .slice eo lg.evs.length ec), (35, .agg #[.int .u8 ev.kind, .int .u32 ev.pick, .int .u64 ev.arg])]) rfl
      have hkh246 := h236.known
      refine ⟨keepNil, ?_⟩
      clear h236
      refine dr_batch tabOk tabZ_ok (by repeat (first | exact PF.body | with_reducible apply PF.inB | with_reducible apply PF.next)) [(8, {}), (9, {})] [37, 10, 6, 5, 0, 1, 2, 7, 8, 9, 39] (T' := [(37, .slice o239 ((lg.evs ++ [ev]).length) c240), (10, .pointer (some ⟨b219, 0, none⟩)), (6, .pointer (some ⟨b8, 0, none⟩)), (5, .pointer (some ⟨b2, 0, none⟩)), (0, .pointer (some ⟨bl, 0, none⟩)), (1, .pointer (some ⟨bm, pre.length, none⟩)), (2, .agg #[.int .u8 ev.kind, .int .u32 ev.pick, .int .u64 ev.arg]), (7, .bool false), (8, .int .i64 ((lg.base.idx + (lg.evs.length : Int)) + 1)), (9, .int .i64 (cost ev)), (39, .pointer (some ⟨bl, 15, none⟩))]) (φ := True) (fuel := 1) h246 (by kernel_rfl) rfl (by kernel_rfl) (by kernel_rfl) ⟨trivial, trivial, trivial⟩ trivial fun a247 h248 => ?_
      clear h246
      refine wpAnyK_one (i := 10) (fuel := 0) (by kernel_rfl) ?_
      refine op_store tabOk {k := 0} (L' := [(bl, ⟨[.int .i64 lg.base.idx, .int .u64 lg.base.st.now, .int .i8 lg.base.st.cur, .int .u8 lg.base.st.s0, .int .u8 lg.base.st.s1, .int .u8 lg.base.st.s2, .int .u8 lg.base.st.s3, .int .u64 lg.base.st.r0, .int .u64 lg.base.st.r1, .int .u64 lg.base.st.r2, .int .u64 lg.base.st.r3, .int .u64 lg.base.st.word, .bool lg.base.out.refused, .int .i8 lg.base.out.running, .int .u64 lg.base.out.value, .slice o239 ((lg.evs ++ [ev]).length) c240, .slice mo lg.mks.length mc, .slice so lg.sns.length sc], 89, false⟩), (bm, ⟨pre ++ machC ((kstep m ev).1) ++ post, ty, false⟩), (b2, ⟨[.int .u8 ev.kind, .int .u32 ev.pick, .int .u64 ev.arg], 31, false⟩), (b8, ⟨[.bool false, .int .i8 0, .int .u64 0], 44, false⟩), (b219, ⟨[.bool ((kstep m ev).2.refused), .int .i8 ((kstep m ev).2.running), .int .u64 ((kstep m ev).2.value)], 44, false⟩), (b233, ⟨[.int .u8 ev.kind, .int .u32 ev.pick, .int .u64 ev.arg], 31, false⟩)]) (φ := bl = bl ∧ Nat.ble (15 + 1) 18 = true) h248 rfl rfl rfl (by kernel_rfl) ⟨rfl, rfl⟩ fun w249 h250 => ?_
      have hkh250 := h248.known
      refine ⟨keepNil, ?_⟩
      clear h248
      refine wpAnyK_done (by kernel_rfl) ?_ _
      refine hK227 _ _ ?_
      clear hK227
      refine wp_seq_k fun K251 hK251 => ?_
      refine wp_seq_k fun K252 hK252 => ?_
      refine nd_start (l := [0, 1, 2]) rfl ?_
      refine nd_batch tabOk tabZ_ok [(0, {}), (1, {}), (2, {})] [10, 6, 5, 0, 1, 2, 7, 8, 9, 42] (T' := [(10, .pointer (some ⟨b219, 0, none⟩)), (6, .pointer (some ⟨b8, 0, none⟩)), (5, .pointer (some ⟨b2, 0, none⟩)), (0, .pointer (some ⟨bl, 0, none⟩)), (1, .pointer (some ⟨bm, pre.length, none⟩)), (2, .agg #[.int .u8 ev.kind, .int .u32 ev.pick, .int .u64 ev.arg]), (7, .bool false), (8, .int .i64 ((lg.base.idx + (lg.evs.length : Int)) + 1)), (9, .int .i64 (cost ev)), (42, .bool ((((lg.base.idx + (lg.evs.length : Int)) + 1) % 8) == 0))]) (φ := (0 ≤ ((lg.base.idx + (lg.evs.length : Int)) + 1) ∧ 0 < (8 : Int)) ∧ True) (rest := []) h250 (by kernel_rfl) rfl ⟨⟨by omega, by omega⟩, trivial⟩ fun a253 h254 => ?_
      clear h250
      refine nd_done ?_
      refine hK252 _ _ ?_
      clear hK252
      refine c_split h254 (b := ((((lg.base.idx + (lg.evs.length : Int)) + 1) % 8) == 0)) rfl (fun hc255 => ?_) (fun hc255 => ?_)
      ·
        exact absurd (hc255.symm.trans hc36) (by decide)
      ·
        have hc255f : (((lg.base.idx + (lg.evs.length : Int)) + 1) % 8) ≠ 0 := by simpa using hc255
        refine wp_skip ?_
        refine hK251 _ _ ?_
        clear hK251
        refine wp_seq_k fun K256 hK256 => ?_
        refine wp_seq_k fun K257 hK257 => ?_
        refine nd_start (l := [0, 1, 2]) rfl ?_
        refine nd_batch tabOk tabZ_ok [(0, {}), (1, {}), (2, {})] [10, 6, 5, 0, 1, 2, 7, 8, 9, 58] (T' := [(10, .pointer (some ⟨b219, 0, none⟩)), (6, .pointer (some ⟨b8, 0, none⟩)), (5, .pointer (some ⟨b2, 0, none⟩)), (0, .pointer (some ⟨bl, 0, none⟩)), (1, .pointer (some ⟨bm, pre.length, none⟩)), (2, .agg #[.int .u8 ev.kind, .int .u32 ev.pick, .int .u64 ev.arg]), (7, .bool false), (8, .int .i64 ((lg.base.idx + (lg.evs.length : Int)) + 1)), (9, .int .i64 (cost ev)), (58, .bool ((((lg.base.idx + (lg.evs.length : Int)) + 1) % 32) == 0))]) (φ := (0 ≤ ((lg.base.idx + (lg.evs.length : Int)) + 1) ∧ 0 < (32 : Int)) ∧ True) (rest := []) h254 (by kernel_rfl) rfl ⟨⟨by omega, by omega⟩, trivial⟩ fun a258 h259 => ?_
        clear h254
        refine nd_done ?_
        refine hK257 _ _ ?_
        clear hK257
        refine c_split h259 (b := ((((lg.base.idx + (lg.evs.length : Int)) + 1) % 32) == 0)) rfl (fun hc260 => ?_) (fun hc260 => ?_)
        ·
          have hc260f : (((lg.base.idx + (lg.evs.length : Int)) + 1) % 32) = 0 := by simpa using hc260
          have hn32 : (((lg.base.idx + (lg.evs.length : Int)) + 1) % 32 = 0) := hc260f
          refine wp_seq_k fun K261 hK261 => ?_
          refine dr_start (KB := [bl, bm, b2, b8, b219, b233]) (Bi := [[0, 1, 2, 3, 4, 5], [0, 1, 2, 3, 4, 5], [0, 1, 2, 3, 4, 5], [0, 1, 2, 3, 4, 5], [0, 1, 2, 3, 4, 5], [0, 1, 2, 3, 4, 5], [0, 1, 2, 3, 4, 5], [0, 1, 2, 3, 4, 5], [0, 1, 2, 3, 4, 5], [0, 1, 2, 3, 4, 5], [0, 1, 2, 3, 4, 5], [0, 1, 2, 3, 4, 5], [], [0, 1, 2, 3, 4, 5], [0, 1, 2, 3, 4, 5], []]) mixed h259 fun w262 h263 => ?_
          clear h259
          refine dr_batch tabOk tabZ_ok (by repeat (first | exact PF.body | with_reducible apply PF.inB | with_reducible apply PF.next)) [(0, {}), (1, {}), (2, {}), (3, {}), (4, {k := 0, p := 0}), (5, {}), (6, {}), (7, {}), (8, {k := 1, m := 1, vs := [.int .u64 (((kstep m ev).1).now), .int .i8 (((kstep m ev).1).cur), .int .u8 (((kstep m ev).1).s0), .int .u8 (((kstep m ev).1).s1), .int .u8 (((kstep m ev).1).s2), .int .u8 (((kstep m ev).1).s3), .int .u64 (((kstep m ev).1).r0), .int .u64 (((kstep m ev).1).r1), .int .u64 (((kstep m ev).1).r2), .int .u64 (((kstep m ev).1).r3), .int .u64 (((kstep m ev).1).word)], p := 1}), (9, {k := 4, p := 4}), (10, {})] [10, 6, 5, 0, 1, 2, 7, 8, 9, 59, 63, 69] (T' := [(10, .pointer (some ⟨b219, 0, none⟩)), (6, .pointer (some ⟨b8, 0, none⟩)), (5, .pointer (some ⟨b2, 0, none⟩)), (0, .pointer (some ⟨bl, 0, none⟩)), (1, .pointer (some ⟨bm, pre.length, none⟩)), (2, .agg #[.int .u8 ev.kind, .int .u32 ev.pick, .int .u64 ev.arg]), (7, .bool false), (8, .int .i64 ((lg.base.idx + (lg.evs.length : Int)) + 1)), (9, .int .i64 (cost ev)), (59, .pointer (some ⟨bl, 0, none⟩)), (63, .slice so lg.sns.length sc), (69, .agg #[.int .i64 ((lg.base.idx + (lg.evs.length : Int)) + 1), .int .u64 (((kstep m ev).1).now), .int .i8 (((kstep m ev).1).cur), .int .u8 (((kstep m ev).1).s0), .int .u8 (((kstep m ev).1).s1), .int .u8 (((kstep m ev).1).s2), .int .u8 (((kstep m ev).1).s3), .int .u64 (((kstep m ev).1).r0), .int .u64 (((kstep m ev).1).r1), .int .u64 (((kstep m ev).1).r2), .int .u64 (((kstep m ev).1).r3), .int .u64 (((kstep m ev).1).word), .bool ((kstep m ev).2.refused), .int .i8 ((kstep m ev).2.running), .int .u64 ((kstep m ev).2.value)])]) (φ := (bl = bl ∧ Nat.ble (17 + 1) 18 = true) ∧ (bm = bm ∧ cellsAre (pre ++ machC ((kstep m ev).1) ++ post) pre.length [.int .u64 (((kstep m ev).1).now), .int .i8 (((kstep m ev).1).cur), .int .u8 (((kstep m ev).1).s0), .int .u8 (((kstep m ev).1).s1), .int .u8 (((kstep m ev).1).s2), .int .u8 (((kstep m ev).1).s3), .int .u64 (((kstep m ev).1).r0), .int .u64 (((kstep m ev).1).r1), .int .u64 (((kstep m ev).1).r2), .int .u64 (((kstep m ev).1).r3), .int .u64 (((kstep m ev).1).word)]) ∧ (b219 = b219 ∧ Nat.ble (0 + 3) 3 = true) ∧ True) (fuel := 5) h263 (by kernel_rfl) rfl (by kernel_rfl) (by kernel_rfl) ⟨trivial, trivial, trivial, trivial, rfl, trivial, trivial, trivial, rfl, rfl, trivial, trivial⟩ ⟨⟨rfl, rfl⟩, ⟨rfl, (mid_all pre post ((kstep m ev).1))⟩, ⟨rfl, rfl⟩, trivial⟩ fun a265 h266 => ?_
          clear h263
          refine wpAnyK_one (i := 11) (fuel := 4) (by kernel_rfl) ?_
          refine op_new tabOk (cells := [.int .i64 ((lg.base.idx + (lg.evs.length : Int)) + 1), .int .u64 (((kstep m ev).1).now), .int .i8 (((kstep m ev).1).cur), .int .u8 (((kstep m ev).1).s0), .int .u8 (((kstep m ev).1).s1), .int .u8 (((kstep m ev).1).s2), .int .u8 (((kstep m ev).1).s3), .int .u64 (((kstep m ev).1).r0), .int .u64 (((kstep m ev).1).r1), .int .u64 (((kstep m ev).1).r2), .int .u64 (((kstep m ev).1).r3), .int .u64 (((kstep m ev).1).word), .bool ((kstep m ev).2.refused), .int .i8 ((kstep m ev).2.running), .int .u64 ((kstep m ev).2.value)]) (ty := 84) (ln := (some 1)) (L1 := fun b267 => [(bl, ⟨[.int .i64 lg.base.idx, .int .u64 lg.base.st.now, .int .i8 lg.base.st.cur, .int .u8 lg.base.st.s0, .int .u8 lg.base.st.s1, .int .u8 lg.base.st.s2, .int .u8 lg.base.st.s3, .int .u64 lg.base.st.r0, .int .u64 lg.base.st.r1, .int .u64 lg.base.st.r2, .int .u64 lg.base.st.r3, .int .u64 lg.base.st.word, .bool lg.base.out.refused, .int .i8 lg.base.out.running, .int .u64 lg.base.out.value, .slice o239 ((lg.evs ++ [ev]).length) c240, .slice mo lg.mks.length mc, .slice so lg.sns.length sc], 89, false⟩), (bm, ⟨pre ++ machC ((kstep m ev).1) ++ post, ty, false⟩), (b2, ⟨[.int .u8 ev.kind, .int .u32 ev.pick, .int .u64 ev.arg], 31, false⟩), (b8, ⟨[.bool false, .int .i8 0, .int .u64 0], 44, false⟩), (b219, ⟨[.bool ((kstep m ev).2.refused), .int .i8 ((kstep m ev).2.running), .int .u64 ((kstep m ev).2.value)], 44, false⟩), (b233, ⟨[.int .u8 ev.kind, .int .u32 ev.pick, .int .u64 ev.arg], 31, false⟩), (b267, ⟨[.int .i64 ((lg.base.idx + (lg.evs.length : Int)) + 1), .int .u64 (((kstep m ev).1).now), .int .i8 (((kstep m ev).1).cur), .int .u8 (((kstep m ev).1).s0), .int .u8 (((kstep m ev).1).s1), .int .u8 (((kstep m ev).1).s2), .int .u8 (((kstep m ev).1).s3), .int .u64 (((kstep m ev).1).r0), .int .u64 (((kstep m ev).1).r1), .int .u64 (((kstep m ev).1).r2), .int .u64 (((kstep m ev).1).r3), .int .u64 (((kstep m ev).1).word), .bool ((kstep m ev).2.refused), .int .i8 ((kstep m ev).2.running), .int .u64 ((kstep m ev).2.value)], 84, false⟩)]) h266 rfl rfl rfl rfl (by kernel_rfl) (fun _ => rfl) fun b267 w268 a269 h270 hf271 hn272 => ?_
          refine ⟨(h266.keepFr hf271 (kcons (by simp) (kcons (by simp) (kcons (by simp) (kcons (by simp) (kcons (by simp) (kcons (by simp) knil))))))), ?_⟩
          clear h266
          refine wpAnyK_one (i := 12) (fuel := 3) (by kernel_rfl) ?_
          refine op_append tabOk (e := 84) (so := so) (n := lg.sns.length) (c := sc) (xo := some ⟨b267, 0, none⟩) (m := 1) (cx := 1) (vals := lg.sns.flatMap ptC) (vs := [.int .i64 ((lg.base.idx + (lg.evs.length : Int)) + 1), .int .u64 (((kstep m ev).1).now), .int .i8 (((kstep m ev).1).cur), .int .u8 (((kstep m ev).1).s0), .int .u8 (((kstep m ev).1).s1), .int .u8 (((kstep m ev).1).s2), .int .u8 (((kstep m ev).1).s3), .int .u64 (((kstep m ev).1).r0), .int .u64 (((kstep m ev).1).r1), .int .u64 (((kstep m ev).1).r2), .int .u64 (((kstep m ev).1).r3), .int .u64 (((kstep m ev).1).word), .bool ((kstep m ev).2.refused), .int .i8 ((kstep m ev).2.running), .int .u64 ((kstep m ev).2.value)]) (F := sF) h270 rfl rfl rfl rfl rfl rfl rfl rfl rfl rfl rfl rfl (h270.inv.get (j := 2) rfl) (src_one (h270.kn (k := 6) rfl) rfl ⟨rfl, rfl, rfl, rfl, rfl, rfl, rfl, rfl, rfl, rfl, rfl, rfl, rfl, rfl, rfl, trivial⟩) (by omega) rfl ?_
          intro o273 c274 F275 w276 hr277 hf278 hF279
          have hr2772 := rl_app1 (enc := ptC) (xs := lg.sns) (y := (⟨((lg.base.idx + (lg.evs.length : Int)) + 1), (kstep m ev).1, (kstep m ev).2⟩ : Pt)) hr277
          have hKh280 := row1_keys (K := (bm :: bl :: (eF ++ (mF ++ (sF ++ []))))) (fun b hb => .inl (by simp [hb])) h270.frame.size hF279
          rw [show lg.sns.length + 1 = (lg.sns ++ [(⟨((lg.base.idx + (lg.evs.length : Int)) + 1), (kstep m ev).1, (kstep m ev).2⟩ : Pt)]).length by simp]
          have h280 := (h270.rowSet (j := 2) (r' := rl ptC 84 15 (lg.sns ++ [(⟨((lg.base.idx + (lg.evs.length : Int)) + 1), (kstep m ev).1, (kstep m ev).2⟩ : Pt)]) o273 c274 F275) (R' := [rl evC 31 3 (lg.evs ++ [ev]) o239 c240 F241, rl mkC 93 2 lg.mks mo mc mF, rl ptC 84 15 (lg.sns ++ [(⟨((lg.base.idx + (lg.evs.length : Int)) + 1), (kstep m ev).1, (kstep m ev).2⟩ : Pt)]) o273 c274 F275]) rfl hr2772 hf278 hF279 (fun b hb => .inl (by simp [hb])) (kcons (by intro hq; cases hq) (kcons (by intro hq; cases hq) (kcons (by intro hq; cases hq) (kcons (by intro hq; cases hq) (kcons (by intro hq; cases hq) (kcons (by intro hq; cases hq) (kcons (by intro hq; cases hq) knil))))))) rfl).put (d := some 71) (v := .slice o273 ((lg.sns ++ [(⟨((lg.base.idx + (lg.evs.length : Int)) + 1), (kstep m ev).1, (kstep m ev).2⟩ : Pt)]).length) c274) (T' := [(71, .slice o273 ((lg.sns ++ [(⟨((lg.base.idx + (lg.evs.length : Int)) + 1), (kstep m ev).1, (kstep m ev).2⟩ : Pt)]).length) c274), (70, .slice (some ⟨b267, 0, none⟩) 1 1), (10, .pointer (some ⟨b219, 0, none⟩)), (6, .pointer (some ⟨b8, 0, none⟩)), (5, .pointer (some ⟨b2, 0, none⟩)), (0, .pointer (some ⟨bl, 0, none⟩)), (1, .pointer (some ⟨bm, pre.length, none⟩)), (2, .agg #[.int .u8 ev.kind, .int .u32 ev.pick, .int .u64 ev.arg]), (7, .bool false), (8, .int .i64 ((lg.base.idx + (lg.evs.length : Int)) + 1)), (9, .int .i64 (cost ev)), (59, .pointer (some ⟨bl, 0, none⟩)), (63, .slice so lg.sns.length sc), (69, .agg #[.int .i64 ((lg.base.idx + (lg.evs.length : Int)) + 1), .int .u64 (((kstep m ev).1).now), .int .i8 (((kstep m ev).1).cur), .int .u8 (((kstep m ev).1).s0), .int .u8 (((kstep m ev).1).s1), .int .u8 (((kstep m ev).1).s2), .int .u8 (((kstep m ev).1).s3), .int .u64 (((kstep m ev).1).r0), .int .u64 (((kstep m ev).1).r1), .int .u64 (((kstep m ev).1).r2), .int .u64 (((kstep m ev).1).r3), .int .u64 (((kstep m ev).1).word), .bool ((kstep m ev).2.refused), .int .i8 ((kstep m ev).2.running), .int .u64 ((kstep m ev).2.value)])]) rfl
          have hkh280 := h270.known
          refine ⟨keepNil, ?_⟩
          clear h270
          refine dr_batch tabOk tabZ_ok (by repeat (first | exact PF.body | with_reducible apply PF.inB | with_reducible apply PF.next)) [(13, {}), (14, {})] [71, 10, 6, 5, 0, 1, 2, 7, 8, 9, 73] (T' := [(71, .slice o273 ((lg.sns ++ [(⟨((lg.base.idx + (lg.evs.length : Int)) + 1), (kstep m ev).1, (kstep m ev).2⟩ : Pt)]).length) c274), (10, .pointer (some ⟨b219, 0, none⟩)), (6, .pointer (some ⟨b8, 0, none⟩)), (5, .pointer (some ⟨b2, 0, none⟩)), (0, .pointer (some ⟨bl, 0, none⟩)), (1, .pointer (some ⟨bm, pre.length, none⟩)), (2, .agg #[.int .u8 ev.kind, .int .u32 ev.pick, .int .u64 ev.arg]), (7, .bool false), (8, .int .i64 ((lg.base.idx + (lg.evs.length : Int)) + 1)), (9, .int .i64 (cost ev)), (73, .pointer (some ⟨bl, 17, none⟩))]) (φ := True) (fuel := 1) h280 (by kernel_rfl) rfl (by kernel_rfl) (by kernel_rfl) ⟨trivial, trivial, trivial⟩ trivial fun a281 h282 => ?_
          clear h280
          refine wpAnyK_one (i := 15) (fuel := 0) (by kernel_rfl) ?_
          refine op_store tabOk {k := 0} (L' := [(bl, ⟨[.int .i64 lg.base.idx, .int .u64 lg.base.st.now, .int .i8 lg.base.st.cur, .int .u8 lg.base.st.s0, .int .u8 lg.base.st.s1, .int .u8 lg.base.st.s2, .int .u8 lg.base.st.s3, .int .u64 lg.base.st.r0, .int .u64 lg.base.st.r1, .int .u64 lg.base.st.r2, .int .u64 lg.base.st.r3, .int .u64 lg.base.st.word, .bool lg.base.out.refused, .int .i8 lg.base.out.running, .int .u64 lg.base.out.value, .slice o239 ((lg.evs ++ [ev]).length) c240, .slice mo lg.mks.length mc, .slice o273 ((lg.sns ++ [(⟨((lg.base.idx + (lg.evs.length : Int)) + 1), (kstep m ev).1, (kstep m ev).2⟩ : Pt)]).length) c274], 89, false⟩), (bm, ⟨pre ++ machC ((kstep m ev).1) ++ post, ty, false⟩), (b2, ⟨[.int .u8 ev.kind, .int .u32 ev.pick, .int .u64 ev.arg], 31, false⟩), (b8, ⟨[.bool false, .int .i8 0, .int .u64 0], 44, false⟩), (b219, ⟨[.bool ((kstep m ev).2.refused), .int .i8 ((kstep m ev).2.running), .int .u64 ((kstep m ev).2.value)], 44, false⟩), (b233, ⟨[.int .u8 ev.kind, .int .u32 ev.pick, .int .u64 ev.arg], 31, false⟩), (b267, ⟨[.int .i64 ((lg.base.idx + (lg.evs.length : Int)) + 1), .int .u64 (((kstep m ev).1).now), .int .i8 (((kstep m ev).1).cur), .int .u8 (((kstep m ev).1).s0), .int .u8 (((kstep m ev).1).s1), .int .u8 (((kstep m ev).1).s2), .int .u8 (((kstep m ev).1).s3), .int .u64 (((kstep m ev).1).r0), .int .u64 (((kstep m ev).1).r1), .int .u64 (((kstep m ev).1).r2), .int .u64 (((kstep m ev).1).r3), .int .u64 (((kstep m ev).1).word), .bool ((kstep m ev).2.refused), .int .i8 ((kstep m ev).2.running), .int .u64 ((kstep m ev).2.value)], 84, false⟩)]) (φ := bl = bl ∧ Nat.ble (17 + 1) 18 = true) h282 rfl rfl rfl (by kernel_rfl) ⟨rfl, rfl⟩ fun w283 h284 => ?_
          have hkh284 := h282.known
          refine ⟨keepNil, ?_⟩
          clear h282
          refine wpAnyK_done (by kernel_rfl) ?_ _
          refine hK261 _ _ ?_
          clear hK261
          refine wp_seq_k fun K285 hK285 => ?_
          refine nd_start (l := [0, 1, 2, 3, 4, 5]) rfl ?_
          refine nd_batch tabOk tabZ_ok [(0, {}), (1, {}), (2, {}), (3, {k := 0}), (4, {}), (5, {})] [10, 6, 5, 0, 1, 2, 7, 8, 9, 79] (T' := [(10, .pointer (some ⟨b219, 0, none⟩)), (6, .pointer (some ⟨b8, 0, none⟩)), (5, .pointer (some ⟨b2, 0, none⟩)), (0, .pointer (some ⟨bl, 0, none⟩)), (1, .pointer (some ⟨bm, pre.length, none⟩)), (2, .agg #[.int .u8 ev.kind, .int .u32 ev.pick, .int .u64 ev.arg]), (7, .bool false), (8, .int .i64 ((lg.base.idx + (lg.evs.length : Int)) + 1)), (9, .int .i64 (cost ev)), (79, .bool (decide ((((lg.sns ++ [(⟨((lg.base.idx + (lg.evs.length : Int)) + 1), (kstep m ev).1, (kstep m ev).2⟩ : Pt)]).length : Nat) : Int) > 6)))]) (φ := (bl = bl ∧ Nat.ble (17 + 1) 18 = true) ∧ True) (rest := []) h284 (by kernel_rfl) rfl ⟨⟨rfl, rfl⟩, trivial⟩ fun a286 h287 => ?_
          clear h284
          refine nd_done ?_
          refine hK285 _ _ ?_
          clear hK285
          refine c_split h287 (b := decide ((((lg.sns ++ [(⟨((lg.base.idx + (lg.evs.length : Int)) + 1), (kstep m ev).1, (kstep m ev).2⟩ : Pt)]).length : Nat) : Int) > 6)) rfl (fun hc288 => ?_) (fun hc288 => ?_)
          ·
            have hc288f : (((lg.sns ++ [(⟨((lg.base.idx + (lg.evs.length : Int)) + 1), (kstep m ev).1, (kstep m ev).2⟩ : Pt)]).length : Nat) : Int) > 6 := by simpa using hc288
            have hl6 : (6 < (lg.sns ++ [(⟨((lg.base.idx + (lg.evs.length : Int)) + 1), (kstep m ev).1, (kstep m ev).2⟩ : Pt)]).length) := by omega
            refine nd_start (l := [0, 1, 2, 3, 4, 5, 6, 7, 8, 9]) rfl ?_
            refine nd_batch tabOk tabZ_ok [(0, {}), (1, {}), (2, {}), (3, {}), (4, {k := 0}), (5, {})] [10, 6, 5, 0, 1, 2, 7, 8, 9, 80, 85] (T' := [(10, .pointer (some ⟨b219, 0, none⟩)), (6, .pointer (some ⟨b8, 0, none⟩)), (5, .pointer (some ⟨b2, 0, none⟩)), (0, .pointer (some ⟨bl, 0, none⟩)), (1, .pointer (some ⟨bm, pre.length, none⟩)), (2, .agg #[.int .u8 ev.kind, .int .u32 ev.pick, .int .u64 ev.arg]), (7, .bool false), (8, .int .i64 ((lg.base.idx + (lg.evs.length : Int)) + 1)), (9, .int .i64 (cost ev)), (80, .pointer (some ⟨bl, 0, none⟩)), (85, .slice (sliceBase o273 c274 1 15) (((lg.sns ++ [(⟨((lg.base.idx + (lg.evs.length : Int)) + 1), (kstep m ev).1, (kstep m ev).2⟩ : Pt)]).length) - 1) (c274 - 1))]) (φ := (bl = bl ∧ Nat.ble (17 + 1) 18 = true) ∧ (0 ≤ (1 : Int) ∧ (1 : Int) ≤ (((lg.sns ++ [(⟨((lg.base.idx + (lg.evs.length : Int)) + 1), (kstep m ev).1, (kstep m ev).2⟩ : Pt)]).length : Nat) : Int)) ∧ True) (rest := [6, 7, 8, 9]) h287 (by kernel_rfl) rfl ⟨⟨rfl, rfl⟩, ⟨by omega, by omega⟩, trivial⟩ fun a289 h290 => ?_
            clear h287
            refine nd_op ?_
            have h291 := h290.rowNil 84 15
            clear h290
            have h291r : St ⟨90, (bm :: bl :: (eF ++ (mF ++ (sF ++ [])))), w, Rws [rl evC 31 3 (lg.evs ++ [ev]) o239 c240 F241, rl mkC 93 2 lg.mks mo mc mF, rl ptC 84 15 (lg.sns ++ [(⟨((lg.base.idx + (lg.evs.length : Int)) + 1), (kstep m ev).1, (kstep m ev).2⟩ : Pt)]) o273 c274 F275, rl ptC 84 15 ([] : List Pt) none 0 ([])], Ff [rl evC 31 3 (lg.evs ++ [ev]) o239 c240 F241, rl mkC 93 2 lg.mks mo mc mF, rl ptC 84 15 (lg.sns ++ [(⟨((lg.base.idx + (lg.evs.length : Int)) + 1), (kstep m ev).1, (kstep m ev).2⟩ : Pt)]) o273 c274 F275, rl ptC 84 15 ([] : List Pt) none 0 ([])]⟩ [(10, .pointer (some ⟨b219, 0, none⟩)), (6, .pointer (some ⟨b8, 0, none⟩)), (5, .pointer (some ⟨b2, 0, none⟩)), (0, .pointer (some ⟨bl, 0, none⟩)), (1, .pointer (some ⟨bm, pre.length, none⟩)), (2, .agg #[.int .u8 ev.kind, .int .u32 ev.pick, .int .u64 ev.arg]), (7, .bool false), (8, .int .i64 ((lg.base.idx + (lg.evs.length : Int)) + 1)), (9, .int .i64 (cost ev)), (80, .pointer (some ⟨bl, 0, none⟩)), (85, .slice (sliceBase o273 c274 1 15) (((lg.sns ++ [(⟨((lg.base.idx + (lg.evs.length : Int)) + 1), (kstep m ev).1, (kstep m ev).2⟩ : Pt)]).length) - 1) (c274 - 1))] [(bl, ⟨[.int .i64 lg.base.idx, .int .u64 lg.base.st.now, .int .i8 lg.base.st.cur, .int .u8 lg.base.st.s0, .int .u8 lg.base.st.s1, .int .u8 lg.base.st.s2, .int .u8 lg.base.st.s3, .int .u64 lg.base.st.r0, .int .u64 lg.base.st.r1, .int .u64 lg.base.st.r2, .int .u64 lg.base.st.r3, .int .u64 lg.base.st.word, .bool lg.base.out.refused, .int .i8 lg.base.out.running, .int .u64 lg.base.out.value, .slice o239 ((lg.evs ++ [ev]).length) c240, .slice mo lg.mks.length mc, .slice o273 ((lg.sns ++ [(⟨((lg.base.idx + (lg.evs.length : Int)) + 1), (kstep m ev).1, (kstep m ev).2⟩ : Pt)]).length) c274], 89, false⟩), (bm, ⟨pre ++ machC ((kstep m ev).1) ++ post, ty, false⟩), (b2, ⟨[.int .u8 ev.kind, .int .u32 ev.pick, .int .u64 ev.arg], 31, false⟩), (b8, ⟨[.bool false, .int .i8 0, .int .u64 0], 44, false⟩), (b219, ⟨[.bool ((kstep m ev).2.refused), .int .i8 ((kstep m ev).2.running), .int .u64 ((kstep m ev).2.value)], 44, false⟩), (b233, ⟨[.int .u8 ev.kind, .int .u32 ev.pick, .int .u64 ev.arg], 31, false⟩), (b267, ⟨[.int .i64 ((lg.base.idx + (lg.evs.length : Int)) + 1), .int .u64 (((kstep m ev).1).now), .int .i8 (((kstep m ev).1).cur), .int .u8 (((kstep m ev).1).s0), .int .u8 (((kstep m ev).1).s1), .int .u8 (((kstep m ev).1).s2), .int .u8 (((kstep m ev).1).s3), .int .u64 (((kstep m ev).1).r0), .int .u64 (((kstep m ev).1).r1), .int .u64 (((kstep m ev).1).r2), .int .u64 (((kstep m ev).1).r3), .int .u64 (((kstep m ev).1).word), .bool ((kstep m ev).2.refused), .int .i8 ((kstep m ev).2.running), .int .u64 ((kstep m ev).2.value)], 84, false⟩)] _ _ := h291
            clear h291
            refine op_append tabOk (e := 84) (so := none) (n := 0) (c := 0) (xo := (sliceBase o273 c274 1 15)) (m := ((lg.sns ++ [(⟨((lg.base.idx + (lg.evs.length : Int)) + 1), (kstep m ev).1, (kstep m ev).2⟩ : Pt)]).length) - 1) (cx := c274 - 1) (vals := []) (vs := ((lg.sns ++ [(⟨((lg.base.idx + (lg.evs.length : Int)) + 1), (kstep m ev).1, (kstep m ev).2⟩ : Pt)]).drop 1).flatMap ptC) (F := []) h291r rfl rfl rfl rfl rfl rfl rfl rfl rfl rfl rfl rfl (Row.nil _ 84 15) (src_from (h291r.inv.get (j := 2) rfl) ptC_len (by omega)) (by first | omega | (simp only [List.length_append, List.length_cons, List.length_nil]; omega)) (allOne_flat ptC_one _) ?_
            intro o292 c293 F294 w295 hr296 hf297 hF298
            have hr2962 : (rl ptC 84 15 ((lg.sns ++ [(⟨((lg.base.idx + (lg.evs.length : Int)) + 1), (kstep m ev).1, (kstep m ev).2⟩ : Pt)]).drop 1) o292 c293 F294).at w295 := by simpa [RS.at] using hr296
            have hKh299 := row1_keys (K := (bm :: bl :: (eF ++ (mF ++ (sF ++ []))))) (fun _ hq => by cases hq) h291r.frame.size hF298
            rw [show 0 + (((lg.sns ++ [(⟨((lg.base.idx + (lg.evs.length : Int)) + 1), (kstep m ev).1, (kstep m ev).2⟩ : Pt)]).length) - 1) = ((lg.sns ++ [(⟨((lg.base.idx + (lg.evs.length : Int)) + 1), (kstep m ev).1, (kstep m ev).2⟩ : Pt)]).drop 1).length by simp]
            have h299 := (h291r.rowSet (j := 3) (r := rl ptC 84 15 ([] : List Pt) none 0 ([])) (r' := rl ptC 84 15 ((lg.sns ++ [(⟨((lg.base.idx + (lg.evs.length : Int)) + 1), (kstep m ev).1, (kstep m ev).2⟩ : Pt)]).drop 1) o292 c293 F294) (R' := [rl evC 31 3 (lg.evs ++ [ev]) o239 c240 F241, rl mkC 93 2 lg.mks mo mc mF, rl ptC 84 15 (lg.sns ++ [(⟨((lg.base.idx + (lg.evs.length : Int)) + 1), (kstep m ev).1, (kstep m ev).2⟩ : Pt)]) o273 c274 F275, rl ptC 84 15 ((lg.sns ++ [(⟨((lg.base.idx + (lg.evs.length : Int)) + 1), (kstep m ev).1, (kstep m ev).2⟩ : Pt)]).drop 1) o292 c293 F294]) rfl hr2962 hf297 hF298 (fun _ hq => by cases hq) (fun _ _ _ hq => by cases hq) rfl).put (d := some 86) (v := .slice o292 (((lg.sns ++ [(⟨((lg.base.idx + (lg.evs.length : Int)) + 1), (kstep m ev).1, (kstep m ev).2⟩ : Pt)]).drop 1).length) c293) (T' := [(86, .slice o292 (((lg.sns ++ [(⟨((lg.base.idx + (lg.evs.length : Int)) + 1), (kstep m ev).1, (kstep m ev).2⟩ : Pt)]).drop 1).length) c293), (10, .pointer (some ⟨b219, 0, none⟩)), (6, .pointer (some ⟨b8, 0, none⟩)), (5, .pointer (some ⟨b2, 0, none⟩)), (0, .pointer (some ⟨bl, 0, none⟩)), (1, .pointer (some ⟨bm, pre.length, none⟩)), (2, .agg #[.int .u8 ev.kind, .int .u32 ev.pick, .int .u64 ev.arg]), (7, .bool false), (8, .int .i64 ((lg.base.idx + (lg.evs.length : Int)) + 1)), (9, .int .i64 (cost ev)), (80, .pointer (some ⟨bl, 0, none⟩)), (85, .slice (sliceBase o273 c274 1 15) (((lg.sns ++ [(⟨((lg.base.idx + (lg.evs.length : Int)) + 1), (kstep m ev).1, (kstep m ev).2⟩ : Pt)]).length) - 1) (c274 - 1))]) rfl
            clear h291r
            refine nd_batch tabOk tabZ_ok [(7, {}), (8, {})] [86, 10, 6, 5, 0, 1, 2, 7, 8, 9, 88] (T' := [(86, .slice o292 (((lg.sns ++ [(⟨((lg.base.idx + (lg.evs.length : Int)) + 1), (kstep m ev).1, (kstep m ev).2⟩ : Pt)]).drop 1).length) c293), (10, .pointer (some ⟨b219, 0, none⟩)), (6, .pointer (some ⟨b8, 0, none⟩)), (5, .pointer (some ⟨b2, 0, none⟩)), (0, .pointer (some ⟨bl, 0, none⟩)), (1, .pointer (some ⟨bm, pre.length, none⟩)), (2, .agg #[.int .u8 ev.kind, .int .u32 ev.pick, .int .u64 ev.arg]), (7, .bool false), (8, .int .i64 ((lg.base.idx + (lg.evs.length : Int)) + 1)), (9, .int .i64 (cost ev)), (88, .pointer (some ⟨bl, 17, none⟩))]) (φ := True) (rest := [9]) h299 (by kernel_rfl) rfl trivial fun a300 h301 => ?_
            clear h299
            refine nd_op ?_
            refine op_store tabOk {k := 0} (L' := [(bl, ⟨[.int .i64 lg.base.idx, .int .u64 lg.base.st.now, .int .i8 lg.base.st.cur, .int .u8 lg.base.st.s0, .int .u8 lg.base.st.s1, .int .u8 lg.base.st.s2, .int .u8 lg.base.st.s3, .int .u64 lg.base.st.r0, .int .u64 lg.base.st.r1, .int .u64 lg.base.st.r2, .int .u64 lg.base.st.r3, .int .u64 lg.base.st.word, .bool lg.base.out.refused, .int .i8 lg.base.out.running, .int .u64 lg.base.out.value, .slice o239 ((lg.evs ++ [ev]).length) c240, .slice mo lg.mks.length mc, .slice o292 (((lg.sns ++ [(⟨((lg.base.idx + (lg.evs.length : Int)) + 1), (kstep m ev).1, (kstep m ev).2⟩ : Pt)]).drop 1).length) c293], 89, false⟩), (bm, ⟨pre ++ machC ((kstep m ev).1) ++ post, ty, false⟩), (b2, ⟨[.int .u8 ev.kind, .int .u32 ev.pick, .int .u64 ev.arg], 31, false⟩), (b8, ⟨[.bool false, .int .i8 0, .int .u64 0], 44, false⟩), (b219, ⟨[.bool ((kstep m ev).2.refused), .int .i8 ((kstep m ev).2.running), .int .u64 ((kstep m ev).2.value)], 44, false⟩), (b233, ⟨[.int .u8 ev.kind, .int .u32 ev.pick, .int .u64 ev.arg], 31, false⟩), (b267, ⟨[.int .i64 ((lg.base.idx + (lg.evs.length : Int)) + 1), .int .u64 (((kstep m ev).1).now), .int .i8 (((kstep m ev).1).cur), .int .u8 (((kstep m ev).1).s0), .int .u8 (((kstep m ev).1).s1), .int .u8 (((kstep m ev).1).s2), .int .u8 (((kstep m ev).1).s3), .int .u64 (((kstep m ev).1).r0), .int .u64 (((kstep m ev).1).r1), .int .u64 (((kstep m ev).1).r2), .int .u64 (((kstep m ev).1).r3), .int .u64 (((kstep m ev).1).word), .bool ((kstep m ev).2.refused), .int .i8 ((kstep m ev).2.running), .int .u64 ((kstep m ev).2.value)], 84, false⟩)]) (φ := bl = bl ∧ Nat.ble (17 + 1) 18 = true) h301 rfl rfl rfl (by kernel_rfl) ⟨rfl, rfl⟩ fun w302 h303 => ?_
            clear h301
            refine nd_done ?_
            refine hK256 _ _ ?_
            clear hK256
            refine wp_seq_k fun K304 hK304 => ?_
            refine nd_start (l := [0, 1, 2]) rfl ?_
            refine nd_batch tabOk tabZ_ok [(0, {k := 4})] [10, 6, 5, 0, 1, 2, 7, 8, 9, 89] (T' := [(10, .pointer (some ⟨b219, 0, none⟩)), (6, .pointer (some ⟨b8, 0, none⟩)), (5, .pointer (some ⟨b2, 0, none⟩)), (0, .pointer (some ⟨bl, 0, none⟩)), (1, .pointer (some ⟨bm, pre.length, none⟩)), (2, .agg #[.int .u8 ev.kind, .int .u32 ev.pick, .int .u64 ev.arg]), (7, .bool false), (8, .int .i64 ((lg.base.idx + (lg.evs.length : Int)) + 1)), (9, .int .i64 (cost ev)), (89, .agg #[.bool ((kstep m ev).2.refused), .int .i8 ((kstep m ev).2.running), .int .u64 ((kstep m ev).2.value)])]) (φ := (b219 = b219 ∧ Nat.ble (0 + 3) 3 = true) ∧ True) (rest := [1, 2]) h303 (by kernel_rfl) rfl ⟨⟨rfl, rfl⟩, trivial⟩ fun a305 h306 => ?_
            clear h303
            refine nd_op ?_
            refine op_store tabOk {k := 3} (L' := [(bl, ⟨[.int .i64 lg.base.idx, .int .u64 lg.base.st.now, .int .i8 lg.base.st.cur, .int .u8 lg.base.st.s0, .int .u8 lg.base.st.s1, .int .u8 lg.base.st.s2, .int .u8 lg.base.st.s3, .int .u64 lg.base.st.r0, .int .u64 lg.base.st.r1, .int .u64 lg.base.st.r2, .int .u64 lg.base.st.r3, .int .u64 lg.base.st.word, .bool lg.base.out.refused, .int .i8 lg.base.out.running, .int .u64 lg.base.out.value, .slice o239 ((lg.evs ++ [ev]).length) c240, .slice mo lg.mks.length mc, .slice o292 (((lg.sns ++ [(⟨((lg.base.idx + (lg.evs.length : Int)) + 1), (kstep m ev).1, (kstep m ev).2⟩ : Pt)]).drop 1).length) c293], 89, false⟩), (bm, ⟨pre ++ machC ((kstep m ev).1) ++ post, ty, false⟩), (b2, ⟨[.int .u8 ev.kind, .int .u32 ev.pick, .int .u64 ev.arg], 31, false⟩), (b8, ⟨[.bool ((kstep m ev).2.refused), .int .i8 ((kstep m ev).2.running), .int .u64 ((kstep m ev).2.value)], 44, false⟩), (b219, ⟨[.bool ((kstep m ev).2.refused), .int .i8 ((kstep m ev).2.running), .int .u64 ((kstep m ev).2.value)], 44, false⟩), (b233, ⟨[.int .u8 ev.kind, .int .u32 ev.pick, .int .u64 ev.arg], 31, false⟩), (b267, ⟨[.int .i64 ((lg.base.idx + (lg.evs.length : Int)) + 1), .int .u64 (((kstep m ev).1).now), .int .i8 (((kstep m ev).1).cur), .int .u8 (((kstep m ev).1).s0), .int .u8 (((kstep m ev).1).s1), .int .u8 (((kstep m ev).1).s2), .int .u8 (((kstep m ev).1).s3), .int .u64 (((kstep m ev).1).r0), .int .u64 (((kstep m ev).1).r1), .int .u64 (((kstep m ev).1).r2), .int .u64 (((kstep m ev).1).r3), .int .u64 (((kstep m ev).1).word), .bool ((kstep m ev).2.refused), .int .i8 ((kstep m ev).2.running), .int .u64 ((kstep m ev).2.value)], 84, false⟩)]) (φ := b8 = b8 ∧ Nat.ble (0 + 3) 3 = true) h306 rfl rfl rfl (by kernel_rfl) ⟨rfl, rfl⟩ fun w307 h308 => ?_
            clear h306
            refine nd_batch tabOk tabZ_ok [(2, {})] [10, 6, 5, 0, 1, 2, 8, 9, 7] (T' := [(10, .pointer (some ⟨b219, 0, none⟩)), (6, .pointer (some ⟨b8, 0, none⟩)), (5, .pointer (some ⟨b2, 0, none⟩)), (0, .pointer (some ⟨bl, 0, none⟩)), (1, .pointer (some ⟨bm, pre.length, none⟩)), (2, .agg #[.int .u8 ev.kind, .int .u32 ev.pick, .int .u64 ev.arg]), (8, .int .i64 ((lg.base.idx + (lg.evs.length : Int)) + 1)), (9, .int .i64 (cost ev)), (7, .bool true)]) (φ := True) (rest := []) h308 (by kernel_rfl) rfl trivial fun a309 h310 => ?_
            clear h308
            refine nd_done ?_
            refine hK304 _ _ ?_
            clear hK304
            refine wp_ret ?_
            have hrec : lg.recd m ev = (⟨lg.base, lg.evs ++ [ev], lg.mks, ((lg.sns ++ [(⟨((lg.base.idx + (lg.evs.length : Int)) + 1), (kstep m ev).1, (kstep m ev).2⟩ : Pt)]).drop 1)⟩ : Lg) := by
              unfold Lg.recd Lg.fin addSnap
              simp only []
              rw [if_neg hn8, if_pos hn32, if_pos hl6]
            have hLA : LogAt _ bl ⟨o239, c240, F241, mo, mc, mF, o292, c293, F294⟩ (⟨lg.base, lg.evs ++ [ev], lg.mks, ((lg.sns ++ [(⟨((lg.base.idx + (lg.evs.length : Int)) + 1), (kstep m ev).1, (kstep m ev).2⟩ : Pt)]).drop 1)⟩ : Lg) := LogAt.ofSt h310 (k := 0) rfl (.cons_cons _ (.cons_cons _ (.cons _ (.cons_cons _ .slnil))))
            rw [← hrec] at hLA
            have hsq := hLA.sep
            have hsq2 : bm ∉ (Hd.F ⟨o239, c240, F241, mo, mc, mF, o292, c293, F294⟩) := by intro hq; rw [Hd.F_rows ⟨o239, c240, F241, mo, mc, mF, o292, c293, F294⟩ (lg.recd m ev), hrec] at hq; exact h310.disj _ (List.mem_cons_of_mem _ (List.mem_cons_self ..)) rfl ((Ff_sub (.cons_cons _ (.cons_cons _ (.cons _ (.cons_cons _ .slnil))))).mem hq)
            have hsub : ∀ b ∈ (Hd.F ⟨o239, c240, F241, mo, mc, mF, o292, c293, F294⟩), b ∈ (Hd.F ⟨eo, ec, eF, mo, mc, mF, so, sc, sF⟩) ∨ w.heap.size ≤ b := by
              intro b hbF
              have hbq := hbF
              simp only [Hd.F, List.mem_append, List.append_nil] at hbq
              rcases hbq with hb | hb | hb
              · exact orMap (hKh246 b hb) (fun hq => by simp only [List.mem_cons] at hq; rcases hq with rfl | rfl | hq; exact absurd hbF hsq2; exact absurd hbF hsq; simpa [Hd.F] using hq) id
              · exact .inl ((fun hb => by simp [Hd.F, hb]) hb)
              · exact orMap (hKh299 b hb) (fun hq => by simp only [List.mem_cons] at hq; rcases hq with rfl | rfl | hq; exact absurd hbF hsq2; exact absurd hbF hsq; simpa [Hd.F] using hq) id
            try simp only [Exit.then, Exit.inBlock]
            try rw [if_pos trivial]
            exact s_ret tabOk tabZ_ok h310 [(.cell 6 44, {k := 3}), (.tmp 7, {})] (vs := [.agg #[.bool ((kstep m ev).2.refused), .int .i8 ((kstep m ev).2.running), .int .u64 ((kstep m ev).2.value)], .bool true]) (φ := (b8 = b8 ∧ Nat.ble (0 + 3) 3 = true) ∧ True) rfl (by kernel_rfl) ⟨⟨rfl, rfl⟩, trivial⟩ (.inr ⟨hfull, ⟨o239, c240, F241, mo, mc, mF, o292, c293, F294⟩, rfl, h310.kn (k := 1) rfl, hLA, h310.frame, hsub⟩)
          ·
            have hc288f : ¬ (((lg.sns ++ [(⟨((lg.base.idx + (lg.evs.length : Int)) + 1), (kstep m ev).1, (kstep m ev).2⟩ : Pt)]).length : Nat) : Int) > 6 := by simpa using hc288
            have hl6 : ¬ (6 < (lg.sns ++ [(⟨((lg.base.idx + (lg.evs.length : Int)) + 1), (kstep m ev).1, (kstep m ev).2⟩ : Pt)]).length) := by omega
            refine wp_skip ?_
            refine hK256 _ _ ?_
            clear hK256
            refine wp_seq_k fun K311 hK311 => ?_
            refine nd_start (l := [0, 1, 2]) rfl ?_
            refine nd_batch tabOk tabZ_ok [(0, {k := 4})] [10, 6, 5, 0, 1, 2, 7, 8, 9, 89] (T' := [(10, .pointer (some ⟨b219, 0, none⟩)), (6, .pointer (some ⟨b8, 0, none⟩)), (5, .pointer (some ⟨b2, 0, none⟩)), (0, .pointer (some ⟨bl, 0, none⟩)), (1, .pointer (some ⟨bm, pre.length, none⟩)), (2, .agg #[.int .u8 ev.kind, .int .u32 ev.pick, .int .u64 ev.arg]), (7, .bool false), (8, .int .i64 ((lg.base.idx + (lg.evs.length : Int)) + 1)), (9, .int .i64 (cost ev)), (89, .agg #[.bool ((kstep m ev).2.refused), .int .i8 ((kstep m ev).2.running), .int .u64 ((kstep m ev).2.value)])]) (φ := (b219 = b219 ∧ Nat.ble (0 + 3) 3 = true) ∧ True) (rest := [1, 2]) h287 (by kernel_rfl) rfl ⟨⟨rfl, rfl⟩, trivial⟩ fun a312 h313 => ?_
            clear h287
            refine nd_op ?_
            refine op_store tabOk {k := 3} (L' := [(bl, ⟨[.int .i64 lg.base.idx, .int .u64 lg.base.st.now, .int .i8 lg.base.st.cur, .int .u8 lg.base.st.s0, .int .u8 lg.base.st.s1, .int .u8 lg.base.st.s2, .int .u8 lg.base.st.s3, .int .u64 lg.base.st.r0, .int .u64 lg.base.st.r1, .int .u64 lg.base.st.r2, .int .u64 lg.base.st.r3, .int .u64 lg.base.st.word, .bool lg.base.out.refused, .int .i8 lg.base.out.running, .int .u64 lg.base.out.value, .slice o239 ((lg.evs ++ [ev]).length) c240, .slice mo lg.mks.length mc, .slice o273 ((lg.sns ++ [(⟨((lg.base.idx + (lg.evs.length : Int)) + 1), (kstep m ev).1, (kstep m ev).2⟩ : Pt)]).length) c274], 89, false⟩), (bm, ⟨pre ++ machC ((kstep m ev).1) ++ post, ty, false⟩), (b2, ⟨[.int .u8 ev.kind, .int .u32 ev.pick, .int .u64 ev.arg], 31, false⟩), (b8, ⟨[.bool ((kstep m ev).2.refused), .int .i8 ((kstep m ev).2.running), .int .u64 ((kstep m ev).2.value)], 44, false⟩), (b219, ⟨[.bool ((kstep m ev).2.refused), .int .i8 ((kstep m ev).2.running), .int .u64 ((kstep m ev).2.value)], 44, false⟩), (b233, ⟨[.int .u8 ev.kind, .int .u32 ev.pick, .int .u64 ev.arg], 31, false⟩), (b267, ⟨[.int .i64 ((lg.base.idx + (lg.evs.length : Int)) + 1), .int .u64 (((kstep m ev).1).now), .int .i8 (((kstep m ev).1).cur), .int .u8 (((kstep m ev).1).s0), .int .u8 (((kstep m ev).1).s1), .int .u8 (((kstep m ev).1).s2), .int .u8 (((kstep m ev).1).s3), .int .u64 (((kstep m ev).1).r0), .int .u64 (((kstep m ev).1).r1), .int .u64 (((kstep m ev).1).r2), .int .u64 (((kstep m ev).1).r3), .int .u64 (((kstep m ev).1).word), .bool ((kstep m ev).2.refused), .int .i8 ((kstep m ev).2.running), .int .u64 ((kstep m ev).2.value)], 84, false⟩)]) (φ := b8 = b8 ∧ Nat.ble (0 + 3) 3 = true) h313 rfl rfl rfl (by kernel_rfl) ⟨rfl, rfl⟩ fun w314 h315 => ?_
            clear h313
            refine nd_batch tabOk tabZ_ok [(2, {})] [10, 6, 5, 0, 1, 2, 8, 9, 7] (T' := [(10, .pointer (some ⟨b219, 0, none⟩)), (6, .pointer (some ⟨b8, 0, none⟩)), (5, .pointer (some ⟨b2, 0, none⟩)), (0, .pointer (some ⟨bl, 0, none⟩)), (1, .pointer (some ⟨bm, pre.length, none⟩)), (2, .agg #[.int .u8 ev.kind, .int .u32 ev.pick, .int .u64 ev.arg]), (8, .int .i64 ((lg.base.idx + (lg.evs.length : Int)) + 1)), (9, .int .i64 (cost ev)), (7, .bool true)]) (φ := True) (rest := []) h315 (by kernel_rfl) rfl trivial fun a316 h317 => ?_
            clear h315
            refine nd_done ?_
            refine hK311 _ _ ?_
            clear hK311
            refine wp_ret ?_
            have hrec : lg.recd m ev = (⟨lg.base, lg.evs ++ [ev], lg.mks, lg.sns ++ [(⟨((lg.base.idx + (lg.evs.length : Int)) + 1), (kstep m ev).1, (kstep m ev).2⟩ : Pt)]⟩ : Lg) := by
              unfold Lg.recd Lg.fin addSnap
              simp only []
              rw [if_neg hn8, if_pos hn32, if_neg hl6]
            have hLA : LogAt _ bl ⟨o239, c240, F241, mo, mc, mF, o273, c274, F275⟩ (⟨lg.base, lg.evs ++ [ev], lg.mks, lg.sns ++ [(⟨((lg.base.idx + (lg.evs.length : Int)) + 1), (kstep m ev).1, (kstep m ev).2⟩ : Pt)]⟩ : Lg) := LogAt.ofSt h317 (k := 0) rfl (List.Sublist.refl _)
            rw [← hrec] at hLA
            have hsq := hLA.sep
            have hsq2 : bm ∉ (Hd.F ⟨o239, c240, F241, mo, mc, mF, o273, c274, F275⟩) := by intro hq; rw [Hd.F_rows ⟨o239, c240, F241, mo, mc, mF, o273, c274, F275⟩ (lg.recd m ev), hrec] at hq; exact h317.disj _ (List.mem_cons_of_mem _ (List.mem_cons_self ..)) rfl ((Ff_sub (List.Sublist.refl _)).mem hq)
            have hsub : ∀ b ∈ (Hd.F ⟨o239, c240, F241, mo, mc, mF, o273, c274, F275⟩), b ∈ (Hd.F ⟨eo, ec, eF, mo, mc, mF, so, sc, sF⟩) ∨ w.heap.size ≤ b := by
              intro b hbF
              have hbq := hbF
              simp only [Hd.F, List.mem_append, List.append_nil] at hbq
              rcases hbq with hb | hb | hb
              · exact orMap (hKh246 b hb) (fun hq => by simp only [List.mem_cons] at hq; rcases hq with rfl | rfl | hq; exact absurd hbF hsq2; exact absurd hbF hsq; simpa [Hd.F] using hq) id
              · exact .inl ((fun hb => by simp [Hd.F, hb]) hb)
              · exact orMap (hKh280 b hb) (fun hq => by simp only [List.mem_cons] at hq; rcases hq with rfl | rfl | hq; exact absurd hbF hsq2; exact absurd hbF hsq; simpa [Hd.F] using hq) id
            try simp only [Exit.then, Exit.inBlock]
            try rw [if_pos trivial]
            exact s_ret tabOk tabZ_ok h317 [(.cell 6 44, {k := 3}), (.tmp 7, {})] (vs := [.agg #[.bool ((kstep m ev).2.refused), .int .i8 ((kstep m ev).2.running), .int .u64 ((kstep m ev).2.value)], .bool true]) (φ := (b8 = b8 ∧ Nat.ble (0 + 3) 3 = true) ∧ True) rfl (by kernel_rfl) ⟨⟨rfl, rfl⟩, trivial⟩ (.inr ⟨hfull, ⟨o239, c240, F241, mo, mc, mF, o273, c274, F275⟩, rfl, h317.kn (k := 1) rfl, hLA, h317.frame, hsub⟩)
        ·
          have hc260f : (((lg.base.idx + (lg.evs.length : Int)) + 1) % 32) ≠ 0 := by simpa using hc260
          have hn32 : ¬ (((lg.base.idx + (lg.evs.length : Int)) + 1) % 32 = 0) := hc260f
          refine wp_skip ?_
          refine hK256 _ _ ?_
          clear hK256
          refine wp_seq_k fun K318 hK318 => ?_
          refine nd_start (l := [0, 1, 2]) rfl ?_
          refine nd_batch tabOk tabZ_ok [(0, {k := 4})] [10, 6, 5, 0, 1, 2, 7, 8, 9, 89] (T' := [(10, .pointer (some ⟨b219, 0, none⟩)), (6, .pointer (some ⟨b8, 0, none⟩)), (5, .pointer (some ⟨b2, 0, none⟩)), (0, .pointer (some ⟨bl, 0, none⟩)), (1, .pointer (some ⟨bm, pre.length, none⟩)), (2, .agg #[.int .u8 ev.kind, .int .u32 ev.pick, .int .u64 ev.arg]), (7, .bool false), (8, .int .i64 ((lg.base.idx + (lg.evs.length : Int)) + 1)), (9, .int .i64 (cost ev)), (89, .agg #[.bool ((kstep m ev).2.refused), .int .i8 ((kstep m ev).2.running), .int .u64 ((kstep m ev).2.value)])]) (φ := (b219 = b219 ∧ Nat.ble (0 + 3) 3 = true) ∧ True) (rest := [1, 2]) h259 (by kernel_rfl) rfl ⟨⟨rfl, rfl⟩, trivial⟩ fun a319 h320 => ?_
          clear h259
          refine nd_op ?_
          refine op_store tabOk {k := 3} (L' := [(bl, ⟨[.int .i64 lg.base.idx, .int .u64 lg.base.st.now, .int .i8 lg.base.st.cur, .int .u8 lg.base.st.s0, .int .u8 lg.base.st.s1, .int .u8 lg.base.st.s2, .int .u8 lg.base.st.s3, .int .u64 lg.base.st.r0, .int .u64 lg.base.st.r1, .int .u64 lg.base.st.r2, .int .u64 lg.base.st.r3, .int .u64 lg.base.st.word, .bool lg.base.out.refused, .int .i8 lg.base.out.running, .int .u64 lg.base.out.value, .slice o239 ((lg.evs ++ [ev]).length) c240, .slice mo lg.mks.length mc, .slice so lg.sns.length sc], 89, false⟩), (bm, ⟨pre ++ machC ((kstep m ev).1) ++ post, ty, false⟩), (b2, ⟨[.int .u8 ev.kind, .int .u32 ev.pick, .int .u64 ev.arg], 31, false⟩), (b8, ⟨[.bool ((kstep m ev).2.refused), .int .i8 ((kstep m ev).2.running), .int .u64 ((kstep m ev).2.value)], 44, false⟩), (b219, ⟨[.bool ((kstep m ev).2.refused), .int .i8 ((kstep m ev).2.running), .int .u64 ((kstep m ev).2.value)], 44, false⟩), (b233, ⟨[.int .u8 ev.kind, .int .u32 ev.pick, .int .u64 ev.arg], 31, false⟩)]) (φ := b8 = b8 ∧ Nat.ble (0 + 3) 3 = true) h320 rfl rfl rfl (by kernel_rfl) ⟨rfl, rfl⟩ fun w321 h322 => ?_
          clear h320
          refine nd_batch tabOk tabZ_ok [(2, {})] [10, 6, 5, 0, 1, 2, 8, 9, 7] (T' := [(10, .pointer (some ⟨b219, 0, none⟩)), (6, .pointer (some ⟨b8, 0, none⟩)), (5, .pointer (some ⟨b2, 0, none⟩)), (0, .pointer (some ⟨bl, 0, none⟩)), (1, .pointer (some ⟨bm, pre.length, none⟩)), (2, .agg #[.int .u8 ev.kind, .int .u32 ev.pick, .int .u64 ev.arg]), (8, .int .i64 ((lg.base.idx + (lg.evs.length : Int)) + 1)), (9, .int .i64 (cost ev)), (7, .bool true)]) (φ := True) (rest := []) h322 (by kernel_rfl) rfl trivial fun a323 h324 => ?_
          clear h322
          refine nd_done ?_
          refine hK318 _ _ ?_
          clear hK318
          refine wp_ret ?_
          have hrec : lg.recd m ev = (⟨lg.base, lg.evs ++ [ev], lg.mks, lg.sns⟩ : Lg) := by
            unfold Lg.recd Lg.fin
            simp only []
            rw [if_neg hn8, if_neg hn32]
          have hLA : LogAt _ bl ⟨o239, c240, F241, mo, mc, mF, so, sc, sF⟩ (⟨lg.base, lg.evs ++ [ev], lg.mks, lg.sns⟩ : Lg) := LogAt.ofSt h324 (k := 0) rfl (List.Sublist.refl _)
          rw [← hrec] at hLA
          have hsq := hLA.sep
          have hsq2 : bm ∉ (Hd.F ⟨o239, c240, F241, mo, mc, mF, so, sc, sF⟩) := by intro hq; rw [Hd.F_rows ⟨o239, c240, F241, mo, mc, mF, so, sc, sF⟩ (lg.recd m ev), hrec] at hq; exact h324.disj _ (List.mem_cons_of_mem _ (List.mem_cons_self ..)) rfl ((Ff_sub (List.Sublist.refl _)).mem hq)
          have hsub : ∀ b ∈ (Hd.F ⟨o239, c240, F241, mo, mc, mF, so, sc, sF⟩), b ∈ (Hd.F ⟨eo, ec, eF, mo, mc, mF, so, sc, sF⟩) ∨ w.heap.size ≤ b := by
            intro b hbF
            have hbq := hbF
            simp only [Hd.F, List.mem_append, List.append_nil] at hbq
            rcases hbq with hb | hb | hb
            · exact orMap (hKh246 b hb) (fun hq => by simp only [List.mem_cons] at hq; rcases hq with rfl | rfl | hq; exact absurd hbF hsq2; exact absurd hbF hsq; simpa [Hd.F] using hq) id
            · exact .inl ((fun hb => by simp [Hd.F, hb]) hb)
            · exact .inl ((fun hb => by simp [Hd.F, hb]) hb)
          try simp only [Exit.then, Exit.inBlock]
          try rw [if_pos trivial]
          exact s_ret tabOk tabZ_ok h324 [(.cell 6 44, {k := 3}), (.tmp 7, {})] (vs := [.agg #[.bool ((kstep m ev).2.refused), .int .i8 ((kstep m ev).2.running), .int .u64 ((kstep m ev).2.value)], .bool true]) (φ := (b8 = b8 ∧ Nat.ble (0 + 3) 3 = true) ∧ True) rfl (by kernel_rfl) ⟨⟨rfl, rfl⟩, trivial⟩ (.inr ⟨hfull, ⟨o239, c240, F241, mo, mc, mF, so, sc, sF⟩, rfl, h324.kn (k := 1) rfl, hLA, h324.frame, hsub⟩)

end Go.Proofs.Qxb6500919aFmt
