/-
  The cursor. (Made by program: a symbolic walk that prints its steps.)
-/
import Derived.Test.Qxb6500919aFmtTab
import Derived.Test.Qxb6500919aFmtFun
import Derived.Test.Qxb6500919aFmtLib
import Derived.Test.Qxb6500919aFmtW1
import Derived.Test.Qxb6500919aFmtW2
import Derived.Test.Qxb6500919aFmtW3
import Derived.Test.Qxb6500919aFmtW4
namespace Go.Proofs.Qxb6500919aFmt
open Go.Sx Go.Rp
set_option maxRecDepth 100000
set_option linter.unusedVariables false

theorem run_ok (bc bl : Nat) (d : Hd) (lg : Lg) (w : World) (hl : LogAt w bl d lg) (m : Mach) (o : Ot) (pos n : Int) (j k : Nat) (hb : w.heap[bc]? = some (Blk.obj ⟨curC m o pos, 105, false⟩)) (hne : bc ≠ bl) (hsp : bc ∉ d.F)
    (hev : ∀ e ∈ lg.evs, e.ok) (hm : m.ok) (hp : pos - lg.base.idx = j) (hn : n = pos + k) (hjk : j + k ≤ lg.evs.length) (hlen : lg.evs.length ≤ 1000000000) (hb0 : 0 ≤ lg.base.idx) (hb1 : lg.base.idx ≤ 1000000000) :
    Calls Tryf.prog 44 #[.pointer (some ⟨bc, 0, none⟩), .pointer (some ⟨bl, 0, none⟩), .int .i64 n] w fun e w' => e = .returned (.tuple #[]) ∧ w'.heap[bc]? = some (Blk.obj ⟨curC (runF (seg lg.evs j k) (m, o)).1 (runF (seg lg.evs j k) (m, o)).2 n, 105, false⟩) ∧ Fr [bc] w w' := by
  obtain ⟨eo, ec, eF, mo, mc, mF, so, sc, sF⟩ := d
  obtain ⟨hbl, hA, hsep⟩ := hl
  refine enter (n := 32) (K := [bc]) (A := Rws [rl evC 31 3 lg.evs eo ec eF, rl mkC 93 2 lg.mks mo mc mF, rl ptC 84 15 lg.sns so sc sF]) (F := Ff [rl evC 31 3 lg.evs eo ec eF, rl mkC 93 2 lg.mks mo mc mF, rl ptC 84 15 lg.sns so sc sF]) (T := [(0, .pointer (some ⟨bc, 0, none⟩)), (1, .pointer (some ⟨bl, 0, none⟩)), (2, .int .i64 n)]) (L := [(bc, ⟨curC m o pos, 105, false⟩), (bl, ⟨logC lg.base (.slice eo lg.evs.length ec) (.slice mo lg.mks.length mc) (.slice so lg.sns.length sc), 89, true⟩)]) (args := [.pointer (some ⟨bc, 0, none⟩), .pointer (some ⟨bl, 0, none⟩), .int .i64 n]) Tryf.func44 rfl rfl rfl rfl (kcons hb (kcons hbl knil)) (by simp [hne]) (kcons (by simp) (kcons (by intro hq; cases hq) knil)) hA Rws.stable (hA).low (kcons (fun _ => hsp) (kcons (by intro hq; cases hq) knil)) ?_
  intro a h
  refine wp_block ?_
  refine wp_loop_ghost (fun g ga gw => ∃ (i : Nat) (m' : Mach) (o' : Ot), (i ≤ k) ∧ (g = k - i) ∧ (runF (seg lg.evs j i) (m, o) = (m', o')) ∧ (m'.ok) ∧ St ⟨32, [bc], w, Rws [rl evC 31 3 lg.evs eo ec eF, rl mkC 93 2 lg.mks mo mc mF, rl ptC 84 15 lg.sns so sc sF], Ff [rl evC 31 3 lg.evs eo ec eF, rl mkC 93 2 lg.mks mo mc mF, rl ptC 84 15 lg.sns so sc sF]⟩ [(0, .pointer (some ⟨bc, 0, none⟩)), (1, .pointer (some ⟨bl, 0, none⟩)), (2, .int .i64 n)] [(bc, ⟨curC m' o' (pos + (i : Int)), 105, false⟩), (bl, ⟨logC lg.base (.slice eo lg.evs.length ec) (.slice mo lg.mks.length mc) (.slice so lg.sns.length sc), 89, true⟩)] ga gw) k ⟨0, m, o, Nat.zero_le _, rfl, by simp [seg_zero, runF], hm, (by have hq : pos + ((0 : Nat) : Int) = pos := (by omega); rw [hq]; exact (h.slotsMono (restr_spec (keep := [0, 1, 2]) rfl)))⟩ ?_
  clear h
  rintro g a1 w2 ⟨i, m', o', hi4, hi5, hi6, hi7, h3⟩
  refine wp_seq_k fun K8 hK8 => ?_
  refine wp_seq_k fun K9 hK9 => ?_
  refine nd_start (l := [0, 1, 2, 3, 4, 5]) rfl ?_
  refine nd_batch tabOk tabZ_ok [(0, {}), (1, {}), (2, {}), (3, {k := 0}), (4, {}), (5, {})] [0, 1, 2, 11] (T' := [(0, .pointer (some ⟨bc, 0, none⟩)), (1, .pointer (some ⟨bl, 0, none⟩)), (2, .int .i64 n), (11, .bool (decide ((pos + (i : Int)) < n)))]) (φ := (bc = bc ∧ Nat.ble (14 + 1) 15 = true) ∧ True) (rest := []) h3 (by kernel_rfl) rfl ⟨⟨rfl, rfl⟩, trivial⟩ fun a10 h11 => ?_
  clear h3
  refine nd_done ?_
  refine hK9 _ _ ?_
  clear hK9
  refine c_split h11 (b := decide ((pos + (i : Int)) < n)) rfl (fun hc12 => ?_) (fun hc12 => ?_)
  ·
    have hc12f : (pos + (i : Int)) < n := by simpa using hc12
    obtain ⟨x, hx⟩ := Sx.get_some (xs := lg.evs) (i := j + i) (by omega)
    have hxe := hev x (List.mem_of_getElem? hx)
    refine wp_skip ?_
    refine hK8 _ _ ?_
    clear hK8
    refine wp_seq_k fun K13 hK13 => ?_
    refine wp_block ?_
    refine dr_start (KB := [bc, bl]) (Bi := [[0, 1], [0, 1], [0, 1], [0, 1], [0, 1], [0, 1], [0, 1], [0, 1], [0, 1], [], [], [0, 1], [0, 1], []]) mixed h11 fun w14 h15 => ?_
    clear h11
    refine dr_batch tabOk tabZ_ok (by repeat (first | exact PF.body | with_reducible apply PF.inB | with_reducible apply PF.next)) [(0, {}), (1, {}), (2, {}), (3, {}), (4, {}), (5, {}), (6, {}), (7, {}), (8, {k := 0, p := 0})] [0, 1, 2, 19, 22, 23, 27] (T' := [(0, .pointer (some ⟨bc, 0, none⟩)), (1, .pointer (some ⟨bl, 0, none⟩)), (2, .int .i64 n), (19, .pointer (some ⟨bc, 0, none⟩)), (22, .pointer (some ⟨bc, 0, none⟩)), (23, .pointer (some ⟨bl, 0, none⟩)), (27, .int .i64 (pos + (i : Int)))]) (φ := (bc = bc ∧ Nat.ble (14 + 1) 15 = true) ∧ True) (fuel := 5) h15 (by kernel_rfl) rfl (by kernel_rfl) (by kernel_rfl) ⟨trivial, trivial, trivial, trivial, trivial, trivial, trivial, trivial, rfl, trivial⟩ ⟨⟨rfl, rfl⟩, trivial⟩ fun a17 h18 => ?_
    clear h15
    refine wpAnyK_one (i := 9) (fuel := 4) (by kernel_rfl) ?_
    refine op_call h18 rfl rfl rfl (callOk Tryf.func66 (by decide) rfl) (args := [.pointer (some ⟨bl, 0, none⟩), .int .i64 (pos + (i : Int))]) rfl (event_ok bl ⟨eo, ec, eF, mo, mc, mF, so, sc, sF⟩ lg _ (LogAt.of (h18.kn (k := 1) rfl) h18.inv hsep) (pos + (i : Int)) (j + i) x (by omega) hx hlen) ?_
    rintro _ w19 ⟨rfl, hf21⟩
    refine ⟨_, rfl, ?_⟩
    have h20 := (h18.grow hf21).put (d := some 28) (v := .agg #[.int .u8 x.kind, .int .u32 x.pick, .int .u64 x.arg]) (T' := [(28, .agg #[.int .u8 x.kind, .int .u32 x.pick, .int .u64 x.arg]), (0, .pointer (some ⟨bc, 0, none⟩)), (1, .pointer (some ⟨bl, 0, none⟩)), (2, .int .i64 n), (19, .pointer (some ⟨bc, 0, none⟩)), (22, .pointer (some ⟨bc, 0, none⟩)), (23, .pointer (some ⟨bl, 0, none⟩)), (27, .int .i64 (pos + (i : Int)))]) rfl
    refine ⟨keepNil, ?_⟩
    clear h18
    refine wpAnyK_one (i := 10) (fuel := 3) (by kernel_rfl) ?_
    refine op_call h20 rfl rfl rfl (callOk Tryf.func63 (by decide) rfl) (args := [.pointer (some ⟨bc, 0, none⟩), .agg #[.int .u8 x.kind, .int .u32 x.pick, .int .u64 x.arg]]) rfl (step_calls [] (outC o' ++ [.int .i64 (pos + (i : Int))]) m' hi7 x hxe bc 105 false _ (h20.kn (k := 0) rfl)) ?_
    rintro _ w22 ⟨rfl, hbs, hf24⟩
    refine ⟨_, rfl, ?_⟩
    have h23 := (h20.setBlk (k := 0) rfl rfl hf24 hbs (L' := [(bc, ⟨curC ((kstep m' x).1) o' (pos + (i : Int)), 105, false⟩), (bl, ⟨logC lg.base (.slice eo lg.evs.length ec) (.slice mo lg.mks.length mc) (.slice so lg.sns.length sc), 89, true⟩)]) rfl).put (d := some 29) (v := .agg #[.bool ((kstep m' x).2.refused), .int .i8 ((kstep m' x).2.running), .int .u64 ((kstep m' x).2.value)]) (T' := [(29, .agg #[.bool ((kstep m' x).2.refused), .int .i8 ((kstep m' x).2.running), .int .u64 ((kstep m' x).2.value)]), (28, .agg #[.int .u8 x.kind, .int .u32 x.pick, .int .u64 x.arg]), (0, .pointer (some ⟨bc, 0, none⟩)), (1, .pointer (some ⟨bl, 0, none⟩)), (2, .int .i64 n), (19, .pointer (some ⟨bc, 0, none⟩)), (22, .pointer (some ⟨bc, 0, none⟩)), (23, .pointer (some ⟨bl, 0, none⟩)), (27, .int .i64 (pos + (i : Int)))]) rfl
    have hkh23 := h20.known
    refine ⟨keepNil, ?_⟩
    clear h20
    refine dr_batch tabOk tabZ_ok (by repeat (first | exact PF.body | with_reducible apply PF.inB | with_reducible apply PF.next)) [(11, {}), (12, {})] [29, 0, 1, 2, 31] (T' := [(29, .agg #[.bool ((kstep m' x).2.refused), .int .i8 ((kstep m' x).2.running), .int .u64 ((kstep m' x).2.value)]), (0, .pointer (some ⟨bc, 0, none⟩)), (1, .pointer (some ⟨bl, 0, none⟩)), (2, .int .i64 n), (31, .pointer (some ⟨bc, 11, none⟩))]) (φ := True) (fuel := 1) h23 (by kernel_rfl) rfl (by kernel_rfl) (by kernel_rfl) ⟨trivial, trivial, trivial⟩ trivial fun a25 h26 => ?_
    clear h23
    refine wpAnyK_one (i := 13) (fuel := 0) (by kernel_rfl) ?_
    refine op_store tabOk {k := 0} (L' := [(bc, ⟨[.int .u64 ((kstep m' x).1.now), .int .i8 ((kstep m' x).1.cur), .int .u8 ((kstep m' x).1.s0), .int .u8 ((kstep m' x).1.s1), .int .u8 ((kstep m' x).1.s2), .int .u8 ((kstep m' x).1.s3), .int .u64 ((kstep m' x).1.r0), .int .u64 ((kstep m' x).1.r1), .int .u64 ((kstep m' x).1.r2), .int .u64 ((kstep m' x).1.r3), .int .u64 ((kstep m' x).1.word), .bool ((kstep m' x).2.refused), .int .i8 ((kstep m' x).2.running), .int .u64 ((kstep m' x).2.value), .int .i64 (pos + (i : Int))], 105, false⟩), (bl, ⟨logC lg.base (.slice eo lg.evs.length ec) (.slice mo lg.mks.length mc) (.slice so lg.sns.length sc), 89, true⟩)]) (φ := bc = bc ∧ Nat.ble (11 + 3) 15 = true) h26 rfl rfl rfl (by kernel_rfl) ⟨rfl, rfl⟩ fun w27 h28 => ?_
    have hkh28 := h26.known
    refine ⟨keepNil, ?_⟩
    clear h26
    refine wpAnyK_done (by kernel_rfl) ?_ _
    refine hK13 _ _ ?_
    clear hK13
    refine nd_start (l := [0, 1, 2, 3, 4, 5, 6, 7]) rfl ?_
    refine nd_batch tabOk tabZ_ok [(0, {}), (1, {}), (2, {}), (3, {k := 0}), (4, {}), (5, {}), (6, {})] [0, 1, 2, 16, 18] (T' := [(0, .pointer (some ⟨bc, 0, none⟩)), (1, .pointer (some ⟨bl, 0, none⟩)), (2, .int .i64 n), (16, .int .i64 ((pos + (i : Int)) + 1)), (18, .pointer (some ⟨bc, 14, none⟩))]) (φ := (bc = bc ∧ Nat.ble (14 + 1) 15 = true) ∧ inR .i64 ((pos + (i : Int)) + 1) ∧ True) (rest := [7]) h28 (by kernel_rfl) rfl ⟨⟨rfl, rfl⟩, ⟨by omega, by omega⟩, trivial⟩ fun a29 h30 => ?_
    clear h28
    refine nd_op ?_
    refine op_store tabOk {k := 0} (L' := [(bc, ⟨[.int .u64 ((kstep m' x).1.now), .int .i8 ((kstep m' x).1.cur), .int .u8 ((kstep m' x).1.s0), .int .u8 ((kstep m' x).1.s1), .int .u8 ((kstep m' x).1.s2), .int .u8 ((kstep m' x).1.s3), .int .u64 ((kstep m' x).1.r0), .int .u64 ((kstep m' x).1.r1), .int .u64 ((kstep m' x).1.r2), .int .u64 ((kstep m' x).1.r3), .int .u64 ((kstep m' x).1.word), .bool ((kstep m' x).2.refused), .int .i8 ((kstep m' x).2.running), .int .u64 ((kstep m' x).2.value), .int .i64 ((pos + (i : Int)) + 1)], 105, false⟩), (bl, ⟨logC lg.base (.slice eo lg.evs.length ec) (.slice mo lg.mks.length mc) (.slice so lg.sns.length sc), 89, true⟩)]) (φ := bc = bc ∧ Nat.ble (14 + 1) 15 = true) h30 rfl rfl rfl (by kernel_rfl) ⟨rfl, rfl⟩ fun w31 h32 => ?_
    clear h30
    refine nd_done ?_
    have hpq : pos + (i : Int) + 1 = pos + ((i + 1 : Nat) : Int) := by omega
    rw [hpq] at h32
    exact ⟨(g - 1), by omega, (i + 1), (kstep m' x).1, (kstep m' x).2, by omega, by omega, by rw [seg_succ hx, runF_snoc, hi6], kstep_ok hi7 hxe, (h32.slotsMono (restr_spec (keep := [0, 1, 2]) rfl))⟩
  ·
    have hc12f : ¬ (pos + (i : Int)) < n := by simpa using hc12
    have hik : i = k := by omega
    subst hik
    refine wp_exit ?_
    try simp only [Exit.then, Exit.inBlock]
    try rw [if_pos trivial]
    exact s_end tabOk tabZ_ok h11 [] (vs := []) (φ := True) rfl (by kernel_rfl) trivial ⟨rfl, by rw [hi6, hn]; exact h11.kn (k := 0) rfl, h11.frame⟩

end Go.Proofs.Qxb6500919aFmt
