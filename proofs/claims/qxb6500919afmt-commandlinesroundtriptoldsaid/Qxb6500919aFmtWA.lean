/-
  The divergence detector. (Made by program: a symbolic walk that prints its steps.)
-/
import Derived.Test.Qxb6500919aFmtTab
import Derived.Test.Qxb6500919aFmtLib2
import Derived.Test.Qxb6500919aFmtVf
import Derived.Test.Qxb6500919aFmtW1
import Derived.Test.Qxb6500919aFmtW2
import Derived.Test.Qxb6500919aFmtW3
import Derived.Test.Qxb6500919aFmtW4
import Derived.Test.Qxb6500919aFmtW5
import Derived.Test.Qxb6500919aFmtW6
namespace Go.Proofs.Qxb6500919aFmt
open Go.Sx Go.Rp
set_option maxRecDepth 100000
set_option maxHeartbeats 4000000
set_option linter.unusedVariables false
set_option linter.unusedSimpArgs false

def repC (r : Rep) : List Value := [.int .i64 r.at_, .int .i64 r.good, .int .i64 r.rep]

theorem verifyA_ok (bl : Nat) (d : Hd) (lg : Lg) (w : World) (hl : LogAt w bl d lg) (hin : ∀ p ∈ lg.sns, lg.base.idx ≤ p.idx ∧ p.idx ≤ lg.fin) (hmin : ∀ p ∈ lg.mks, lg.base.idx ≤ p.idx ∧ p.idx ≤ lg.fin) (hsort : lg.sns.Pairwise (fun a b => a.idx < b.idx)) (hms : lg.mks.Pairwise (fun a b => a.idx < b.idx))
    (hpw : lg.base.idx ≤ lg.base.idx ∧ lg.base.idx ≤ lg.fin) (hpok : lg.base.st.ok) (hev : ∀ e ∈ lg.evs, e.ok) (hb0 : 0 ≤ lg.base.idx) (hb1 : lg.base.idx ≤ 900000000) (hlen : lg.evs.length ≤ 1000) (hml : lg.mks.length ≤ 1000) (hsl : lg.sns.length ≤ 1000) :
    Calls Tryf.prog 50 #[.pointer (some ⟨bl, 0, none⟩), .pointer (some ⟨bl, 0, none⟩)] w fun e w' => e = .returned (.agg (repC (vfy lg lg.base)).toArray) ∧ Fr [] w w' := by
  have hfq : lg.fin = lg.base.idx + (lg.evs.length : Int) := rfl
  obtain ⟨eo, ec, eF, mo, mc, mF, so, sc, sF⟩ := d
  obtain ⟨hbl, hA, hsep⟩ := hl
  refine enter (n := 165) (K := []) (A := Rws [rl evC 31 3 lg.evs eo ec eF, rl mkC 93 2 lg.mks mo mc mF, rl ptC 84 15 lg.sns so sc sF]) (F := Ff [rl evC 31 3 lg.evs eo ec eF, rl mkC 93 2 lg.mks mo mc mF, rl ptC 84 15 lg.sns so sc sF]) (T := [(0, .pointer (some ⟨bl, 0, none⟩)), (1, .pointer (some ⟨bl, 0, none⟩))]) (L := [(bl, ⟨logC lg.base (.slice eo lg.evs.length ec) (.slice mo lg.mks.length mc) (.slice so lg.sns.length sc), 89, true⟩)]) (args := [.pointer (some ⟨bl, 0, none⟩), .pointer (some ⟨bl, 0, none⟩)]) Tryf.func50 rfl rfl rfl rfl (kcons hbl knil) (by simp) (kcons (by intro hq; cases hq) knil) hA Rws.stable (hA).low (kcons (by intro hq; cases hq) knil) ?_
  intro a h
  refine wp_seq_k fun K1 hK1 => ?_
  refine nd_start (l := [0]) rfl ?_
  refine nd_op ?_
  refine op_new tabOk (cells := [.int .i64 0, .int .i64 0, .int .i64 0]) (ty := 114) (ln := none) (L1 := fun b2 => [(bl, ⟨logC lg.base (.slice eo lg.evs.length ec) (.slice mo lg.mks.length mc) (.slice so lg.sns.length sc), 89, true⟩), (b2, ⟨[.int .i64 0, .int .i64 0, .int .i64 0], 114, false⟩)]) h rfl rfl rfl rfl (by kernel_rfl) (fun _ => rfl) fun b2 w3 a4 h5 hf6 hn7 => ?_
  clear h
  refine nd_done ?_
  refine hK1 _ _ ?_
  clear hK1
  refine wp_seq_k fun K8 hK8 => ?_
  refine nd_start (l := [0, 1, 2, 3]) rfl ?_
  refine nd_batch tabOk tabZ_ok [(0, {})] [4, 0, 1, 10] (T' := [(4, .pointer (some ⟨b2, 0, none⟩)), (0, .pointer (some ⟨bl, 0, none⟩)), (1, .pointer (some ⟨bl, 0, none⟩)), (10, .pointer (some ⟨bl, 0, none⟩))]) (φ := True) (rest := [1, 2, 3]) h5 (by kernel_rfl) rfl trivial fun a9 h10 => ?_
  clear h5
  refine nd_op ?_
  refine op_call h10 rfl rfl rfl (callOk Tryf.func42 (by decide) rfl) (args := [.pointer (some ⟨bl, 0, none⟩)]) rfl (startAt_ok bl 0 _ 89 true lg.base _ (h10.kn (k := 0) rfl) (logB_base ⟨eo, ec, eF, mo, mc, mF, so, sc, sF⟩ lg)) ?_
  rintro _ w11 ⟨rfl, hf13⟩
  refine ⟨_, rfl, ?_⟩
  have h12 := (h10.grow hf13).put (d := some 11) (v := .agg #[.int .u64 lg.base.st.now, .int .i8 lg.base.st.cur, .int .u8 lg.base.st.s0, .int .u8 lg.base.st.s1, .int .u8 lg.base.st.s2, .int .u8 lg.base.st.s3, .int .u64 lg.base.st.r0, .int .u64 lg.base.st.r1, .int .u64 lg.base.st.r2, .int .u64 lg.base.st.r3, .int .u64 lg.base.st.word, .bool lg.base.out.refused, .int .i8 lg.base.out.running, .int .u64 lg.base.out.value, .int .i64 lg.base.idx]) (T' := [(11, .agg #[.int .u64 lg.base.st.now, .int .i8 lg.base.st.cur, .int .u8 lg.base.st.s0, .int .u8 lg.base.st.s1, .int .u8 lg.base.st.s2, .int .u8 lg.base.st.s3, .int .u64 lg.base.st.r0, .int .u64 lg.base.st.r1, .int .u64 lg.base.st.r2, .int .u64 lg.base.st.r3, .int .u64 lg.base.st.word, .bool lg.base.out.refused, .int .i8 lg.base.out.running, .int .u64 lg.base.out.value, .int .i64 lg.base.idx]), (4, .pointer (some ⟨b2, 0, none⟩)), (0, .pointer (some ⟨bl, 0, none⟩)), (1, .pointer (some ⟨bl, 0, none⟩)), (10, .pointer (some ⟨bl, 0, none⟩))]) rfl
  clear h10
  refine nd_op ?_
  refine op_new tabOk (cells := [.int .u64 0, .int .i8 0, .int .u8 0, .int .u8 0, .int .u8 0, .int .u8 0, .int .u64 0, .int .u64 0, .int .u64 0, .int .u64 0, .int .u64 0, .bool false, .int .i8 0, .int .u64 0, .int .i64 0]) (ty := 105) (ln := none) (L1 := fun b14 => [(bl, ⟨logC lg.base (.slice eo lg.evs.length ec) (.slice mo lg.mks.length mc) (.slice so lg.sns.length sc), 89, true⟩), (b2, ⟨[.int .i64 0, .int .i64 0, .int .i64 0], 114, false⟩), (b14, ⟨[.int .u64 0, .int .i8 0, .int .u8 0, .int .u8 0, .int .u8 0, .int .u8 0, .int .u64 0, .int .u64 0, .int .u64 0, .int .u64 0, .int .u64 0, .bool false, .int .i8 0, .int .u64 0, .int .i64 0], 105, false⟩)]) h12 rfl rfl rfl rfl (by kernel_rfl) (fun _ => rfl) fun b14 w15 a16 h17 hf18 hn19 => ?_
  clear h12
  refine nd_op ?_
  refine op_store tabOk {k := 2} (L' := [(bl, ⟨logC lg.base (.slice eo lg.evs.length ec) (.slice mo lg.mks.length mc) (.slice so lg.sns.length sc), 89, true⟩), (b2, ⟨[.int .i64 0, .int .i64 0, .int .i64 0], 114, false⟩), (b14, ⟨[.int .u64 lg.base.st.now, .int .i8 lg.base.st.cur, .int .u8 lg.base.st.s0, .int .u8 lg.base.st.s1, .int .u8 lg.base.st.s2, .int .u8 lg.base.st.s3, .int .u64 lg.base.st.r0, .int .u64 lg.base.st.r1, .int .u64 lg.base.st.r2, .int .u64 lg.base.st.r3, .int .u64 lg.base.st.word, .bool lg.base.out.refused, .int .i8 lg.base.out.running, .int .u64 lg.base.out.value, .int .i64 lg.base.idx], 105, false⟩)]) (φ := b14 = b14 ∧ Nat.ble (0 + 15) 15 = true) h17 rfl rfl rfl (by kernel_rfl) ⟨rfl, rfl⟩ fun w20 h21 => ?_
  clear h17
  refine nd_done ?_
  refine hK8 _ _ ?_
  clear hK8
  refine wp_seq_k fun K22 hK22 => ?_
  refine nd_start (l := [0, 1, 2, 3, 4]) rfl ?_
  refine nd_batch tabOk tabZ_ok [(0, {}), (1, {}), (2, {}), (3, {k := 0}), (4, {})] [5, 4, 0, 1, 6] (T' := [(5, .pointer (some ⟨b14, 0, none⟩)), (4, .pointer (some ⟨b2, 0, none⟩)), (0, .pointer (some ⟨bl, 0, none⟩)), (1, .pointer (some ⟨bl, 0, none⟩)), (6, .int .i64 lg.base.idx)]) (φ := (bl = bl ∧ Nat.ble (0 + 1) 18 = true) ∧ True) (rest := []) h21 (by kernel_rfl) rfl ⟨⟨rfl, rfl⟩, trivial⟩ fun a23 h24 => ?_
  clear h21
  refine nd_done ?_
  refine hK22 _ _ ?_
  clear hK22
  refine wp_seq_k fun K25 hK25 => ?_
  refine dr_start (KB := [bl, b2, b14]) (Bi := [[0, 1, 2], [0, 1, 2], [0, 1, 2], [0, 1, 2], [0, 1, 2], [0, 1, 2], [0, 1, 2], [0, 1, 2], [0, 1, 2], [0, 1, 2]]) mixed h24 fun w26 h27 => ?_
  clear h24
  refine dr_batch tabOk tabZ_ok (by repeat (first | exact PF.body | with_reducible apply PF.inB | with_reducible apply PF.next)) [(0, {}), (1, {}), (2, {}), (3, {k := 0, p := 0}), (4, {}), (5, {}), (6, {}), (7, {k := 0, p := 0}), (8, {}), (9, {})] [5, 4, 0, 1, 6, 7, 8] (T' := [(5, .pointer (some ⟨b14, 0, none⟩)), (4, .pointer (some ⟨b2, 0, none⟩)), (0, .pointer (some ⟨bl, 0, none⟩)), (1, .pointer (some ⟨bl, 0, none⟩)), (6, .int .i64 lg.base.idx), (7, .slice mo lg.mks.length mc), (8, .slice so lg.sns.length sc)]) (φ := (bl = bl ∧ Nat.ble (16 + 1) 18 = true) ∧ (bl = bl ∧ Nat.ble (17 + 1) 18 = true) ∧ True) (fuel := 0) h27 (by kernel_rfl) rfl (by kernel_rfl) (by kernel_rfl) ⟨trivial, trivial, trivial, rfl, trivial, trivial, trivial, rfl, trivial, trivial, trivial⟩ ⟨⟨rfl, rfl⟩, ⟨rfl, rfl⟩, trivial⟩ fun a29 h30 => ?_
  clear h27
  refine wpAnyK_done (by kernel_rfl) ?_ _
  refine hK25 _ _ ?_
  clear hK25
  refine wp_seq_k fun K31 hK31 => ?_
  refine wp_block ?_
  have hm32 : ∀ (j : Nat) (ca : Act) (cw : World), (j ≤ lg.mks.length) → (∀ z ∈ lg.mks.take j, z.idx < lg.base.idx) → (∀ z, lg.mks[j]? = some z → ¬ z.idx < lg.base.idx) → St ⟨165, [], w, Rws [rl evC 31 3 lg.evs eo ec eF, rl mkC 93 2 lg.mks mo mc mF, rl ptC 84 15 lg.sns so sc sF], Ff [rl evC 31 3 lg.evs eo ec eF, rl mkC 93 2 lg.mks mo mc mF, rl ptC 84 15 lg.sns so sc sF]⟩ [(0, .pointer (some ⟨bl, 0, none⟩)), (1, .pointer (some ⟨bl, 0, none⟩)), (4, .pointer (some ⟨b2, 0, none⟩)), (5, .pointer (some ⟨b14, 0, none⟩)), (6, .int .i64 lg.base.idx), (7, .slice (winA mo mc j 2) (lg.mks.length - j) (mc - j)), (8, .slice so lg.sns.length sc)] [(bl, ⟨logC lg.base (.slice eo lg.evs.length ec) (.slice mo lg.mks.length mc) (.slice so lg.sns.length sc), 89, true⟩), (b2, ⟨[.int .i64 0, .int .i64 0, .int .i64 0], 114, false⟩), (b14, ⟨[.int .u64 lg.base.st.now, .int .i8 lg.base.st.cur, .int .u8 lg.base.st.s0, .int .u8 lg.base.st.s1, .int .u8 lg.base.st.s2, .int .u8 lg.base.st.s3, .int .u64 lg.base.st.r0, .int .u64 lg.base.st.r1, .int .u64 lg.base.st.r2, .int .u64 lg.base.st.r3, .int .u64 lg.base.st.word, .bool lg.base.out.refused, .int .i8 lg.base.out.running, .int .u64 lg.base.out.value, .int .i64 lg.base.idx], 105, false⟩)] ca cw → K31 ca cw := by
    intro j a33 w34 hi36 hi37 hi38 h35
    have hlen1 := hi36
    have hsk1 := hi37
    have hst1 := hi38
    refine hK31 _ _ ?_
    clear hK31
    refine wp_seq_k fun K39 hK39 => ?_
    refine wp_block ?_
    have hm40 : ∀ (i : Nat) (ca : Act) (cw : World), (i ≤ lg.sns.length) → (∀ z ∈ lg.sns.take i, z.idx < lg.base.idx) → (∀ z, lg.sns[i]? = some z → ¬ z.idx < lg.base.idx) → St ⟨165, [], w, Rws [rl evC 31 3 lg.evs eo ec eF, rl mkC 93 2 lg.mks mo mc mF, rl ptC 84 15 lg.sns so sc sF], Ff [rl evC 31 3 lg.evs eo ec eF, rl mkC 93 2 lg.mks mo mc mF, rl ptC 84 15 lg.sns so sc sF]⟩ [(0, .pointer (some ⟨bl, 0, none⟩)), (1, .pointer (some ⟨bl, 0, none⟩)), (4, .pointer (some ⟨b2, 0, none⟩)), (5, .pointer (some ⟨b14, 0, none⟩)), (6, .int .i64 lg.base.idx), (8, .slice (winA so sc i 15) (lg.sns.length - i) (sc - i)), (7, .slice (winA mo mc j 2) (lg.mks.length - j) (mc - j))] [(bl, ⟨logC lg.base (.slice eo lg.evs.length ec) (.slice mo lg.mks.length mc) (.slice so lg.sns.length sc), 89, true⟩), (b2, ⟨[.int .i64 0, .int .i64 0, .int .i64 0], 114, false⟩), (b14, ⟨[.int .u64 lg.base.st.now, .int .i8 lg.base.st.cur, .int .u8 lg.base.st.s0, .int .u8 lg.base.st.s1, .int .u8 lg.base.st.s2, .int .u8 lg.base.st.s3, .int .u64 lg.base.st.r0, .int .u64 lg.base.st.r1, .int .u64 lg.base.st.r2, .int .u64 lg.base.st.r3, .int .u64 lg.base.st.word, .bool lg.base.out.refused, .int .i8 lg.base.out.running, .int .u64 lg.base.out.value, .int .i64 lg.base.idx], 105, false⟩)] ca cw → K39 ca cw := by
      intro i a41 w42 hi44 hi45 hi46 h43
      have hlen2 := hi44
      have hsk2 := hi45
      have hst2 := hi46
      refine hK39 _ _ ?_
      clear hK39
      refine wp_block ?_
      have hdm := dropWhile_at (f := fun k => decide (k.idx < lg.base.idx)) (l := lg.mks) (j := j) (by simpa using hsk1) (by simpa using hst1)
      have hds := dropWhile_at (f := fun k => decide (k.idx < lg.base.idx)) (l := lg.sns) (j := i) (by simpa using hsk2) (by simpa using hst2)
      have hgm := mk_ge (n := lg.base.idx) hms (j := j) (fun z hz => by have := hst1 z hz; omega)
      have hgs := pt_ge (n := lg.base.idx) hsort (j := i) (fun z hz => by have := hst2 z hz; omega)
      refine wp_loop_ghost (fun g ga gw => ∃ (j i : Nat) (m' : Mach) (o' : Ot) (pos' good : Int) (q : Nat), (j ≤ lg.mks.length) ∧ (i ≤ lg.sns.length) ∧ (lg.mks.length - j + (lg.sns.length - i) < g) ∧ (pos' - lg.base.idx = q) ∧ (q ≤ lg.evs.length) ∧ (m'.ok) ∧ (∀ z ∈ lg.mks.drop j, pos' ≤ z.idx) ∧ (∀ z ∈ lg.sns.drop i, pos' ≤ z.idx) ∧ (vloop lg lg.base.idx g (lg.mks.drop j) (lg.sns.drop i) (m', o') pos' good = vfy lg lg.base) ∧ St ⟨165, [], w, Rws [rl evC 31 3 lg.evs eo ec eF, rl mkC 93 2 lg.mks mo mc mF, rl ptC 84 15 lg.sns so sc sF], Ff [rl evC 31 3 lg.evs eo ec eF, rl mkC 93 2 lg.mks mo mc mF, rl ptC 84 15 lg.sns so sc sF]⟩ [(0, .pointer (some ⟨bl, 0, none⟩)), (1, .pointer (some ⟨bl, 0, none⟩)), (4, .pointer (some ⟨b2, 0, none⟩)), (5, .pointer (some ⟨b14, 0, none⟩)), (6, .int .i64 good), (7, .slice (winA mo mc j 2) (lg.mks.length - j) (mc - j)), (8, .slice (winA so sc i 15) (lg.sns.length - i) (sc - i))] [(bl, ⟨logC lg.base (.slice eo lg.evs.length ec) (.slice mo lg.mks.length mc) (.slice so lg.sns.length sc), 89, true⟩), (b2, ⟨[.int .i64 0, .int .i64 0, .int .i64 0], 114, false⟩), (b14, ⟨curC m' o' pos', 105, false⟩)] ga gw) (lg.mks.length + lg.sns.length + 1) ⟨j, i, lg.base.st, lg.base.out, lg.base.idx, lg.base.idx, (lg.base.idx - lg.base.idx).toNat, hlen1, hlen2, by omega, by omega, by simp only [Lg.fin] at hpw; omega, hpok, hgm, hgs, by unfold vfy; rw [hdm, hds], (h43.slotsMono (restr_spec (keep := [0, 1, 4, 5, 6, 7, 8]) rfl))⟩ ?_
      clear h43
      rintro g a47 w48 ⟨j, i, m', o', pos', good, q, hi50, hi51, hi52, hi53, hi54, hi55, hi56, hi57, hi58, h49⟩
      obtain ⟨g, rfl⟩ : ∃ g0, g = g0 + 1 := ⟨g - 1, by omega⟩
      have hj := hi50
      have hi := hi51
      have hg := hi52
      have hq := hi53
      have hqe := hi54
      have hmok := hi55
      have hgm := hi56
      have hgs := hi57
      have hv := hi58
      refine wp_block ?_
      refine wp_seq_k fun K59 hK59 => ?_
      refine nd_start (l := [0, 1, 2, 3]) rfl ?_
      refine nd_batch tabOk tabZ_ok [(0, {})] [0, 1, 4, 5, 6, 7, 8, 52] (T' := [(0, .pointer (some ⟨bl, 0, none⟩)), (1, .pointer (some ⟨bl, 0, none⟩)), (4, .pointer (some ⟨b2, 0, none⟩)), (5, .pointer (some ⟨b14, 0, none⟩)), (6, .int .i64 good), (7, .slice (winA mo mc j 2) (lg.mks.length - j) (mc - j)), (8, .slice (winA so sc i 15) (lg.sns.length - i) (sc - i)), (52, .pointer (some ⟨bl, 0, none⟩))]) (φ := True) (rest := [1, 2, 3]) h49 (by kernel_rfl) rfl trivial fun a60 h61 => ?_
      clear h49
      refine nd_op ?_
      refine op_call h61 rfl rfl rfl (callOk Tryf.func41 (by decide) rfl) (args := [.pointer (some ⟨bl, 0, none⟩)]) rfl (end_ok bl lg.base eo lg.evs.length ec (.slice mo lg.mks.length mc) (.slice so lg.sns.length sc) true _ (h61.kn (k := 0) rfl) hb0 (by omega) (by omega)) ?_
      rintro _ w62 ⟨rfl, hf64⟩
      refine ⟨_, rfl, ?_⟩
      have h63 := (h61.grow hf64).put (d := some 53) (v := .int .i64 (lg.base.idx + (lg.evs.length : Int))) (T' := [(53, .int .i64 (lg.base.idx + (lg.evs.length : Int))), (0, .pointer (some ⟨bl, 0, none⟩)), (1, .pointer (some ⟨bl, 0, none⟩)), (4, .pointer (some ⟨b2, 0, none⟩)), (5, .pointer (some ⟨b14, 0, none⟩)), (6, .int .i64 good), (7, .slice (winA mo mc j 2) (lg.mks.length - j) (mc - j)), (8, .slice (winA so sc i 15) (lg.sns.length - i) (sc - i)), (52, .pointer (some ⟨bl, 0, none⟩))]) rfl
      clear h61
      refine nd_batch tabOk tabZ_ok [(2, {}), (3, {})] [0, 1, 4, 5, 6, 7, 8, 9] (T' := [(0, .pointer (some ⟨bl, 0, none⟩)), (1, .pointer (some ⟨bl, 0, none⟩)), (4, .pointer (some ⟨b2, 0, none⟩)), (5, .pointer (some ⟨b14, 0, none⟩)), (6, .int .i64 good), (7, .slice (winA mo mc j 2) (lg.mks.length - j) (mc - j)), (8, .slice (winA so sc i 15) (lg.sns.length - i) (sc - i)), (9, .int .i64 ((lg.base.idx + (lg.evs.length : Int)) + 1))]) (φ := inR .i64 ((lg.base.idx + (lg.evs.length : Int)) + 1) ∧ True) (rest := []) h63 (by kernel_rfl) rfl ⟨⟨by omega, by omega⟩, trivial⟩ fun a65 h66 => ?_
      clear h63
      refine nd_done ?_
      refine hK59 _ _ ?_
      clear hK59
      refine wp_seq_k fun K67 hK67 => ?_
      refine wp_seq_k fun K68 hK68 => ?_
      refine nd_start (l := [0, 1, 2]) rfl ?_
      refine nd_batch tabOk tabZ_ok [(0, {}), (1, {}), (2, {})] [0, 1, 4, 5, 6, 7, 8, 9, 57] (T' := [(0, .pointer (some ⟨bl, 0, none⟩)), (1, .pointer (some ⟨bl, 0, none⟩)), (4, .pointer (some ⟨b2, 0, none⟩)), (5, .pointer (some ⟨b14, 0, none⟩)), (6, .int .i64 good), (7, .slice (winA mo mc j 2) (lg.mks.length - j) (mc - j)), (8, .slice (winA so sc i 15) (lg.sns.length - i) (sc - i)), (9, .int .i64 ((lg.base.idx + (lg.evs.length : Int)) + 1)), (57, .bool (decide ((((lg.mks.length - j) : Nat) : Int) > 0)))]) (φ := True) (rest := []) h66 (by kernel_rfl) rfl trivial fun a69 h70 => ?_
      clear h66
      refine nd_done ?_
      refine hK68 _ _ ?_
      clear hK68
      refine c_split h70 (b := decide ((((lg.mks.length - j) : Nat) : Int) > 0)) rfl (fun hc71 => ?_) (fun hc71 => ?_)
      ·
        have hc71f : (((lg.mks.length - j) : Nat) : Int) > 0 := by simpa using hc71
        obtain ⟨x, hx⟩ := Sx.get_some (xs := lg.mks) (i := j) (by omega)
        have hxw := hmin x (List.mem_of_getElem? hx)
        have hxg := hgm x (by rw [drop_at hx]; simp)
        obtain ⟨b72, cs73, ho74, hb75, hc76, hF77, hq79, hl80⟩ := rl_open (h70.inv.get (j := 1) rfl) mkC_len hx
        subst ho74 hF77
        have h78 := h70.open_ hb75 (h70.notinL (by simp [Ff]) (kcons (fun _ => (fun hq => hsep (by have hq2 : bl = b72 := hq; rw [hq2]; simp [Hd.F]))) (kcons (by intro hq; cases hq) (kcons (by intro hq; cases hq) knil))))
        clear h70
        have hlt81 : j < mc := by have h1 : lg.mks.length ≤ mc := rl_cap (h78.inv.get (j := 1) rfl); have h2 := (List.getElem?_eq_some_iff.1 hx).1; omega
        rw [winA_some b72 2 hlt81] at h78
        refine nd_start (l := [0, 1, 2, 3, 4]) rfl ?_
        refine nd_batch tabOk tabZ_ok [(0, {}), (1, {}), (2, {}), (3, {k := 3, m := 1, vs := [.int .i64 x.idx]}), (4, {})] [0, 1, 4, 5, 6, 7, 8, 9] (T' := [(0, .pointer (some ⟨bl, 0, none⟩)), (1, .pointer (some ⟨bl, 0, none⟩)), (4, .pointer (some ⟨b2, 0, none⟩)), (5, .pointer (some ⟨b14, 0, none⟩)), (6, .int .i64 good), (7, .slice (some ⟨b72, (j * 2), none⟩) (lg.mks.length - j) (mc - j)), (8, .slice (winA so sc i 15) (lg.sns.length - i) (sc - i)), (9, .int .i64 x.idx)]) (φ := (0 ≤ (0 : Int) ∧ (0 : Int) < (((lg.mks.length - j) : Nat) : Int)) ∧ (b72 = b72 ∧ cellsAre cs73 (j * 2) [.int .i64 x.idx]) ∧ True) (rest := []) h78 (by kernel_rfl) rfl ⟨⟨by omega, by omega⟩, ⟨rfl, ⟨(hc76).1, trivial⟩⟩, trivial⟩ fun a82 h83 => ?_
        clear h78
        refine nd_done ?_
        refine hK67 _ _ ?_
        clear hK67
        refine wp_seq_k fun K84 hK84 => ?_
        refine wp_seq_k fun K85 hK85 => ?_
        rcases Bool.eq_false_or_eq_true (decide ((((lg.sns.length - i) : Nat) : Int) > 0)) with hb86 | hb86
        ·
          have hb86f : (((lg.sns.length - i) : Nat) : Int) > 0 := by simpa using hb86
          obtain ⟨y, hy⟩ := Sx.get_some (xs := lg.sns) (i := i) (by omega)
          have hyw := hin y (List.mem_of_getElem? hy)
          have hyg := hgs y (by rw [drop_at hy]; simp)
          obtain ⟨b87, cs88, ho89, hb90, hc91, hF92, hq94, hl95⟩ := rl_open (h83.inv.get (j := 2) rfl) ptC_len hy
          subst ho89 hF92
          have h93 := h83.open_ hb90 (h83.notinL (by simp [Ff]) (kcons (fun _ => (fun hq => hsep (by have hq2 : bl = b87 := hq; rw [hq2]; simp [Hd.F]))) (kcons (by intro hq; cases hq) (kcons (by intro hq; cases hq) (kcons (fun _ => (fun hq => Ff_nodup h83.inv.1 (i := 1) (j := 2) rfl rfl (by decide) b72 (by simp) (by have hq2 : b72 = b87 := hq; rw [hq2]; simp))) knil)))))
          clear h83
          have hlt96 : i < sc := by have h1 : lg.sns.length ≤ sc := rl_cap (h93.inv.get (j := 2) rfl); have h2 := (List.getElem?_eq_some_iff.1 hy).1; omega
          rw [winA_some b87 15 hlt96] at h93
          refine nd_start (l := [0, 1, 2, 3, 4, 5, 6, 7, 8, 9, 10]) rfl ?_
          refine nd_batch tabOk tabZ_ok [(0, {}), (1, {}), (2, {f := 2}), (3, {}), (4, {}), (5, {}), (6, {}), (7, {k := 4, m := 1, vs := [.int .i64 y.idx]}), (8, {}), (9, {}), (10, {})] [0, 1, 4, 5, 6, 7, 8, 9, 72] (T' := [(0, .pointer (some ⟨bl, 0, none⟩)), (1, .pointer (some ⟨bl, 0, none⟩)), (4, .pointer (some ⟨b2, 0, none⟩)), (5, .pointer (some ⟨b14, 0, none⟩)), (6, .int .i64 good), (7, .slice (some ⟨b72, (j * 2), none⟩) (lg.mks.length - j) (mc - j)), (8, .slice (some ⟨b87, (i * 15), none⟩) (lg.sns.length - i) (sc - i)), (9, .int .i64 x.idx), (72, .bool (decide (y.idx < x.idx)))]) (φ := (decide ((((lg.sns.length - i) : Nat) : Int) > 0)) = true ∧ (0 ≤ (0 : Int) ∧ (0 : Int) < (((lg.sns.length - i) : Nat) : Int)) ∧ (b87 = b87 ∧ cellsAre cs88 (i * 15) [.int .i64 y.idx]) ∧ True) (rest := []) h93 (by kernel_rfl) rfl ⟨hb86, ⟨by omega, by omega⟩, ⟨rfl, (pt_idx hc91)⟩, trivial⟩ fun a97 h98 => ?_
          clear h93
          refine nd_done ?_
          refine hK85 _ _ ?_
          clear hK85
          refine c_split h98 (b := decide (y.idx < x.idx)) rfl (fun hc99 => ?_) (fun hc99 => ?_)
          ·
            have hc99f : y.idx < x.idx := by simpa using hc99
            refine nd_start (l := [0, 1, 2, 3, 4]) rfl ?_
            refine nd_batch tabOk tabZ_ok [(0, {}), (1, {}), (2, {}), (3, {k := 4, m := 1, vs := [.int .i64 y.idx]}), (4, {})] [0, 1, 4, 5, 6, 7, 8, 9] (T' := [(0, .pointer (some ⟨bl, 0, none⟩)), (1, .pointer (some ⟨bl, 0, none⟩)), (4, .pointer (some ⟨b2, 0, none⟩)), (5, .pointer (some ⟨b14, 0, none⟩)), (6, .int .i64 good), (7, .slice (some ⟨b72, (j * 2), none⟩) (lg.mks.length - j) (mc - j)), (8, .slice (some ⟨b87, (i * 15), none⟩) (lg.sns.length - i) (sc - i)), (9, .int .i64 y.idx)]) (φ := (0 ≤ (0 : Int) ∧ (0 : Int) < (((lg.sns.length - i) : Nat) : Int)) ∧ (b87 = b87 ∧ cellsAre cs88 (i * 15) [.int .i64 y.idx]) ∧ True) (rest := []) h98 (by kernel_rfl) rfl ⟨⟨by omega, by omega⟩, ⟨rfl, (pt_idx hc91)⟩, trivial⟩ fun a100 h101 => ?_
            clear h98
            refine nd_done ?_
            refine hK84 _ _ ?_
            clear hK84
            refine wp_seq_k fun K102 hK102 => ?_
            refine wp_seq_k fun K103 hK103 => ?_
            refine nd_start (l := [0, 1, 2, 3]) rfl ?_
            refine nd_batch tabOk tabZ_ok [(0, {}), (1, {})] [0, 1, 4, 5, 6, 7, 8, 9, 77, 78] (T' := [(0, .pointer (some ⟨bl, 0, none⟩)), (1, .pointer (some ⟨bl, 0, none⟩)), (4, .pointer (some ⟨b2, 0, none⟩)), (5, .pointer (some ⟨b14, 0, none⟩)), (6, .int .i64 good), (7, .slice (some ⟨b72, (j * 2), none⟩) (lg.mks.length - j) (mc - j)), (8, .slice (some ⟨b87, (i * 15), none⟩) (lg.sns.length - i) (sc - i)), (9, .int .i64 y.idx), (77, .int .i64 y.idx), (78, .pointer (some ⟨bl, 0, none⟩))]) (φ := True) (rest := [2, 3]) h101 (by kernel_rfl) rfl trivial fun a104 h105 => ?_
            clear h101
            refine nd_op ?_
            refine op_call h105 rfl rfl rfl (callOk Tryf.func41 (by decide) rfl) (args := [.pointer (some ⟨bl, 0, none⟩)]) rfl (end_ok bl lg.base eo lg.evs.length ec (.slice (some ⟨b72, 0, none⟩) lg.mks.length mc) (.slice (some ⟨b87, 0, none⟩) lg.sns.length sc) true _ (h105.kn (k := 0) rfl) hb0 (by omega) (by omega)) ?_
            rintro _ w106 ⟨rfl, hf108⟩
            refine ⟨_, rfl, ?_⟩
            have h107 := (h105.grow hf108).put (d := some 79) (v := .int .i64 (lg.base.idx + (lg.evs.length : Int))) (T' := [(79, .int .i64 (lg.base.idx + (lg.evs.length : Int))), (0, .pointer (some ⟨bl, 0, none⟩)), (1, .pointer (some ⟨bl, 0, none⟩)), (4, .pointer (some ⟨b2, 0, none⟩)), (5, .pointer (some ⟨b14, 0, none⟩)), (6, .int .i64 good), (7, .slice (some ⟨b72, (j * 2), none⟩) (lg.mks.length - j) (mc - j)), (8, .slice (some ⟨b87, (i * 15), none⟩) (lg.sns.length - i) (sc - i)), (9, .int .i64 y.idx), (77, .int .i64 y.idx), (78, .pointer (some ⟨bl, 0, none⟩))]) rfl
            clear h105
            refine nd_batch tabOk tabZ_ok [(3, {})] [0, 1, 4, 5, 6, 7, 8, 9, 80] (T' := [(0, .pointer (some ⟨bl, 0, none⟩)), (1, .pointer (some ⟨bl, 0, none⟩)), (4, .pointer (some ⟨b2, 0, none⟩)), (5, .pointer (some ⟨b14, 0, none⟩)), (6, .int .i64 good), (7, .slice (some ⟨b72, (j * 2), none⟩) (lg.mks.length - j) (mc - j)), (8, .slice (some ⟨b87, (i * 15), none⟩) (lg.sns.length - i) (sc - i)), (9, .int .i64 y.idx), (80, .bool (decide (y.idx > (lg.base.idx + (lg.evs.length : Int)))))]) (φ := True) (rest := []) h107 (by kernel_rfl) rfl trivial fun a109 h110 => ?_
            clear h107
            refine nd_done ?_
            refine hK103 _ _ ?_
            clear hK103
            refine c_split h110 (b := decide (y.idx > (lg.base.idx + (lg.evs.length : Int)))) rfl (fun hc111 => ?_) (fun hc111 => ?_)
            ·
              have hc111f : y.idx > (lg.base.idx + (lg.evs.length : Int)) := by simpa using hc111
              have hnx : nextOf lg.fin (lg.mks.drop j) (lg.sns.drop i) = y.idx := by rw [next_ms (fin := lg.fin) hx hy, if_pos (by omega)]
              have hfin : lg.fin < y.idx := hc111f
              refine wp_seq_k fun K112 hK112 => ?_
              refine nd_start (l := [0, 1, 2, 3]) rfl ?_
              refine nd_batch tabOk tabZ_ok [(0, {}), (1, {})] [0, 1, 4, 5, 6, 7, 8, 9, 81, 82] (T' := [(0, .pointer (some ⟨bl, 0, none⟩)), (1, .pointer (some ⟨bl, 0, none⟩)), (4, .pointer (some ⟨b2, 0, none⟩)), (5, .pointer (some ⟨b14, 0, none⟩)), (6, .int .i64 good), (7, .slice (some ⟨b72, (j * 2), none⟩) (lg.mks.length - j) (mc - j)), (8, .slice (some ⟨b87, (i * 15), none⟩) (lg.sns.length - i) (sc - i)), (9, .int .i64 y.idx), (81, .pointer (some ⟨bl, 0, none⟩)), (82, .pointer (some ⟨bl, 0, none⟩))]) (φ := True) (rest := [2, 3]) h110 (by kernel_rfl) rfl trivial fun a113 h114 => ?_
              clear h110
              refine nd_op ?_
              refine op_call h114 rfl rfl rfl (callOk Tryf.func41 (by decide) rfl) (args := [.pointer (some ⟨bl, 0, none⟩)]) rfl (end_ok bl lg.base eo lg.evs.length ec (.slice (some ⟨b72, 0, none⟩) lg.mks.length mc) (.slice (some ⟨b87, 0, none⟩) lg.sns.length sc) true _ (h114.kn (k := 0) rfl) hb0 (by omega) (by omega)) ?_
              rintro _ w115 ⟨rfl, hf117⟩
              refine ⟨_, rfl, ?_⟩
              have h116 := (h114.grow hf117).put (d := some 83) (v := .int .i64 (lg.base.idx + (lg.evs.length : Int))) (T' := [(83, .int .i64 (lg.base.idx + (lg.evs.length : Int))), (0, .pointer (some ⟨bl, 0, none⟩)), (1, .pointer (some ⟨bl, 0, none⟩)), (4, .pointer (some ⟨b2, 0, none⟩)), (5, .pointer (some ⟨b14, 0, none⟩)), (6, .int .i64 good), (7, .slice (some ⟨b72, (j * 2), none⟩) (lg.mks.length - j) (mc - j)), (8, .slice (some ⟨b87, (i * 15), none⟩) (lg.sns.length - i) (sc - i)), (9, .int .i64 y.idx), (81, .pointer (some ⟨bl, 0, none⟩)), (82, .pointer (some ⟨bl, 0, none⟩))]) rfl
              clear h114
              refine nd_op ?_
              refine op_call h116 rfl rfl rfl (callOk Tryf.func44 (by decide) rfl) (args := [.pointer (some ⟨b14, 0, none⟩), .pointer (some ⟨bl, 0, none⟩), .int .i64 (lg.base.idx + (lg.evs.length : Int))]) rfl (run_ok b14 bl ⟨eo, ec, eF, (some ⟨b72, 0, none⟩), mc, [b72], (some ⟨b87, 0, none⟩), sc, [b87]⟩ lg _ (LogAt.of (d := ⟨eo, ec, eF, (some ⟨b72, 0, none⟩), mc, [b72], (some ⟨b87, 0, none⟩), sc, [b87]⟩) (h116.kn (k := 0) rfl) h116.inv hsep) m' o' pos' (lg.base.idx + (lg.evs.length : Int)) q ((lg.base.idx + (lg.evs.length : Int)) - pos').toNat (h116.kn (k := 2) rfl) (h116.ne 2 0 rfl rfl rfl) (h116.dj (k := 2) rfl rfl) hev hmok hq (by omega) (by omega) (by omega) hb0 (by omega)) ?_
              rintro _ w118 ⟨rfl, hbs, hf120⟩
              refine ⟨_, rfl, ?_⟩
              have h119 := (h116.setBlk (k := 2) rfl rfl hf120 hbs (L' := [(bl, ⟨logC lg.base (.slice eo lg.evs.length ec) (.slice (some ⟨b72, 0, none⟩) lg.mks.length mc) (.slice (some ⟨b87, 0, none⟩) lg.sns.length sc), 89, true⟩), (b2, ⟨[.int .i64 0, .int .i64 0, .int .i64 0], 114, false⟩), (b14, ⟨curC ((runF (seg lg.evs q ((lg.base.idx + (lg.evs.length : Int)) - pos').toNat) (m', o')).1) ((runF (seg lg.evs q ((lg.base.idx + (lg.evs.length : Int)) - pos').toNat) (m', o')).2) (lg.base.idx + (lg.evs.length : Int)), 105, false⟩), (b72, ⟨cs73, 93, true⟩), (b87, ⟨cs88, 84, true⟩)]) rfl).put (d := some 84) (v := .tuple #[]) (T' := [(84, .tuple #[]), (83, .int .i64 (lg.base.idx + (lg.evs.length : Int))), (0, .pointer (some ⟨bl, 0, none⟩)), (1, .pointer (some ⟨bl, 0, none⟩)), (4, .pointer (some ⟨b2, 0, none⟩)), (5, .pointer (some ⟨b14, 0, none⟩)), (6, .int .i64 good), (7, .slice (some ⟨b72, (j * 2), none⟩) (lg.mks.length - j) (mc - j)), (8, .slice (some ⟨b87, (i * 15), none⟩) (lg.sns.length - i) (sc - i)), (9, .int .i64 y.idx), (81, .pointer (some ⟨bl, 0, none⟩)), (82, .pointer (some ⟨bl, 0, none⟩))]) rfl
              clear h116
              refine nd_done ?_
              refine hK112 _ _ ?_
              clear hK112
              refine wp_seq_k fun K121 hK121 => ?_
              refine dr_start (KB := [bl, b2, b14, b72, b87]) (Bi := [[0, 1, 2, 3, 4], [0, 1, 2, 3, 4], [0, 1, 2, 3, 4], [0, 1, 2, 3, 4], [0, 1, 2, 3, 4], [0, 1, 2, 3, 4], [0, 1, 2, 3, 4], [0, 1, 2, 3, 4], [0, 1, 2, 3, 4], []]) mixed h119 fun w122 h123 => ?_
              clear h119
              refine dr_batch tabOk tabZ_ok (by repeat (first | exact PF.body | with_reducible apply PF.inB | with_reducible apply PF.next)) [(0, {}), (1, {}), (2, {k := 2, p := 2}), (3, {}), (4, {}), (5, {}), (6, {k := 0, p := 0}), (7, {}), (8, {})] [0, 1, 4, 5, 6, 7, 8, 9, 93] (T' := [(0, .pointer (some ⟨bl, 0, none⟩)), (1, .pointer (some ⟨bl, 0, none⟩)), (4, .pointer (some ⟨b2, 0, none⟩)), (5, .pointer (some ⟨b14, 0, none⟩)), (6, .int .i64 good), (7, .slice (some ⟨b72, (j * 2), none⟩) (lg.mks.length - j) (mc - j)), (8, .slice (some ⟨b87, (i * 15), none⟩) (lg.sns.length - i) (sc - i)), (9, .int .i64 y.idx), (93, .agg #[.int .i64 (-1), .int .i64 good, .int .i64 ((lg.base.idx + (lg.evs.length : Int)) - lg.base.idx)])]) (φ := (b14 = b14 ∧ Nat.ble (14 + 1) 15 = true) ∧ (bl = bl ∧ Nat.ble (0 + 1) 18 = true) ∧ inR .i64 ((lg.base.idx + (lg.evs.length : Int)) - lg.base.idx) ∧ True) (fuel := 1) h123 (by kernel_rfl) rfl (by kernel_rfl) (by kernel_rfl) ⟨trivial, trivial, rfl, trivial, trivial, trivial, rfl, trivial, trivial, trivial⟩ ⟨⟨rfl, rfl⟩, ⟨rfl, rfl⟩, ⟨by omega, by omega⟩, trivial⟩ fun a125 h126 => ?_
              clear h123
              refine wpAnyK_one (i := 9) (fuel := 0) (by kernel_rfl) ?_
              refine op_store tabOk {k := 1} (L' := [(bl, ⟨logC lg.base (.slice eo lg.evs.length ec) (.slice (some ⟨b72, 0, none⟩) lg.mks.length mc) (.slice (some ⟨b87, 0, none⟩) lg.sns.length sc), 89, true⟩), (b2, ⟨[.int .i64 (-1), .int .i64 good, .int .i64 ((lg.base.idx + (lg.evs.length : Int)) - lg.base.idx)], 114, false⟩), (b14, ⟨curC ((runF (seg lg.evs q ((lg.base.idx + (lg.evs.length : Int)) - pos').toNat) (m', o')).1) ((runF (seg lg.evs q ((lg.base.idx + (lg.evs.length : Int)) - pos').toNat) (m', o')).2) (lg.base.idx + (lg.evs.length : Int)), 105, false⟩), (b72, ⟨cs73, 93, true⟩), (b87, ⟨cs88, 84, true⟩)]) (φ := b2 = b2 ∧ Nat.ble (0 + 3) 3 = true) h126 rfl rfl rfl (by kernel_rfl) ⟨rfl, rfl⟩ fun w127 h128 => ?_
              have hkh128 := h126.known
              refine ⟨keepNil, ?_⟩
              clear h126
              refine wpAnyK_done (by kernel_rfl) ?_ _
              refine hK121 _ _ ?_
              clear hK121
              refine wp_ret ?_
              have hres := hv.symm.trans (vloop_end hnx hfin)
              try simp only [Exit.then, Exit.inBlock]
              try rw [if_pos trivial]
              exact s_ret tabOk tabZ_ok h128 [(.cell 4 114, {k := 1})] (vs := [.agg #[.int .i64 (-1), .int .i64 good, .int .i64 ((lg.base.idx + (lg.evs.length : Int)) - lg.base.idx)]]) (φ := (b2 = b2 ∧ Nat.ble (0 + 3) 3 = true) ∧ True) rfl (by kernel_rfl) ⟨⟨rfl, rfl⟩, trivial⟩ ⟨by rw [hres]; rfl, h128.frame⟩
            ·
              have hc111f : ¬ y.idx > (lg.base.idx + (lg.evs.length : Int)) := by simpa using hc111
              have hnx : nextOf lg.fin (lg.mks.drop j) (lg.sns.drop i) = y.idx := by rw [next_ms (fin := lg.fin) hx hy, if_pos (by omega)]
              have hfin : ¬ lg.fin < y.idx := hc111f
              have hnp : pos' ≤ y.idx := by omega
              have hmok2 := runF_ok (seg lg.evs q (y.idx - pos').toNat) (m', o') hmok (seg_ok hev _ _)
              have hs2 : runF (seg lg.evs (pos' - lg.base.idx).toNat (y.idx - pos').toNat) (m', o') = runF (seg lg.evs q (y.idx - pos').toNat) (m', o') := by rw [show (pos' - lg.base.idx).toNat = q by omega]
              simp only [Lg.fin] at hfin
              refine wp_skip ?_
              refine hK102 _ _ ?_
              clear hK102
              refine wp_seq_k fun K129 hK129 => ?_
              refine nd_start (l := [0, 1, 2]) rfl ?_
              refine nd_batch tabOk tabZ_ok [(0, {}), (1, {})] [0, 1, 4, 5, 6, 7, 8, 9, 94, 95] (T' := [(0, .pointer (some ⟨bl, 0, none⟩)), (1, .pointer (some ⟨bl, 0, none⟩)), (4, .pointer (some ⟨b2, 0, none⟩)), (5, .pointer (some ⟨b14, 0, none⟩)), (6, .int .i64 good), (7, .slice (some ⟨b72, (j * 2), none⟩) (lg.mks.length - j) (mc - j)), (8, .slice (some ⟨b87, (i * 15), none⟩) (lg.sns.length - i) (sc - i)), (9, .int .i64 y.idx), (94, .pointer (some ⟨bl, 0, none⟩)), (95, .int .i64 y.idx)]) (φ := True) (rest := [2]) h110 (by kernel_rfl) rfl trivial fun a130 h131 => ?_
              clear h110
              refine nd_op ?_
              refine op_call h131 rfl rfl rfl (callOk Tryf.func44 (by decide) rfl) (args := [.pointer (some ⟨b14, 0, none⟩), .pointer (some ⟨bl, 0, none⟩), .int .i64 y.idx]) rfl (run_ok b14 bl ⟨eo, ec, eF, (some ⟨b72, 0, none⟩), mc, [b72], (some ⟨b87, 0, none⟩), sc, [b87]⟩ lg _ (LogAt.of (d := ⟨eo, ec, eF, (some ⟨b72, 0, none⟩), mc, [b72], (some ⟨b87, 0, none⟩), sc, [b87]⟩) (h131.kn (k := 0) rfl) h131.inv hsep) m' o' pos' y.idx q (y.idx - pos').toNat (h131.kn (k := 2) rfl) (h131.ne 2 0 rfl rfl rfl) (h131.dj (k := 2) rfl rfl) hev hmok hq (by omega) (by omega) (by omega) hb0 (by omega)) ?_
              rintro _ w132 ⟨rfl, hbs, hf134⟩
              refine ⟨_, rfl, ?_⟩
              have h133 := (h131.setBlk (k := 2) rfl rfl hf134 hbs (L' := [(bl, ⟨logC lg.base (.slice eo lg.evs.length ec) (.slice (some ⟨b72, 0, none⟩) lg.mks.length mc) (.slice (some ⟨b87, 0, none⟩) lg.sns.length sc), 89, true⟩), (b2, ⟨[.int .i64 0, .int .i64 0, .int .i64 0], 114, false⟩), (b14, ⟨curC ((runF (seg lg.evs q (y.idx - pos').toNat) (m', o')).1) ((runF (seg lg.evs q (y.idx - pos').toNat) (m', o')).2) y.idx, 105, false⟩), (b72, ⟨cs73, 93, true⟩), (b87, ⟨cs88, 84, true⟩)]) rfl).put (d := some 96) (v := .tuple #[]) (T' := [(96, .tuple #[]), (0, .pointer (some ⟨bl, 0, none⟩)), (1, .pointer (some ⟨bl, 0, none⟩)), (4, .pointer (some ⟨b2, 0, none⟩)), (5, .pointer (some ⟨b14, 0, none⟩)), (6, .int .i64 good), (7, .slice (some ⟨b72, (j * 2), none⟩) (lg.mks.length - j) (mc - j)), (8, .slice (some ⟨b87, (i * 15), none⟩) (lg.sns.length - i) (sc - i)), (9, .int .i64 y.idx), (94, .pointer (some ⟨bl, 0, none⟩)), (95, .int .i64 y.idx)]) rfl
              clear h131
              refine nd_done ?_
              refine hK129 _ _ ?_
              clear hK129
              refine wp_seq_k fun K135 hK135 => ?_
              refine wp_block ?_
              rw [← winA_some b72 2 hlt81] at h133
              rw [← winA_some b87 15 hlt96] at h133
              have hm136 : ∀ (j' : Nat) (ca : Act) (cw : World), (j' ≤ lg.mks.length) → (j ≤ j') → (vm y.idx (dig (runF (seg lg.evs q (y.idx - pos').toNat) (m', o')).1) (lg.mks.drop j) = some (lg.mks.drop j')) → (∀ z, lg.mks[j']? = some z → z.idx ≠ y.idx) → St ⟨165, [], w, Rws [rl evC 31 3 lg.evs eo ec eF, rl mkC 93 2 lg.mks (some ⟨b72, 0, none⟩) mc ([b72]), rl ptC 84 15 lg.sns (some ⟨b87, 0, none⟩) sc ([b87])], Ff [rl evC 31 3 lg.evs eo ec eF, rl mkC 93 2 lg.mks (some ⟨b72, 0, none⟩) mc ([b72]), rl ptC 84 15 lg.sns (some ⟨b87, 0, none⟩) sc ([b87])]⟩ [(0, .pointer (some ⟨bl, 0, none⟩)), (1, .pointer (some ⟨bl, 0, none⟩)), (4, .pointer (some ⟨b2, 0, none⟩)), (5, .pointer (some ⟨b14, 0, none⟩)), (6, .int .i64 good), (9, .int .i64 y.idx), (7, .slice (winA (some ⟨b72, 0, none⟩) mc j' 2) (lg.mks.length - j') (mc - j')), (8, .slice (winA (some ⟨b87, 0, none⟩) sc i 15) (lg.sns.length - i) (sc - i))] [(bl, ⟨logC lg.base (.slice eo lg.evs.length ec) (.slice (some ⟨b72, 0, none⟩) lg.mks.length mc) (.slice (some ⟨b87, 0, none⟩) lg.sns.length sc), 89, true⟩), (b2, ⟨[.int .i64 0, .int .i64 0, .int .i64 0], 114, false⟩), (b14, ⟨curC ((runF (seg lg.evs q (y.idx - pos').toNat) (m', o')).1) ((runF (seg lg.evs q (y.idx - pos').toNat) (m', o')).2) y.idx, 105, false⟩), (b72, ⟨cs73, 93, true⟩), (b87, ⟨cs88, 84, true⟩)] ca cw → K135 ca cw := by
                intro j' a137 w138 hi140 hi141 hi142 hi143 h139
                have hj' := hi140
                have hle1 := hi141
                have hvm := hi142
                have hstop1 := hi143
                refine hK135 _ _ ?_
                clear hK135
                refine wp_seq_k fun K144 hK144 => ?_
                refine wp_block ?_
                have hm145 : ∀ (i' : Nat) (ca : Act) (cw : World), (i' ≤ lg.sns.length) → (i ≤ i') → (vs y.idx (runF (seg lg.evs q (y.idx - pos').toNat) (m', o')) (lg.sns.drop i) = some (lg.sns.drop i')) → (∀ z, lg.sns[i']? = some z → z.idx ≠ y.idx) → St ⟨165, [], w, Rws [rl evC 31 3 lg.evs eo ec eF, rl mkC 93 2 lg.mks (some ⟨b72, 0, none⟩) mc ([b72]), rl ptC 84 15 lg.sns (some ⟨b87, 0, none⟩) sc ([b87])], Ff [rl evC 31 3 lg.evs eo ec eF, rl mkC 93 2 lg.mks (some ⟨b72, 0, none⟩) mc ([b72]), rl ptC 84 15 lg.sns (some ⟨b87, 0, none⟩) sc ([b87])]⟩ [(0, .pointer (some ⟨bl, 0, none⟩)), (1, .pointer (some ⟨bl, 0, none⟩)), (4, .pointer (some ⟨b2, 0, none⟩)), (5, .pointer (some ⟨b14, 0, none⟩)), (6, .int .i64 good), (9, .int .i64 y.idx), (8, .slice (winA (some ⟨b87, 0, none⟩) sc i' 15) (lg.sns.length - i') (sc - i')), (7, .slice (winA (some ⟨b72, 0, none⟩) mc j' 2) (lg.mks.length - j') (mc - j'))] [(bl, ⟨logC lg.base (.slice eo lg.evs.length ec) (.slice (some ⟨b72, 0, none⟩) lg.mks.length mc) (.slice (some ⟨b87, 0, none⟩) lg.sns.length sc), 89, true⟩), (b2, ⟨[.int .i64 0, .int .i64 0, .int .i64 0], 114, false⟩), (b14, ⟨curC ((runF (seg lg.evs q (y.idx - pos').toNat) (m', o')).1) ((runF (seg lg.evs q (y.idx - pos').toNat) (m', o')).2) y.idx, 105, false⟩), (b72, ⟨cs73, 93, true⟩), (b87, ⟨cs88, 84, true⟩)] ca cw → K144 ca cw := by
                  intro i' a146 w147 hi149 hi150 hi151 hi152 h148
                  have hi' := hi149
                  have hle2 := hi150
                  have hvs := hi151
                  have hstop2 := hi152
                  have hprog : lg.mks.length - j' + (lg.sns.length - i') < lg.mks.length - j + (lg.sns.length - i) := by
                    have : i ≠ i' := by intro hjj; subst hjj; exact hstop2 y hy rfl
                    have := (List.getElem?_eq_some_iff.1 hy).1; omega
                  have hall : (∀ z, lg.mks[j]? = some z → y.idx ≤ z.idx) ∧ (∀ z, lg.sns[i]? = some z → y.idx ≤ z.idx) := by
                    refine ⟨fun z hz => ?_, fun z hz => ?_⟩
                    · rw [hx] at hz; cases hz; omega
                    · rw [hy] at hz; cases hz; omega
                  have hgm' : ∀ z ∈ lg.mks.drop j', y.idx ≤ z.idx := fun z hz => mk_ge hms hall.1 z ((List.drop_sublist_drop_left lg.mks hle1).mem hz)
                  have hgs' : ∀ z ∈ lg.sns.drop i', y.idx ≤ z.idx := fun z hz => pt_ge hsort hall.2 z ((List.drop_sublist_drop_left lg.sns hle2).mem hz)
                  refine hK144 _ _ ?_
                  clear hK144
                  refine nd_start (l := [0, 1]) rfl ?_
                  refine nd_batch tabOk tabZ_ok [(0, {}), (1, {})] [0, 1, 4, 5, 9, 8, 7, 6] (T' := [(0, .pointer (some ⟨bl, 0, none⟩)), (1, .pointer (some ⟨bl, 0, none⟩)), (4, .pointer (some ⟨b2, 0, none⟩)), (5, .pointer (some ⟨b14, 0, none⟩)), (9, .int .i64 y.idx), (8, .slice (winA (some ⟨b87, 0, none⟩) sc i' 15) (lg.sns.length - i') (sc - i')), (7, .slice (winA (some ⟨b72, 0, none⟩) mc j' 2) (lg.mks.length - j') (mc - j')), (6, .int .i64 y.idx)]) (φ := True) (rest := []) h148 (by kernel_rfl) rfl trivial fun a153 h154 => ?_
                  clear h148
                  refine nd_done ?_
                  have h155 := h154.memMono (L' := [(bl, ⟨logC lg.base (.slice eo lg.evs.length ec) (.slice (some ⟨b72, 0, none⟩) lg.mks.length mc) (.slice (some ⟨b87, 0, none⟩) lg.sns.length sc), 89, true⟩), (b2, ⟨[.int .i64 0, .int .i64 0, .int .i64 0], 114, false⟩), (b14, ⟨curC ((runF (seg lg.evs q (y.idx - pos').toNat) (m', o')).1) ((runF (seg lg.evs q (y.idx - pos').toNat) (m', o')).2) y.idx, 105, false⟩)]) (List.Sublist.cons_cons _ (List.Sublist.cons_cons _ (List.Sublist.cons_cons _ (List.Sublist.cons _ (List.Sublist.cons _ List.Sublist.slnil)))))
                  clear h154
                  exact ⟨g, by omega, j', i', (runF (seg lg.evs q (y.idx - pos').toNat) (m', o')).1, (runF (seg lg.evs q (y.idx - pos').toNat) (m', o')).2, y.idx, y.idx, (y.idx - lg.base.idx).toNat, hj', hi', by omega, by omega, by omega, hmok2, hgm', hgs', by rw [← hv]; exact (vloop_next hnx hfin hs2 hvm hvs).symm, (h155.slotsMono (restr_spec (keep := [0, 1, 4, 5, 6, 7, 8]) rfl))⟩
                clear hK144
                refine wp_loop_ghost (fun gg ga gw => ∃ (i' : Nat), (i' ≤ lg.sns.length) ∧ (i ≤ i') ∧ (gg = lg.sns.length - i') ∧ (vs y.idx (runF (seg lg.evs q (y.idx - pos').toNat) (m', o')) (lg.sns.drop i) = vs y.idx (runF (seg lg.evs q (y.idx - pos').toNat) (m', o')) (lg.sns.drop i')) ∧ St ⟨165, [], w, Rws [rl evC 31 3 lg.evs eo ec eF, rl mkC 93 2 lg.mks (some ⟨b72, 0, none⟩) mc ([b72]), rl ptC 84 15 lg.sns (some ⟨b87, 0, none⟩) sc ([b87])], Ff [rl evC 31 3 lg.evs eo ec eF, rl mkC 93 2 lg.mks (some ⟨b72, 0, none⟩) mc ([b72]), rl ptC 84 15 lg.sns (some ⟨b87, 0, none⟩) sc ([b87])]⟩ [(0, .pointer (some ⟨bl, 0, none⟩)), (1, .pointer (some ⟨bl, 0, none⟩)), (4, .pointer (some ⟨b2, 0, none⟩)), (5, .pointer (some ⟨b14, 0, none⟩)), (6, .int .i64 good), (9, .int .i64 y.idx), (8, .slice (winA (some ⟨b87, 0, none⟩) sc i' 15) (lg.sns.length - i') (sc - i')), (7, .slice (winA (some ⟨b72, 0, none⟩) mc j' 2) (lg.mks.length - j') (mc - j'))] [(bl, ⟨logC lg.base (.slice eo lg.evs.length ec) (.slice (some ⟨b72, 0, none⟩) lg.mks.length mc) (.slice (some ⟨b87, 0, none⟩) lg.sns.length sc), 89, true⟩), (b2, ⟨[.int .i64 0, .int .i64 0, .int .i64 0], 114, false⟩), (b14, ⟨curC ((runF (seg lg.evs q (y.idx - pos').toNat) (m', o')).1) ((runF (seg lg.evs q (y.idx - pos').toNat) (m', o')).2) y.idx, 105, false⟩), (b72, ⟨cs73, 93, true⟩), (b87, ⟨cs88, 84, true⟩)] ga gw) (lg.sns.length - i) ⟨i, by omega, Nat.le_refl _, rfl, rfl, (h139.slotsMono (restr_spec (keep := [0, 1, 4, 5, 6, 9, 8, 7]) rfl))⟩ ?_
                clear h139
                rintro gg a156 w157 ⟨i', hi159, hi160, hi161, hi162, h158⟩
                refine wp_seq_k fun K163 hK163 => ?_
                refine wp_seq_k fun K164 hK164 => ?_
                rcases Bool.eq_false_or_eq_true (decide ((((lg.sns.length - i') : Nat) : Int) > 0)) with hb165 | hb165
                ·
                  have hb165f : (((lg.sns.length - i') : Nat) : Int) > 0 := by simpa using hb165
                  obtain ⟨y', hy'⟩ := Sx.get_some (xs := lg.sns) (i := i') (by omega)
                  have hc166 := rl_at (h158.inv.get (j := 2) rfl) (h158.kn (k := 4) rfl) ptC_len hy'
                  have hlt167 : i' < sc := by have h1 : lg.sns.length ≤ sc := rl_cap (h158.inv.get (j := 2) rfl); have h2 := (List.getElem?_eq_some_iff.1 hy').1; omega
                  rw [winA_some b87 15 hlt167] at h158
                  refine nd_start (l := [0, 1, 2, 3, 4, 5, 6, 7, 8, 9, 10]) rfl ?_
                  refine nd_batch tabOk tabZ_ok [(0, {}), (1, {}), (2, {f := 2}), (3, {}), (4, {}), (5, {}), (6, {}), (7, {k := 4, m := 1, vs := [.int .i64 y'.idx]}), (8, {}), (9, {}), (10, {})] [0, 1, 4, 5, 6, 9, 8, 7, 136] (T' := [(0, .pointer (some ⟨bl, 0, none⟩)), (1, .pointer (some ⟨bl, 0, none⟩)), (4, .pointer (some ⟨b2, 0, none⟩)), (5, .pointer (some ⟨b14, 0, none⟩)), (6, .int .i64 good), (9, .int .i64 y.idx), (8, .slice (some ⟨b87, (i' * 15), none⟩) (lg.sns.length - i') (sc - i')), (7, .slice (winA (some ⟨b72, 0, none⟩) mc j' 2) (lg.mks.length - j') (mc - j')), (136, .bool (y'.idx == y.idx))]) (φ := (decide ((((lg.sns.length - i') : Nat) : Int) > 0)) = true ∧ (0 ≤ (0 : Int) ∧ (0 : Int) < (((lg.sns.length - i') : Nat) : Int)) ∧ (b87 = b87 ∧ cellsAre cs88 (i' * 15) [.int .i64 y'.idx]) ∧ True) (rest := []) h158 (by kernel_rfl) rfl ⟨hb165, ⟨by omega, by omega⟩, ⟨rfl, (pt_idx hc166)⟩, trivial⟩ fun a168 h169 => ?_
                  clear h158
                  refine nd_done ?_
                  refine hK164 _ _ ?_
                  clear hK164
                  refine c_split h169 (b := (y'.idx == y.idx)) rfl (fun hc170 => ?_) (fun hc170 => ?_)
                  ·
                    have hc170f : y'.idx = y.idx := by simpa using hc170
                    have hxn : y'.idx = y.idx := hc170f
                    refine wp_skip ?_
                    refine hK163 _ _ ?_
                    clear hK163
                    refine wp_seq_k fun K171 hK171 => ?_
                    refine wp_block ?_
                    refine wp_seq_k fun K172 hK172 => ?_
                    rcases Bool.eq_false_or_eq_true ((Bool.xor true (machEq y'.st (runF (seg lg.evs q (y.idx - pos').toNat) (m', o')).1))) with hb173 | hb173
                    ·
                      have hme : machEq y'.st (runF (seg lg.evs q (y.idx - pos').toNat) (m', o')).1 = false := by simpa using hb173
                      have hvs := hi162.trans (vs_bad1 hy' hxn hme)
                      refine dr_start (KB := [bl, b2, b14, b72, b87]) (Bi := [[0, 1, 2, 3, 4], [0, 1, 2, 3, 4], [0, 1, 2, 3, 4], [0, 1, 2, 3, 4], [0, 1, 2, 3, 4], [0, 1, 2, 3, 4], [0, 1, 2, 3, 4], [0, 1, 2, 3, 4], [0, 1, 2, 3, 4], [0, 1, 2, 3, 4], [0, 1, 2, 3, 4], [0, 1, 2, 3, 4], [0, 1, 2, 3, 4], [0, 1, 2, 3, 4], [0, 1, 2, 3, 4], [0, 1, 2, 3, 4]]) mixed h169 fun w174 h175 => ?_
                      clear h169
                      refine dr_batch tabOk tabZ_ok (by repeat (first | exact PF.body | with_reducible apply PF.inB | with_reducible apply PF.next)) [(0, {}), (1, {}), (2, {}), (3, {k := 4, m := 1, vs := [.int .u64 y'.st.now, .int .i8 y'.st.cur, .int .u8 y'.st.s0, .int .u8 y'.st.s1, .int .u8 y'.st.s2, .int .u8 y'.st.s3, .int .u64 y'.st.r0, .int .u64 y'.st.r1, .int .u64 y'.st.r2, .int .u64 y'.st.r3, .int .u64 y'.st.word], p := 4}), (4, {}), (5, {k := 2, p := 2}), (6, {f := 2}), (7, {}), (8, {}), (9, {}), (10, {}), (11, {k := 0, p := 0}), (12, {}), (13, {k := 0, p := 0}), (14, {}), (15, {})] [0, 1, 4, 5, 6, 9, 8, 7, 154] (T' := [(0, .pointer (some ⟨bl, 0, none⟩)), (1, .pointer (some ⟨bl, 0, none⟩)), (4, .pointer (some ⟨b2, 0, none⟩)), (5, .pointer (some ⟨b14, 0, none⟩)), (6, .int .i64 good), (9, .int .i64 y.idx), (8, .slice (some ⟨b87, (i' * 15), none⟩) (lg.sns.length - i') (sc - i')), (7, .slice (winA (some ⟨b72, 0, none⟩) mc j' 2) (lg.mks.length - j') (mc - j')), (154, .bool true)]) (φ := (0 ≤ (0 : Int) ∧ (0 : Int) < (((lg.sns.length - i') : Nat) : Int)) ∧ (b87 = b87 ∧ cellsAre cs88 ((i' * 15) + 1) [.int .u64 y'.st.now, .int .i8 y'.st.cur, .int .u8 y'.st.s0, .int .u8 y'.st.s1, .int .u8 y'.st.s2, .int .u8 y'.st.s3, .int .u64 y'.st.r0, .int .u64 y'.st.r1, .int .u64 y'.st.r2, .int .u64 y'.st.r3, .int .u64 y'.st.word]) ∧ (b14 = b14 ∧ Nat.ble (0 + 11) 15 = true) ∧ EqRun Tryf.prog 58 (.agg #[.int .u64 y'.st.now, .int .i8 y'.st.cur, .int .u8 y'.st.s0, .int .u8 y'.st.s1, .int .u8 y'.st.s2, .int .u8 y'.st.s3, .int .u64 y'.st.r0, .int .u64 y'.st.r1, .int .u64 y'.st.r2, .int .u64 y'.st.r3, .int .u64 y'.st.word]) (.agg #[.int .u64 ((runF (seg lg.evs q (y.idx - pos').toNat) (m', o')).1.now), .int .i8 ((runF (seg lg.evs q (y.idx - pos').toNat) (m', o')).1.cur), .int .u8 ((runF (seg lg.evs q (y.idx - pos').toNat) (m', o')).1.s0), .int .u8 ((runF (seg lg.evs q (y.idx - pos').toNat) (m', o')).1.s1), .int .u8 ((runF (seg lg.evs q (y.idx - pos').toNat) (m', o')).1.s2), .int .u8 ((runF (seg lg.evs q (y.idx - pos').toNat) (m', o')).1.s3), .int .u64 ((runF (seg lg.evs q (y.idx - pos').toNat) (m', o')).1.r0), .int .u64 ((runF (seg lg.evs q (y.idx - pos').toNat) (m', o')).1.r1), .int .u64 ((runF (seg lg.evs q (y.idx - pos').toNat) (m', o')).1.r2), .int .u64 ((runF (seg lg.evs q (y.idx - pos').toNat) (m', o')).1.r3), .int .u64 ((runF (seg lg.evs q (y.idx - pos').toNat) (m', o')).1.word)]) false ∧ True) (fuel := 0) h175 (by kernel_rfl) rfl (by kernel_rfl) (by kernel_rfl) ⟨trivial, trivial, trivial, rfl, trivial, rfl, trivial, trivial, trivial, trivial, trivial, rfl, trivial, rfl, trivial, trivial, trivial⟩ ⟨⟨by omega, by omega⟩, ⟨rfl, (pt_st hc166)⟩, ⟨rfl, rfl⟩, (by have hq := run46 y'.st (runF (seg lg.evs q (y.idx - pos').toNat) (m', o')).1; rw [show machEq y'.st (runF (seg lg.evs q (y.idx - pos').toNat) (m', o')).1 = false by simpa using hb173] at hq; exact hq), trivial⟩ fun a177 h178 => ?_
                      clear h175
                      refine wpAnyK_done (by kernel_rfl) ?_ _
                      refine hK172 _ _ ?_
                      clear hK172
                      refine c_true h178 rfl ?_
                      refine wp_seq_k fun K179 hK179 => ?_
                      refine nd_start (l := [0, 1, 2, 3, 4, 5, 6, 7, 8, 9]) rfl ?_
                      refine nd_batch tabOk tabZ_ok [(0, {}), (1, {}), (2, {}), (3, {}), (4, {}), (5, {}), (6, {k := 0}), (7, {}), (8, {})] [0, 1, 4, 5, 6, 9, 8, 7, 163] (T' := [(0, .pointer (some ⟨bl, 0, none⟩)), (1, .pointer (some ⟨bl, 0, none⟩)), (4, .pointer (some ⟨b2, 0, none⟩)), (5, .pointer (some ⟨b14, 0, none⟩)), (6, .int .i64 good), (9, .int .i64 y.idx), (8, .slice (some ⟨b87, (i' * 15), none⟩) (lg.sns.length - i') (sc - i')), (7, .slice (winA (some ⟨b72, 0, none⟩) mc j' 2) (lg.mks.length - j') (mc - j')), (163, .agg #[.int .i64 y.idx, .int .i64 good, .int .i64 (y.idx - lg.base.idx)])]) (φ := (bl = bl ∧ Nat.ble (0 + 1) 18 = true) ∧ inR .i64 (y.idx - lg.base.idx) ∧ True) (rest := [9]) h178 (by kernel_rfl) rfl ⟨⟨rfl, rfl⟩, ⟨by omega, by omega⟩, trivial⟩ fun a180 h181 => ?_
                      clear h178
                      refine nd_op ?_
                      refine op_store tabOk {k := 1} (L' := [(bl, ⟨logC lg.base (.slice eo lg.evs.length ec) (.slice (some ⟨b72, 0, none⟩) lg.mks.length mc) (.slice (some ⟨b87, 0, none⟩) lg.sns.length sc), 89, true⟩), (b2, ⟨[.int .i64 y.idx, .int .i64 good, .int .i64 (y.idx - lg.base.idx)], 114, false⟩), (b14, ⟨curC ((runF (seg lg.evs q (y.idx - pos').toNat) (m', o')).1) ((runF (seg lg.evs q (y.idx - pos').toNat) (m', o')).2) y.idx, 105, false⟩), (b72, ⟨cs73, 93, true⟩), (b87, ⟨cs88, 84, true⟩)]) (φ := b2 = b2 ∧ Nat.ble (0 + 3) 3 = true) h181 rfl rfl rfl (by kernel_rfl) ⟨rfl, rfl⟩ fun w182 h183 => ?_
                      clear h181
                      refine nd_done ?_
                      refine hK179 _ _ ?_
                      clear hK179
                      refine wp_ret ?_
                      have hres := hv.symm.trans (vloop_snap hnx hfin hs2 hvm hvs)
                      try simp only [Exit.then, Exit.inBlock]
                      try rw [if_pos trivial]
                      exact s_ret tabOk tabZ_ok h183 [(.cell 4 114, {k := 1})] (vs := [.agg #[.int .i64 y.idx, .int .i64 good, .int .i64 (y.idx - lg.base.idx)]]) (φ := (b2 = b2 ∧ Nat.ble (0 + 3) 3 = true) ∧ True) rfl (by kernel_rfl) ⟨⟨rfl, rfl⟩, trivial⟩ ⟨by rw [hres]; rfl, h183.frame⟩
                    ·
                      have hme : machEq y'.st (runF (seg lg.evs q (y.idx - pos').toNat) (m', o')).1 = true := by simpa using hb173
                      refine dr_start (KB := [bl, b2, b14, b72, b87]) (Bi := [[0, 1, 2, 3, 4], [0, 1, 2, 3, 4], [0, 1, 2, 3, 4], [0, 1, 2, 3, 4], [0, 1, 2, 3, 4], [0, 1, 2, 3, 4], [0, 1, 2, 3, 4], [0, 1, 2, 3, 4], [0, 1, 2, 3, 4], [0, 1, 2, 3, 4], [0, 1, 2, 3, 4], [0, 1, 2, 3, 4], [0, 1, 2, 3, 4], [0, 1, 2, 3, 4], [0, 1, 2, 3, 4], [0, 1, 2, 3, 4]]) mixed h169 fun w184 h185 => ?_
                      clear h169
                      refine dr_batch tabOk tabZ_ok (by repeat (first | exact PF.body | with_reducible apply PF.inB | with_reducible apply PF.next)) [(0, {}), (1, {}), (2, {}), (3, {k := 4, m := 1, vs := [.int .u64 y'.st.now, .int .i8 y'.st.cur, .int .u8 y'.st.s0, .int .u8 y'.st.s1, .int .u8 y'.st.s2, .int .u8 y'.st.s3, .int .u64 y'.st.r0, .int .u64 y'.st.r1, .int .u64 y'.st.r2, .int .u64 y'.st.r3, .int .u64 y'.st.word], p := 4}), (4, {}), (5, {k := 2, p := 2}), (6, {f := 1}), (7, {}), (8, {}), (9, {}), (10, {}), (11, {k := 4, m := 1, vs := [.bool y'.out.refused, .int .i8 y'.out.running, .int .u64 y'.out.value], p := 4}), (12, {}), (13, {k := 2, p := 2}), (14, {vs := [.bool (otEq y'.out (runF (seg lg.evs q (y.idx - pos').toNat) (m', o')).2)]}), (15, {})] [0, 1, 4, 5, 6, 9, 8, 7, 154] (T' := [(0, .pointer (some ⟨bl, 0, none⟩)), (1, .pointer (some ⟨bl, 0, none⟩)), (4, .pointer (some ⟨b2, 0, none⟩)), (5, .pointer (some ⟨b14, 0, none⟩)), (6, .int .i64 good), (9, .int .i64 y.idx), (8, .slice (some ⟨b87, (i' * 15), none⟩) (lg.sns.length - i') (sc - i')), (7, .slice (winA (some ⟨b72, 0, none⟩) mc j' 2) (lg.mks.length - j') (mc - j')), (154, .bool (Bool.xor true (otEq y'.out (runF (seg lg.evs q (y.idx - pos').toNat) (m', o')).2)))]) (φ := (0 ≤ (0 : Int) ∧ (0 : Int) < (((lg.sns.length - i') : Nat) : Int)) ∧ (b87 = b87 ∧ cellsAre cs88 ((i' * 15) + 1) [.int .u64 y'.st.now, .int .i8 y'.st.cur, .int .u8 y'.st.s0, .int .u8 y'.st.s1, .int .u8 y'.st.s2, .int .u8 y'.st.s3, .int .u64 y'.st.r0, .int .u64 y'.st.r1, .int .u64 y'.st.r2, .int .u64 y'.st.r3, .int .u64 y'.st.word]) ∧ (b14 = b14 ∧ Nat.ble (0 + 11) 15 = true) ∧ EqRun Tryf.prog 58 (.agg #[.int .u64 y'.st.now, .int .i8 y'.st.cur, .int .u8 y'.st.s0, .int .u8 y'.st.s1, .int .u8 y'.st.s2, .int .u8 y'.st.s3, .int .u64 y'.st.r0, .int .u64 y'.st.r1, .int .u64 y'.st.r2, .int .u64 y'.st.r3, .int .u64 y'.st.word]) (.agg #[.int .u64 ((runF (seg lg.evs q (y.idx - pos').toNat) (m', o')).1.now), .int .i8 ((runF (seg lg.evs q (y.idx - pos').toNat) (m', o')).1.cur), .int .u8 ((runF (seg lg.evs q (y.idx - pos').toNat) (m', o')).1.s0), .int .u8 ((runF (seg lg.evs q (y.idx - pos').toNat) (m', o')).1.s1), .int .u8 ((runF (seg lg.evs q (y.idx - pos').toNat) (m', o')).1.s2), .int .u8 ((runF (seg lg.evs q (y.idx - pos').toNat) (m', o')).1.s3), .int .u64 ((runF (seg lg.evs q (y.idx - pos').toNat) (m', o')).1.r0), .int .u64 ((runF (seg lg.evs q (y.idx - pos').toNat) (m', o')).1.r1), .int .u64 ((runF (seg lg.evs q (y.idx - pos').toNat) (m', o')).1.r2), .int .u64 ((runF (seg lg.evs q (y.idx - pos').toNat) (m', o')).1.r3), .int .u64 ((runF (seg lg.evs q (y.idx - pos').toNat) (m', o')).1.word)]) true ∧ (0 ≤ (0 : Int) ∧ (0 : Int) < (((lg.sns.length - i') : Nat) : Int)) ∧ (b87 = b87 ∧ cellsAre cs88 ((i' * 15) + 12) [.bool y'.out.refused, .int .i8 y'.out.running, .int .u64 y'.out.value]) ∧ (b14 = b14 ∧ Nat.ble (11 + 3) 15 = true) ∧ EqRun Tryf.prog 44 (.agg #[.bool y'.out.refused, .int .i8 y'.out.running, .int .u64 y'.out.value]) (.agg #[.bool ((runF (seg lg.evs q (y.idx - pos').toNat) (m', o')).2.refused), .int .i8 ((runF (seg lg.evs q (y.idx - pos').toNat) (m', o')).2.running), .int .u64 ((runF (seg lg.evs q (y.idx - pos').toNat) (m', o')).2.value)]) (otEq y'.out (runF (seg lg.evs q (y.idx - pos').toNat) (m', o')).2) ∧ True) (fuel := 0) h185 (by kernel_rfl) rfl (by kernel_rfl) (by kernel_rfl) ⟨trivial, trivial, trivial, rfl, trivial, rfl, trivial, trivial, trivial, trivial, trivial, rfl, trivial, rfl, trivial, trivial, trivial⟩ ⟨⟨by omega, by omega⟩, ⟨rfl, (pt_st hc166)⟩, ⟨rfl, rfl⟩, (by have hq := run46 y'.st (runF (seg lg.evs q (y.idx - pos').toNat) (m', o')).1; rw [show machEq y'.st (runF (seg lg.evs q (y.idx - pos').toNat) (m', o')).1 = true by simpa using hb173] at hq; exact hq), ⟨by omega, by omega⟩, ⟨rfl, (pt_out hc166)⟩, ⟨rfl, rfl⟩, run39 y'.out (runF (seg lg.evs q (y.idx - pos').toNat) (m', o')).2, trivial⟩ fun a187 h188 => ?_
                      clear h185
                      refine wpAnyK_done (by kernel_rfl) ?_ _
                      refine hK172 _ _ ?_
                      clear hK172
                      refine c_split h188 (b := (Bool.xor true (otEq y'.out (runF (seg lg.evs q (y.idx - pos').toNat) (m', o')).2))) rfl (fun hc189 => ?_) (fun hc189 => ?_)
                      ·
                        have hoe : otEq y'.out (runF (seg lg.evs q (y.idx - pos').toNat) (m', o')).2 = false := by simpa using hc189
                        have hvs := hi162.trans (vs_bad2 hy' hxn hoe)
                        refine wp_seq_k fun K190 hK190 => ?_
                        refine nd_start (l := [0, 1, 2, 3, 4, 5, 6, 7, 8, 9]) rfl ?_
                        refine nd_batch tabOk tabZ_ok [(0, {}), (1, {}), (2, {}), (3, {}), (4, {}), (5, {}), (6, {k := 0}), (7, {}), (8, {})] [0, 1, 4, 5, 6, 9, 8, 7, 163] (T' := [(0, .pointer (some ⟨bl, 0, none⟩)), (1, .pointer (some ⟨bl, 0, none⟩)), (4, .pointer (some ⟨b2, 0, none⟩)), (5, .pointer (some ⟨b14, 0, none⟩)), (6, .int .i64 good), (9, .int .i64 y.idx), (8, .slice (some ⟨b87, (i' * 15), none⟩) (lg.sns.length - i') (sc - i')), (7, .slice (winA (some ⟨b72, 0, none⟩) mc j' 2) (lg.mks.length - j') (mc - j')), (163, .agg #[.int .i64 y.idx, .int .i64 good, .int .i64 (y.idx - lg.base.idx)])]) (φ := (bl = bl ∧ Nat.ble (0 + 1) 18 = true) ∧ inR .i64 (y.idx - lg.base.idx) ∧ True) (rest := [9]) h188 (by kernel_rfl) rfl ⟨⟨rfl, rfl⟩, ⟨by omega, by omega⟩, trivial⟩ fun a191 h192 => ?_
                        clear h188
                        refine nd_op ?_
                        refine op_store tabOk {k := 1} (L' := [(bl, ⟨logC lg.base (.slice eo lg.evs.length ec) (.slice (some ⟨b72, 0, none⟩) lg.mks.length mc) (.slice (some ⟨b87, 0, none⟩) lg.sns.length sc), 89, true⟩), (b2, ⟨[.int .i64 y.idx, .int .i64 good, .int .i64 (y.idx - lg.base.idx)], 114, false⟩), (b14, ⟨curC ((runF (seg lg.evs q (y.idx - pos').toNat) (m', o')).1) ((runF (seg lg.evs q (y.idx - pos').toNat) (m', o')).2) y.idx, 105, false⟩), (b72, ⟨cs73, 93, true⟩), (b87, ⟨cs88, 84, true⟩)]) (φ := b2 = b2 ∧ Nat.ble (0 + 3) 3 = true) h192 rfl rfl rfl (by kernel_rfl) ⟨rfl, rfl⟩ fun w193 h194 => ?_
                        clear h192
                        refine nd_done ?_
                        refine hK190 _ _ ?_
                        clear hK190
                        refine wp_ret ?_
                        have hres := hv.symm.trans (vloop_snap hnx hfin hs2 hvm hvs)
                        try simp only [Exit.then, Exit.inBlock]
                        try rw [if_pos trivial]
                        exact s_ret tabOk tabZ_ok h194 [(.cell 4 114, {k := 1})] (vs := [.agg #[.int .i64 y.idx, .int .i64 good, .int .i64 (y.idx - lg.base.idx)]]) (φ := (b2 = b2 ∧ Nat.ble (0 + 3) 3 = true) ∧ True) rfl (by kernel_rfl) ⟨⟨rfl, rfl⟩, trivial⟩ ⟨by rw [hres]; rfl, h194.frame⟩
                      ·
                        have hoe : otEq y'.out (runF (seg lg.evs q (y.idx - pos').toNat) (m', o')).2 = true := by simpa using hc189
                        have hsame := hi162.trans (vs_same hy' hxn hme hoe)
                        refine wp_skip ?_
                        refine hK171 _ _ ?_
                        clear hK171
                        refine nd_start (l := [0, 1, 2]) rfl ?_
                        refine nd_batch tabOk tabZ_ok [(0, {}), (1, {}), (2, {})] [0, 1, 4, 5, 6, 9, 7, 8] (T' := [(0, .pointer (some ⟨bl, 0, none⟩)), (1, .pointer (some ⟨bl, 0, none⟩)), (4, .pointer (some ⟨b2, 0, none⟩)), (5, .pointer (some ⟨b14, 0, none⟩)), (6, .int .i64 good), (9, .int .i64 y.idx), (7, .slice (winA (some ⟨b72, 0, none⟩) mc j' 2) (lg.mks.length - j') (mc - j')), (8, .slice (sliceBase (some ⟨b87, (i' * 15), none⟩) (sc - i') 1 15) ((lg.sns.length - i') - 1) ((sc - i') - 1))]) (φ := (0 ≤ (1 : Int) ∧ (1 : Int) ≤ (((lg.sns.length - i') : Nat) : Int)) ∧ True) (rest := []) h188 (by kernel_rfl) rfl ⟨⟨by omega, by omega⟩, trivial⟩ fun a195 h196 => ?_
                        clear h188
                        refine nd_done ?_
                        have e197 : sliceBase (some ⟨b87, (i' * 15), none⟩) (sc - i') 1 15 = winA (some ⟨b87, 0, none⟩) sc (i' + 1) 15 := by rw [← winA_some b87 15 hlt167]; exact winA_succ 15 (.inr ⟨b87, rfl⟩) hlt167
                        have e198 : lg.sns.length - i' - 1 = lg.sns.length - (i' + 1) := by omega
                        have e199 : sc - i' - 1 = sc - (i' + 1) := by omega
                        rw [e197, e198, e199] at h196
                        exact ⟨(gg - 1), by omega, (i' + 1), by omega, by omega, by omega, hsame, (h196.slotsMono (restr_spec (keep := [0, 1, 4, 5, 6, 9, 8, 7]) rfl))⟩
                  ·
                    have hc170f : y'.idx ≠ y.idx := by simpa using hc170
                    refine wp_exit ?_
                    rw [← winA_some b87 15 hlt167] at h169
                    have hstop : ∀ z, lg.sns[i']? = some z → z.idx ≠ y.idx := (by intro z hz; rw [hy'] at hz; cases hz; exact hc170f)
                    exact hm145 i' _ _ hi159 hi160 (hi162.trans (vs_stop hstop)) hstop (h169.slotsMono (restr_spec (keep := [0, 1, 4, 5, 6, 9, 8, 7]) rfl))
                ·
                  have hb165f : ¬ (((lg.sns.length - i') : Nat) : Int) > 0 := by simpa using hb165
                  refine nd_start (l := [0, 1, 2, 3, 4, 5, 6, 7, 8, 9, 10]) rfl ?_
                  refine nd_batch tabOk tabZ_ok [(0, {}), (1, {}), (2, {f := 1}), (3, {}), (4, {}), (5, {}), (6, {}), (7, {}), (8, {}), (9, {}), (10, {})] [0, 1, 4, 5, 6, 9, 8, 7, 136] (T' := [(0, .pointer (some ⟨bl, 0, none⟩)), (1, .pointer (some ⟨bl, 0, none⟩)), (4, .pointer (some ⟨b2, 0, none⟩)), (5, .pointer (some ⟨b14, 0, none⟩)), (6, .int .i64 good), (9, .int .i64 y.idx), (8, .slice (winA (some ⟨b87, 0, none⟩) sc i' 15) (lg.sns.length - i') (sc - i')), (7, .slice (winA (some ⟨b72, 0, none⟩) mc j' 2) (lg.mks.length - j') (mc - j')), (136, .bool false)]) (φ := (decide ((((lg.sns.length - i') : Nat) : Int) > 0)) = false ∧ True) (rest := []) h158 (by kernel_rfl) rfl ⟨hb165, trivial⟩ fun a200 h201 => ?_
                  clear h158
                  refine nd_done ?_
                  refine hK164 _ _ ?_
                  clear hK164
                  refine c_false h201 rfl ?_
                  refine wp_exit ?_
                  have hstop : ∀ z, lg.sns[i']? = some z → z.idx ≠ y.idx := (by intro z hz; have := (List.getElem?_eq_some_iff.1 hz).1; omega)
                  exact hm145 i' _ _ hi159 hi160 (hi162.trans (vs_stop hstop)) hstop (h201.slotsMono (restr_spec (keep := [0, 1, 4, 5, 6, 9, 8, 7]) rfl))
              clear hK135
              refine wp_loop_ghost (fun gg ga gw => ∃ (j' : Nat), (j' ≤ lg.mks.length) ∧ (j ≤ j') ∧ (gg = lg.mks.length - j') ∧ (vm y.idx (dig (runF (seg lg.evs q (y.idx - pos').toNat) (m', o')).1) (lg.mks.drop j) = vm y.idx (dig (runF (seg lg.evs q (y.idx - pos').toNat) (m', o')).1) (lg.mks.drop j')) ∧ St ⟨165, [], w, Rws [rl evC 31 3 lg.evs eo ec eF, rl mkC 93 2 lg.mks (some ⟨b72, 0, none⟩) mc ([b72]), rl ptC 84 15 lg.sns (some ⟨b87, 0, none⟩) sc ([b87])], Ff [rl evC 31 3 lg.evs eo ec eF, rl mkC 93 2 lg.mks (some ⟨b72, 0, none⟩) mc ([b72]), rl ptC 84 15 lg.sns (some ⟨b87, 0, none⟩) sc ([b87])]⟩ [(0, .pointer (some ⟨bl, 0, none⟩)), (1, .pointer (some ⟨bl, 0, none⟩)), (4, .pointer (some ⟨b2, 0, none⟩)), (5, .pointer (some ⟨b14, 0, none⟩)), (6, .int .i64 good), (9, .int .i64 y.idx), (7, .slice (winA (some ⟨b72, 0, none⟩) mc j' 2) (lg.mks.length - j') (mc - j')), (8, .slice (winA (some ⟨b87, 0, none⟩) sc i 15) (lg.sns.length - i) (sc - i))] [(bl, ⟨logC lg.base (.slice eo lg.evs.length ec) (.slice (some ⟨b72, 0, none⟩) lg.mks.length mc) (.slice (some ⟨b87, 0, none⟩) lg.sns.length sc), 89, true⟩), (b2, ⟨[.int .i64 0, .int .i64 0, .int .i64 0], 114, false⟩), (b14, ⟨curC ((runF (seg lg.evs q (y.idx - pos').toNat) (m', o')).1) ((runF (seg lg.evs q (y.idx - pos').toNat) (m', o')).2) y.idx, 105, false⟩), (b72, ⟨cs73, 93, true⟩), (b87, ⟨cs88, 84, true⟩)] ga gw) (lg.mks.length - j) ⟨j, by omega, Nat.le_refl _, rfl, rfl, (h133.slotsMono (restr_spec (keep := [0, 1, 4, 5, 6, 9, 7, 8]) rfl))⟩ ?_
              clear h133
              rintro gg a202 w203 ⟨j', hi205, hi206, hi207, hi208, h204⟩
              refine wp_seq_k fun K209 hK209 => ?_
              refine wp_seq_k fun K210 hK210 => ?_
              rcases Bool.eq_false_or_eq_true (decide ((((lg.mks.length - j') : Nat) : Int) > 0)) with hb211 | hb211
              ·
                have hb211f : (((lg.mks.length - j') : Nat) : Int) > 0 := by simpa using hb211
                obtain ⟨x', hx'⟩ := Sx.get_some (xs := lg.mks) (i := j') (by omega)
                have hc212 := rl_at (h204.inv.get (j := 1) rfl) (h204.kn (k := 3) rfl) mkC_len hx'
                have hlt213 : j' < mc := by have h1 : lg.mks.length ≤ mc := rl_cap (h204.inv.get (j := 1) rfl); have h2 := (List.getElem?_eq_some_iff.1 hx').1; omega
                rw [winA_some b72 2 hlt213] at h204
                refine nd_start (l := [0, 1, 2, 3, 4, 5, 6, 7, 8, 9, 10]) rfl ?_
                refine nd_batch tabOk tabZ_ok [(0, {}), (1, {}), (2, {f := 2}), (3, {}), (4, {}), (5, {}), (6, {}), (7, {k := 3, m := 1, vs := [.int .i64 x'.idx]}), (8, {}), (9, {}), (10, {})] [0, 1, 4, 5, 6, 9, 7, 8, 107] (T' := [(0, .pointer (some ⟨bl, 0, none⟩)), (1, .pointer (some ⟨bl, 0, none⟩)), (4, .pointer (some ⟨b2, 0, none⟩)), (5, .pointer (some ⟨b14, 0, none⟩)), (6, .int .i64 good), (9, .int .i64 y.idx), (7, .slice (some ⟨b72, (j' * 2), none⟩) (lg.mks.length - j') (mc - j')), (8, .slice (winA (some ⟨b87, 0, none⟩) sc i 15) (lg.sns.length - i) (sc - i)), (107, .bool (x'.idx == y.idx))]) (φ := (decide ((((lg.mks.length - j') : Nat) : Int) > 0)) = true ∧ (0 ≤ (0 : Int) ∧ (0 : Int) < (((lg.mks.length - j') : Nat) : Int)) ∧ (b72 = b72 ∧ cellsAre cs73 (j' * 2) [.int .i64 x'.idx]) ∧ True) (rest := []) h204 (by kernel_rfl) rfl ⟨hb211, ⟨by omega, by omega⟩, ⟨rfl, ⟨(hc212).1, trivial⟩⟩, trivial⟩ fun a214 h215 => ?_
                clear h204
                refine nd_done ?_
                refine hK210 _ _ ?_
                clear hK210
                refine c_split h215 (b := (x'.idx == y.idx)) rfl (fun hc216 => ?_) (fun hc216 => ?_)
                ·
                  have hc216f : x'.idx = y.idx := by simpa using hc216
                  have hxn : x'.idx = y.idx := hc216f
                  refine wp_skip ?_
                  refine hK209 _ _ ?_
                  clear hK209
                  refine wp_seq_k fun K217 hK217 => ?_
                  refine wp_block ?_
                  refine wp_seq_k fun K218 hK218 => ?_
                  refine dr_start (KB := [bl, b2, b14, b72, b87]) (Bi := [[0, 1, 2, 3, 4], [0, 1, 2, 3, 4], [0, 1, 2, 3, 4], [0, 1, 2, 3, 4], [0, 1, 2, 3, 4], [3], [0, 1, 2, 3, 4]]) mixed h215 fun w219 h220 => ?_
                  clear h215
                  refine dr_batch tabOk tabZ_ok (by repeat (first | exact PF.body | with_reducible apply PF.inB | with_reducible apply PF.next)) [(0, {}), (1, {}), (2, {}), (3, {k := 3, m := 1, vs := [.int .u64 x'.sum], p := 3}), (4, {})] [0, 1, 4, 5, 6, 9, 7, 8, 113, 114] (T' := [(0, .pointer (some ⟨bl, 0, none⟩)), (1, .pointer (some ⟨bl, 0, none⟩)), (4, .pointer (some ⟨b2, 0, none⟩)), (5, .pointer (some ⟨b14, 0, none⟩)), (6, .int .i64 good), (9, .int .i64 y.idx), (7, .slice (some ⟨b72, (j' * 2), none⟩) (lg.mks.length - j') (mc - j')), (8, .slice (winA (some ⟨b87, 0, none⟩) sc i 15) (lg.sns.length - i) (sc - i)), (113, .int .u64 x'.sum), (114, .pointer (some ⟨b14, 0, none⟩))]) (φ := (0 ≤ (0 : Int) ∧ (0 : Int) < (((lg.mks.length - j') : Nat) : Int)) ∧ (b72 = b72 ∧ cellsAre cs73 ((j' * 2) + 1) [.int .u64 x'.sum]) ∧ True) (fuel := 2) h220 (by kernel_rfl) rfl (by kernel_rfl) (by kernel_rfl) ⟨trivial, trivial, trivial, rfl, trivial, trivial⟩ ⟨⟨by omega, by omega⟩, ⟨rfl, ⟨(hc212).2.1, trivial⟩⟩, trivial⟩ fun a222 h223 => ?_
                  clear h220
                  refine wpAnyK_one (i := 5) (fuel := 1) (by kernel_rfl) ?_
                  refine op_call h223 rfl rfl rfl (callOk Tryf.func51 (by decide) rfl) (args := [.pointer (some ⟨b14, 0, none⟩)]) rfl (digest_ok [] (outC (runF (seg lg.evs q (y.idx - pos').toNat) (m', o')).2 ++ [.int .i64 y.idx]) (runF (seg lg.evs q (y.idx - pos').toNat) (m', o')).1 hmok2 b14 105 false _ (h223.kn (k := 2) rfl)) ?_
                  rintro _ w224 ⟨rfl, hf226⟩
                  refine ⟨_, rfl, ?_⟩
                  have h225 := (h223.grow hf226).put (d := some 115) (v := .int .u64 (dig (runF (seg lg.evs q (y.idx - pos').toNat) (m', o')).1)) (T' := [(115, .int .u64 (dig (runF (seg lg.evs q (y.idx - pos').toNat) (m', o')).1)), (0, .pointer (some ⟨bl, 0, none⟩)), (1, .pointer (some ⟨bl, 0, none⟩)), (4, .pointer (some ⟨b2, 0, none⟩)), (5, .pointer (some ⟨b14, 0, none⟩)), (6, .int .i64 good), (9, .int .i64 y.idx), (7, .slice (some ⟨b72, (j' * 2), none⟩) (lg.mks.length - j') (mc - j')), (8, .slice (winA (some ⟨b87, 0, none⟩) sc i 15) (lg.sns.length - i) (sc - i)), (113, .int .u64 x'.sum), (114, .pointer (some ⟨b14, 0, none⟩))]) rfl
                  refine ⟨(h223.keepFr hf226 (kcons (by simp) knil)), ?_⟩
                  clear h223
                  refine dr_batch tabOk tabZ_ok (by repeat (first | exact PF.body | with_reducible apply PF.inB | with_reducible apply PF.next)) [(6, {})] [0, 1, 4, 5, 6, 9, 7, 8, 116] (T' := [(0, .pointer (some ⟨bl, 0, none⟩)), (1, .pointer (some ⟨bl, 0, none⟩)), (4, .pointer (some ⟨b2, 0, none⟩)), (5, .pointer (some ⟨b14, 0, none⟩)), (6, .int .i64 good), (9, .int .i64 y.idx), (7, .slice (some ⟨b72, (j' * 2), none⟩) (lg.mks.length - j') (mc - j')), (8, .slice (winA (some ⟨b87, 0, none⟩) sc i 15) (lg.sns.length - i) (sc - i)), (116, .bool (x'.sum != (dig (runF (seg lg.evs q (y.idx - pos').toNat) (m', o')).1)))]) (φ := True) (fuel := 0) h225 (by kernel_rfl) rfl (by kernel_rfl) (by kernel_rfl) ⟨trivial, trivial⟩ trivial fun a227 h228 => ?_
                  clear h225
                  refine wpAnyK_done (by kernel_rfl) ?_ _
                  refine hK218 _ _ ?_
                  clear hK218
                  refine c_split h228 (b := (x'.sum != (dig (runF (seg lg.evs q (y.idx - pos').toNat) (m', o')).1))) rfl (fun hc229 => ?_) (fun hc229 => ?_)
                  ·
                    have hc229f : x'.sum ≠ (dig (runF (seg lg.evs q (y.idx - pos').toNat) (m', o')).1) := by simpa using hc229
                    have hvm := hi208.trans (vm_bad hx' hxn hc229f)
                    refine wp_seq_k fun K230 hK230 => ?_
                    refine nd_start (l := [0, 1, 2, 3, 4, 5, 6, 7, 8, 9]) rfl ?_
                    refine nd_batch tabOk tabZ_ok [(0, {}), (1, {}), (2, {}), (3, {}), (4, {}), (5, {}), (6, {k := 0}), (7, {}), (8, {})] [0, 1, 4, 5, 6, 9, 7, 8, 125] (T' := [(0, .pointer (some ⟨bl, 0, none⟩)), (1, .pointer (some ⟨bl, 0, none⟩)), (4, .pointer (some ⟨b2, 0, none⟩)), (5, .pointer (some ⟨b14, 0, none⟩)), (6, .int .i64 good), (9, .int .i64 y.idx), (7, .slice (some ⟨b72, (j' * 2), none⟩) (lg.mks.length - j') (mc - j')), (8, .slice (winA (some ⟨b87, 0, none⟩) sc i 15) (lg.sns.length - i) (sc - i)), (125, .agg #[.int .i64 y.idx, .int .i64 good, .int .i64 (y.idx - lg.base.idx)])]) (φ := (bl = bl ∧ Nat.ble (0 + 1) 18 = true) ∧ inR .i64 (y.idx - lg.base.idx) ∧ True) (rest := [9]) h228 (by kernel_rfl) rfl ⟨⟨rfl, rfl⟩, ⟨by omega, by omega⟩, trivial⟩ fun a231 h232 => ?_
                    clear h228
                    refine nd_op ?_
                    refine op_store tabOk {k := 1} (L' := [(bl, ⟨logC lg.base (.slice eo lg.evs.length ec) (.slice (some ⟨b72, 0, none⟩) lg.mks.length mc) (.slice (some ⟨b87, 0, none⟩) lg.sns.length sc), 89, true⟩), (b2, ⟨[.int .i64 y.idx, .int .i64 good, .int .i64 (y.idx - lg.base.idx)], 114, false⟩), (b14, ⟨curC ((runF (seg lg.evs q (y.idx - pos').toNat) (m', o')).1) ((runF (seg lg.evs q (y.idx - pos').toNat) (m', o')).2) y.idx, 105, false⟩), (b72, ⟨cs73, 93, true⟩), (b87, ⟨cs88, 84, true⟩)]) (φ := b2 = b2 ∧ Nat.ble (0 + 3) 3 = true) h232 rfl rfl rfl (by kernel_rfl) ⟨rfl, rfl⟩ fun w233 h234 => ?_
                    clear h232
                    refine nd_done ?_
                    refine hK230 _ _ ?_
                    clear hK230
                    refine wp_ret ?_
                    have hres := hv.symm.trans (vloop_mark hnx hfin hs2 hvm)
                    try simp only [Exit.then, Exit.inBlock]
                    try rw [if_pos trivial]
                    exact s_ret tabOk tabZ_ok h234 [(.cell 4 114, {k := 1})] (vs := [.agg #[.int .i64 y.idx, .int .i64 good, .int .i64 (y.idx - lg.base.idx)]]) (φ := (b2 = b2 ∧ Nat.ble (0 + 3) 3 = true) ∧ True) rfl (by kernel_rfl) ⟨⟨rfl, rfl⟩, trivial⟩ ⟨by rw [hres]; rfl, h234.frame⟩
                  ·
                    have hc229f : x'.sum = (dig (runF (seg lg.evs q (y.idx - pos').toNat) (m', o')).1) := by simpa using hc229
                    have hsame := hi208.trans (vm_same hx' hxn hc229f)
                    refine wp_skip ?_
                    refine hK217 _ _ ?_
                    clear hK217
                    refine nd_start (l := [0, 1, 2]) rfl ?_
                    refine nd_batch tabOk tabZ_ok [(0, {}), (1, {}), (2, {})] [0, 1, 4, 5, 6, 9, 8, 7] (T' := [(0, .pointer (some ⟨bl, 0, none⟩)), (1, .pointer (some ⟨bl, 0, none⟩)), (4, .pointer (some ⟨b2, 0, none⟩)), (5, .pointer (some ⟨b14, 0, none⟩)), (6, .int .i64 good), (9, .int .i64 y.idx), (8, .slice (winA (some ⟨b87, 0, none⟩) sc i 15) (lg.sns.length - i) (sc - i)), (7, .slice (sliceBase (some ⟨b72, (j' * 2), none⟩) (mc - j') 1 2) ((lg.mks.length - j') - 1) ((mc - j') - 1))]) (φ := (0 ≤ (1 : Int) ∧ (1 : Int) ≤ (((lg.mks.length - j') : Nat) : Int)) ∧ True) (rest := []) h228 (by kernel_rfl) rfl ⟨⟨by omega, by omega⟩, trivial⟩ fun a235 h236 => ?_
                    clear h228
                    refine nd_done ?_
                    have e237 : sliceBase (some ⟨b72, (j' * 2), none⟩) (mc - j') 1 2 = winA (some ⟨b72, 0, none⟩) mc (j' + 1) 2 := by rw [← winA_some b72 2 hlt213]; exact winA_succ 2 (.inr ⟨b72, rfl⟩) hlt213
                    have e238 : lg.mks.length - j' - 1 = lg.mks.length - (j' + 1) := by omega
                    have e239 : mc - j' - 1 = mc - (j' + 1) := by omega
                    rw [e237, e238, e239] at h236
                    exact ⟨(gg - 1), by omega, (j' + 1), by omega, by omega, by omega, hsame, (h236.slotsMono (restr_spec (keep := [0, 1, 4, 5, 6, 9, 7, 8]) rfl))⟩
                ·
                  have hc216f : x'.idx ≠ y.idx := by simpa using hc216
                  refine wp_exit ?_
                  rw [← winA_some b72 2 hlt213] at h215
                  have hstop : ∀ z, lg.mks[j']? = some z → z.idx ≠ y.idx := (by intro z hz; rw [hx'] at hz; cases hz; exact hc216f)
                  exact hm136 j' _ _ hi205 hi206 (hi208.trans (vm_stop hstop)) hstop (h215.slotsMono (restr_spec (keep := [0, 1, 4, 5, 6, 9, 7, 8]) rfl))
              ·
                have hb211f : ¬ (((lg.mks.length - j') : Nat) : Int) > 0 := by simpa using hb211
                refine nd_start (l := [0, 1, 2, 3, 4, 5, 6, 7, 8, 9, 10]) rfl ?_
                refine nd_batch tabOk tabZ_ok [(0, {}), (1, {}), (2, {f := 1}), (3, {}), (4, {}), (5, {}), (6, {}), (7, {}), (8, {}), (9, {}), (10, {})] [0, 1, 4, 5, 6, 9, 7, 8, 107] (T' := [(0, .pointer (some ⟨bl, 0, none⟩)), (1, .pointer (some ⟨bl, 0, none⟩)), (4, .pointer (some ⟨b2, 0, none⟩)), (5, .pointer (some ⟨b14, 0, none⟩)), (6, .int .i64 good), (9, .int .i64 y.idx), (7, .slice (winA (some ⟨b72, 0, none⟩) mc j' 2) (lg.mks.length - j') (mc - j')), (8, .slice (winA (some ⟨b87, 0, none⟩) sc i 15) (lg.sns.length - i) (sc - i)), (107, .bool false)]) (φ := (decide ((((lg.mks.length - j') : Nat) : Int) > 0)) = false ∧ True) (rest := []) h204 (by kernel_rfl) rfl ⟨hb211, trivial⟩ fun a240 h241 => ?_
                clear h204
                refine nd_done ?_
                refine hK210 _ _ ?_
                clear hK210
                refine c_false h241 rfl ?_
                refine wp_exit ?_
                have hstop : ∀ z, lg.mks[j']? = some z → z.idx ≠ y.idx := (by intro z hz; have := (List.getElem?_eq_some_iff.1 hz).1; omega)
                exact hm136 j' _ _ hi205 hi206 (hi208.trans (vm_stop hstop)) hstop (h241.slotsMono (restr_spec (keep := [0, 1, 4, 5, 6, 9, 7, 8]) rfl))
          ·
            have hc99f : ¬ y.idx < x.idx := by simpa using hc99
            refine wp_skip ?_
            refine hK84 _ _ ?_
            clear hK84
            refine wp_seq_k fun K242 hK242 => ?_
            refine wp_seq_k fun K243 hK243 => ?_
            refine nd_start (l := [0, 1, 2, 3]) rfl ?_
            refine nd_batch tabOk tabZ_ok [(0, {}), (1, {})] [0, 1, 4, 5, 6, 7, 8, 9, 77, 78] (T' := [(0, .pointer (some ⟨bl, 0, none⟩)), (1, .pointer (some ⟨bl, 0, none⟩)), (4, .pointer (some ⟨b2, 0, none⟩)), (5, .pointer (some ⟨b14, 0, none⟩)), (6, .int .i64 good), (7, .slice (some ⟨b72, (j * 2), none⟩) (lg.mks.length - j) (mc - j)), (8, .slice (some ⟨b87, (i * 15), none⟩) (lg.sns.length - i) (sc - i)), (9, .int .i64 x.idx), (77, .int .i64 x.idx), (78, .pointer (some ⟨bl, 0, none⟩))]) (φ := True) (rest := [2, 3]) h98 (by kernel_rfl) rfl trivial fun a244 h245 => ?_
            clear h98
            refine nd_op ?_
            refine op_call h245 rfl rfl rfl (callOk Tryf.func41 (by decide) rfl) (args := [.pointer (some ⟨bl, 0, none⟩)]) rfl (end_ok bl lg.base eo lg.evs.length ec (.slice (some ⟨b72, 0, none⟩) lg.mks.length mc) (.slice (some ⟨b87, 0, none⟩) lg.sns.length sc) true _ (h245.kn (k := 0) rfl) hb0 (by omega) (by omega)) ?_
            rintro _ w246 ⟨rfl, hf248⟩
            refine ⟨_, rfl, ?_⟩
            have h247 := (h245.grow hf248).put (d := some 79) (v := .int .i64 (lg.base.idx + (lg.evs.length : Int))) (T' := [(79, .int .i64 (lg.base.idx + (lg.evs.length : Int))), (0, .pointer (some ⟨bl, 0, none⟩)), (1, .pointer (some ⟨bl, 0, none⟩)), (4, .pointer (some ⟨b2, 0, none⟩)), (5, .pointer (some ⟨b14, 0, none⟩)), (6, .int .i64 good), (7, .slice (some ⟨b72, (j * 2), none⟩) (lg.mks.length - j) (mc - j)), (8, .slice (some ⟨b87, (i * 15), none⟩) (lg.sns.length - i) (sc - i)), (9, .int .i64 x.idx), (77, .int .i64 x.idx), (78, .pointer (some ⟨bl, 0, none⟩))]) rfl
            clear h245
            refine nd_batch tabOk tabZ_ok [(3, {})] [0, 1, 4, 5, 6, 7, 8, 9, 80] (T' := [(0, .pointer (some ⟨bl, 0, none⟩)), (1, .pointer (some ⟨bl, 0, none⟩)), (4, .pointer (some ⟨b2, 0, none⟩)), (5, .pointer (some ⟨b14, 0, none⟩)), (6, .int .i64 good), (7, .slice (some ⟨b72, (j * 2), none⟩) (lg.mks.length - j) (mc - j)), (8, .slice (some ⟨b87, (i * 15), none⟩) (lg.sns.length - i) (sc - i)), (9, .int .i64 x.idx), (80, .bool (decide (x.idx > (lg.base.idx + (lg.evs.length : Int)))))]) (φ := True) (rest := []) h247 (by kernel_rfl) rfl trivial fun a249 h250 => ?_
            clear h247
            refine nd_done ?_
            refine hK243 _ _ ?_
            clear hK243
            refine c_split h250 (b := decide (x.idx > (lg.base.idx + (lg.evs.length : Int)))) rfl (fun hc251 => ?_) (fun hc251 => ?_)
            ·
              have hc251f : x.idx > (lg.base.idx + (lg.evs.length : Int)) := by simpa using hc251
              have hnx : nextOf lg.fin (lg.mks.drop j) (lg.sns.drop i) = x.idx := by rw [next_ms (fin := lg.fin) hx hy, if_neg (by omega)]
              have hfin : lg.fin < x.idx := hc251f
              refine wp_seq_k fun K252 hK252 => ?_
              refine nd_start (l := [0, 1, 2, 3]) rfl ?_
              refine nd_batch tabOk tabZ_ok [(0, {}), (1, {})] [0, 1, 4, 5, 6, 7, 8, 9, 81, 82] (T' := [(0, .pointer (some ⟨bl, 0, none⟩)), (1, .pointer (some ⟨bl, 0, none⟩)), (4, .pointer (some ⟨b2, 0, none⟩)), (5, .pointer (some ⟨b14, 0, none⟩)), (6, .int .i64 good), (7, .slice (some ⟨b72, (j * 2), none⟩) (lg.mks.length - j) (mc - j)), (8, .slice (some ⟨b87, (i * 15), none⟩) (lg.sns.length - i) (sc - i)), (9, .int .i64 x.idx), (81, .pointer (some ⟨bl, 0, none⟩)), (82, .pointer (some ⟨bl, 0, none⟩))]) (φ := True) (rest := [2, 3]) h250 (by kernel_rfl) rfl trivial fun a253 h254 => ?_
              clear h250
              refine nd_op ?_
              refine op_call h254 rfl rfl rfl (callOk Tryf.func41 (by decide) rfl) (args := [.pointer (some ⟨bl, 0, none⟩)]) rfl (end_ok bl lg.base eo lg.evs.length ec (.slice (some ⟨b72, 0, none⟩) lg.mks.length mc) (.slice (some ⟨b87, 0, none⟩) lg.sns.length sc) true _ (h254.kn (k := 0) rfl) hb0 (by omega) (by omega)) ?_
              rintro _ w255 ⟨rfl, hf257⟩
              refine ⟨_, rfl, ?_⟩
              have h256 := (h254.grow hf257).put (d := some 83) (v := .int .i64 (lg.base.idx + (lg.evs.length : Int))) (T' := [(83, .int .i64 (lg.base.idx + (lg.evs.length : Int))), (0, .pointer (some ⟨bl, 0, none⟩)), (1, .pointer (some ⟨bl, 0, none⟩)), (4, .pointer (some ⟨b2, 0, none⟩)), (5, .pointer (some ⟨b14, 0, none⟩)), (6, .int .i64 good), (7, .slice (some ⟨b72, (j * 2), none⟩) (lg.mks.length - j) (mc - j)), (8, .slice (some ⟨b87, (i * 15), none⟩) (lg.sns.length - i) (sc - i)), (9, .int .i64 x.idx), (81, .pointer (some ⟨bl, 0, none⟩)), (82, .pointer (some ⟨bl, 0, none⟩))]) rfl
              clear h254
              refine nd_op ?_
              refine op_call h256 rfl rfl rfl (callOk Tryf.func44 (by decide) rfl) (args := [.pointer (some ⟨b14, 0, none⟩), .pointer (some ⟨bl, 0, none⟩), .int .i64 (lg.base.idx + (lg.evs.length : Int))]) rfl (run_ok b14 bl ⟨eo, ec, eF, (some ⟨b72, 0, none⟩), mc, [b72], (some ⟨b87, 0, none⟩), sc, [b87]⟩ lg _ (LogAt.of (d := ⟨eo, ec, eF, (some ⟨b72, 0, none⟩), mc, [b72], (some ⟨b87, 0, none⟩), sc, [b87]⟩) (h256.kn (k := 0) rfl) h256.inv hsep) m' o' pos' (lg.base.idx + (lg.evs.length : Int)) q ((lg.base.idx + (lg.evs.length : Int)) - pos').toNat (h256.kn (k := 2) rfl) (h256.ne 2 0 rfl rfl rfl) (h256.dj (k := 2) rfl rfl) hev hmok hq (by omega) (by omega) (by omega) hb0 (by omega)) ?_
              rintro _ w258 ⟨rfl, hbs, hf260⟩
              refine ⟨_, rfl, ?_⟩
              have h259 := (h256.setBlk (k := 2) rfl rfl hf260 hbs (L' := [(bl, ⟨logC lg.base (.slice eo lg.evs.length ec) (.slice (some ⟨b72, 0, none⟩) lg.mks.length mc) (.slice (some ⟨b87, 0, none⟩) lg.sns.length sc), 89, true⟩), (b2, ⟨[.int .i64 0, .int .i64 0, .int .i64 0], 114, false⟩), (b14, ⟨curC ((runF (seg lg.evs q ((lg.base.idx + (lg.evs.length : Int)) - pos').toNat) (m', o')).1) ((runF (seg lg.evs q ((lg.base.idx + (lg.evs.length : Int)) - pos').toNat) (m', o')).2) (lg.base.idx + (lg.evs.length : Int)), 105, false⟩), (b72, ⟨cs73, 93, true⟩), (b87, ⟨cs88, 84, true⟩)]) rfl).put (d := some 84) (v := .tuple #[]) (T' := [(84, .tuple #[]), (83, .int .i64 (lg.base.idx + (lg.evs.length : Int))), (0, .pointer (some ⟨bl, 0, none⟩)), (1, .pointer (some ⟨bl, 0, none⟩)), (4, .pointer (some ⟨b2, 0, none⟩)), (5, .pointer (some ⟨b14, 0, none⟩)), (6, .int .i64 good), (7, .slice (some ⟨b72, (j * 2), none⟩) (lg.mks.length - j) (mc - j)), (8, .slice (some ⟨b87, (i * 15), none⟩) (lg.sns.length - i) (sc - i)), (9, .int .i64 x.idx), (81, .pointer (some ⟨bl, 0, none⟩)), (82, .pointer (some ⟨bl, 0, none⟩))]) rfl
              clear h256
              refine nd_done ?_
              refine hK252 _ _ ?_
              clear hK252
              refine wp_seq_k fun K261 hK261 => ?_
              refine dr_start (KB := [bl, b2, b14, b72, b87]) (Bi := [[0, 1, 2, 3, 4], [0, 1, 2, 3, 4], [0, 1, 2, 3, 4], [0, 1, 2, 3, 4], [0, 1, 2, 3, 4], [0, 1, 2, 3, 4], [0, 1, 2, 3, 4], [0, 1, 2, 3, 4], [0, 1, 2, 3, 4], []]) mixed h259 fun w262 h263 => ?_
              clear h259
              refine dr_batch tabOk tabZ_ok (by repeat (first | exact PF.body | with_reducible apply PF.inB | with_reducible apply PF.next)) [(0, {}), (1, {}), (2, {k := 2, p := 2}), (3, {}), (4, {}), (5, {}), (6, {k := 0, p := 0}), (7, {}), (8, {})] [0, 1, 4, 5, 6, 7, 8, 9, 93] (T' := [(0, .pointer (some ⟨bl, 0, none⟩)), (1, .pointer (some ⟨bl, 0, none⟩)), (4, .pointer (some ⟨b2, 0, none⟩)), (5, .pointer (some ⟨b14, 0, none⟩)), (6, .int .i64 good), (7, .slice (some ⟨b72, (j * 2), none⟩) (lg.mks.length - j) (mc - j)), (8, .slice (some ⟨b87, (i * 15), none⟩) (lg.sns.length - i) (sc - i)), (9, .int .i64 x.idx), (93, .agg #[.int .i64 (-1), .int .i64 good, .int .i64 ((lg.base.idx + (lg.evs.length : Int)) - lg.base.idx)])]) (φ := (b14 = b14 ∧ Nat.ble (14 + 1) 15 = true) ∧ (bl = bl ∧ Nat.ble (0 + 1) 18 = true) ∧ inR .i64 ((lg.base.idx + (lg.evs.length : Int)) - lg.base.idx) ∧ True) (fuel := 1) h263 (by kernel_rfl) rfl (by kernel_rfl) (by kernel_rfl) ⟨trivial, trivial, rfl, trivial, trivial, trivial, rfl, trivial, trivial, trivial⟩ ⟨⟨rfl, rfl⟩, ⟨rfl, rfl⟩, ⟨by omega, by omega⟩, trivial⟩ fun a265 h266 => ?_
              clear h263
              refine wpAnyK_one (i := 9) (fuel := 0) (by kernel_rfl) ?_
              refine op_store tabOk {k := 1} (L' := [(bl, ⟨logC lg.base (.slice eo lg.evs.length ec) (.slice (some ⟨b72, 0, none⟩) lg.mks.length mc) (.slice (some ⟨b87, 0, none⟩) lg.sns.length sc), 89, true⟩), (b2, ⟨[.int .i64 (-1), .int .i64 good, .int .i64 ((lg.base.idx + (lg.evs.length : Int)) - lg.base.idx)], 114, false⟩), (b14, ⟨curC ((runF (seg lg.evs q ((lg.base.idx + (lg.evs.length : Int)) - pos').toNat) (m', o')).1) ((runF (seg lg.evs q ((lg.base.idx + (lg.evs.length : Int)) - pos').toNat) (m', o')).2) (lg.base.idx + (lg.evs.length : Int)), 105, false⟩), (b72, ⟨cs73, 93, true⟩), (b87, ⟨cs88, 84, true⟩)]) (φ := b2 = b2 ∧ Nat.ble (0 + 3) 3 = true) h266 rfl rfl rfl (by kernel_rfl) ⟨rfl, rfl⟩ fun w267 h268 => ?_
              have hkh268 := h266.known
              refine ⟨keepNil, ?_⟩
              clear h266
              refine wpAnyK_done (by kernel_rfl) ?_ _
              refine hK261 _ _ ?_
              clear hK261
              refine wp_ret ?_
              have hres := hv.symm.trans (vloop_end hnx hfin)
              try simp only [Exit.then, Exit.inBlock]
              try rw [if_pos trivial]
              exact s_ret tabOk tabZ_ok h268 [(.cell 4 114, {k := 1})] (vs := [.agg #[.int .i64 (-1), .int .i64 good, .int .i64 ((lg.base.idx + (lg.evs.length : Int)) - lg.base.idx)]]) (φ := (b2 = b2 ∧ Nat.ble (0 + 3) 3 = true) ∧ True) rfl (by kernel_rfl) ⟨⟨rfl, rfl⟩, trivial⟩ ⟨by rw [hres]; rfl, h268.frame⟩
            ·
              have hc251f : ¬ x.idx > (lg.base.idx + (lg.evs.length : Int)) := by simpa using hc251
              have hnx : nextOf lg.fin (lg.mks.drop j) (lg.sns.drop i) = x.idx := by rw [next_ms (fin := lg.fin) hx hy, if_neg (by omega)]
              have hfin : ¬ lg.fin < x.idx := hc251f
              have hnp : pos' ≤ x.idx := by omega
              have hmok2 := runF_ok (seg lg.evs q (x.idx - pos').toNat) (m', o') hmok (seg_ok hev _ _)
              have hs2 : runF (seg lg.evs (pos' - lg.base.idx).toNat (x.idx - pos').toNat) (m', o') = runF (seg lg.evs q (x.idx - pos').toNat) (m', o') := by rw [show (pos' - lg.base.idx).toNat = q by omega]
              simp only [Lg.fin] at hfin
              refine wp_skip ?_
              refine hK242 _ _ ?_
              clear hK242
              refine wp_seq_k fun K269 hK269 => ?_
              refine nd_start (l := [0, 1, 2]) rfl ?_
              refine nd_batch tabOk tabZ_ok [(0, {}), (1, {})] [0, 1, 4, 5, 6, 7, 8, 9, 94, 95] (T' := [(0, .pointer (some ⟨bl, 0, none⟩)), (1, .pointer (some ⟨bl, 0, none⟩)), (4, .pointer (some ⟨b2, 0, none⟩)), (5, .pointer (some ⟨b14, 0, none⟩)), (6, .int .i64 good), (7, .slice (some ⟨b72, (j * 2), none⟩) (lg.mks.length - j) (mc - j)), (8, .slice (some ⟨b87, (i * 15), none⟩) (lg.sns.length - i) (sc - i)), (9, .int .i64 x.idx), (94, .pointer (some ⟨bl, 0, none⟩)), (95, .int .i64 x.idx)]) (φ := True) (rest := [2]) h250 (by kernel_rfl) rfl trivial fun a270 h271 => ?_
              clear h250
              refine nd_op ?_
              refine op_call h271 rfl rfl rfl (callOk Tryf.func44 (by decide) rfl) (args := [.pointer (some ⟨b14, 0, none⟩), .pointer (some ⟨bl, 0, none⟩), .int .i64 x.idx]) rfl (run_ok b14 bl ⟨eo, ec, eF, (some ⟨b72, 0, none⟩), mc, [b72], (some ⟨b87, 0, none⟩), sc, [b87]⟩ lg _ (LogAt.of (d := ⟨eo, ec, eF, (some ⟨b72, 0, none⟩), mc, [b72], (some ⟨b87, 0, none⟩), sc, [b87]⟩) (h271.kn (k := 0) rfl) h271.inv hsep) m' o' pos' x.idx q (x.idx - pos').toNat (h271.kn (k := 2) rfl) (h271.ne 2 0 rfl rfl rfl) (h271.dj (k := 2) rfl rfl) hev hmok hq (by omega) (by omega) (by omega) hb0 (by omega)) ?_
              rintro _ w272 ⟨rfl, hbs, hf274⟩
              refine ⟨_, rfl, ?_⟩
              have h273 := (h271.setBlk (k := 2) rfl rfl hf274 hbs (L' := [(bl, ⟨logC lg.base (.slice eo lg.evs.length ec) (.slice (some ⟨b72, 0, none⟩) lg.mks.length mc) (.slice (some ⟨b87, 0, none⟩) lg.sns.length sc), 89, true⟩), (b2, ⟨[.int .i64 0, .int .i64 0, .int .i64 0], 114, false⟩), (b14, ⟨curC ((runF (seg lg.evs q (x.idx - pos').toNat) (m', o')).1) ((runF (seg lg.evs q (x.idx - pos').toNat) (m', o')).2) x.idx, 105, false⟩), (b72, ⟨cs73, 93, true⟩), (b87, ⟨cs88, 84, true⟩)]) rfl).put (d := some 96) (v := .tuple #[]) (T' := [(96, .tuple #[]), (0, .pointer (some ⟨bl, 0, none⟩)), (1, .pointer (some ⟨bl, 0, none⟩)), (4, .pointer (some ⟨b2, 0, none⟩)), (5, .pointer (some ⟨b14, 0, none⟩)), (6, .int .i64 good), (7, .slice (some ⟨b72, (j * 2), none⟩) (lg.mks.length - j) (mc - j)), (8, .slice (some ⟨b87, (i * 15), none⟩) (lg.sns.length - i) (sc - i)), (9, .int .i64 x.idx), (94, .pointer (some ⟨bl, 0, none⟩)), (95, .int .i64 x.idx)]) rfl
              clear h271
              refine nd_done ?_
              refine hK269 _ _ ?_
              clear hK269
              refine wp_seq_k fun K275 hK275 => ?_
              refine wp_block ?_
              rw [← winA_some b72 2 hlt81] at h273
              rw [← winA_some b87 15 hlt96] at h273
              have hm276 : ∀ (j' : Nat) (ca : Act) (cw : World), (j' ≤ lg.mks.length) → (j ≤ j') → (vm x.idx (dig (runF (seg lg.evs q (x.idx - pos').toNat) (m', o')).1) (lg.mks.drop j) = some (lg.mks.drop j')) → (∀ z, lg.mks[j']? = some z → z.idx ≠ x.idx) → St ⟨165, [], w, Rws [rl evC 31 3 lg.evs eo ec eF, rl mkC 93 2 lg.mks (some ⟨b72, 0, none⟩) mc ([b72]), rl ptC 84 15 lg.sns (some ⟨b87, 0, none⟩) sc ([b87])], Ff [rl evC 31 3 lg.evs eo ec eF, rl mkC 93 2 lg.mks (some ⟨b72, 0, none⟩) mc ([b72]), rl ptC 84 15 lg.sns (some ⟨b87, 0, none⟩) sc ([b87])]⟩ [(0, .pointer (some ⟨bl, 0, none⟩)), (1, .pointer (some ⟨bl, 0, none⟩)), (4, .pointer (some ⟨b2, 0, none⟩)), (5, .pointer (some ⟨b14, 0, none⟩)), (6, .int .i64 good), (9, .int .i64 x.idx), (7, .slice (winA (some ⟨b72, 0, none⟩) mc j' 2) (lg.mks.length - j') (mc - j')), (8, .slice (winA (some ⟨b87, 0, none⟩) sc i 15) (lg.sns.length - i) (sc - i))] [(bl, ⟨logC lg.base (.slice eo lg.evs.length ec) (.slice (some ⟨b72, 0, none⟩) lg.mks.length mc) (.slice (some ⟨b87, 0, none⟩) lg.sns.length sc), 89, true⟩), (b2, ⟨[.int .i64 0, .int .i64 0, .int .i64 0], 114, false⟩), (b14, ⟨curC ((runF (seg lg.evs q (x.idx - pos').toNat) (m', o')).1) ((runF (seg lg.evs q (x.idx - pos').toNat) (m', o')).2) x.idx, 105, false⟩), (b72, ⟨cs73, 93, true⟩), (b87, ⟨cs88, 84, true⟩)] ca cw → K275 ca cw := by
                intro j' a277 w278 hi280 hi281 hi282 hi283 h279
                have hj' := hi280
                have hle1 := hi281
                have hvm := hi282
                have hstop1 := hi283
                refine hK275 _ _ ?_
                clear hK275
                refine wp_seq_k fun K284 hK284 => ?_
                refine wp_block ?_
                have hm285 : ∀ (i' : Nat) (ca : Act) (cw : World), (i' ≤ lg.sns.length) → (i ≤ i') → (vs x.idx (runF (seg lg.evs q (x.idx - pos').toNat) (m', o')) (lg.sns.drop i) = some (lg.sns.drop i')) → (∀ z, lg.sns[i']? = some z → z.idx ≠ x.idx) → St ⟨165, [], w, Rws [rl evC 31 3 lg.evs eo ec eF, rl mkC 93 2 lg.mks (some ⟨b72, 0, none⟩) mc ([b72]), rl ptC 84 15 lg.sns (some ⟨b87, 0, none⟩) sc ([b87])], Ff [rl evC 31 3 lg.evs eo ec eF, rl mkC 93 2 lg.mks (some ⟨b72, 0, none⟩) mc ([b72]), rl ptC 84 15 lg.sns (some ⟨b87, 0, none⟩) sc ([b87])]⟩ [(0, .pointer (some ⟨bl, 0, none⟩)), (1, .pointer (some ⟨bl, 0, none⟩)), (4, .pointer (some ⟨b2, 0, none⟩)), (5, .pointer (some ⟨b14, 0, none⟩)), (6, .int .i64 good), (9, .int .i64 x.idx), (8, .slice (winA (some ⟨b87, 0, none⟩) sc i' 15) (lg.sns.length - i') (sc - i')), (7, .slice (winA (some ⟨b72, 0, none⟩) mc j' 2) (lg.mks.length - j') (mc - j'))] [(bl, ⟨logC lg.base (.slice eo lg.evs.length ec) (.slice (some ⟨b72, 0, none⟩) lg.mks.length mc) (.slice (some ⟨b87, 0, none⟩) lg.sns.length sc), 89, true⟩), (b2, ⟨[.int .i64 0, .int .i64 0, .int .i64 0], 114, false⟩), (b14, ⟨curC ((runF (seg lg.evs q (x.idx - pos').toNat) (m', o')).1) ((runF (seg lg.evs q (x.idx - pos').toNat) (m', o')).2) x.idx, 105, false⟩), (b72, ⟨cs73, 93, true⟩), (b87, ⟨cs88, 84, true⟩)] ca cw → K284 ca cw := by
                  intro i' a286 w287 hi289 hi290 hi291 hi292 h288
                  have hi' := hi289
                  have hle2 := hi290
                  have hvs := hi291
                  have hstop2 := hi292
                  have hprog : lg.mks.length - j' + (lg.sns.length - i') < lg.mks.length - j + (lg.sns.length - i) := by
                    have : j ≠ j' := by intro hjj; subst hjj; exact hstop1 x hx rfl
                    have := (List.getElem?_eq_some_iff.1 hx).1; omega
                  have hall : (∀ z, lg.mks[j]? = some z → x.idx ≤ z.idx) ∧ (∀ z, lg.sns[i]? = some z → x.idx ≤ z.idx) := by
                    refine ⟨fun z hz => ?_, fun z hz => ?_⟩
                    · rw [hx] at hz; cases hz; omega
                    · rw [hy] at hz; cases hz; omega
                  have hgm' : ∀ z ∈ lg.mks.drop j', x.idx ≤ z.idx := fun z hz => mk_ge hms hall.1 z ((List.drop_sublist_drop_left lg.mks hle1).mem hz)
                  have hgs' : ∀ z ∈ lg.sns.drop i', x.idx ≤ z.idx := fun z hz => pt_ge hsort hall.2 z ((List.drop_sublist_drop_left lg.sns hle2).mem hz)
                  refine hK284 _ _ ?_
                  clear hK284
                  refine nd_start (l := [0, 1]) rfl ?_
                  refine nd_batch tabOk tabZ_ok [(0, {}), (1, {})] [0, 1, 4, 5, 9, 8, 7, 6] (T' := [(0, .pointer (some ⟨bl, 0, none⟩)), (1, .pointer (some ⟨bl, 0, none⟩)), (4, .pointer (some ⟨b2, 0, none⟩)), (5, .pointer (some ⟨b14, 0, none⟩)), (9, .int .i64 x.idx), (8, .slice (winA (some ⟨b87, 0, none⟩) sc i' 15) (lg.sns.length - i') (sc - i')), (7, .slice (winA (some ⟨b72, 0, none⟩) mc j' 2) (lg.mks.length - j') (mc - j')), (6, .int .i64 x.idx)]) (φ := True) (rest := []) h288 (by kernel_rfl) rfl trivial fun a293 h294 => ?_
                  clear h288
                  refine nd_done ?_
                  have h295 := h294.memMono (L' := [(bl, ⟨logC lg.base (.slice eo lg.evs.length ec) (.slice (some ⟨b72, 0, none⟩) lg.mks.length mc) (.slice (some ⟨b87, 0, none⟩) lg.sns.length sc), 89, true⟩), (b2, ⟨[.int .i64 0, .int .i64 0, .int .i64 0], 114, false⟩), (b14, ⟨curC ((runF (seg lg.evs q (x.idx - pos').toNat) (m', o')).1) ((runF (seg lg.evs q (x.idx - pos').toNat) (m', o')).2) x.idx, 105, false⟩)]) (List.Sublist.cons_cons _ (List.Sublist.cons_cons _ (List.Sublist.cons_cons _ (List.Sublist.cons _ (List.Sublist.cons _ List.Sublist.slnil)))))
                  clear h294
                  exact ⟨g, by omega, j', i', (runF (seg lg.evs q (x.idx - pos').toNat) (m', o')).1, (runF (seg lg.evs q (x.idx - pos').toNat) (m', o')).2, x.idx, x.idx, (x.idx - lg.base.idx).toNat, hj', hi', by omega, by omega, by omega, hmok2, hgm', hgs', by rw [← hv]; exact (vloop_next hnx hfin hs2 hvm hvs).symm, (h295.slotsMono (restr_spec (keep := [0, 1, 4, 5, 6, 7, 8]) rfl))⟩
                clear hK284
                refine wp_loop_ghost (fun gg ga gw => ∃ (i' : Nat), (i' ≤ lg.sns.length) ∧ (i ≤ i') ∧ (gg = lg.sns.length - i') ∧ (vs x.idx (runF (seg lg.evs q (x.idx - pos').toNat) (m', o')) (lg.sns.drop i) = vs x.idx (runF (seg lg.evs q (x.idx - pos').toNat) (m', o')) (lg.sns.drop i')) ∧ St ⟨165, [], w, Rws [rl evC 31 3 lg.evs eo ec eF, rl mkC 93 2 lg.mks (some ⟨b72, 0, none⟩) mc ([b72]), rl ptC 84 15 lg.sns (some ⟨b87, 0, none⟩) sc ([b87])], Ff [rl evC 31 3 lg.evs eo ec eF, rl mkC 93 2 lg.mks (some ⟨b72, 0, none⟩) mc ([b72]), rl ptC 84 15 lg.sns (some ⟨b87, 0, none⟩) sc ([b87])]⟩ [(0, .pointer (some ⟨bl, 0, none⟩)), (1, .pointer (some ⟨bl, 0, none⟩)), (4, .pointer (some ⟨b2, 0, none⟩)), (5, .pointer (some ⟨b14, 0, none⟩)), (6, .int .i64 good), (9, .int .i64 x.idx), (8, .slice (winA (some ⟨b87, 0, none⟩) sc i' 15) (lg.sns.length - i') (sc - i')), (7, .slice (winA (some ⟨b72, 0, none⟩) mc j' 2) (lg.mks.length - j') (mc - j'))] [(bl, ⟨logC lg.base (.slice eo lg.evs.length ec) (.slice (some ⟨b72, 0, none⟩) lg.mks.length mc) (.slice (some ⟨b87, 0, none⟩) lg.sns.length sc), 89, true⟩), (b2, ⟨[.int .i64 0, .int .i64 0, .int .i64 0], 114, false⟩), (b14, ⟨curC ((runF (seg lg.evs q (x.idx - pos').toNat) (m', o')).1) ((runF (seg lg.evs q (x.idx - pos').toNat) (m', o')).2) x.idx, 105, false⟩), (b72, ⟨cs73, 93, true⟩), (b87, ⟨cs88, 84, true⟩)] ga gw) (lg.sns.length - i) ⟨i, by omega, Nat.le_refl _, rfl, rfl, (h279.slotsMono (restr_spec (keep := [0, 1, 4, 5, 6, 9, 8, 7]) rfl))⟩ ?_
                clear h279
                rintro gg a296 w297 ⟨i', hi299, hi300, hi301, hi302, h298⟩
                refine wp_seq_k fun K303 hK303 => ?_
                refine wp_seq_k fun K304 hK304 => ?_
                rcases Bool.eq_false_or_eq_true (decide ((((lg.sns.length - i') : Nat) : Int) > 0)) with hb305 | hb305
                ·
                  have hb305f : (((lg.sns.length - i') : Nat) : Int) > 0 := by simpa using hb305
                  obtain ⟨y', hy'⟩ := Sx.get_some (xs := lg.sns) (i := i') (by omega)
                  have hc306 := rl_at (h298.inv.get (j := 2) rfl) (h298.kn (k := 4) rfl) ptC_len hy'
                  have hlt307 : i' < sc := by have h1 : lg.sns.length ≤ sc := rl_cap (h298.inv.get (j := 2) rfl); have h2 := (List.getElem?_eq_some_iff.1 hy').1; omega
                  rw [winA_some b87 15 hlt307] at h298
                  refine nd_start (l := [0, 1, 2, 3, 4, 5, 6, 7, 8, 9, 10]) rfl ?_
                  refine nd_batch tabOk tabZ_ok [(0, {}), (1, {}), (2, {f := 2}), (3, {}), (4, {}), (5, {}), (6, {}), (7, {k := 4, m := 1, vs := [.int .i64 y'.idx]}), (8, {}), (9, {}), (10, {})] [0, 1, 4, 5, 6, 9, 8, 7, 136] (T' := [(0, .pointer (some ⟨bl, 0, none⟩)), (1, .pointer (some ⟨bl, 0, none⟩)), (4, .pointer (some ⟨b2, 0, none⟩)), (5, .pointer (some ⟨b14, 0, none⟩)), (6, .int .i64 good), (9, .int .i64 x.idx), (8, .slice (some ⟨b87, (i' * 15), none⟩) (lg.sns.length - i') (sc - i')), (7, .slice (winA (some ⟨b72, 0, none⟩) mc j' 2) (lg.mks.length - j') (mc - j')), (136, .bool (y'.idx == x.idx))]) (φ := (decide ((((lg.sns.length - i') : Nat) : Int) > 0)) = true ∧ (0 ≤ (0 : Int) ∧ (0 : Int) < (((lg.sns.length - i') : Nat) : Int)) ∧ (b87 = b87 ∧ cellsAre cs88 (i' * 15) [.int .i64 y'.idx]) ∧ True) (rest := []) h298 (by kernel_rfl) rfl ⟨hb305, ⟨by omega, by omega⟩, ⟨rfl, (pt_idx hc306)⟩, trivial⟩ fun a308 h309 => ?_
                  clear h298
                  refine nd_done ?_
                  refine hK304 _ _ ?_
                  clear hK304
                  refine c_split h309 (b := (y'.idx == x.idx)) rfl (fun hc310 => ?_) (fun hc310 => ?_)
                  ·
                    have hc310f : y'.idx = x.idx := by simpa using hc310
                    have hxn : y'.idx = x.idx := hc310f
                    refine wp_skip ?_
                    refine hK303 _ _ ?_
                    clear hK303
                    refine wp_seq_k fun K311 hK311 => ?_
                    refine wp_block ?_
                    refine wp_seq_k fun K312 hK312 => ?_
                    rcases Bool.eq_false_or_eq_true ((Bool.xor true (machEq y'.st (runF (seg lg.evs q (x.idx - pos').toNat) (m', o')).1))) with hb313 | hb313
                    ·
                      have hme : machEq y'.st (runF (seg lg.evs q (x.idx - pos').toNat) (m', o')).1 = false := by simpa using hb313
                      have hvs := hi302.trans (vs_bad1 hy' hxn hme)
                      refine dr_start (KB := [bl, b2, b14, b72, b87]) (Bi := [[0, 1, 2, 3, 4], [0, 1, 2, 3, 4], [0, 1, 2, 3, 4], [0, 1, 2, 3, 4], [0, 1, 2, 3, 4], [0, 1, 2, 3, 4], [0, 1, 2, 3, 4], [0, 1, 2, 3, 4], [0, 1, 2, 3, 4], [0, 1, 2, 3, 4], [0, 1, 2, 3, 4], [0, 1, 2, 3, 4], [0, 1, 2, 3, 4], [0, 1, 2, 3, 4], [0, 1, 2, 3, 4], [0, 1, 2, 3, 4]]) mixed h309 fun w314 h315 => ?_
                      clear h309
                      refine dr_batch tabOk tabZ_ok (by repeat (first | exact PF.body | with_reducible apply PF.inB | with_reducible apply PF.next)) [(0, {}), (1, {}), (2, {}), (3, {k := 4, m := 1, vs := [.int .u64 y'.st.now, .int .i8 y'.st.cur, .int .u8 y'.st.s0, .int .u8 y'.st.s1, .int .u8 y'.st.s2, .int .u8 y'.st.s3, .int .u64 y'.st.r0, .int .u64 y'.st.r1, .int .u64 y'.st.r2, .int .u64 y'.st.r3, .int .u64 y'.st.word], p := 4}), (4, {}), (5, {k := 2, p := 2}), (6, {f := 2}), (7, {}), (8, {}), (9, {}), (10, {}), (11, {k := 0, p := 0}), (12, {}), (13, {k := 0, p := 0}), (14, {}), (15, {})] [0, 1, 4, 5, 6, 9, 8, 7, 154] (T' := [(0, .pointer (some ⟨bl, 0, none⟩)), (1, .pointer (some ⟨bl, 0, none⟩)), (4, .pointer (some ⟨b2, 0, none⟩)), (5, .pointer (some ⟨b14, 0, none⟩)), (6, .int .i64 good), (9, .int .i64 x.idx), (8, .slice (some ⟨b87, (i' * 15), none⟩) (lg.sns.length - i') (sc - i')), (7, .slice (winA (some ⟨b72, 0, none⟩) mc j' 2) (lg.mks.length - j') (mc - j')), (154, .bool true)]) (φ := (0 ≤ (0 : Int) ∧ (0 : Int) < (((lg.sns.length - i') : Nat) : Int)) ∧ (b87 = b87 ∧ cellsAre cs88 ((i' * 15) + 1) [.int .u64 y'.st.now, .int .i8 y'.st.cur, .int .u8 y'.st.s0, .int .u8 y'.st.s1, .int .u8 y'.st.s2, .int .u8 y'.st.s3, .int .u64 y'.st.r0, .int .u64 y'.st.r1, .int .u64 y'.st.r2, .int .u64 y'.st.r3, .int .u64 y'.st.word]) ∧ (b14 = b14 ∧ Nat.ble (0 + 11) 15 = true) ∧ EqRun Tryf.prog 58 (.agg #[.int .u64 y'.st.now, .int .i8 y'.st.cur, .int .u8 y'.st.s0, .int .u8 y'.st.s1, .int .u8 y'.st.s2, .int .u8 y'.st.s3, .int .u64 y'.st.r0, .int .u64 y'.st.r1, .int .u64 y'.st.r2, .int .u64 y'.st.r3, .int .u64 y'.st.word]) (.agg #[.int .u64 ((runF (seg lg.evs q (x.idx - pos').toNat) (m', o')).1.now), .int .i8 ((runF (seg lg.evs q (x.idx - pos').toNat) (m', o')).1.cur), .int .u8 ((runF (seg lg.evs q (x.idx - pos').toNat) (m', o')).1.s0), .int .u8 ((runF (seg lg.evs q (x.idx - pos').toNat) (m', o')).1.s1), .int .u8 ((runF (seg lg.evs q (x.idx - pos').toNat) (m', o')).1.s2), .int .u8 ((runF (seg lg.evs q (x.idx - pos').toNat) (m', o')).1.s3), .int .u64 ((runF (seg lg.evs q (x.idx - pos').toNat) (m', o')).1.r0), .int .u64 ((runF (seg lg.evs q (x.idx - pos').toNat) (m', o')).1.r1), .int .u64 ((runF (seg lg.evs q (x.idx - pos').toNat) (m', o')).1.r2), .int .u64 ((runF (seg lg.evs q (x.idx - pos').toNat) (m', o')).1.r3), .int .u64 ((runF (seg lg.evs q (x.idx - pos').toNat) (m', o')).1.word)]) false ∧ True) (fuel := 0) h315 (by kernel_rfl) rfl (by kernel_rfl) (by kernel_rfl) ⟨trivial, trivial, trivial, rfl, trivial, rfl, trivial, trivial, trivial, trivial, trivial, rfl, trivial, rfl, trivial, trivial, trivial⟩ ⟨⟨by omega, by omega⟩, ⟨rfl, (pt_st hc306)⟩, ⟨rfl, rfl⟩, (by have hq := run46 y'.st (runF (seg lg.evs q (x.idx - pos').toNat) (m', o')).1; rw [show machEq y'.st (runF (seg lg.evs q (x.idx - pos').toNat) (m', o')).1 = false by simpa using hb313] at hq; exact hq), trivial⟩ fun a317 h318 => ?_
                      clear h315
                      refine wpAnyK_done (by kernel_rfl) ?_ _
                      refine hK312 _ _ ?_
                      clear hK312
                      refine c_true h318 rfl ?_
                      refine wp_seq_k fun K319 hK319 => ?_
                      refine nd_start (l := [0, 1, 2, 3, 4, 5, 6, 7, 8, 9]) rfl ?_
                      refine nd_batch tabOk tabZ_ok [(0, {}), (1, {}), (2, {}), (3, {}), (4, {}), (5, {}), (6, {k := 0}), (7, {}), (8, {})] [0, 1, 4, 5, 6, 9, 8, 7, 163] (T' := [(0, .pointer (some ⟨bl, 0, none⟩)), (1, .pointer (some ⟨bl, 0, none⟩)), (4, .pointer (some ⟨b2, 0, none⟩)), (5, .pointer (some ⟨b14, 0, none⟩)), (6, .int .i64 good), (9, .int .i64 x.idx), (8, .slice (some ⟨b87, (i' * 15), none⟩) (lg.sns.length - i') (sc - i')), (7, .slice (winA (some ⟨b72, 0, none⟩) mc j' 2) (lg.mks.length - j') (mc - j')), (163, .agg #[.int .i64 x.idx, .int .i64 good, .int .i64 (x.idx - lg.base.idx)])]) (φ := (bl = bl ∧ Nat.ble (0 + 1) 18 = true) ∧ inR .i64 (x.idx - lg.base.idx) ∧ True) (rest := [9]) h318 (by kernel_rfl) rfl ⟨⟨rfl, rfl⟩, ⟨by omega, by omega⟩, trivial⟩ fun a320 h321 => ?_
                      clear h318
                      refine nd_op ?_
                      refine op_store tabOk {k := 1} (L' := [(bl, ⟨logC lg.base (.slice eo lg.evs.length ec) (.slice (some ⟨b72, 0, none⟩) lg.mks.length mc) (.slice (some ⟨b87, 0, none⟩) lg.sns.length sc), 89, true⟩), (b2, ⟨[.int .i64 x.idx, .int .i64 good, .int .i64 (x.idx - lg.base.idx)], 114, false⟩), (b14, ⟨curC ((runF (seg lg.evs q (x.idx - pos').toNat) (m', o')).1) ((runF (seg lg.evs q (x.idx - pos').toNat) (m', o')).2) x.idx, 105, false⟩), (b72, ⟨cs73, 93, true⟩), (b87, ⟨cs88, 84, true⟩)]) (φ := b2 = b2 ∧ Nat.ble (0 + 3) 3 = true) h321 rfl rfl rfl (by kernel_rfl) ⟨rfl, rfl⟩ fun w322 h323 => ?_
                      clear h321
                      refine nd_done ?_
                      refine hK319 _ _ ?_
                      clear hK319
                      refine wp_ret ?_
                      have hres := hv.symm.trans (vloop_snap hnx hfin hs2 hvm hvs)
                      try simp only [Exit.then, Exit.inBlock]
                      try rw [if_pos trivial]
                      exact s_ret tabOk tabZ_ok h323 [(.cell 4 114, {k := 1})] (vs := [.agg #[.int .i64 x.idx, .int .i64 good, .int .i64 (x.idx - lg.base.idx)]]) (φ := (b2 = b2 ∧ Nat.ble (0 + 3) 3 = true) ∧ True) rfl (by kernel_rfl) ⟨⟨rfl, rfl⟩, trivial⟩ ⟨by rw [hres]; rfl, h323.frame⟩
                    ·
                      have hme : machEq y'.st (runF (seg lg.evs q (x.idx - pos').toNat) (m', o')).1 = true := by simpa using hb313
                      refine dr_start (KB := [bl, b2, b14, b72, b87]) (Bi := [[0, 1, 2, 3, 4], [0, 1, 2, 3, 4], [0, 1, 2, 3, 4], [0, 1, 2, 3, 4], [0, 1, 2, 3, 4], [0, 1, 2, 3, 4], [0, 1, 2, 3, 4], [0, 1, 2, 3, 4], [0, 1, 2, 3, 4], [0, 1, 2, 3, 4], [0, 1, 2, 3, 4], [0, 1, 2, 3, 4], [0, 1, 2, 3, 4], [0, 1, 2, 3, 4], [0, 1, 2, 3, 4], [0, 1, 2, 3, 4]]) mixed h309 fun w324 h325 => ?_
                      clear h309
                      refine dr_batch tabOk tabZ_ok (by repeat (first | exact PF.body | with_reducible apply PF.inB | with_reducible apply PF.next)) [(0, {}), (1, {}), (2, {}), (3, {k := 4, m := 1, vs := [.int .u64 y'.st.now, .int .i8 y'.st.cur, .int .u8 y'.st.s0, .int .u8 y'.st.s1, .int .u8 y'.st.s2, .int .u8 y'.st.s3, .int .u64 y'.st.r0, .int .u64 y'.st.r1, .int .u64 y'.st.r2, .int .u64 y'.st.r3, .int .u64 y'.st.word], p := 4}), (4, {}), (5, {k := 2, p := 2}), (6, {f := 1}), (7, {}), (8, {}), (9, {}), (10, {}), (11, {k := 4, m := 1, vs := [.bool y'.out.refused, .int .i8 y'.out.running, .int .u64 y'.out.value], p := 4}), (12, {}), (13, {k := 2, p := 2}), (14, {vs := [.bool (otEq y'.out (runF (seg lg.evs q (x.idx - pos').toNat) (m', o')).2)]}), (15, {})] [0, 1, 4, 5, 6, 9, 8, 7, 154] (T' := [(0, .pointer (some ⟨bl, 0, none⟩)), (1, .pointer (some ⟨bl, 0, none⟩)), (4, .pointer (some ⟨b2, 0, none⟩)), (5, .pointer (some ⟨b14, 0, none⟩)), (6, .int .i64 good), (9, .int .i64 x.idx), (8, .slice (some ⟨b87, (i' * 15), none⟩) (lg.sns.length - i') (sc - i')), (7, .slice (winA (some ⟨b72, 0, none⟩) mc j' 2) (lg.mks.length - j') (mc - j')), (154, .bool (Bool.xor true (otEq y'.out (runF (seg lg.evs q (x.idx - pos').toNat) (m', o')).2)))]) (φ := (0 ≤ (0 : Int) ∧ (0 : Int) < (((lg.sns.length - i') : Nat) : Int)) ∧ (b87 = b87 ∧ cellsAre cs88 ((i' * 15) + 1) [.int .u64 y'.st.now, .int .i8 y'.st.cur, .int .u8 y'.st.s0, .int .u8 y'.st.s1, .int .u8 y'.st.s2, .int .u8 y'.st.s3, .int .u64 y'.st.r0, .int .u64 y'.st.r1, .int .u64 y'.st.r2, .int .u64 y'.st.r3, .int .u64 y'.st.word]) ∧ (b14 = b14 ∧ Nat.ble (0 + 11) 15 = true) ∧ EqRun Tryf.prog 58 (.agg #[.int .u64 y'.st.now, .int .i8 y'.st.cur, .int .u8 y'.st.s0, .int .u8 y'.st.s1, .int .u8 y'.st.s2, .int .u8 y'.st.s3, .int .u64 y'.st.r0, .int .u64 y'.st.r1, .int .u64 y'.st.r2, .int .u64 y'.st.r3, .int .u64 y'.st.word]) (.agg #[.int .u64 ((runF (seg lg.evs q (x.idx - pos').toNat) (m', o')).1.now), .int .i8 ((runF (seg lg.evs q (x.idx - pos').toNat) (m', o')).1.cur), .int .u8 ((runF (seg lg.evs q (x.idx - pos').toNat) (m', o')).1.s0), .int .u8 ((runF (seg lg.evs q (x.idx - pos').toNat) (m', o')).1.s1), .int .u8 ((runF (seg lg.evs q (x.idx - pos').toNat) (m', o')).1.s2), .int .u8 ((runF (seg lg.evs q (x.idx - pos').toNat) (m', o')).1.s3), .int .u64 ((runF (seg lg.evs q (x.idx - pos').toNat) (m', o')).1.r0), .int .u64 ((runF (seg lg.evs q (x.idx - pos').toNat) (m', o')).1.r1), .int .u64 ((runF (seg lg.evs q (x.idx - pos').toNat) (m', o')).1.r2), .int .u64 ((runF (seg lg.evs q (x.idx - pos').toNat) (m', o')).1.r3), .int .u64 ((runF (seg lg.evs q (x.idx - pos').toNat) (m', o')).1.word)]) true ∧ (0 ≤ (0 : Int) ∧ (0 : Int) < (((lg.sns.length - i') : Nat) : Int)) ∧ (b87 = b87 ∧ cellsAre cs88 ((i' * 15) + 12) [.bool y'.out.refused, .int .i8 y'.out.running, .int .u64 y'.out.value]) ∧ (b14 = b14 ∧ Nat.ble (11 + 3) 15 = true) ∧ EqRun Tryf.prog 44 (.agg #[.bool y'.out.refused, .int .i8 y'.out.running, .int .u64 y'.out.value]) (.agg #[.bool ((runF (seg lg.evs q (x.idx - pos').toNat) (m', o')).2.refused), .int .i8 ((runF (seg lg.evs q (x.idx - pos').toNat) (m', o')).2.running), .int .u64 ((runF (seg lg.evs q (x.idx - pos').toNat) (m', o')).2.value)]) (otEq y'.out (runF (seg lg.evs q (x.idx - pos').toNat) (m', o')).2) ∧ True) (fuel := 0) h325 (by kernel_rfl) rfl (by kernel_rfl) (by kernel_rfl) ⟨trivial, trivial, trivial, rfl, trivial, rfl, trivial, trivial, trivial, trivial, trivial, rfl, trivial, rfl, trivial, trivial, trivial⟩ ⟨⟨by omega, by omega⟩, ⟨rfl, (pt_st hc306)⟩, ⟨rfl, rfl⟩, (by have hq := run46 y'.st (runF (seg lg.evs q (x.idx - pos').toNat) (m', o')).1; rw [show machEq y'.st (runF (seg lg.evs q (x.idx - pos').toNat) (m', o')).1 = true by simpa using hb313] at hq; exact hq), ⟨by omega, by omega⟩, ⟨rfl, (pt_out hc306)⟩, ⟨rfl, rfl⟩, run39 y'.out (runF (seg lg.evs q (x.idx - pos').toNat) (m', o')).2, trivial⟩ fun a327 h328 => ?_
                      clear h325
                      refine wpAnyK_done (by kernel_rfl) ?_ _
                      refine hK312 _ _ ?_
                      clear hK312
                      refine c_split h328 (b := (Bool.xor true (otEq y'.out (runF (seg lg.evs q (x.idx - pos').toNat) (m', o')).2))) rfl (fun hc329 => ?_) (fun hc329 => ?_)
                      ·
                        have hoe : otEq y'.out (runF (seg lg.evs q (x.idx - pos').toNat) (m', o')).2 = false := by simpa using hc329
                        have hvs := hi302.trans (vs_bad2 hy' hxn hoe)
                        refine wp_seq_k fun K330 hK330 => ?_
                        refine nd_start (l := [0, 1, 2, 3, 4, 5, 6, 7, 8, 9]) rfl ?_
                        refine nd_batch tabOk tabZ_ok [(0, {}), (1, {}), (2, {}), (3, {}), (4, {}), (5, {}), (6, {k := 0}), (7, {}), (8, {})] [0, 1, 4, 5, 6, 9, 8, 7, 163] (T' := [(0, .pointer (some ⟨bl, 0, none⟩)), (1, .pointer (some ⟨bl, 0, none⟩)), (4, .pointer (some ⟨b2, 0, none⟩)), (5, .pointer (some ⟨b14, 0, none⟩)), (6, .int .i64 good), (9, .int .i64 x.idx), (8, .slice (some ⟨b87, (i' * 15), none⟩) (lg.sns.length - i') (sc - i')), (7, .slice (winA (some ⟨b72, 0, none⟩) mc j' 2) (lg.mks.length - j') (mc - j')), (163, .agg #[.int .i64 x.idx, .int .i64 good, .int .i64 (x.idx - lg.base.idx)])]) (φ := (bl = bl ∧ Nat.ble (0 + 1) 18 = true) ∧ inR .i64 (x.idx - lg.base.idx) ∧ True) (rest := [9]) h328 (by kernel_rfl) rfl ⟨⟨rfl, rfl⟩, ⟨by omega, by omega⟩, trivial⟩ fun a331 h332 => ?_
                        clear h328
                        refine nd_op ?_
                        refine op_store tabOk {k := 1} (L' := [(bl, ⟨logC lg.base (.slice eo lg.evs.length ec) (.slice (some ⟨b72, 0, none⟩) lg.mks.length mc) (.slice (some ⟨b87, 0, none⟩) lg.sns.length sc), 89, true⟩), (b2, ⟨[.int .i64 x.idx, .int .i64 good, .int .i64 (x.idx - lg.base.idx)], 114, false⟩), (b14, ⟨curC ((runF (seg lg.evs q (x.idx - pos').toNat) (m', o')).1) ((runF (seg lg.evs q (x.idx - pos').toNat) (m', o')).2) x.idx, 105, false⟩), (b72, ⟨cs73, 93, true⟩), (b87, ⟨cs88, 84, true⟩)]) (φ := b2 = b2 ∧ Nat.ble (0 + 3) 3 = true) h332 rfl rfl rfl (by kernel_rfl) ⟨rfl, rfl⟩ fun w333 h334 => ?_
                        clear h332
                        refine nd_done ?_
                        refine hK330 _ _ ?_
                        clear hK330
                        refine wp_ret ?_
                        have hres := hv.symm.trans (vloop_snap hnx hfin hs2 hvm hvs)
                        try simp only [Exit.then, Exit.inBlock]
                        try rw [if_pos trivial]
                        exact s_ret tabOk tabZ_ok h334 [(.cell 4 114, {k := 1})] (vs := [.agg #[.int .i64 x.idx, .int .i64 good, .int .i64 (x.idx - lg.base.idx)]]) (φ := (b2 = b2 ∧ Nat.ble (0 + 3) 3 = true) ∧ True) rfl (by kernel_rfl) ⟨⟨rfl, rfl⟩, trivial⟩ ⟨by rw [hres]; rfl, h334.frame⟩
                      ·
                        have hoe : otEq y'.out (runF (seg lg.evs q (x.idx - pos').toNat) (m', o')).2 = true := by simpa using hc329
                        have hsame := hi302.trans (vs_same hy' hxn hme hoe)
                        refine wp_skip ?_
                        refine hK311 _ _ ?_
                        clear hK311
                        refine nd_start (l := [0, 1, 2]) rfl ?_
                        refine nd_batch tabOk tabZ_ok [(0, {}), (1, {}), (2, {})] [0, 1, 4, 5, 6, 9, 7, 8] (T' := [(0, .pointer (some ⟨bl, 0, none⟩)), (1, .pointer (some ⟨bl, 0, none⟩)), (4, .pointer (some ⟨b2, 0, none⟩)), (5, .pointer (some ⟨b14, 0, none⟩)), (6, .int .i64 good), (9, .int .i64 x.idx), (7, .slice (winA (some ⟨b72, 0, none⟩) mc j' 2) (lg.mks.length - j') (mc - j')), (8, .slice (sliceBase (some ⟨b87, (i' * 15), none⟩) (sc - i') 1 15) ((lg.sns.length - i') - 1) ((sc - i') - 1))]) (φ := (0 ≤ (1 : Int) ∧ (1 : Int) ≤ (((lg.sns.length - i') : Nat) : Int)) ∧ True) (rest := []) h328 (by kernel_rfl) rfl ⟨⟨by omega, by omega⟩, trivial⟩ fun a335 h336 => ?_
                        clear h328
                        refine nd_done ?_
                        have e337 : sliceBase (some ⟨b87, (i' * 15), none⟩) (sc - i') 1 15 = winA (some ⟨b87, 0, none⟩) sc (i' + 1) 15 := by rw [← winA_some b87 15 hlt307]; exact winA_succ 15 (.inr ⟨b87, rfl⟩) hlt307
                        have e338 : lg.sns.length - i' - 1 = lg.sns.length - (i' + 1) := by omega
                        have e339 : sc - i' - 1 = sc - (i' + 1) := by omega
                        rw [e337, e338, e339] at h336
                        exact ⟨(gg - 1), by omega, (i' + 1), by omega, by omega, by omega, hsame, (h336.slotsMono (restr_spec (keep := [0, 1, 4, 5, 6, 9, 8, 7]) rfl))⟩
                  ·
                    have hc310f : y'.idx ≠ x.idx := by simpa using hc310
                    refine wp_exit ?_
                    rw [← winA_some b87 15 hlt307] at h309
                    have hstop : ∀ z, lg.sns[i']? = some z → z.idx ≠ x.idx := (by intro z hz; rw [hy'] at hz; cases hz; exact hc310f)
                    exact hm285 i' _ _ hi299 hi300 (hi302.trans (vs_stop hstop)) hstop (h309.slotsMono (restr_spec (keep := [0, 1, 4, 5, 6, 9, 8, 7]) rfl))
                ·
                  have hb305f : ¬ (((lg.sns.length - i') : Nat) : Int) > 0 := by simpa using hb305
                  refine nd_start (l := [0, 1, 2, 3, 4, 5, 6, 7, 8, 9, 10]) rfl ?_
                  refine nd_batch tabOk tabZ_ok [(0, {}), (1, {}), (2, {f := 1}), (3, {}), (4, {}), (5, {}), (6, {}), (7, {}), (8, {}), (9, {}), (10, {})] [0, 1, 4, 5, 6, 9, 8, 7, 136] (T' := [(0, .pointer (some ⟨bl, 0, none⟩)), (1, .pointer (some ⟨bl, 0, none⟩)), (4, .pointer (some ⟨b2, 0, none⟩)), (5, .pointer (some ⟨b14, 0, none⟩)), (6, .int .i64 good), (9, .int .i64 x.idx), (8, .slice (winA (some ⟨b87, 0, none⟩) sc i' 15) (lg.sns.length - i') (sc - i')), (7, .slice (winA (some ⟨b72, 0, none⟩) mc j' 2) (lg.mks.length - j') (mc - j')), (136, .bool false)]) (φ := (decide ((((lg.sns.length - i') : Nat) : Int) > 0)) = false ∧ True) (rest := []) h298 (by kernel_rfl) rfl ⟨hb305, trivial⟩ fun a340 h341 => ?_
                  clear h298
                  refine nd_done ?_
                  refine hK304 _ _ ?_
                  clear hK304
                  refine c_false h341 rfl ?_
                  refine wp_exit ?_
                  have hstop : ∀ z, lg.sns[i']? = some z → z.idx ≠ x.idx := (by intro z hz; have := (List.getElem?_eq_some_iff.1 hz).1; omega)
                  exact hm285 i' _ _ hi299 hi300 (hi302.trans (vs_stop hstop)) hstop (h341.slotsMono (restr_spec (keep := [0, 1, 4, 5, 6, 9, 8, 7]) rfl))
              clear hK275
              refine wp_loop_ghost (fun gg ga gw => ∃ (j' : Nat), (j' ≤ lg.mks.length) ∧ (j ≤ j') ∧ (gg = lg.mks.length - j') ∧ (vm x.idx (dig (runF (seg lg.evs q (x.idx - pos').toNat) (m', o')).1) (lg.mks.drop j) = vm x.idx (dig (runF (seg lg.evs q (x.idx - pos').toNat) (m', o')).1) (lg.mks.drop j')) ∧ St ⟨165, [], w, Rws [rl evC 31 3 lg.evs eo ec eF, rl mkC 93 2 lg.mks (some ⟨b72, 0, none⟩) mc ([b72]), rl ptC 84 15 lg.sns (some ⟨b87, 0, none⟩) sc ([b87])], Ff [rl evC 31 3 lg.evs eo ec eF, rl mkC 93 2 lg.mks (some ⟨b72, 0, none⟩) mc ([b72]), rl ptC 84 15 lg.sns (some ⟨b87, 0, none⟩) sc ([b87])]⟩ [(0, .pointer (some ⟨bl, 0, none⟩)), (1, .pointer (some ⟨bl, 0, none⟩)), (4, .pointer (some ⟨b2, 0, none⟩)), (5, .pointer (some ⟨b14, 0, none⟩)), (6, .int .i64 good), (9, .int .i64 x.idx), (7, .slice (winA (some ⟨b72, 0, none⟩) mc j' 2) (lg.mks.length - j') (mc - j')), (8, .slice (winA (some ⟨b87, 0, none⟩) sc i 15) (lg.sns.length - i) (sc - i))] [(bl, ⟨logC lg.base (.slice eo lg.evs.length ec) (.slice (some ⟨b72, 0, none⟩) lg.mks.length mc) (.slice (some ⟨b87, 0, none⟩) lg.sns.length sc), 89, true⟩), (b2, ⟨[.int .i64 0, .int .i64 0, .int .i64 0], 114, false⟩), (b14, ⟨curC ((runF (seg lg.evs q (x.idx - pos').toNat) (m', o')).1) ((runF (seg lg.evs q (x.idx - pos').toNat) (m', o')).2) x.idx, 105, false⟩), (b72, ⟨cs73, 93, true⟩), (b87, ⟨cs88, 84, true⟩)] ga gw) (lg.mks.length - j) ⟨j, by omega, Nat.le_refl _, rfl, rfl, (h273.slotsMono (restr_spec (keep := [0, 1, 4, 5, 6, 9, 7, 8]) rfl))⟩ ?_
              clear h273
              rintro gg a342 w343 ⟨j', hi345, hi346, hi347, hi348, h344⟩
              refine wp_seq_k fun K349 hK349 => ?_
              refine wp_seq_k fun K350 hK350 => ?_
              rcases Bool.eq_false_or_eq_true (decide ((((lg.mks.length - j') : Nat) : Int) > 0)) with hb351 | hb351
              ·
                have hb351f : (((lg.mks.length - j') : Nat) : Int) > 0 := by simpa using hb351
                obtain ⟨x', hx'⟩ := Sx.get_some (xs := lg.mks) (i := j') (by omega)
                have hc352 := rl_at (h344.inv.get (j := 1) rfl) (h344.kn (k := 3) rfl) mkC_len hx'
                have hlt353 : j' < mc := by have h1 : lg.mks.length ≤ mc := rl_cap (h344.inv.get (j := 1) rfl); have h2 := (List.getElem?_eq_some_iff.1 hx').1; omega
                rw [winA_some b72 2 hlt353] at h344
                refine nd_start (l := [0, 1, 2, 3, 4, 5, 6, 7, 8, 9, 10]) rfl ?_
                refine nd_batch tabOk tabZ_ok [(0, {}), (1, {}), (2, {f := 2}), (3, {}), (4, {}), (5, {}), (6, {}), (7, {k := 3, m := 1, vs := [.int .i64 x'.idx]}), (8, {}), (9, {}), (10, {})] [0, 1, 4, 5, 6, 9, 7, 8, 107] (T' := [(0, .pointer (some ⟨bl, 0, none⟩)), (1, .pointer (some ⟨bl, 0, none⟩)), (4, .pointer (some ⟨b2, 0, none⟩)), (5, .pointer (some ⟨b14, 0, none⟩)), (6, .int .i64 good), (9, .int .i64 x.idx), (7, .slice (some ⟨b72, (j' * 2), none⟩) (lg.mks.length - j') (mc - j')), (8, .slice (winA (some ⟨b87, 0, none⟩) sc i 15) (lg.sns.length - i) (sc - i)), (107, .bool (x'.idx == x.idx))]) (φ := (decide ((((lg.mks.length - j') : Nat) : Int) > 0)) = true ∧ (0 ≤ (0 : Int) ∧ (0 : Int) < (((lg.mks.length - j') : Nat) : Int)) ∧ (b72 = b72 ∧ cellsAre cs73 (j' * 2) [.int .i64 x'.idx]) ∧ True) (rest := []) h344 (by kernel_rfl) rfl ⟨hb351, ⟨by omega, by omega⟩, ⟨rfl, ⟨(hc352).1, trivial⟩⟩, trivial⟩ fun a354 h355 => ?_
                clear h344
                refine nd_done ?_
                refine hK350 _ _ ?_
                clear hK350
                refine c_split h355 (b := (x'.idx == x.idx)) rfl (fun hc356 => ?_) (fun hc356 => ?_)
                ·
                  have hc356f : x'.idx = x.idx := by simpa using hc356
                  have hxn : x'.idx = x.idx := hc356f
                  refine wp_skip ?_
                  refine hK349 _ _ ?_
                  clear hK349
                  refine wp_seq_k fun K357 hK357 => ?_
                  refine wp_block ?_
                  refine wp_seq_k fun K358 hK358 => ?_
                  refine dr_start (KB := [bl, b2, b14, b72, b87]) (Bi := [[0, 1, 2, 3, 4], [0, 1, 2, 3, 4], [0, 1, 2, 3, 4], [0, 1, 2, 3, 4], [0, 1, 2, 3, 4], [3], [0, 1, 2, 3, 4]]) mixed h355 fun w359 h360 => ?_
                  clear h355
                  refine dr_batch tabOk tabZ_ok (by repeat (first | exact PF.body | with_reducible apply PF.inB | with_reducible apply PF.next)) [(0, {}), (1, {}), (2, {}), (3, {k := 3, m := 1, vs := [.int .u64 x'.sum], p := 3}), (4, {})] [0, 1, 4, 5, 6, 9, 7, 8, 113, 114] (T' := [(0, .pointer (some ⟨bl, 0, none⟩)), (1, .pointer (some ⟨bl, 0, none⟩)), (4, .pointer (some ⟨b2, 0, none⟩)), (5, .pointer (some ⟨b14, 0, none⟩)), (6, .int .i64 good), (9, .int .i64 x.idx), (7, .slice (some ⟨b72, (j' * 2), none⟩) (lg.mks.length - j') (mc - j')), (8, .slice (winA (some ⟨b87, 0, none⟩) sc i 15) (lg.sns.length - i) (sc - i)), (113, .int .u64 x'.sum), (114, .pointer (some ⟨b14, 0, none⟩))]) (φ := (0 ≤ (0 : Int) ∧ (0 : Int) < (((lg.mks.length - j') : Nat) : Int)) ∧ (b72 = b72 ∧ cellsAre cs73 ((j' * 2) + 1) [.int .u64 x'.sum]) ∧ True) (fuel := 2) h360 (by kernel_rfl) rfl (by kernel_rfl) (by kernel_rfl) ⟨trivial, trivial, trivial, rfl, trivial, trivial⟩ ⟨⟨by omega, by omega⟩, ⟨rfl, ⟨(hc352).2.1, trivial⟩⟩, trivial⟩ fun a362 h363 => ?_
                  clear h360
                  refine wpAnyK_one (i := 5) (fuel := 1) (by kernel_rfl) ?_
                  refine op_call h363 rfl rfl rfl (callOk Tryf.func51 (by decide) rfl) (args := [.pointer (some ⟨b14, 0, none⟩)]) rfl (digest_ok [] (outC (runF (seg lg.evs q (x.idx - pos').toNat) (m', o')).2 ++ [.int .i64 x.idx]) (runF (seg lg.evs q (x.idx - pos').toNat) (m', o')).1 hmok2 b14 105 false _ (h363.kn (k := 2) rfl)) ?_
                  rintro _ w364 ⟨rfl, hf366⟩
                  refine ⟨_, rfl, ?_⟩
                  have h365 := (h363.grow hf366).put (d := some 115) (v := .int .u64 (dig (runF (seg lg.evs q (x.idx - pos').toNat) (m', o')).1)) (T' := [(115, .int .u64 (dig (runF (seg lg.evs q (x.idx - pos').toNat) (m', o')).1)), (0, .pointer (some ⟨bl, 0, none⟩)), (1, .pointer (some ⟨bl, 0, none⟩)), (4, .pointer (some ⟨b2, 0, none⟩)), (5, .pointer (some ⟨b14, 0, none⟩)), (6, .int .i64 good), (9, .int .i64 x.idx), (7, .slice (some ⟨b72, (j' * 2), none⟩) (lg.mks.length - j') (mc - j')), (8, .slice (winA (some ⟨b87, 0, none⟩) sc i 15) (lg.sns.length - i) (sc - i)), (113, .int .u64 x'.sum), (114, .pointer (some ⟨b14, 0, none⟩))]) rfl
                  refine ⟨(h363.keepFr hf366 (kcons (by simp) knil)), ?_⟩
                  clear h363
                  refine dr_batch tabOk tabZ_ok (by repeat (first | exact PF.body | with_reducible apply PF.inB | with_reducible apply PF.next)) [(6, {})] [0, 1, 4, 5, 6, 9, 7, 8, 116] (T' := [(0, .pointer (some ⟨bl, 0, none⟩)), (1, .pointer (some ⟨bl, 0, none⟩)), (4, .pointer (some ⟨b2, 0, none⟩)), (5, .pointer (some ⟨b14, 0, none⟩)), (6, .int .i64 good), (9, .int .i64 x.idx), (7, .slice (some ⟨b72, (j' * 2), none⟩) (lg.mks.length - j') (mc - j')), (8, .slice (winA (some ⟨b87, 0, none⟩) sc i 15) (lg.sns.length - i) (sc - i)), (116, .bool (x'.sum != (dig (runF (seg lg.evs q (x.idx - pos').toNat) (m', o')).1)))]) (φ := True) (fuel := 0) h365 (by kernel_rfl) rfl (by kernel_rfl) (by kernel_rfl) ⟨trivial, trivial⟩ trivial fun a367 h368 => ?_
                  clear h365
                  refine wpAnyK_done (by kernel_rfl) ?_ _
                  refine hK358 _ _ ?_
                  clear hK358
                  refine c_split h368 (b := (x'.sum != (dig (runF (seg lg.evs q (x.idx - pos').toNat) (m', o')).1))) rfl (fun hc369 => ?_) (fun hc369 => ?_)
                  ·
                    have hc369f : x'.sum ≠ (dig (runF (seg lg.evs q (x.idx - pos').toNat) (m', o')).1) := by simpa using hc369
                    have hvm := hi348.trans (vm_bad hx' hxn hc369f)
                    refine wp_seq_k fun K370 hK370 => ?_
                    refine nd_start (l := [0, 1, 2, 3, 4, 5, 6, 7, 8, 9]) rfl ?_
                    refine nd_batch tabOk tabZ_ok [(0, {}), (1, {}), (2, {}), (3, {}), (4, {}), (5, {}), (6, {k := 0}), (7, {}), (8, {})] [0, 1, 4, 5, 6, 9, 7, 8, 125] (T' := [(0, .pointer (some ⟨bl, 0, none⟩)), (1, .pointer (some ⟨bl, 0, none⟩)), (4, .pointer (some ⟨b2, 0, none⟩)), (5, .pointer (some ⟨b14, 0, none⟩)), (6, .int .i64 good), (9, .int .i64 x.idx), (7, .slice (some ⟨b72, (j' * 2), none⟩) (lg.mks.length - j') (mc - j')), (8, .slice (winA (some ⟨b87, 0, none⟩) sc i 15) (lg.sns.length - i) (sc - i)), (125, .agg #[.int .i64 x.idx, .int .i64 good, .int .i64 (x.idx - lg.base.idx)])]) (φ := (bl = bl ∧ Nat.ble (0 + 1) 18 = true) ∧ inR .i64 (x.idx - lg.base.idx) ∧ True) (rest := [9]) h368 (by kernel_rfl) rfl ⟨⟨rfl, rfl⟩, ⟨by omega, by omega⟩, trivial⟩ fun a371 h372 => ?_
                    clear h368
                    refine nd_op ?_
                    refine op_store tabOk {k := 1} (L' := [(bl, ⟨logC lg.base (.slice eo lg.evs.length ec) (.slice (some ⟨b72, 0, none⟩) lg.mks.length mc) (.slice (some ⟨b87, 0, none⟩) lg.sns.length sc), 89, true⟩), (b2, ⟨[.int .i64 x.idx, .int .i64 good, .int .i64 (x.idx - lg.base.idx)], 114, false⟩), (b14, ⟨curC ((runF (seg lg.evs q (x.idx - pos').toNat) (m', o')).1) ((runF (seg lg.evs q (x.idx - pos').toNat) (m', o')).2) x.idx, 105, false⟩), (b72, ⟨cs73, 93, true⟩), (b87, ⟨cs88, 84, true⟩)]) (φ := b2 = b2 ∧ Nat.ble (0 + 3) 3 = true) h372 rfl rfl rfl (by kernel_rfl) ⟨rfl, rfl⟩ fun w373 h374 => ?_
                    clear h372
                    refine nd_done ?_
                    refine hK370 _ _ ?_
                    clear hK370
                    refine wp_ret ?_
                    have hres := hv.symm.trans (vloop_mark hnx hfin hs2 hvm)
                    try simp only [Exit.then, Exit.inBlock]
                    try rw [if_pos trivial]
                    exact s_ret tabOk tabZ_ok h374 [(.cell 4 114, {k := 1})] (vs := [.agg #[.int .i64 x.idx, .int .i64 good, .int .i64 (x.idx - lg.base.idx)]]) (φ := (b2 = b2 ∧ Nat.ble (0 + 3) 3 = true) ∧ True) rfl (by kernel_rfl) ⟨⟨rfl, rfl⟩, trivial⟩ ⟨by rw [hres]; rfl, h374.frame⟩
                  ·
                    have hc369f : x'.sum = (dig (runF (seg lg.evs q (x.idx - pos').toNat) (m', o')).1) := by simpa using hc369
                    have hsame := hi348.trans (vm_same hx' hxn hc369f)
                    refine wp_skip ?_
                    refine hK357 _ _ ?_
                    clear hK357
                    refine nd_start (l := [0, 1, 2]) rfl ?_
                    refine nd_batch tabOk tabZ_ok [(0, {}), (1, {}), (2, {})] [0, 1, 4, 5, 6, 9, 8, 7] (T' := [(0, .pointer (some ⟨bl, 0, none⟩)), (1, .pointer (some ⟨bl, 0, none⟩)), (4, .pointer (some ⟨b2, 0, none⟩)), (5, .pointer (some ⟨b14, 0, none⟩)), (6, .int .i64 good), (9, .int .i64 x.idx), (8, .slice (winA (some ⟨b87, 0, none⟩) sc i 15) (lg.sns.length - i) (sc - i)), (7, .slice (sliceBase (some ⟨b72, (j' * 2), none⟩) (mc - j') 1 2) ((lg.mks.length - j') - 1) ((mc - j') - 1))]) (φ := (0 ≤ (1 : Int) ∧ (1 : Int) ≤ (((lg.mks.length - j') : Nat) : Int)) ∧ True) (rest := []) h368 (by kernel_rfl) rfl ⟨⟨by omega, by omega⟩, trivial⟩ fun a375 h376 => ?_
                    clear h368
                    refine nd_done ?_
                    have e377 : sliceBase (some ⟨b72, (j' * 2), none⟩) (mc - j') 1 2 = winA (some ⟨b72, 0, none⟩) mc (j' + 1) 2 := by rw [← winA_some b72 2 hlt353]; exact winA_succ 2 (.inr ⟨b72, rfl⟩) hlt353
                    have e378 : lg.mks.length - j' - 1 = lg.mks.length - (j' + 1) := by omega
                    have e379 : mc - j' - 1 = mc - (j' + 1) := by omega
                    rw [e377, e378, e379] at h376
                    exact ⟨(gg - 1), by omega, (j' + 1), by omega, by omega, by omega, hsame, (h376.slotsMono (restr_spec (keep := [0, 1, 4, 5, 6, 9, 7, 8]) rfl))⟩
                ·
                  have hc356f : x'.idx ≠ x.idx := by simpa using hc356
                  refine wp_exit ?_
                  rw [← winA_some b72 2 hlt353] at h355
                  have hstop : ∀ z, lg.mks[j']? = some z → z.idx ≠ x.idx := (by intro z hz; rw [hx'] at hz; cases hz; exact hc356f)
                  exact hm276 j' _ _ hi345 hi346 (hi348.trans (vm_stop hstop)) hstop (h355.slotsMono (restr_spec (keep := [0, 1, 4, 5, 6, 9, 7, 8]) rfl))
              ·
                have hb351f : ¬ (((lg.mks.length - j') : Nat) : Int) > 0 := by simpa using hb351
                refine nd_start (l := [0, 1, 2, 3, 4, 5, 6, 7, 8, 9, 10]) rfl ?_
                refine nd_batch tabOk tabZ_ok [(0, {}), (1, {}), (2, {f := 1}), (3, {}), (4, {}), (5, {}), (6, {}), (7, {}), (8, {}), (9, {}), (10, {})] [0, 1, 4, 5, 6, 9, 7, 8, 107] (T' := [(0, .pointer (some ⟨bl, 0, none⟩)), (1, .pointer (some ⟨bl, 0, none⟩)), (4, .pointer (some ⟨b2, 0, none⟩)), (5, .pointer (some ⟨b14, 0, none⟩)), (6, .int .i64 good), (9, .int .i64 x.idx), (7, .slice (winA (some ⟨b72, 0, none⟩) mc j' 2) (lg.mks.length - j') (mc - j')), (8, .slice (winA (some ⟨b87, 0, none⟩) sc i 15) (lg.sns.length - i) (sc - i)), (107, .bool false)]) (φ := (decide ((((lg.mks.length - j') : Nat) : Int) > 0)) = false ∧ True) (rest := []) h344 (by kernel_rfl) rfl ⟨hb351, trivial⟩ fun a380 h381 => ?_
                clear h344
                refine nd_done ?_
                refine hK350 _ _ ?_
                clear hK350
                refine c_false h381 rfl ?_
                refine wp_exit ?_
                have hstop : ∀ z, lg.mks[j']? = some z → z.idx ≠ x.idx := (by intro z hz; have := (List.getElem?_eq_some_iff.1 hz).1; omega)
                exact hm276 j' _ _ hi345 hi346 (hi348.trans (vm_stop hstop)) hstop (h381.slotsMono (restr_spec (keep := [0, 1, 4, 5, 6, 9, 7, 8]) rfl))
        ·
          have hb86f : ¬ (((lg.sns.length - i) : Nat) : Int) > 0 := by simpa using hb86
          refine nd_start (l := [0, 1, 2, 3, 4, 5, 6, 7, 8, 9, 10]) rfl ?_
          refine nd_batch tabOk tabZ_ok [(0, {}), (1, {}), (2, {f := 1}), (3, {}), (4, {}), (5, {}), (6, {}), (7, {}), (8, {}), (9, {}), (10, {})] [0, 1, 4, 5, 6, 7, 8, 9, 72] (T' := [(0, .pointer (some ⟨bl, 0, none⟩)), (1, .pointer (some ⟨bl, 0, none⟩)), (4, .pointer (some ⟨b2, 0, none⟩)), (5, .pointer (some ⟨b14, 0, none⟩)), (6, .int .i64 good), (7, .slice (some ⟨b72, (j * 2), none⟩) (lg.mks.length - j) (mc - j)), (8, .slice (winA so sc i 15) (lg.sns.length - i) (sc - i)), (9, .int .i64 x.idx), (72, .bool false)]) (φ := (decide ((((lg.sns.length - i) : Nat) : Int) > 0)) = false ∧ True) (rest := []) h83 (by kernel_rfl) rfl ⟨hb86, trivial⟩ fun a382 h383 => ?_
          clear h83
          refine nd_done ?_
          refine hK85 _ _ ?_
          clear hK85
          refine c_false h383 rfl ?_
          refine wp_skip ?_
          refine hK84 _ _ ?_
          clear hK84
          refine wp_seq_k fun K384 hK384 => ?_
          refine wp_seq_k fun K385 hK385 => ?_
          refine nd_start (l := [0, 1, 2, 3]) rfl ?_
          refine nd_batch tabOk tabZ_ok [(0, {}), (1, {})] [0, 1, 4, 5, 6, 7, 8, 9, 77, 78] (T' := [(0, .pointer (some ⟨bl, 0, none⟩)), (1, .pointer (some ⟨bl, 0, none⟩)), (4, .pointer (some ⟨b2, 0, none⟩)), (5, .pointer (some ⟨b14, 0, none⟩)), (6, .int .i64 good), (7, .slice (some ⟨b72, (j * 2), none⟩) (lg.mks.length - j) (mc - j)), (8, .slice (winA so sc i 15) (lg.sns.length - i) (sc - i)), (9, .int .i64 x.idx), (77, .int .i64 x.idx), (78, .pointer (some ⟨bl, 0, none⟩))]) (φ := True) (rest := [2, 3]) h383 (by kernel_rfl) rfl trivial fun a386 h387 => ?_
          clear h383
          refine nd_op ?_
          refine op_call h387 rfl rfl rfl (callOk Tryf.func41 (by decide) rfl) (args := [.pointer (some ⟨bl, 0, none⟩)]) rfl (end_ok bl lg.base eo lg.evs.length ec (.slice (some ⟨b72, 0, none⟩) lg.mks.length mc) (.slice so lg.sns.length sc) true _ (h387.kn (k := 0) rfl) hb0 (by omega) (by omega)) ?_
          rintro _ w388 ⟨rfl, hf390⟩
          refine ⟨_, rfl, ?_⟩
          have h389 := (h387.grow hf390).put (d := some 79) (v := .int .i64 (lg.base.idx + (lg.evs.length : Int))) (T' := [(79, .int .i64 (lg.base.idx + (lg.evs.length : Int))), (0, .pointer (some ⟨bl, 0, none⟩)), (1, .pointer (some ⟨bl, 0, none⟩)), (4, .pointer (some ⟨b2, 0, none⟩)), (5, .pointer (some ⟨b14, 0, none⟩)), (6, .int .i64 good), (7, .slice (some ⟨b72, (j * 2), none⟩) (lg.mks.length - j) (mc - j)), (8, .slice (winA so sc i 15) (lg.sns.length - i) (sc - i)), (9, .int .i64 x.idx), (77, .int .i64 x.idx), (78, .pointer (some ⟨bl, 0, none⟩))]) rfl
          clear h387
          refine nd_batch tabOk tabZ_ok [(3, {})] [0, 1, 4, 5, 6, 7, 8, 9, 80] (T' := [(0, .pointer (some ⟨bl, 0, none⟩)), (1, .pointer (some ⟨bl, 0, none⟩)), (4, .pointer (some ⟨b2, 0, none⟩)), (5, .pointer (some ⟨b14, 0, none⟩)), (6, .int .i64 good), (7, .slice (some ⟨b72, (j * 2), none⟩) (lg.mks.length - j) (mc - j)), (8, .slice (winA so sc i 15) (lg.sns.length - i) (sc - i)), (9, .int .i64 x.idx), (80, .bool (decide (x.idx > (lg.base.idx + (lg.evs.length : Int)))))]) (φ := True) (rest := []) h389 (by kernel_rfl) rfl trivial fun a391 h392 => ?_
          clear h389
          refine nd_done ?_
          refine hK385 _ _ ?_
          clear hK385
          refine c_split h392 (b := decide (x.idx > (lg.base.idx + (lg.evs.length : Int)))) rfl (fun hc393 => ?_) (fun hc393 => ?_)
          ·
            have hc393f : x.idx > (lg.base.idx + (lg.evs.length : Int)) := by simpa using hc393
            have hnx : nextOf lg.fin (lg.mks.drop j) (lg.sns.drop i) = x.idx := next_m (fin := lg.fin) hx (by omega)
            have hfin : lg.fin < x.idx := hc393f
            refine wp_seq_k fun K394 hK394 => ?_
            refine nd_start (l := [0, 1, 2, 3]) rfl ?_
            refine nd_batch tabOk tabZ_ok [(0, {}), (1, {})] [0, 1, 4, 5, 6, 7, 8, 9, 81, 82] (T' := [(0, .pointer (some ⟨bl, 0, none⟩)), (1, .pointer (some ⟨bl, 0, none⟩)), (4, .pointer (some ⟨b2, 0, none⟩)), (5, .pointer (some ⟨b14, 0, none⟩)), (6, .int .i64 good), (7, .slice (some ⟨b72, (j * 2), none⟩) (lg.mks.length - j) (mc - j)), (8, .slice (winA so sc i 15) (lg.sns.length - i) (sc - i)), (9, .int .i64 x.idx), (81, .pointer (some ⟨bl, 0, none⟩)), (82, .pointer (some ⟨bl, 0, none⟩))]) (φ := True) (rest := [2, 3]) h392 (by kernel_rfl) rfl trivial fun a395 h396 => ?_
            clear h392
            refine nd_op ?_
            refine op_call h396 rfl rfl rfl (callOk Tryf.func41 (by decide) rfl) (args := [.pointer (some ⟨bl, 0, none⟩)]) rfl (end_ok bl lg.base eo lg.evs.length ec (.slice (some ⟨b72, 0, none⟩) lg.mks.length mc) (.slice so lg.sns.length sc) true _ (h396.kn (k := 0) rfl) hb0 (by omega) (by omega)) ?_
            rintro _ w397 ⟨rfl, hf399⟩
            refine ⟨_, rfl, ?_⟩
            have h398 := (h396.grow hf399).put (d := some 83) (v := .int .i64 (lg.base.idx + (lg.evs.length : Int))) (T' := [(83, .int .i64 (lg.base.idx + (lg.evs.length : Int))), (0, .pointer (some ⟨bl, 0, none⟩)), (1, .pointer (some ⟨bl, 0, none⟩)), (4, .pointer (some ⟨b2, 0, none⟩)), (5, .pointer (some ⟨b14, 0, none⟩)), (6, .int .i64 good), (7, .slice (some ⟨b72, (j * 2), none⟩) (lg.mks.length - j) (mc - j)), (8, .slice (winA so sc i 15) (lg.sns.length - i) (sc - i)), (9, .int .i64 x.idx), (81, .pointer (some ⟨bl, 0, none⟩)), (82, .pointer (some ⟨bl, 0, none⟩))]) rfl
            clear h396
            refine nd_op ?_
            refine op_call h398 rfl rfl rfl (callOk Tryf.func44 (by decide) rfl) (args := [.pointer (some ⟨b14, 0, none⟩), .pointer (some ⟨bl, 0, none⟩), .int .i64 (lg.base.idx + (lg.evs.length : Int))]) rfl (run_ok b14 bl ⟨eo, ec, eF, (some ⟨b72, 0, none⟩), mc, [b72], so, sc, sF⟩ lg _ (LogAt.of (d := ⟨eo, ec, eF, (some ⟨b72, 0, none⟩), mc, [b72], so, sc, sF⟩) (h398.kn (k := 0) rfl) h398.inv hsep) m' o' pos' (lg.base.idx + (lg.evs.length : Int)) q ((lg.base.idx + (lg.evs.length : Int)) - pos').toNat (h398.kn (k := 2) rfl) (h398.ne 2 0 rfl rfl rfl) (h398.dj (k := 2) rfl rfl) hev hmok hq (by omega) (by omega) (by omega) hb0 (by omega)) ?_
            rintro _ w400 ⟨rfl, hbs, hf402⟩
            refine ⟨_, rfl, ?_⟩
            have h401 := (h398.setBlk (k := 2) rfl rfl hf402 hbs (L' := [(bl, ⟨logC lg.base (.slice eo lg.evs.length ec) (.slice (some ⟨b72, 0, none⟩) lg.mks.length mc) (.slice so lg.sns.length sc), 89, true⟩), (b2, ⟨[.int .i64 0, .int .i64 0, .int .i64 0], 114, false⟩), (b14, ⟨curC ((runF (seg lg.evs q ((lg.base.idx + (lg.evs.length : Int)) - pos').toNat) (m', o')).1) ((runF (seg lg.evs q ((lg.base.idx + (lg.evs.length : Int)) - pos').toNat) (m', o')).2) (lg.base.idx + (lg.evs.length : Int)), 105, false⟩), (b72, ⟨cs73, 93, true⟩)]) rfl).put (d := some 84) (v := .tuple #[]) (T' := [(84, .tuple #[]), (83, .int .i64 (lg.base.idx + (lg.evs.length : Int))), (0, .pointer (some ⟨bl, 0, none⟩)), (1, .pointer (some ⟨bl, 0, none⟩)), (4, .pointer (some ⟨b2, 0, none⟩)), (5, .pointer (some ⟨b14, 0, none⟩)), (6, .int .i64 good), (7, .slice (some ⟨b72, (j * 2), none⟩) (lg.mks.length - j) (mc - j)), (8, .slice (winA so sc i 15) (lg.sns.length - i) (sc - i)), (9, .int .i64 x.idx), (81, .pointer (some ⟨bl, 0, none⟩)), (82, .pointer (some ⟨bl, 0, none⟩))]) rfl
            clear h398
            refine nd_done ?_
            refine hK394 _ _ ?_
            clear hK394
            refine wp_seq_k fun K403 hK403 => ?_
            refine dr_start (KB := [bl, b2, b14, b72]) (Bi := [[0, 1, 2, 3], [0, 1, 2, 3], [0, 1, 2, 3], [0, 1, 2, 3], [0, 1, 2, 3], [0, 1, 2, 3], [0, 1, 2, 3], [0, 1, 2, 3], [0, 1, 2, 3], []]) mixed h401 fun w404 h405 => ?_
            clear h401
            refine dr_batch tabOk tabZ_ok (by repeat (first | exact PF.body | with_reducible apply PF.inB | with_reducible apply PF.next)) [(0, {}), (1, {}), (2, {k := 2, p := 2}), (3, {}), (4, {}), (5, {}), (6, {k := 0, p := 0}), (7, {}), (8, {})] [0, 1, 4, 5, 6, 7, 8, 9, 93] (T' := [(0, .pointer (some ⟨bl, 0, none⟩)), (1, .pointer (some ⟨bl, 0, none⟩)), (4, .pointer (some ⟨b2, 0, none⟩)), (5, .pointer (some ⟨b14, 0, none⟩)), (6, .int .i64 good), (7, .slice (some ⟨b72, (j * 2), none⟩) (lg.mks.length - j) (mc - j)), (8, .slice (winA so sc i 15) (lg.sns.length - i) (sc - i)), (9, .int .i64 x.idx), (93, .agg #[.int .i64 (-1), .int .i64 good, .int .i64 ((lg.base.idx + (lg.evs.length : Int)) - lg.base.idx)])]) (φ := (b14 = b14 ∧ Nat.ble (14 + 1) 15 = true) ∧ (bl = bl ∧ Nat.ble (0 + 1) 18 = true) ∧ inR .i64 ((lg.base.idx + (lg.evs.length : Int)) - lg.base.idx) ∧ True) (fuel := 1) h405 (by kernel_rfl) rfl (by kernel_rfl) (by kernel_rfl) ⟨trivial, trivial, rfl, trivial, trivial, trivial, rfl, trivial, trivial, trivial⟩ ⟨⟨rfl, rfl⟩, ⟨rfl, rfl⟩, ⟨by omega, by omega⟩, trivial⟩ fun a407 h408 => ?_
            clear h405
            refine wpAnyK_one (i := 9) (fuel := 0) (by kernel_rfl) ?_
            refine op_store tabOk {k := 1} (L' := [(bl, ⟨logC lg.base (.slice eo lg.evs.length ec) (.slice (some ⟨b72, 0, none⟩) lg.mks.length mc) (.slice so lg.sns.length sc), 89, true⟩), (b2, ⟨[.int .i64 (-1), .int .i64 good, .int .i64 ((lg.base.idx + (lg.evs.length : Int)) - lg.base.idx)], 114, false⟩), (b14, ⟨curC ((runF (seg lg.evs q ((lg.base.idx + (lg.evs.length : Int)) - pos').toNat) (m', o')).1) ((runF (seg lg.evs q ((lg.base.idx + (lg.evs.length : Int)) - pos').toNat) (m', o')).2) (lg.base.idx + (lg.evs.length : Int)), 105, false⟩), (b72, ⟨cs73, 93, true⟩)]) (φ := b2 = b2 ∧ Nat.ble (0 + 3) 3 = true) h408 rfl rfl rfl (by kernel_rfl) ⟨rfl, rfl⟩ fun w409 h410 => ?_
            have hkh410 := h408.known
            refine ⟨keepNil, ?_⟩
            clear h408
            refine wpAnyK_done (by kernel_rfl) ?_ _
            refine hK403 _ _ ?_
            clear hK403
            refine wp_ret ?_
            have hres := hv.symm.trans (vloop_end hnx hfin)
            try simp only [Exit.then, Exit.inBlock]
            try rw [if_pos trivial]
            exact s_ret tabOk tabZ_ok h410 [(.cell 4 114, {k := 1})] (vs := [.agg #[.int .i64 (-1), .int .i64 good, .int .i64 ((lg.base.idx + (lg.evs.length : Int)) - lg.base.idx)]]) (φ := (b2 = b2 ∧ Nat.ble (0 + 3) 3 = true) ∧ True) rfl (by kernel_rfl) ⟨⟨rfl, rfl⟩, trivial⟩ ⟨by rw [hres]; rfl, h410.frame⟩
          ·
            have hc393f : ¬ x.idx > (lg.base.idx + (lg.evs.length : Int)) := by simpa using hc393
            have hnx : nextOf lg.fin (lg.mks.drop j) (lg.sns.drop i) = x.idx := next_m (fin := lg.fin) hx (by omega)
            have hfin : ¬ lg.fin < x.idx := hc393f
            have hnp : pos' ≤ x.idx := by omega
            have hmok2 := runF_ok (seg lg.evs q (x.idx - pos').toNat) (m', o') hmok (seg_ok hev _ _)
            have hs2 : runF (seg lg.evs (pos' - lg.base.idx).toNat (x.idx - pos').toNat) (m', o') = runF (seg lg.evs q (x.idx - pos').toNat) (m', o') := by rw [show (pos' - lg.base.idx).toNat = q by omega]
            simp only [Lg.fin] at hfin
            refine wp_skip ?_
            refine hK384 _ _ ?_
            clear hK384
            refine wp_seq_k fun K411 hK411 => ?_
            refine nd_start (l := [0, 1, 2]) rfl ?_
            refine nd_batch tabOk tabZ_ok [(0, {}), (1, {})] [0, 1, 4, 5, 6, 7, 8, 9, 94, 95] (T' := [(0, .pointer (some ⟨bl, 0, none⟩)), (1, .pointer (some ⟨bl, 0, none⟩)), (4, .pointer (some ⟨b2, 0, none⟩)), (5, .pointer (some ⟨b14, 0, none⟩)), (6, .int .i64 good), (7, .slice (some ⟨b72, (j * 2), none⟩) (lg.mks.length - j) (mc - j)), (8, .slice (winA so sc i 15) (lg.sns.length - i) (sc - i)), (9, .int .i64 x.idx), (94, .pointer (some ⟨bl, 0, none⟩)), (95, .int .i64 x.idx)]) (φ := True) (rest := [2]) h392 (by kernel_rfl) rfl trivial fun a412 h413 => ?_
            clear h392
            refine nd_op ?_
            refine op_call h413 rfl rfl rfl (callOk Tryf.func44 (by decide) rfl) (args := [.pointer (some ⟨b14, 0, none⟩), .pointer (some ⟨bl, 0, none⟩), .int .i64 x.idx]) rfl (run_ok b14 bl ⟨eo, ec, eF, (some ⟨b72, 0, none⟩), mc, [b72], so, sc, sF⟩ lg _ (LogAt.of (d := ⟨eo, ec, eF, (some ⟨b72, 0, none⟩), mc, [b72], so, sc, sF⟩) (h413.kn (k := 0) rfl) h413.inv hsep) m' o' pos' x.idx q (x.idx - pos').toNat (h413.kn (k := 2) rfl) (h413.ne 2 0 rfl rfl rfl) (h413.dj (k := 2) rfl rfl) hev hmok hq (by omega) (by omega) (by omega) hb0 (by omega)) ?_
            rintro _ w414 ⟨rfl, hbs, hf416⟩
            refine ⟨_, rfl, ?_⟩
            have h415 := (h413.setBlk (k := 2) rfl rfl hf416 hbs (L' := [(bl, ⟨logC lg.base (.slice eo lg.evs.length ec) (.slice (some ⟨b72, 0, none⟩) lg.mks.length mc) (.slice so lg.sns.length sc), 89, true⟩), (b2, ⟨[.int .i64 0, .int .i64 0, .int .i64 0], 114, false⟩), (b14, ⟨curC ((runF (seg lg.evs q (x.idx - pos').toNat) (m', o')).1) ((runF (seg lg.evs q (x.idx - pos').toNat) (m', o')).2) x.idx, 105, false⟩), (b72, ⟨cs73, 93, true⟩)]) rfl).put (d := some 96) (v := .tuple #[]) (T' := [(96, .tuple #[]), (0, .pointer (some ⟨bl, 0, none⟩)), (1, .pointer (some ⟨bl, 0, none⟩)), (4, .pointer (some ⟨b2, 0, none⟩)), (5, .pointer (some ⟨b14, 0, none⟩)), (6, .int .i64 good), (7, .slice (some ⟨b72, (j * 2), none⟩) (lg.mks.length - j) (mc - j)), (8, .slice (winA so sc i 15) (lg.sns.length - i) (sc - i)), (9, .int .i64 x.idx), (94, .pointer (some ⟨bl, 0, none⟩)), (95, .int .i64 x.idx)]) rfl
            clear h413
            refine nd_done ?_
            refine hK411 _ _ ?_
            clear hK411
            refine wp_seq_k fun K417 hK417 => ?_
            refine wp_block ?_
            rw [← winA_some b72 2 hlt81] at h415
            have hm418 : ∀ (j' : Nat) (ca : Act) (cw : World), (j' ≤ lg.mks.length) → (j ≤ j') → (vm x.idx (dig (runF (seg lg.evs q (x.idx - pos').toNat) (m', o')).1) (lg.mks.drop j) = some (lg.mks.drop j')) → (∀ z, lg.mks[j']? = some z → z.idx ≠ x.idx) → St ⟨165, [], w, Rws [rl evC 31 3 lg.evs eo ec eF, rl mkC 93 2 lg.mks (some ⟨b72, 0, none⟩) mc ([b72]), rl ptC 84 15 lg.sns so sc sF], Ff [rl evC 31 3 lg.evs eo ec eF, rl mkC 93 2 lg.mks (some ⟨b72, 0, none⟩) mc ([b72]), rl ptC 84 15 lg.sns so sc sF]⟩ [(0, .pointer (some ⟨bl, 0, none⟩)), (1, .pointer (some ⟨bl, 0, none⟩)), (4, .pointer (some ⟨b2, 0, none⟩)), (5, .pointer (some ⟨b14, 0, none⟩)), (6, .int .i64 good), (9, .int .i64 x.idx), (7, .slice (winA (some ⟨b72, 0, none⟩) mc j' 2) (lg.mks.length - j') (mc - j')), (8, .slice (winA so sc i 15) (lg.sns.length - i) (sc - i))] [(bl, ⟨logC lg.base (.slice eo lg.evs.length ec) (.slice (some ⟨b72, 0, none⟩) lg.mks.length mc) (.slice so lg.sns.length sc), 89, true⟩), (b2, ⟨[.int .i64 0, .int .i64 0, .int .i64 0], 114, false⟩), (b14, ⟨curC ((runF (seg lg.evs q (x.idx - pos').toNat) (m', o')).1) ((runF (seg lg.evs q (x.idx - pos').toNat) (m', o')).2) x.idx, 105, false⟩), (b72, ⟨cs73, 93, true⟩)] ca cw → K417 ca cw := by
              intro j' a419 w420 hi422 hi423 hi424 hi425 h421
              have hj' := hi422
              have hle1 := hi423
              have hvm := hi424
              have hstop1 := hi425
              refine hK417 _ _ ?_
              clear hK417
              refine wp_seq_k fun K426 hK426 => ?_
              refine wp_block ?_
              have hm427 : ∀ (i' : Nat) (ca : Act) (cw : World), (i' ≤ lg.sns.length) → (i ≤ i') → (vs x.idx (runF (seg lg.evs q (x.idx - pos').toNat) (m', o')) (lg.sns.drop i) = some (lg.sns.drop i')) → (∀ z, lg.sns[i']? = some z → z.idx ≠ x.idx) → St ⟨165, [], w, Rws [rl evC 31 3 lg.evs eo ec eF, rl mkC 93 2 lg.mks (some ⟨b72, 0, none⟩) mc ([b72]), rl ptC 84 15 lg.sns so sc sF], Ff [rl evC 31 3 lg.evs eo ec eF, rl mkC 93 2 lg.mks (some ⟨b72, 0, none⟩) mc ([b72]), rl ptC 84 15 lg.sns so sc sF]⟩ [(0, .pointer (some ⟨bl, 0, none⟩)), (1, .pointer (some ⟨bl, 0, none⟩)), (4, .pointer (some ⟨b2, 0, none⟩)), (5, .pointer (some ⟨b14, 0, none⟩)), (6, .int .i64 good), (9, .int .i64 x.idx), (8, .slice (winA so sc i' 15) (lg.sns.length - i') (sc - i')), (7, .slice (winA (some ⟨b72, 0, none⟩) mc j' 2) (lg.mks.length - j') (mc - j'))] [(bl, ⟨logC lg.base (.slice eo lg.evs.length ec) (.slice (some ⟨b72, 0, none⟩) lg.mks.length mc) (.slice so lg.sns.length sc), 89, true⟩), (b2, ⟨[.int .i64 0, .int .i64 0, .int .i64 0], 114, false⟩), (b14, ⟨curC ((runF (seg lg.evs q (x.idx - pos').toNat) (m', o')).1) ((runF (seg lg.evs q (x.idx - pos').toNat) (m', o')).2) x.idx, 105, false⟩), (b72, ⟨cs73, 93, true⟩)] ca cw → K426 ca cw := by
                intro i' a428 w429 hi431 hi432 hi433 hi434 h430
                have hi' := hi431
                have hle2 := hi432
                have hvs := hi433
                have hstop2 := hi434
                have hprog : lg.mks.length - j' + (lg.sns.length - i') < lg.mks.length - j + (lg.sns.length - i) := by
                  have : j ≠ j' := by intro hjj; subst hjj; exact hstop1 x hx rfl
                  have := (List.getElem?_eq_some_iff.1 hx).1; omega
                have hall : (∀ z, lg.mks[j]? = some z → x.idx ≤ z.idx) ∧ (∀ z, lg.sns[i]? = some z → x.idx ≤ z.idx) := by
                  refine ⟨fun z hz => ?_, fun z hz => ?_⟩
                  · rw [hx] at hz; cases hz; omega
                  · have := (List.getElem?_eq_some_iff.1 hz).1; omega
                have hgm' : ∀ z ∈ lg.mks.drop j', x.idx ≤ z.idx := fun z hz => mk_ge hms hall.1 z ((List.drop_sublist_drop_left lg.mks hle1).mem hz)
                have hgs' : ∀ z ∈ lg.sns.drop i', x.idx ≤ z.idx := fun z hz => pt_ge hsort hall.2 z ((List.drop_sublist_drop_left lg.sns hle2).mem hz)
                refine hK426 _ _ ?_
                clear hK426
                refine nd_start (l := [0, 1]) rfl ?_
                refine nd_batch tabOk tabZ_ok [(0, {}), (1, {})] [0, 1, 4, 5, 9, 8, 7, 6] (T' := [(0, .pointer (some ⟨bl, 0, none⟩)), (1, .pointer (some ⟨bl, 0, none⟩)), (4, .pointer (some ⟨b2, 0, none⟩)), (5, .pointer (some ⟨b14, 0, none⟩)), (9, .int .i64 x.idx), (8, .slice (winA so sc i' 15) (lg.sns.length - i') (sc - i')), (7, .slice (winA (some ⟨b72, 0, none⟩) mc j' 2) (lg.mks.length - j') (mc - j')), (6, .int .i64 x.idx)]) (φ := True) (rest := []) h430 (by kernel_rfl) rfl trivial fun a435 h436 => ?_
                clear h430
                refine nd_done ?_
                have h437 := h436.memMono (L' := [(bl, ⟨logC lg.base (.slice eo lg.evs.length ec) (.slice (some ⟨b72, 0, none⟩) lg.mks.length mc) (.slice so lg.sns.length sc), 89, true⟩), (b2, ⟨[.int .i64 0, .int .i64 0, .int .i64 0], 114, false⟩), (b14, ⟨curC ((runF (seg lg.evs q (x.idx - pos').toNat) (m', o')).1) ((runF (seg lg.evs q (x.idx - pos').toNat) (m', o')).2) x.idx, 105, false⟩)]) (List.Sublist.cons_cons _ (List.Sublist.cons_cons _ (List.Sublist.cons_cons _ (List.Sublist.cons _ List.Sublist.slnil))))
                clear h436
                exact ⟨g, by omega, j', i', (runF (seg lg.evs q (x.idx - pos').toNat) (m', o')).1, (runF (seg lg.evs q (x.idx - pos').toNat) (m', o')).2, x.idx, x.idx, (x.idx - lg.base.idx).toNat, hj', hi', by omega, by omega, by omega, hmok2, hgm', hgs', by rw [← hv]; exact (vloop_next hnx hfin hs2 hvm hvs).symm, (h437.slotsMono (restr_spec (keep := [0, 1, 4, 5, 6, 7, 8]) rfl))⟩
              clear hK426
              refine wp_loop_ghost (fun gg ga gw => ∃ (i' : Nat), (i' ≤ lg.sns.length) ∧ (i ≤ i') ∧ (gg = lg.sns.length - i') ∧ (vs x.idx (runF (seg lg.evs q (x.idx - pos').toNat) (m', o')) (lg.sns.drop i) = vs x.idx (runF (seg lg.evs q (x.idx - pos').toNat) (m', o')) (lg.sns.drop i')) ∧ St ⟨165, [], w, Rws [rl evC 31 3 lg.evs eo ec eF, rl mkC 93 2 lg.mks (some ⟨b72, 0, none⟩) mc ([b72]), rl ptC 84 15 lg.sns so sc sF], Ff [rl evC 31 3 lg.evs eo ec eF, rl mkC 93 2 lg.mks (some ⟨b72, 0, none⟩) mc ([b72]), rl ptC 84 15 lg.sns so sc sF]⟩ [(0, .pointer (some ⟨bl, 0, none⟩)), (1, .pointer (some ⟨bl, 0, none⟩)), (4, .pointer (some ⟨b2, 0, none⟩)), (5, .pointer (some ⟨b14, 0, none⟩)), (6, .int .i64 good), (9, .int .i64 x.idx), (8, .slice (winA so sc i' 15) (lg.sns.length - i') (sc - i')), (7, .slice (winA (some ⟨b72, 0, none⟩) mc j' 2) (lg.mks.length - j') (mc - j'))] [(bl, ⟨logC lg.base (.slice eo lg.evs.length ec) (.slice (some ⟨b72, 0, none⟩) lg.mks.length mc) (.slice so lg.sns.length sc), 89, true⟩), (b2, ⟨[.int .i64 0, .int .i64 0, .int .i64 0], 114, false⟩), (b14, ⟨curC ((runF (seg lg.evs q (x.idx - pos').toNat) (m', o')).1) ((runF (seg lg.evs q (x.idx - pos').toNat) (m', o')).2) x.idx, 105, false⟩), (b72, ⟨cs73, 93, true⟩)] ga gw) (lg.sns.length - i) ⟨i, by omega, Nat.le_refl _, rfl, rfl, (h421.slotsMono (restr_spec (keep := [0, 1, 4, 5, 6, 9, 8, 7]) rfl))⟩ ?_
              clear h421
              rintro gg a438 w439 ⟨i', hi441, hi442, hi443, hi444, h440⟩
              refine wp_seq_k fun K445 hK445 => ?_
              refine wp_seq_k fun K446 hK446 => ?_
              rcases Bool.eq_false_or_eq_true (decide ((((lg.sns.length - i') : Nat) : Int) > 0)) with hb447 | hb447
              ·
                have hb447f : (((lg.sns.length - i') : Nat) : Int) > 0 := by simpa using hb447
                obtain ⟨y', hy'⟩ := Sx.get_some (xs := lg.sns) (i := i') (by omega)
                obtain ⟨b448, cs449, ho450, hb451, hc452, hF453, hq455, hl456⟩ := rl_open (h440.inv.get (j := 2) rfl) ptC_len hy'
                subst ho450 hF453
                have h454 := h440.open_ hb451 (h440.notinL (by simp [Ff]) (kcons (fun _ => (fun hq => hsep (by have hq2 : bl = b448 := hq; rw [hq2]; simp [Hd.F]))) (kcons (by intro hq; cases hq) (kcons (by intro hq; cases hq) (kcons (fun _ => (fun hq => Ff_nodup h440.inv.1 (i := 1) (j := 2) rfl rfl (by decide) b72 (by simp) (by have hq2 : b72 = b448 := hq; rw [hq2]; simp))) knil)))))
                clear h440
                have hlt457 : i' < sc := by have h1 : lg.sns.length ≤ sc := rl_cap (h454.inv.get (j := 2) rfl); have h2 := (List.getElem?_eq_some_iff.1 hy').1; omega
                rw [winA_some b448 15 hlt457] at h454
                refine nd_start (l := [0, 1, 2, 3, 4, 5, 6, 7, 8, 9, 10]) rfl ?_
                refine nd_batch tabOk tabZ_ok [(0, {}), (1, {}), (2, {f := 2}), (3, {}), (4, {}), (5, {}), (6, {}), (7, {k := 4, m := 1, vs := [.int .i64 y'.idx]}), (8, {}), (9, {}), (10, {})] [0, 1, 4, 5, 6, 9, 8, 7, 136] (T' := [(0, .pointer (some ⟨bl, 0, none⟩)), (1, .pointer (some ⟨bl, 0, none⟩)), (4, .pointer (some ⟨b2, 0, none⟩)), (5, .pointer (some ⟨b14, 0, none⟩)), (6, .int .i64 good), (9, .int .i64 x.idx), (8, .slice (some ⟨b448, (i' * 15), none⟩) (lg.sns.length - i') (sc - i')), (7, .slice (winA (some ⟨b72, 0, none⟩) mc j' 2) (lg.mks.length - j') (mc - j')), (136, .bool (y'.idx == x.idx))]) (φ := (decide ((((lg.sns.length - i') : Nat) : Int) > 0)) = true ∧ (0 ≤ (0 : Int) ∧ (0 : Int) < (((lg.sns.length - i') : Nat) : Int)) ∧ (b448 = b448 ∧ cellsAre cs449 (i' * 15) [.int .i64 y'.idx]) ∧ True) (rest := []) h454 (by kernel_rfl) rfl ⟨hb447, ⟨by omega, by omega⟩, ⟨rfl, (pt_idx hc452)⟩, trivial⟩ fun a458 h459 => ?_
                clear h454
                refine nd_done ?_
                refine hK446 _ _ ?_
                clear hK446
                refine c_split h459 (b := (y'.idx == x.idx)) rfl (fun hc460 => ?_) (fun hc460 => ?_)
                ·
                  have hc460f : y'.idx = x.idx := by simpa using hc460
                  have hxn : y'.idx = x.idx := hc460f
                  refine wp_skip ?_
                  refine hK445 _ _ ?_
                  clear hK445
                  refine wp_seq_k fun K461 hK461 => ?_
                  refine wp_block ?_
                  refine wp_seq_k fun K462 hK462 => ?_
                  rcases Bool.eq_false_or_eq_true ((Bool.xor true (machEq y'.st (runF (seg lg.evs q (x.idx - pos').toNat) (m', o')).1))) with hb463 | hb463
                  ·
                    have hme : machEq y'.st (runF (seg lg.evs q (x.idx - pos').toNat) (m', o')).1 = false := by simpa using hb463
                    have hvs := hi444.trans (vs_bad1 hy' hxn hme)
                    refine dr_start (KB := [bl, b2, b14, b72, b448]) (Bi := [[0, 1, 2, 3, 4], [0, 1, 2, 3, 4], [0, 1, 2, 3, 4], [0, 1, 2, 3, 4], [0, 1, 2, 3, 4], [0, 1, 2, 3, 4], [0, 1, 2, 3, 4], [0, 1, 2, 3, 4], [0, 1, 2, 3, 4], [0, 1, 2, 3, 4], [0, 1, 2, 3, 4], [0, 1, 2, 3, 4], [0, 1, 2, 3, 4], [0, 1, 2, 3, 4], [0, 1, 2, 3, 4], [0, 1, 2, 3, 4]]) mixed h459 fun w464 h465 => ?_
                    clear h459
                    refine dr_batch tabOk tabZ_ok (by repeat (first | exact PF.body | with_reducible apply PF.inB | with_reducible apply PF.next)) [(0, {}), (1, {}), (2, {}), (3, {k := 4, m := 1, vs := [.int .u64 y'.st.now, .int .i8 y'.st.cur, .int .u8 y'.st.s0, .int .u8 y'.st.s1, .int .u8 y'.st.s2, .int .u8 y'.st.s3, .int .u64 y'.st.r0, .int .u64 y'.st.r1, .int .u64 y'.st.r2, .int .u64 y'.st.r3, .int .u64 y'.st.word], p := 4}), (4, {}), (5, {k := 2, p := 2}), (6, {f := 2}), (7, {}), (8, {}), (9, {}), (10, {}), (11, {k := 0, p := 0}), (12, {}), (13, {k := 0, p := 0}), (14, {}), (15, {})] [0, 1, 4, 5, 6, 9, 8, 7, 154] (T' := [(0, .pointer (some ⟨bl, 0, none⟩)), (1, .pointer (some ⟨bl, 0, none⟩)), (4, .pointer (some ⟨b2, 0, none⟩)), (5, .pointer (some ⟨b14, 0, none⟩)), (6, .int .i64 good), (9, .int .i64 x.idx), (8, .slice (some ⟨b448, (i' * 15), none⟩) (lg.sns.length - i') (sc - i')), (7, .slice (winA (some ⟨b72, 0, none⟩) mc j' 2) (lg.mks.length - j') (mc - j')), (154, .bool true)]) (φ := (0 ≤ (0 : Int) ∧ (0 : Int) < (((lg.sns.length - i') : Nat) : Int)) ∧ (b448 = b448 ∧ cellsAre cs449 ((i' * 15) + 1) [.int .u64 y'.st.now, .int .i8 y'.st.cur, .int .u8 y'.st.s0, .int .u8 y'.st.s1, .int .u8 y'.st.s2, .int .u8 y'.st.s3, .int .u64 y'.st.r0, .int .u64 y'.st.r1, .int .u64 y'.st.r2, .int .u64 y'.st.r3, .int .u64 y'.st.word]) ∧ (b14 = b14 ∧ Nat.ble (0 + 11) 15 = true) ∧ EqRun Tryf.prog 58 (.agg #[.int .u64 y'.st.now, .int .i8 y'.st.cur, .int .u8 y'.st.s0, .int .u8 y'.st.s1, .int .u8 y'.st.s2, .int .u8 y'.st.s3, .int .u64 y'.st.r0, .int .u64 y'.st.r1, .int .u64 y'.st.r2, .int .u64 y'.st.r3, .int .u64 y'.st.word]) (.agg #[.int .u64 ((runF (seg lg.evs q (x.idx - pos').toNat) (m', o')).1.now), .int .i8 ((runF (seg lg.evs q (x.idx - pos').toNat) (m', o')).1.cur), .int .u8 ((runF (seg lg.evs q (x.idx - pos').toNat) (m', o')).1.s0), .int .u8 ((runF (seg lg.evs q (x.idx - pos').toNat) (m', o')).1.s1), .int .u8 ((runF (seg lg.evs q (x.idx - pos').toNat) (m', o')).1.s2), .int .u8 ((runF (seg lg.evs q (x.idx - pos').toNat) (m', o')).1.s3), .int .u64 ((runF (seg lg.evs q (x.idx - pos').toNat) (m', o')).1.r0), .int .u64 ((runF (seg lg.evs q (x.idx - pos').toNat) (m', o')).1.r1), .int .u64 ((runF (seg lg.evs q (x.idx - pos').toNat) (m', o')).1.r2), .int .u64 ((runF (seg lg.evs q (x.idx - pos').toNat) (m', o')).1.r3), .int .u64 ((runF (seg lg.evs q (x.idx - pos').toNat) (m', o')).1.word)]) false ∧ True) (fuel := 0) h465 (by kernel_rfl) rfl (by kernel_rfl) (by kernel_rfl) ⟨trivial, trivial, trivial, rfl, trivial, rfl, trivial, trivial, trivial, trivial, trivial, rfl, trivial, rfl, trivial, trivial, trivial⟩ ⟨⟨by omega, by omega⟩, ⟨rfl, (pt_st hc452)⟩, ⟨rfl, rfl⟩, (by have hq := run46 y'.st (runF (seg lg.evs q (x.idx - pos').toNat) (m', o')).1; rw [show machEq y'.st (runF (seg lg.evs q (x.idx - pos').toNat) (m', o')).1 = false by simpa using hb463] at hq; exact hq), trivial⟩ fun a467 h468 => ?_
                    clear h465
                    refine wpAnyK_done (by kernel_rfl) ?_ _
                    refine hK462 _ _ ?_
                    clear hK462
                    refine c_true h468 rfl ?_
                    refine wp_seq_k fun K469 hK469 => ?_
                    refine nd_start (l := [0, 1, 2, 3, 4, 5, 6, 7, 8, 9]) rfl ?_
                    refine nd_batch tabOk tabZ_ok [(0, {}), (1, {}), (2, {}), (3, {}), (4, {}), (5, {}), (6, {k := 0}), (7, {}), (8, {})] [0, 1, 4, 5, 6, 9, 8, 7, 163] (T' := [(0, .pointer (some ⟨bl, 0, none⟩)), (1, .pointer (some ⟨bl, 0, none⟩)), (4, .pointer (some ⟨b2, 0, none⟩)), (5, .pointer (some ⟨b14, 0, none⟩)), (6, .int .i64 good), (9, .int .i64 x.idx), (8, .slice (some ⟨b448, (i' * 15), none⟩) (lg.sns.length - i') (sc - i')), (7, .slice (winA (some ⟨b72, 0, none⟩) mc j' 2) (lg.mks.length - j') (mc - j')), (163, .agg #[.int .i64 x.idx, .int .i64 good, .int .i64 (x.idx - lg.base.idx)])]) (φ := (bl = bl ∧ Nat.ble (0 + 1) 18 = true) ∧ inR .i64 (x.idx - lg.base.idx) ∧ True) (rest := [9]) h468 (by kernel_rfl) rfl ⟨⟨rfl, rfl⟩, ⟨by omega, by omega⟩, trivial⟩ fun a470 h471 => ?_
                    clear h468
                    refine nd_op ?_
                    refine op_store tabOk {k := 1} (L' := [(bl, ⟨logC lg.base (.slice eo lg.evs.length ec) (.slice (some ⟨b72, 0, none⟩) lg.mks.length mc) (.slice (some ⟨b448, 0, none⟩) lg.sns.length sc), 89, true⟩), (b2, ⟨[.int .i64 x.idx, .int .i64 good, .int .i64 (x.idx - lg.base.idx)], 114, false⟩), (b14, ⟨curC ((runF (seg lg.evs q (x.idx - pos').toNat) (m', o')).1) ((runF (seg lg.evs q (x.idx - pos').toNat) (m', o')).2) x.idx, 105, false⟩), (b72, ⟨cs73, 93, true⟩), (b448, ⟨cs449, 84, true⟩)]) (φ := b2 = b2 ∧ Nat.ble (0 + 3) 3 = true) h471 rfl rfl rfl (by kernel_rfl) ⟨rfl, rfl⟩ fun w472 h473 => ?_
                    clear h471
                    refine nd_done ?_
                    refine hK469 _ _ ?_
                    clear hK469
                    refine wp_ret ?_
                    have hres := hv.symm.trans (vloop_snap hnx hfin hs2 hvm hvs)
                    try simp only [Exit.then, Exit.inBlock]
                    try rw [if_pos trivial]
                    exact s_ret tabOk tabZ_ok h473 [(.cell 4 114, {k := 1})] (vs := [.agg #[.int .i64 x.idx, .int .i64 good, .int .i64 (x.idx - lg.base.idx)]]) (φ := (b2 = b2 ∧ Nat.ble (0 + 3) 3 = true) ∧ True) rfl (by kernel_rfl) ⟨⟨rfl, rfl⟩, trivial⟩ ⟨by rw [hres]; rfl, h473.frame⟩
                  ·
                    have hme : machEq y'.st (runF (seg lg.evs q (x.idx - pos').toNat) (m', o')).1 = true := by simpa using hb463
                    refine dr_start (KB := [bl, b2, b14, b72, b448]) (Bi := [[0, 1, 2, 3, 4], [0, 1, 2, 3, 4], [0, 1, 2, 3, 4], [0, 1, 2, 3, 4], [0, 1, 2, 3, 4], [0, 1, 2, 3, 4], [0, 1, 2, 3, 4], [0, 1, 2, 3, 4], [0, 1, 2, 3, 4], [0, 1, 2, 3, 4], [0, 1, 2, 3, 4], [0, 1, 2, 3, 4], [0, 1, 2, 3, 4], [0, 1, 2, 3, 4], [0, 1, 2, 3, 4], [0, 1, 2, 3, 4]]) mixed h459 fun w474 h475 => ?_
                    clear h459
                    refine dr_batch tabOk tabZ_ok (by repeat (first | exact PF.body | with_reducible apply PF.inB | with_reducible apply PF.next)) [(0, {}), (1, {}), (2, {}), (3, {k := 4, m := 1, vs := [.int .u64 y'.st.now, .int .i8 y'.st.cur, .int .u8 y'.st.s0, .int .u8 y'.st.s1, .int .u8 y'.st.s2, .int .u8 y'.st.s3, .int .u64 y'.st.r0, .int .u64 y'.st.r1, .int .u64 y'.st.r2, .int .u64 y'.st.r3, .int .u64 y'.st.word], p := 4}), (4, {}), (5, {k := 2, p := 2}), (6, {f := 1}), (7, {}), (8, {}), (9, {}), (10, {}), (11, {k := 4, m := 1, vs := [.bool y'.out.refused, .int .i8 y'.out.running, .int .u64 y'.out.value], p := 4}), (12, {}), (13, {k := 2, p := 2}), (14, {vs := [.bool (otEq y'.out (runF (seg lg.evs q (x.idx - pos').toNat) (m', o')).2)]}), (15, {})] [0, 1, 4, 5, 6, 9, 8, 7, 154] (T' := [(0, .pointer (some ⟨bl, 0, none⟩)), (1, .pointer (some ⟨bl, 0, none⟩)), (4, .pointer (some ⟨b2, 0, none⟩)), (5, .pointer (some ⟨b14, 0, none⟩)), (6, .int .i64 good), (9, .int .i64 x.idx), (8, .slice (some ⟨b448, (i' * 15), none⟩) (lg.sns.length - i') (sc - i')), (7, .slice (winA (some ⟨b72, 0, none⟩) mc j' 2) (lg.mks.length - j') (mc - j')), (154, .bool (Bool.xor true (otEq y'.out (runF (seg lg.evs q (x.idx - pos').toNat) (m', o')).2)))]) (φ := (0 ≤ (0 : Int) ∧ (0 : Int) < (((lg.sns.length - i') : Nat) : Int)) ∧ (b448 = b448 ∧ cellsAre cs449 ((i' * 15) + 1) [.int .u64 y'.st.now, .int .i8 y'.st.cur, .int .u8 y'.st.s0, .int .u8 y'.st.s1, .int .u8 y'.st.s2, .int .u8 y'.st.s3, .int .u64 y'.st.r0, .int .u64 y'.st.r1, .int .u64 y'.st.r2, .int .u64 y'.st.r3, .int .u64 y'.st.word]) ∧ (b14 = b14 ∧ Nat.ble (0 + 11) 15 = true) ∧ EqRun Tryf.prog 58 (.agg #[.int .u64 y'.st.now, .int .i8 y'.st.cur, .int .u8 y'.st.s0, .int .u8 y'.st.s1, .int .u8 y'.st.s2, .int .u8 y'.st.s3, .int .u64 y'.st.r0, .int .u64 y'.st.r1, .int .u64 y'.st.r2, .int .u64 y'.st.r3, .int .u64 y'.st.word]) (.agg #[.int .u64 ((runF (seg lg.evs q (x.idx - pos').toNat) (m', o')).1.now), .int .i8 ((runF (seg lg.evs q (x.idx - pos').toNat) (m', o')).1.cur), .int .u8 ((runF (seg lg.evs q (x.idx - pos').toNat) (m', o')).1.s0), .int .u8 ((runF (seg lg.evs q (x.idx - pos').toNat) (m', o')).1.s1), .int .u8 ((runF (seg lg.evs q (x.idx - pos').toNat) (m', o')).1.s2), .int .u8 ((runF (seg lg.evs q (x.idx - pos').toNat) (m', o')).1.s3), .int .u64 ((runF (seg lg.evs q (x.idx - pos').toNat) (m', o')).1.r0), .int .u64 ((runF (seg lg.evs q (x.idx - pos').toNat) (m', o')).1.r1), .int .u64 ((runF (seg lg.evs q (x.idx - pos').toNat) (m', o')).1.r2), .int .u64 ((runF (seg lg.evs q (x.idx - pos').toNat) (m', o')).1.r3), .int .u64 ((runF (seg lg.evs q (x.idx - pos').toNat) (m', o')).1.word)]) true ∧ (0 ≤ (0 : Int) ∧ (0 : Int) < (((lg.sns.length - i') : Nat) : Int)) ∧ (b448 = b448 ∧ cellsAre cs449 ((i' * 15) + 12) [.bool y'.out.refused, .int .i8 y'.out.running, .int .u64 y'.out.value]) ∧ (b14 = b14 ∧ Nat.ble (11 + 3) 15 = true) ∧ EqRun Tryf.prog 44 (.agg #[.bool y'.out.refused, .int .i8 y'.out.running, .int .u64 y'.out.value]) (.agg #[.bool ((runF (seg lg.evs q (x.idx - pos').toNat) (m', o')).2.refused), .int .i8 ((runF (seg lg.evs q (x.idx - pos').toNat) (m', o')).2.running), .int .u64 ((runF (seg lg.evs q (x.idx - pos').toNat) (m', o')).2.value)]) (otEq y'.out (runF (seg lg.evs q (x.idx - pos').toNat) (m', o')).2) ∧ True) (fuel := 0) h475 (by kernel_rfl) rfl (by kernel_rfl) (by kernel_rfl) ⟨trivial, trivial, trivial, rfl, trivial, rfl, trivial, trivial, trivial, trivial, trivial, rfl, trivial, rfl, trivial, trivial, trivial⟩ ⟨⟨by omega, by omega⟩, ⟨rfl, (pt_st hc452)⟩, ⟨rfl, rfl⟩, (by have hq := run46 y'.st (runF (seg lg.evs q (x.idx - pos').toNat) (m', o')).1; rw [show machEq y'.st (runF (seg lg.evs q (x.idx - pos').toNat) (m', o')).1 = true by simpa using hb463] at hq; exact hq), ⟨by omega, by omega⟩, ⟨rfl, (pt_out hc452)⟩, ⟨rfl, rfl⟩, run39 y'.out (runF (seg lg.evs q (x.idx - pos').toNat) (m', o')).2, trivial⟩ fun a477 h478 => ?_
                    clear h475
                    refine wpAnyK_done (by kernel_rfl) ?_ _
                    refine hK462 _ _ ?_
                    clear hK462
                    refine c_split h478 (b := (Bool.xor true (otEq y'.out (runF (seg lg.evs q (x.idx - pos').toNat) (m', o')).2))) rfl (fun hc479 => ?_) (fun hc479 => ?_)
                    ·
                      have hoe : otEq y'.out (runF (seg lg.evs q (x.idx - pos').toNat) (m', o')).2 = false := by simpa using hc479
                      have hvs := hi444.trans (vs_bad2 hy' hxn hoe)
                      refine wp_seq_k fun K480 hK480 => ?_
                      refine nd_start (l := [0, 1, 2, 3, 4, 5, 6, 7, 8, 9]) rfl ?_
                      refine nd_batch tabOk tabZ_ok [(0, {}), (1, {}), (2, {}), (3, {}), (4, {}), (5, {}), (6, {k := 0}), (7, {}), (8, {})] [0, 1, 4, 5, 6, 9, 8, 7, 163] (T' := [(0, .pointer (some ⟨bl, 0, none⟩)), (1, .pointer (some ⟨bl, 0, none⟩)), (4, .pointer (some ⟨b2, 0, none⟩)), (5, .pointer (some ⟨b14, 0, none⟩)), (6, .int .i64 good), (9, .int .i64 x.idx), (8, .slice (some ⟨b448, (i' * 15), none⟩) (lg.sns.length - i') (sc - i')), (7, .slice (winA (some ⟨b72, 0, none⟩) mc j' 2) (lg.mks.length - j') (mc - j')), (163, .agg #[.int .i64 x.idx, .int .i64 good, .int .i64 (x.idx - lg.base.idx)])]) (φ := (bl = bl ∧ Nat.ble (0 + 1) 18 = true) ∧ inR .i64 (x.idx - lg.base.idx) ∧ True) (rest := [9]) h478 (by kernel_rfl) rfl ⟨⟨rfl, rfl⟩, ⟨by omega, by omega⟩, trivial⟩ fun a481 h482 => ?_
                      clear h478
                      refine nd_op ?_
                      refine op_store tabOk {k := 1} (L' := [(bl, ⟨logC lg.base (.slice eo lg.evs.length ec) (.slice (some ⟨b72, 0, none⟩) lg.mks.length mc) (.slice (some ⟨b448, 0, none⟩) lg.sns.length sc), 89, true⟩), (b2, ⟨[.int .i64 x.idx, .int .i64 good, .int .i64 (x.idx - lg.base.idx)], 114, false⟩), (b14, ⟨curC ((runF (seg lg.evs q (x.idx - pos').toNat) (m', o')).1) ((runF (seg lg.evs q (x.idx - pos').toNat) (m', o')).2) x.idx, 105, false⟩), (b72, ⟨cs73, 93, true⟩), (b448, ⟨cs449, 84, true⟩)]) (φ := b2 = b2 ∧ Nat.ble (0 + 3) 3 = true) h482 rfl rfl rfl (by kernel_rfl) ⟨rfl, rfl⟩ fun w483 h484 => ?_
                      clear h482
                      refine nd_done ?_
                      refine hK480 _ _ ?_
                      clear hK480
                      refine wp_ret ?_
                      have hres := hv.symm.trans (vloop_snap hnx hfin hs2 hvm hvs)
                      try simp only [Exit.then, Exit.inBlock]
                      try rw [if_pos trivial]
                      exact s_ret tabOk tabZ_ok h484 [(.cell 4 114, {k := 1})] (vs := [.agg #[.int .i64 x.idx, .int .i64 good, .int .i64 (x.idx - lg.base.idx)]]) (φ := (b2 = b2 ∧ Nat.ble (0 + 3) 3 = true) ∧ True) rfl (by kernel_rfl) ⟨⟨rfl, rfl⟩, trivial⟩ ⟨by rw [hres]; rfl, h484.frame⟩
                    ·
                      have hoe : otEq y'.out (runF (seg lg.evs q (x.idx - pos').toNat) (m', o')).2 = true := by simpa using hc479
                      have hsame := hi444.trans (vs_same hy' hxn hme hoe)
                      refine wp_skip ?_
                      refine hK461 _ _ ?_
                      clear hK461
                      refine nd_start (l := [0, 1, 2]) rfl ?_
                      refine nd_batch tabOk tabZ_ok [(0, {}), (1, {}), (2, {})] [0, 1, 4, 5, 6, 9, 7, 8] (T' := [(0, .pointer (some ⟨bl, 0, none⟩)), (1, .pointer (some ⟨bl, 0, none⟩)), (4, .pointer (some ⟨b2, 0, none⟩)), (5, .pointer (some ⟨b14, 0, none⟩)), (6, .int .i64 good), (9, .int .i64 x.idx), (7, .slice (winA (some ⟨b72, 0, none⟩) mc j' 2) (lg.mks.length - j') (mc - j')), (8, .slice (sliceBase (some ⟨b448, (i' * 15), none⟩) (sc - i') 1 15) ((lg.sns.length - i') - 1) ((sc - i') - 1))]) (φ := (0 ≤ (1 : Int) ∧ (1 : Int) ≤ (((lg.sns.length - i') : Nat) : Int)) ∧ True) (rest := []) h478 (by kernel_rfl) rfl ⟨⟨by omega, by omega⟩, trivial⟩ fun a485 h486 => ?_
                      clear h478
                      refine nd_done ?_
                      have h487 := h486.memMono (L' := [(bl, ⟨logC lg.base (.slice eo lg.evs.length ec) (.slice (some ⟨b72, 0, none⟩) lg.mks.length mc) (.slice (some ⟨b448, 0, none⟩) lg.sns.length sc), 89, true⟩), (b2, ⟨[.int .i64 0, .int .i64 0, .int .i64 0], 114, false⟩), (b14, ⟨curC ((runF (seg lg.evs q (x.idx - pos').toNat) (m', o')).1) ((runF (seg lg.evs q (x.idx - pos').toNat) (m', o')).2) x.idx, 105, false⟩), (b72, ⟨cs73, 93, true⟩)]) (List.Sublist.cons_cons _ (List.Sublist.cons_cons _ (List.Sublist.cons_cons _ (List.Sublist.cons_cons _ (List.Sublist.cons _ List.Sublist.slnil)))))
                      clear h486
                      have e488 : sliceBase (some ⟨b448, (i' * 15), none⟩) (sc - i') 1 15 = winA (some ⟨b448, 0, none⟩) sc (i' + 1) 15 := by rw [← winA_some b448 15 hlt457]; exact winA_succ 15 (.inr ⟨b448, rfl⟩) hlt457
                      have e489 : lg.sns.length - i' - 1 = lg.sns.length - (i' + 1) := by omega
                      have e490 : sc - i' - 1 = sc - (i' + 1) := by omega
                      rw [e488, e489, e490] at h487
                      exact ⟨(gg - 1), by omega, (i' + 1), by omega, by omega, by omega, hsame, (h487.slotsMono (restr_spec (keep := [0, 1, 4, 5, 6, 9, 8, 7]) rfl))⟩
                ·
                  have hc460f : y'.idx ≠ x.idx := by simpa using hc460
                  refine wp_exit ?_
                  rw [← winA_some b448 15 hlt457] at h459
                  have hstop : ∀ z, lg.sns[i']? = some z → z.idx ≠ x.idx := (by intro z hz; rw [hy'] at hz; cases hz; exact hc460f)
                  exact hm427 i' _ _ hi441 hi442 (hi444.trans (vs_stop hstop)) hstop ((h459.memMono (List.Sublist.cons_cons _ (List.Sublist.cons_cons _ (List.Sublist.cons_cons _ (List.Sublist.cons_cons _ (List.Sublist.cons _ List.Sublist.slnil)))))).slotsMono (restr_spec (keep := [0, 1, 4, 5, 6, 9, 8, 7]) rfl))
              ·
                have hb447f : ¬ (((lg.sns.length - i') : Nat) : Int) > 0 := by simpa using hb447
                refine nd_start (l := [0, 1, 2, 3, 4, 5, 6, 7, 8, 9, 10]) rfl ?_
                refine nd_batch tabOk tabZ_ok [(0, {}), (1, {}), (2, {f := 1}), (3, {}), (4, {}), (5, {}), (6, {}), (7, {}), (8, {}), (9, {}), (10, {})] [0, 1, 4, 5, 6, 9, 8, 7, 136] (T' := [(0, .pointer (some ⟨bl, 0, none⟩)), (1, .pointer (some ⟨bl, 0, none⟩)), (4, .pointer (some ⟨b2, 0, none⟩)), (5, .pointer (some ⟨b14, 0, none⟩)), (6, .int .i64 good), (9, .int .i64 x.idx), (8, .slice (winA so sc i' 15) (lg.sns.length - i') (sc - i')), (7, .slice (winA (some ⟨b72, 0, none⟩) mc j' 2) (lg.mks.length - j') (mc - j')), (136, .bool false)]) (φ := (decide ((((lg.sns.length - i') : Nat) : Int) > 0)) = false ∧ True) (rest := []) h440 (by kernel_rfl) rfl ⟨hb447, trivial⟩ fun a491 h492 => ?_
                clear h440
                refine nd_done ?_
                refine hK446 _ _ ?_
                clear hK446
                refine c_false h492 rfl ?_
                refine wp_exit ?_
                have hstop : ∀ z, lg.sns[i']? = some z → z.idx ≠ x.idx := (by intro z hz; have := (List.getElem?_eq_some_iff.1 hz).1; omega)
                exact hm427 i' _ _ hi441 hi442 (hi444.trans (vs_stop hstop)) hstop (h492.slotsMono (restr_spec (keep := [0, 1, 4, 5, 6, 9, 8, 7]) rfl))
            clear hK417
            refine wp_loop_ghost (fun gg ga gw => ∃ (j' : Nat), (j' ≤ lg.mks.length) ∧ (j ≤ j') ∧ (gg = lg.mks.length - j') ∧ (vm x.idx (dig (runF (seg lg.evs q (x.idx - pos').toNat) (m', o')).1) (lg.mks.drop j) = vm x.idx (dig (runF (seg lg.evs q (x.idx - pos').toNat) (m', o')).1) (lg.mks.drop j')) ∧ St ⟨165, [], w, Rws [rl evC 31 3 lg.evs eo ec eF, rl mkC 93 2 lg.mks (some ⟨b72, 0, none⟩) mc ([b72]), rl ptC 84 15 lg.sns so sc sF], Ff [rl evC 31 3 lg.evs eo ec eF, rl mkC 93 2 lg.mks (some ⟨b72, 0, none⟩) mc ([b72]), rl ptC 84 15 lg.sns so sc sF]⟩ [(0, .pointer (some ⟨bl, 0, none⟩)), (1, .pointer (some ⟨bl, 0, none⟩)), (4, .pointer (some ⟨b2, 0, none⟩)), (5, .pointer (some ⟨b14, 0, none⟩)), (6, .int .i64 good), (9, .int .i64 x.idx), (7, .slice (winA (some ⟨b72, 0, none⟩) mc j' 2) (lg.mks.length - j') (mc - j')), (8, .slice (winA so sc i 15) (lg.sns.length - i) (sc - i))] [(bl, ⟨logC lg.base (.slice eo lg.evs.length ec) (.slice (some ⟨b72, 0, none⟩) lg.mks.length mc) (.slice so lg.sns.length sc), 89, true⟩), (b2, ⟨[.int .i64 0, .int .i64 0, .int .i64 0], 114, false⟩), (b14, ⟨curC ((runF (seg lg.evs q (x.idx - pos').toNat) (m', o')).1) ((runF (seg lg.evs q (x.idx - pos').toNat) (m', o')).2) x.idx, 105, false⟩), (b72, ⟨cs73, 93, true⟩)] ga gw) (lg.mks.length - j) ⟨j, by omega, Nat.le_refl _, rfl, rfl, (h415.slotsMono (restr_spec (keep := [0, 1, 4, 5, 6, 9, 7, 8]) rfl))⟩ ?_
            clear h415
            rintro gg a493 w494 ⟨j', hi496, hi497, hi498, hi499, h495⟩
            refine wp_seq_k fun K500 hK500 => ?_
            refine wp_seq_k fun K501 hK501 => ?_
            rcases Bool.eq_false_or_eq_true (decide ((((lg.mks.length - j') : Nat) : Int) > 0)) with hb502 | hb502
            ·
              have hb502f : (((lg.mks.length - j') : Nat) : Int) > 0 := by simpa using hb502
              obtain ⟨x', hx'⟩ := Sx.get_some (xs := lg.mks) (i := j') (by omega)
              have hc503 := rl_at (h495.inv.get (j := 1) rfl) (h495.kn (k := 3) rfl) mkC_len hx'
              have hlt504 : j' < mc := by have h1 : lg.mks.length ≤ mc := rl_cap (h495.inv.get (j := 1) rfl); have h2 := (List.getElem?_eq_some_iff.1 hx').1; omega
              rw [winA_some b72 2 hlt504] at h495
              refine nd_start (l := [0, 1, 2, 3, 4, 5, 6, 7, 8, 9, 10]) rfl ?_
              refine nd_batch tabOk tabZ_ok [(0, {}), (1, {}), (2, {f := 2}), (3, {}), (4, {}), (5, {}), (6, {}), (7, {k := 3, m := 1, vs := [.int .i64 x'.idx]}), (8, {}), (9, {}), (10, {})] [0, 1, 4, 5, 6, 9, 7, 8, 107] (T' := [(0, .pointer (some ⟨bl, 0, none⟩)), (1, .pointer (some ⟨bl, 0, none⟩)), (4, .pointer (some ⟨b2, 0, none⟩)), (5, .pointer (some ⟨b14, 0, none⟩)), (6, .int .i64 good), (9, .int .i64 x.idx), (7, .slice (some ⟨b72, (j' * 2), none⟩) (lg.mks.length - j') (mc - j')), (8, .slice (winA so sc i 15) (lg.sns.length - i) (sc - i)), (107, .bool (x'.idx == x.idx))]) (φ := (decide ((((lg.mks.length - j') : Nat) : Int) > 0)) = true ∧ (0 ≤ (0 : Int) ∧ (0 : Int) < (((lg.mks.length - j') : Nat) : Int)) ∧ (b72 = b72 ∧ cellsAre cs73 (j' * 2) [.int .i64 x'.idx]) ∧ True) (rest := []) h495 (by kernel_rfl) rfl ⟨hb502, ⟨by omega, by omega⟩, ⟨rfl, ⟨(hc503).1, trivial⟩⟩, trivial⟩ fun a505 h506 => ?_
              clear h495
              refine nd_done ?_
              refine hK501 _ _ ?_
              clear hK501
              refine c_split h506 (b := (x'.idx == x.idx)) rfl (fun hc507 => ?_) (fun hc507 => ?_)
              ·
                have hc507f : x'.idx = x.idx := by simpa using hc507
                have hxn : x'.idx = x.idx := hc507f
                refine wp_skip ?_
                refine hK500 _ _ ?_
                clear hK500
                refine wp_seq_k fun K508 hK508 => ?_
                refine wp_block ?_
                refine wp_seq_k fun K509 hK509 => ?_
                refine dr_start (KB := [bl, b2, b14, b72]) (Bi := [[0, 1, 2, 3], [0, 1, 2, 3], [0, 1, 2, 3], [0, 1, 2, 3], [0, 1, 2, 3], [3], [0, 1, 2, 3]]) mixed h506 fun w510 h511 => ?_
                clear h506
                refine dr_batch tabOk tabZ_ok (by repeat (first | exact PF.body | with_reducible apply PF.inB | with_reducible apply PF.next)) [(0, {}), (1, {}), (2, {}), (3, {k := 3, m := 1, vs := [.int .u64 x'.sum], p := 3}), (4, {})] [0, 1, 4, 5, 6, 9, 7, 8, 113, 114] (T' := [(0, .pointer (some ⟨bl, 0, none⟩)), (1, .pointer (some ⟨bl, 0, none⟩)), (4, .pointer (some ⟨b2, 0, none⟩)), (5, .pointer (some ⟨b14, 0, none⟩)), (6, .int .i64 good), (9, .int .i64 x.idx), (7, .slice (some ⟨b72, (j' * 2), none⟩) (lg.mks.length - j') (mc - j')), (8, .slice (winA so sc i 15) (lg.sns.length - i) (sc - i)), (113, .int .u64 x'.sum), (114, .pointer (some ⟨b14, 0, none⟩))]) (φ := (0 ≤ (0 : Int) ∧ (0 : Int) < (((lg.mks.length - j') : Nat) : Int)) ∧ (b72 = b72 ∧ cellsAre cs73 ((j' * 2) + 1) [.int .u64 x'.sum]) ∧ True) (fuel := 2) h511 (by kernel_rfl) rfl (by kernel_rfl) (by kernel_rfl) ⟨trivial, trivial, trivial, rfl, trivial, trivial⟩ ⟨⟨by omega, by omega⟩, ⟨rfl, ⟨(hc503).2.1, trivial⟩⟩, trivial⟩ fun a513 h514 => ?_
                clear h511
                refine wpAnyK_one (i := 5) (fuel := 1) (by kernel_rfl) ?_
                refine op_call h514 rfl rfl rfl (callOk Tryf.func51 (by decide) rfl) (args := [.pointer (some ⟨b14, 0, none⟩)]) rfl (digest_ok [] (outC (runF (seg lg.evs q (x.idx - pos').toNat) (m', o')).2 ++ [.int .i64 x.idx]) (runF (seg lg.evs q (x.idx - pos').toNat) (m', o')).1 hmok2 b14 105 false _ (h514.kn (k := 2) rfl)) ?_
                rintro _ w515 ⟨rfl, hf517⟩
                refine ⟨_, rfl, ?_⟩
                have h516 := (h514.grow hf517).put (d := some 115) (v := .int .u64 (dig (runF (seg lg.evs q (x.idx - pos').toNat) (m', o')).1)) (T' := [(115, .int .u64 (dig (runF (seg lg.evs q (x.idx - pos').toNat) (m', o')).1)), (0, .pointer (some ⟨bl, 0, none⟩)), (1, .pointer (some ⟨bl, 0, none⟩)), (4, .pointer (some ⟨b2, 0, none⟩)), (5, .pointer (some ⟨b14, 0, none⟩)), (6, .int .i64 good), (9, .int .i64 x.idx), (7, .slice (some ⟨b72, (j' * 2), none⟩) (lg.mks.length - j') (mc - j')), (8, .slice (winA so sc i 15) (lg.sns.length - i) (sc - i)), (113, .int .u64 x'.sum), (114, .pointer (some ⟨b14, 0, none⟩))]) rfl
                refine ⟨(h514.keepFr hf517 (kcons (by simp) knil)), ?_⟩
                clear h514
                refine dr_batch tabOk tabZ_ok (by repeat (first | exact PF.body | with_reducible apply PF.inB | with_reducible apply PF.next)) [(6, {})] [0, 1, 4, 5, 6, 9, 7, 8, 116] (T' := [(0, .pointer (some ⟨bl, 0, none⟩)), (1, .pointer (some ⟨bl, 0, none⟩)), (4, .pointer (some ⟨b2, 0, none⟩)), (5, .pointer (some ⟨b14, 0, none⟩)), (6, .int .i64 good), (9, .int .i64 x.idx), (7, .slice (some ⟨b72, (j' * 2), none⟩) (lg.mks.length - j') (mc - j')), (8, .slice (winA so sc i 15) (lg.sns.length - i) (sc - i)), (116, .bool (x'.sum != (dig (runF (seg lg.evs q (x.idx - pos').toNat) (m', o')).1)))]) (φ := True) (fuel := 0) h516 (by kernel_rfl) rfl (by kernel_rfl) (by kernel_rfl) ⟨trivial, trivial⟩ trivial fun a518 h519 => ?_
                clear h516
                refine wpAnyK_done (by kernel_rfl) ?_ _
                refine hK509 _ _ ?_
                clear hK509
                refine c_split h519 (b := (x'.sum != (dig (runF (seg lg.evs q (x.idx - pos').toNat) (m', o')).1))) rfl (fun hc520 => ?_) (fun hc520 => ?_)
                ·
                  have hc520f : x'.sum ≠ (dig (runF (seg lg.evs q (x.idx - pos').toNat) (m', o')).1) := by simpa using hc520
                  have hvm := hi499.trans (vm_bad hx' hxn hc520f)
                  refine wp_seq_k fun K521 hK521 => ?_
                  refine nd_start (l := [0, 1, 2, 3, 4, 5, 6, 7, 8, 9]) rfl ?_
                  refine nd_batch tabOk tabZ_ok [(0, {}), (1, {}), (2, {}), (3, {}), (4, {}), (5, {}), (6, {k := 0}), (7, {}), (8, {})] [0, 1, 4, 5, 6, 9, 7, 8, 125] (T' := [(0, .pointer (some ⟨bl, 0, none⟩)), (1, .pointer (some ⟨bl, 0, none⟩)), (4, .pointer (some ⟨b2, 0, none⟩)), (5, .pointer (some ⟨b14, 0, none⟩)), (6, .int .i64 good), (9, .int .i64 x.idx), (7, .slice (some ⟨b72, (j' * 2), none⟩) (lg.mks.length - j') (mc - j')), (8, .slice (winA so sc i 15) (lg.sns.length - i) (sc - i)), (125, .agg #[.int .i64 x.idx, .int .i64 good, .int .i64 (x.idx - lg.base.idx)])]) (φ := (bl = bl ∧ Nat.ble (0 + 1) 18 = true) ∧ inR .i64 (x.idx - lg.base.idx) ∧ True) (rest := [9]) h519 (by kernel_rfl) rfl ⟨⟨rfl, rfl⟩, ⟨by omega, by omega⟩, trivial⟩ fun a522 h523 => ?_
                  clear h519
                  refine nd_op ?_
                  refine op_store tabOk {k := 1} (L' := [(bl, ⟨logC lg.base (.slice eo lg.evs.length ec) (.slice (some ⟨b72, 0, none⟩) lg.mks.length mc) (.slice so lg.sns.length sc), 89, true⟩), (b2, ⟨[.int .i64 x.idx, .int .i64 good, .int .i64 (x.idx - lg.base.idx)], 114, false⟩), (b14, ⟨curC ((runF (seg lg.evs q (x.idx - pos').toNat) (m', o')).1) ((runF (seg lg.evs q (x.idx - pos').toNat) (m', o')).2) x.idx, 105, false⟩), (b72, ⟨cs73, 93, true⟩)]) (φ := b2 = b2 ∧ Nat.ble (0 + 3) 3 = true) h523 rfl rfl rfl (by kernel_rfl) ⟨rfl, rfl⟩ fun w524 h525 => ?_
                  clear h523
                  refine nd_done ?_
                  refine hK521 _ _ ?_
                  clear hK521
                  refine wp_ret ?_
                  have hres := hv.symm.trans (vloop_mark hnx hfin hs2 hvm)
                  try simp only [Exit.then, Exit.inBlock]
                  try rw [if_pos trivial]
                  exact s_ret tabOk tabZ_ok h525 [(.cell 4 114, {k := 1})] (vs := [.agg #[.int .i64 x.idx, .int .i64 good, .int .i64 (x.idx - lg.base.idx)]]) (φ := (b2 = b2 ∧ Nat.ble (0 + 3) 3 = true) ∧ True) rfl (by kernel_rfl) ⟨⟨rfl, rfl⟩, trivial⟩ ⟨by rw [hres]; rfl, h525.frame⟩
                ·
                  have hc520f : x'.sum = (dig (runF (seg lg.evs q (x.idx - pos').toNat) (m', o')).1) := by simpa using hc520
                  have hsame := hi499.trans (vm_same hx' hxn hc520f)
                  refine wp_skip ?_
                  refine hK508 _ _ ?_
                  clear hK508
                  refine nd_start (l := [0, 1, 2]) rfl ?_
                  refine nd_batch tabOk tabZ_ok [(0, {}), (1, {}), (2, {})] [0, 1, 4, 5, 6, 9, 8, 7] (T' := [(0, .pointer (some ⟨bl, 0, none⟩)), (1, .pointer (some ⟨bl, 0, none⟩)), (4, .pointer (some ⟨b2, 0, none⟩)), (5, .pointer (some ⟨b14, 0, none⟩)), (6, .int .i64 good), (9, .int .i64 x.idx), (8, .slice (winA so sc i 15) (lg.sns.length - i) (sc - i)), (7, .slice (sliceBase (some ⟨b72, (j' * 2), none⟩) (mc - j') 1 2) ((lg.mks.length - j') - 1) ((mc - j') - 1))]) (φ := (0 ≤ (1 : Int) ∧ (1 : Int) ≤ (((lg.mks.length - j') : Nat) : Int)) ∧ True) (rest := []) h519 (by kernel_rfl) rfl ⟨⟨by omega, by omega⟩, trivial⟩ fun a526 h527 => ?_
                  clear h519
                  refine nd_done ?_
                  have e528 : sliceBase (some ⟨b72, (j' * 2), none⟩) (mc - j') 1 2 = winA (some ⟨b72, 0, none⟩) mc (j' + 1) 2 := by rw [← winA_some b72 2 hlt504]; exact winA_succ 2 (.inr ⟨b72, rfl⟩) hlt504
                  have e529 : lg.mks.length - j' - 1 = lg.mks.length - (j' + 1) := by omega
                  have e530 : mc - j' - 1 = mc - (j' + 1) := by omega
                  rw [e528, e529, e530] at h527
                  exact ⟨(gg - 1), by omega, (j' + 1), by omega, by omega, by omega, hsame, (h527.slotsMono (restr_spec (keep := [0, 1, 4, 5, 6, 9, 7, 8]) rfl))⟩
              ·
                have hc507f : x'.idx ≠ x.idx := by simpa using hc507
                refine wp_exit ?_
                rw [← winA_some b72 2 hlt504] at h506
                have hstop : ∀ z, lg.mks[j']? = some z → z.idx ≠ x.idx := (by intro z hz; rw [hx'] at hz; cases hz; exact hc507f)
                exact hm418 j' _ _ hi496 hi497 (hi499.trans (vm_stop hstop)) hstop (h506.slotsMono (restr_spec (keep := [0, 1, 4, 5, 6, 9, 7, 8]) rfl))
            ·
              have hb502f : ¬ (((lg.mks.length - j') : Nat) : Int) > 0 := by simpa using hb502
              refine nd_start (l := [0, 1, 2, 3, 4, 5, 6, 7, 8, 9, 10]) rfl ?_
              refine nd_batch tabOk tabZ_ok [(0, {}), (1, {}), (2, {f := 1}), (3, {}), (4, {}), (5, {}), (6, {}), (7, {}), (8, {}), (9, {}), (10, {})] [0, 1, 4, 5, 6, 9, 7, 8, 107] (T' := [(0, .pointer (some ⟨bl, 0, none⟩)), (1, .pointer (some ⟨bl, 0, none⟩)), (4, .pointer (some ⟨b2, 0, none⟩)), (5, .pointer (some ⟨b14, 0, none⟩)), (6, .int .i64 good), (9, .int .i64 x.idx), (7, .slice (winA (some ⟨b72, 0, none⟩) mc j' 2) (lg.mks.length - j') (mc - j')), (8, .slice (winA so sc i 15) (lg.sns.length - i) (sc - i)), (107, .bool false)]) (φ := (decide ((((lg.mks.length - j') : Nat) : Int) > 0)) = false ∧ True) (rest := []) h495 (by kernel_rfl) rfl ⟨hb502, trivial⟩ fun a531 h532 => ?_
              clear h495
              refine nd_done ?_
              refine hK501 _ _ ?_
              clear hK501
              refine c_false h532 rfl ?_
              refine wp_exit ?_
              have hstop : ∀ z, lg.mks[j']? = some z → z.idx ≠ x.idx := (by intro z hz; have := (List.getElem?_eq_some_iff.1 hz).1; omega)
              exact hm418 j' _ _ hi496 hi497 (hi499.trans (vm_stop hstop)) hstop (h532.slotsMono (restr_spec (keep := [0, 1, 4, 5, 6, 9, 7, 8]) rfl))
      ·
        have hc71f : ¬ (((lg.mks.length - j) : Nat) : Int) > 0 := by simpa using hc71
        refine wp_skip ?_
        refine hK67 _ _ ?_
        clear hK67
        refine wp_seq_k fun K533 hK533 => ?_
        refine wp_seq_k fun K534 hK534 => ?_
        rcases Bool.eq_false_or_eq_true (decide ((((lg.sns.length - i) : Nat) : Int) > 0)) with hb535 | hb535
        ·
          have hb535f : (((lg.sns.length - i) : Nat) : Int) > 0 := by simpa using hb535
          obtain ⟨y, hy⟩ := Sx.get_some (xs := lg.sns) (i := i) (by omega)
          have hyw := hin y (List.mem_of_getElem? hy)
          have hyg := hgs y (by rw [drop_at hy]; simp)
          obtain ⟨b536, cs537, ho538, hb539, hc540, hF541, hq543, hl544⟩ := rl_open (h70.inv.get (j := 2) rfl) ptC_len hy
          subst ho538 hF541
          have h542 := h70.open_ hb539 (h70.notinL (by simp [Ff]) (kcons (fun _ => (fun hq => hsep (by have hq2 : bl = b536 := hq; rw [hq2]; simp [Hd.F]))) (kcons (by intro hq; cases hq) (kcons (by intro hq; cases hq) knil))))
          clear h70
          have hlt545 : i < sc := by have h1 : lg.sns.length ≤ sc := rl_cap (h542.inv.get (j := 2) rfl); have h2 := (List.getElem?_eq_some_iff.1 hy).1; omega
          rw [winA_some b536 15 hlt545] at h542
          refine nd_start (l := [0, 1, 2, 3, 4, 5, 6, 7, 8, 9, 10]) rfl ?_
          refine nd_batch tabOk tabZ_ok [(0, {}), (1, {}), (2, {f := 2}), (3, {}), (4, {}), (5, {}), (6, {}), (7, {k := 3, m := 1, vs := [.int .i64 y.idx]}), (8, {}), (9, {}), (10, {})] [0, 1, 4, 5, 6, 7, 8, 9, 72] (T' := [(0, .pointer (some ⟨bl, 0, none⟩)), (1, .pointer (some ⟨bl, 0, none⟩)), (4, .pointer (some ⟨b2, 0, none⟩)), (5, .pointer (some ⟨b14, 0, none⟩)), (6, .int .i64 good), (7, .slice (winA mo mc j 2) (lg.mks.length - j) (mc - j)), (8, .slice (some ⟨b536, (i * 15), none⟩) (lg.sns.length - i) (sc - i)), (9, .int .i64 ((lg.base.idx + (lg.evs.length : Int)) + 1)), (72, .bool (decide (y.idx < ((lg.base.idx + (lg.evs.length : Int)) + 1))))]) (φ := (decide ((((lg.sns.length - i) : Nat) : Int) > 0)) = true ∧ (0 ≤ (0 : Int) ∧ (0 : Int) < (((lg.sns.length - i) : Nat) : Int)) ∧ (b536 = b536 ∧ cellsAre cs537 (i * 15) [.int .i64 y.idx]) ∧ True) (rest := []) h542 (by kernel_rfl) rfl ⟨hb535, ⟨by omega, by omega⟩, ⟨rfl, (pt_idx hc540)⟩, trivial⟩ fun a546 h547 => ?_
          clear h542
          refine nd_done ?_
          refine hK534 _ _ ?_
          clear hK534
          refine c_split h547 (b := decide (y.idx < ((lg.base.idx + (lg.evs.length : Int)) + 1))) rfl (fun hc548 => ?_) (fun hc548 => ?_)
          ·
            have hc548f : y.idx < ((lg.base.idx + (lg.evs.length : Int)) + 1) := by simpa using hc548
            refine nd_start (l := [0, 1, 2, 3, 4]) rfl ?_
            refine nd_batch tabOk tabZ_ok [(0, {}), (1, {}), (2, {}), (3, {k := 3, m := 1, vs := [.int .i64 y.idx]}), (4, {})] [0, 1, 4, 5, 6, 7, 8, 9] (T' := [(0, .pointer (some ⟨bl, 0, none⟩)), (1, .pointer (some ⟨bl, 0, none⟩)), (4, .pointer (some ⟨b2, 0, none⟩)), (5, .pointer (some ⟨b14, 0, none⟩)), (6, .int .i64 good), (7, .slice (winA mo mc j 2) (lg.mks.length - j) (mc - j)), (8, .slice (some ⟨b536, (i * 15), none⟩) (lg.sns.length - i) (sc - i)), (9, .int .i64 y.idx)]) (φ := (0 ≤ (0 : Int) ∧ (0 : Int) < (((lg.sns.length - i) : Nat) : Int)) ∧ (b536 = b536 ∧ cellsAre cs537 (i * 15) [.int .i64 y.idx]) ∧ True) (rest := []) h547 (by kernel_rfl) rfl ⟨⟨by omega, by omega⟩, ⟨rfl, (pt_idx hc540)⟩, trivial⟩ fun a549 h550 => ?_
            clear h547
            refine nd_done ?_
            refine hK533 _ _ ?_
            clear hK533
            refine wp_seq_k fun K551 hK551 => ?_
            refine wp_seq_k fun K552 hK552 => ?_
            refine nd_start (l := [0, 1, 2, 3]) rfl ?_
            refine nd_batch tabOk tabZ_ok [(0, {}), (1, {})] [0, 1, 4, 5, 6, 7, 8, 9, 77, 78] (T' := [(0, .pointer (some ⟨bl, 0, none⟩)), (1, .pointer (some ⟨bl, 0, none⟩)), (4, .pointer (some ⟨b2, 0, none⟩)), (5, .pointer (some ⟨b14, 0, none⟩)), (6, .int .i64 good), (7, .slice (winA mo mc j 2) (lg.mks.length - j) (mc - j)), (8, .slice (some ⟨b536, (i * 15), none⟩) (lg.sns.length - i) (sc - i)), (9, .int .i64 y.idx), (77, .int .i64 y.idx), (78, .pointer (some ⟨bl, 0, none⟩))]) (φ := True) (rest := [2, 3]) h550 (by kernel_rfl) rfl trivial fun a553 h554 => ?_
            clear h550
            refine nd_op ?_
            refine op_call h554 rfl rfl rfl (callOk Tryf.func41 (by decide) rfl) (args := [.pointer (some ⟨bl, 0, none⟩)]) rfl (end_ok bl lg.base eo lg.evs.length ec (.slice mo lg.mks.length mc) (.slice (some ⟨b536, 0, none⟩) lg.sns.length sc) true _ (h554.kn (k := 0) rfl) hb0 (by omega) (by omega)) ?_
            rintro _ w555 ⟨rfl, hf557⟩
            refine ⟨_, rfl, ?_⟩
            have h556 := (h554.grow hf557).put (d := some 79) (v := .int .i64 (lg.base.idx + (lg.evs.length : Int))) (T' := [(79, .int .i64 (lg.base.idx + (lg.evs.length : Int))), (0, .pointer (some ⟨bl, 0, none⟩)), (1, .pointer (some ⟨bl, 0, none⟩)), (4, .pointer (some ⟨b2, 0, none⟩)), (5, .pointer (some ⟨b14, 0, none⟩)), (6, .int .i64 good), (7, .slice (winA mo mc j 2) (lg.mks.length - j) (mc - j)), (8, .slice (some ⟨b536, (i * 15), none⟩) (lg.sns.length - i) (sc - i)), (9, .int .i64 y.idx), (77, .int .i64 y.idx), (78, .pointer (some ⟨bl, 0, none⟩))]) rfl
            clear h554
            refine nd_batch tabOk tabZ_ok [(3, {})] [0, 1, 4, 5, 6, 7, 8, 9, 80] (T' := [(0, .pointer (some ⟨bl, 0, none⟩)), (1, .pointer (some ⟨bl, 0, none⟩)), (4, .pointer (some ⟨b2, 0, none⟩)), (5, .pointer (some ⟨b14, 0, none⟩)), (6, .int .i64 good), (7, .slice (winA mo mc j 2) (lg.mks.length - j) (mc - j)), (8, .slice (some ⟨b536, (i * 15), none⟩) (lg.sns.length - i) (sc - i)), (9, .int .i64 y.idx), (80, .bool (decide (y.idx > (lg.base.idx + (lg.evs.length : Int)))))]) (φ := True) (rest := []) h556 (by kernel_rfl) rfl trivial fun a558 h559 => ?_
            clear h556
            refine nd_done ?_
            refine hK552 _ _ ?_
            clear hK552
            refine c_split h559 (b := decide (y.idx > (lg.base.idx + (lg.evs.length : Int)))) rfl (fun hc560 => ?_) (fun hc560 => ?_)
            ·
              have hc560f : y.idx > (lg.base.idx + (lg.evs.length : Int)) := by simpa using hc560
              have hnx : nextOf lg.fin (lg.mks.drop j) (lg.sns.drop i) = y.idx := by rw [next_s (fin := lg.fin) (by omega) hy, if_pos (by omega)]
              have hfin : lg.fin < y.idx := hc560f
              refine wp_seq_k fun K561 hK561 => ?_
              refine nd_start (l := [0, 1, 2, 3]) rfl ?_
              refine nd_batch tabOk tabZ_ok [(0, {}), (1, {})] [0, 1, 4, 5, 6, 7, 8, 9, 81, 82] (T' := [(0, .pointer (some ⟨bl, 0, none⟩)), (1, .pointer (some ⟨bl, 0, none⟩)), (4, .pointer (some ⟨b2, 0, none⟩)), (5, .pointer (some ⟨b14, 0, none⟩)), (6, .int .i64 good), (7, .slice (winA mo mc j 2) (lg.mks.length - j) (mc - j)), (8, .slice (some ⟨b536, (i * 15), none⟩) (lg.sns.length - i) (sc - i)), (9, .int .i64 y.idx), (81, .pointer (some ⟨bl, 0, none⟩)), (82, .pointer (some ⟨bl, 0, none⟩))]) (φ := True) (rest := [2, 3]) h559 (by kernel_rfl) rfl trivial fun a562 h563 => ?_
              clear h559
              refine nd_op ?_
              refine op_call h563 rfl rfl rfl (callOk Tryf.func41 (by decide) rfl) (args := [.pointer (some ⟨bl, 0, none⟩)]) rfl (end_ok bl lg.base eo lg.evs.length ec (.slice mo lg.mks.length mc) (.slice (some ⟨b536, 0, none⟩) lg.sns.length sc) true _ (h563.kn (k := 0) rfl) hb0 (by omega) (by omega)) ?_
              rintro _ w564 ⟨rfl, hf566⟩
              refine ⟨_, rfl, ?_⟩
              have h565 := (h563.grow hf566).put (d := some 83) (v := .int .i64 (lg.base.idx + (lg.evs.length : Int))) (T' := [(83, .int .i64 (lg.base.idx + (lg.evs.length : Int))), (0, .pointer (some ⟨bl, 0, none⟩)), (1, .pointer (some ⟨bl, 0, none⟩)), (4, .pointer (some ⟨b2, 0, none⟩)), (5, .pointer (some ⟨b14, 0, none⟩)), (6, .int .i64 good), (7, .slice (winA mo mc j 2) (lg.mks.length - j) (mc - j)), (8, .slice (some ⟨b536, (i * 15), none⟩) (lg.sns.length - i) (sc - i)), (9, .int .i64 y.idx), (81, .pointer (some ⟨bl, 0, none⟩)), (82, .pointer (some ⟨bl, 0, none⟩))]) rfl
              clear h563
              refine nd_op ?_
              refine op_call h565 rfl rfl rfl (callOk Tryf.func44 (by decide) rfl) (args := [.pointer (some ⟨b14, 0, none⟩), .pointer (some ⟨bl, 0, none⟩), .int .i64 (lg.base.idx + (lg.evs.length : Int))]) rfl (run_ok b14 bl ⟨eo, ec, eF, mo, mc, mF, (some ⟨b536, 0, none⟩), sc, [b536]⟩ lg _ (LogAt.of (d := ⟨eo, ec, eF, mo, mc, mF, (some ⟨b536, 0, none⟩), sc, [b536]⟩) (h565.kn (k := 0) rfl) h565.inv hsep) m' o' pos' (lg.base.idx + (lg.evs.length : Int)) q ((lg.base.idx + (lg.evs.length : Int)) - pos').toNat (h565.kn (k := 2) rfl) (h565.ne 2 0 rfl rfl rfl) (h565.dj (k := 2) rfl rfl) hev hmok hq (by omega) (by omega) (by omega) hb0 (by omega)) ?_
              rintro _ w567 ⟨rfl, hbs, hf569⟩
              refine ⟨_, rfl, ?_⟩
              have h568 := (h565.setBlk (k := 2) rfl rfl hf569 hbs (L' := [(bl, ⟨logC lg.base (.slice eo lg.evs.length ec) (.slice mo lg.mks.length mc) (.slice (some ⟨b536, 0, none⟩) lg.sns.length sc), 89, true⟩), (b2, ⟨[.int .i64 0, .int .i64 0, .int .i64 0], 114, false⟩), (b14, ⟨curC ((runF (seg lg.evs q ((lg.base.idx + (lg.evs.length : Int)) - pos').toNat) (m', o')).1) ((runF (seg lg.evs q ((lg.base.idx + (lg.evs.length : Int)) - pos').toNat) (m', o')).2) (lg.base.idx + (lg.evs.length : Int)), 105, false⟩), (b536, ⟨cs537, 84, true⟩)]) rfl).put (d := some 84) (v := .tuple #[]) (T' := [(84, .tuple #[]), (83, .int .i64 (lg.base.idx + (lg.evs.length : Int))), (0, .pointer (some ⟨bl, 0, none⟩)), (1, .pointer (some ⟨bl, 0, none⟩)), (4, .pointer (some ⟨b2, 0, none⟩)), (5, .pointer (some ⟨b14, 0, none⟩)), (6, .int .i64 good), (7, .slice (winA mo mc j 2) (lg.mks.length - j) (mc - j)), (8, .slice (some ⟨b536, (i * 15), none⟩) (lg.sns.length - i) (sc - i)), (9, .int .i64 y.idx), (81, .pointer (some ⟨bl, 0, none⟩)), (82, .pointer (some ⟨bl, 0, none⟩))]) rfl
              clear h565
              refine nd_done ?_
              refine hK561 _ _ ?_
              clear hK561
              refine wp_seq_k fun K570 hK570 => ?_
              refine dr_start (KB := [bl, b2, b14, b536]) (Bi := [[0, 1, 2, 3], [0, 1, 2, 3], [0, 1, 2, 3], [0, 1, 2, 3], [0, 1, 2, 3], [0, 1, 2, 3], [0, 1, 2, 3], [0, 1, 2, 3], [0, 1, 2, 3], []]) mixed h568 fun w571 h572 => ?_
              clear h568
              refine dr_batch tabOk tabZ_ok (by repeat (first | exact PF.body | with_reducible apply PF.inB | with_reducible apply PF.next)) [(0, {}), (1, {}), (2, {k := 2, p := 2}), (3, {}), (4, {}), (5, {}), (6, {k := 0, p := 0}), (7, {}), (8, {})] [0, 1, 4, 5, 6, 7, 8, 9, 93] (T' := [(0, .pointer (some ⟨bl, 0, none⟩)), (1, .pointer (some ⟨bl, 0, none⟩)), (4, .pointer (some ⟨b2, 0, none⟩)), (5, .pointer (some ⟨b14, 0, none⟩)), (6, .int .i64 good), (7, .slice (winA mo mc j 2) (lg.mks.length - j) (mc - j)), (8, .slice (some ⟨b536, (i * 15), none⟩) (lg.sns.length - i) (sc - i)), (9, .int .i64 y.idx), (93, .agg #[.int .i64 (-1), .int .i64 good, .int .i64 ((lg.base.idx + (lg.evs.length : Int)) - lg.base.idx)])]) (φ := (b14 = b14 ∧ Nat.ble (14 + 1) 15 = true) ∧ (bl = bl ∧ Nat.ble (0 + 1) 18 = true) ∧ inR .i64 ((lg.base.idx + (lg.evs.length : Int)) - lg.base.idx) ∧ True) (fuel := 1) h572 (by kernel_rfl) rfl (by kernel_rfl) (by kernel_rfl) ⟨trivial, trivial, rfl, trivial, trivial, trivial, rfl, trivial, trivial, trivial⟩ ⟨⟨rfl, rfl⟩, ⟨rfl, rfl⟩, ⟨by omega, by omega⟩, trivial⟩ fun a574 h575 => ?_
              clear h572
              refine wpAnyK_one (i := 9) (fuel := 0) (by kernel_rfl) ?_
              refine op_store tabOk {k := 1} (L' := [(bl, ⟨logC lg.base (.slice eo lg.evs.length ec) (.slice mo lg.mks.length mc) (.slice (some ⟨b536, 0, none⟩) lg.sns.length sc), 89, true⟩), (b2, ⟨[.int .i64 (-1), .int .i64 good, .int .i64 ((lg.base.idx + (lg.evs.length : Int)) - lg.base.idx)], 114, false⟩), (b14, ⟨curC ((runF (seg lg.evs q ((lg.base.idx + (lg.evs.length : Int)) - pos').toNat) (m', o')).1) ((runF (seg lg.evs q ((lg.base.idx + (lg.evs.length : Int)) - pos').toNat) (m', o')).2) (lg.base.idx + (lg.evs.length : Int)), 105, false⟩), (b536, ⟨cs537, 84, true⟩)]) (φ := b2 = b2 ∧ Nat.ble (0 + 3) 3 = true) h575 rfl rfl rfl (by kernel_rfl) ⟨rfl, rfl⟩ fun w576 h577 => ?_
              have hkh577 := h575.known
              refine ⟨keepNil, ?_⟩
              clear h575
              refine wpAnyK_done (by kernel_rfl) ?_ _
              refine hK570 _ _ ?_
              clear hK570
              refine wp_ret ?_
              have hres := hv.symm.trans (vloop_end hnx hfin)
              try simp only [Exit.then, Exit.inBlock]
              try rw [if_pos trivial]
              exact s_ret tabOk tabZ_ok h577 [(.cell 4 114, {k := 1})] (vs := [.agg #[.int .i64 (-1), .int .i64 good, .int .i64 ((lg.base.idx + (lg.evs.length : Int)) - lg.base.idx)]]) (φ := (b2 = b2 ∧ Nat.ble (0 + 3) 3 = true) ∧ True) rfl (by kernel_rfl) ⟨⟨rfl, rfl⟩, trivial⟩ ⟨by rw [hres]; rfl, h577.frame⟩
            ·
              have hc560f : ¬ y.idx > (lg.base.idx + (lg.evs.length : Int)) := by simpa using hc560
              have hnx : nextOf lg.fin (lg.mks.drop j) (lg.sns.drop i) = y.idx := by rw [next_s (fin := lg.fin) (by omega) hy, if_pos (by omega)]
              have hfin : ¬ lg.fin < y.idx := hc560f
              have hnp : pos' ≤ y.idx := by omega
              have hmok2 := runF_ok (seg lg.evs q (y.idx - pos').toNat) (m', o') hmok (seg_ok hev _ _)
              have hs2 : runF (seg lg.evs (pos' - lg.base.idx).toNat (y.idx - pos').toNat) (m', o') = runF (seg lg.evs q (y.idx - pos').toNat) (m', o') := by rw [show (pos' - lg.base.idx).toNat = q by omega]
              simp only [Lg.fin] at hfin
              refine wp_skip ?_
              refine hK551 _ _ ?_
              clear hK551
              refine wp_seq_k fun K578 hK578 => ?_
              refine nd_start (l := [0, 1, 2]) rfl ?_
              refine nd_batch tabOk tabZ_ok [(0, {}), (1, {})] [0, 1, 4, 5, 6, 7, 8, 9, 94, 95] (T' := [(0, .pointer (some ⟨bl, 0, none⟩)), (1, .pointer (some ⟨bl, 0, none⟩)), (4, .pointer (some ⟨b2, 0, none⟩)), (5, .pointer (some ⟨b14, 0, none⟩)), (6, .int .i64 good), (7, .slice (winA mo mc j 2) (lg.mks.length - j) (mc - j)), (8, .slice (some ⟨b536, (i * 15), none⟩) (lg.sns.length - i) (sc - i)), (9, .int .i64 y.idx), (94, .pointer (some ⟨bl, 0, none⟩)), (95, .int .i64 y.idx)]) (φ := True) (rest := [2]) h559 (by kernel_rfl) rfl trivial fun a579 h580 => ?_
              clear h559
              refine nd_op ?_
              refine op_call h580 rfl rfl rfl (callOk Tryf.func44 (by decide) rfl) (args := [.pointer (some ⟨b14, 0, none⟩), .pointer (some ⟨bl, 0, none⟩), .int .i64 y.idx]) rfl (run_ok b14 bl ⟨eo, ec, eF, mo, mc, mF, (some ⟨b536, 0, none⟩), sc, [b536]⟩ lg _ (LogAt.of (d := ⟨eo, ec, eF, mo, mc, mF, (some ⟨b536, 0, none⟩), sc, [b536]⟩) (h580.kn (k := 0) rfl) h580.inv hsep) m' o' pos' y.idx q (y.idx - pos').toNat (h580.kn (k := 2) rfl) (h580.ne 2 0 rfl rfl rfl) (h580.dj (k := 2) rfl rfl) hev hmok hq (by omega) (by omega) (by omega) hb0 (by omega)) ?_
              rintro _ w581 ⟨rfl, hbs, hf583⟩
              refine ⟨_, rfl, ?_⟩
              have h582 := (h580.setBlk (k := 2) rfl rfl hf583 hbs (L' := [(bl, ⟨logC lg.base (.slice eo lg.evs.length ec) (.slice mo lg.mks.length mc) (.slice (some ⟨b536, 0, none⟩) lg.sns.length sc), 89, true⟩), (b2, ⟨[.int .i64 0, .int .i64 0, .int .i64 0], 114, false⟩), (b14, ⟨curC ((runF (seg lg.evs q (y.idx - pos').toNat) (m', o')).1) ((runF (seg lg.evs q (y.idx - pos').toNat) (m', o')).2) y.idx, 105, false⟩), (b536, ⟨cs537, 84, true⟩)]) rfl).put (d := some 96) (v := .tuple #[]) (T' := [(96, .tuple #[]), (0, .pointer (some ⟨bl, 0, none⟩)), (1, .pointer (some ⟨bl, 0, none⟩)), (4, .pointer (some ⟨b2, 0, none⟩)), (5, .pointer (some ⟨b14, 0, none⟩)), (6, .int .i64 good), (7, .slice (winA mo mc j 2) (lg.mks.length - j) (mc - j)), (8, .slice (some ⟨b536, (i * 15), none⟩) (lg.sns.length - i) (sc - i)), (9, .int .i64 y.idx), (94, .pointer (some ⟨bl, 0, none⟩)), (95, .int .i64 y.idx)]) rfl
              clear h580
              refine nd_done ?_
              refine hK578 _ _ ?_
              clear hK578
              refine wp_seq_k fun K584 hK584 => ?_
              refine wp_block ?_
              rw [← winA_some b536 15 hlt545] at h582
              have hm585 : ∀ (j' : Nat) (ca : Act) (cw : World), (j' ≤ lg.mks.length) → (j ≤ j') → (vm y.idx (dig (runF (seg lg.evs q (y.idx - pos').toNat) (m', o')).1) (lg.mks.drop j) = some (lg.mks.drop j')) → (∀ z, lg.mks[j']? = some z → z.idx ≠ y.idx) → St ⟨165, [], w, Rws [rl evC 31 3 lg.evs eo ec eF, rl mkC 93 2 lg.mks mo mc mF, rl ptC 84 15 lg.sns (some ⟨b536, 0, none⟩) sc ([b536])], Ff [rl evC 31 3 lg.evs eo ec eF, rl mkC 93 2 lg.mks mo mc mF, rl ptC 84 15 lg.sns (some ⟨b536, 0, none⟩) sc ([b536])]⟩ [(0, .pointer (some ⟨bl, 0, none⟩)), (1, .pointer (some ⟨bl, 0, none⟩)), (4, .pointer (some ⟨b2, 0, none⟩)), (5, .pointer (some ⟨b14, 0, none⟩)), (6, .int .i64 good), (9, .int .i64 y.idx), (7, .slice (winA mo mc j' 2) (lg.mks.length - j') (mc - j')), (8, .slice (winA (some ⟨b536, 0, none⟩) sc i 15) (lg.sns.length - i) (sc - i))] [(bl, ⟨logC lg.base (.slice eo lg.evs.length ec) (.slice mo lg.mks.length mc) (.slice (some ⟨b536, 0, none⟩) lg.sns.length sc), 89, true⟩), (b2, ⟨[.int .i64 0, .int .i64 0, .int .i64 0], 114, false⟩), (b14, ⟨curC ((runF (seg lg.evs q (y.idx - pos').toNat) (m', o')).1) ((runF (seg lg.evs q (y.idx - pos').toNat) (m', o')).2) y.idx, 105, false⟩), (b536, ⟨cs537, 84, true⟩)] ca cw → K584 ca cw := by
                intro j' a586 w587 hi589 hi590 hi591 hi592 h588
                have hj' := hi589
                have hle1 := hi590
                have hvm := hi591
                have hstop1 := hi592
                refine hK584 _ _ ?_
                clear hK584
                refine wp_seq_k fun K593 hK593 => ?_
                refine wp_block ?_
                have hm594 : ∀ (i' : Nat) (ca : Act) (cw : World), (i' ≤ lg.sns.length) → (i ≤ i') → (vs y.idx (runF (seg lg.evs q (y.idx - pos').toNat) (m', o')) (lg.sns.drop i) = some (lg.sns.drop i')) → (∀ z, lg.sns[i']? = some z → z.idx ≠ y.idx) → St ⟨165, [], w, Rws [rl evC 31 3 lg.evs eo ec eF, rl mkC 93 2 lg.mks mo mc mF, rl ptC 84 15 lg.sns (some ⟨b536, 0, none⟩) sc ([b536])], Ff [rl evC 31 3 lg.evs eo ec eF, rl mkC 93 2 lg.mks mo mc mF, rl ptC 84 15 lg.sns (some ⟨b536, 0, none⟩) sc ([b536])]⟩ [(0, .pointer (some ⟨bl, 0, none⟩)), (1, .pointer (some ⟨bl, 0, none⟩)), (4, .pointer (some ⟨b2, 0, none⟩)), (5, .pointer (some ⟨b14, 0, none⟩)), (6, .int .i64 good), (9, .int .i64 y.idx), (8, .slice (winA (some ⟨b536, 0, none⟩) sc i' 15) (lg.sns.length - i') (sc - i')), (7, .slice (winA mo mc j' 2) (lg.mks.length - j') (mc - j'))] [(bl, ⟨logC lg.base (.slice eo lg.evs.length ec) (.slice mo lg.mks.length mc) (.slice (some ⟨b536, 0, none⟩) lg.sns.length sc), 89, true⟩), (b2, ⟨[.int .i64 0, .int .i64 0, .int .i64 0], 114, false⟩), (b14, ⟨curC ((runF (seg lg.evs q (y.idx - pos').toNat) (m', o')).1) ((runF (seg lg.evs q (y.idx - pos').toNat) (m', o')).2) y.idx, 105, false⟩), (b536, ⟨cs537, 84, true⟩)] ca cw → K593 ca cw := by
                  intro i' a595 w596 hi598 hi599 hi600 hi601 h597
                  have hi' := hi598
                  have hle2 := hi599
                  have hvs := hi600
                  have hstop2 := hi601
                  have hprog : lg.mks.length - j' + (lg.sns.length - i') < lg.mks.length - j + (lg.sns.length - i) := by
                    have : i ≠ i' := by intro hjj; subst hjj; exact hstop2 y hy rfl
                    have := (List.getElem?_eq_some_iff.1 hy).1; omega
                  have hall : (∀ z, lg.mks[j]? = some z → y.idx ≤ z.idx) ∧ (∀ z, lg.sns[i]? = some z → y.idx ≤ z.idx) := by
                    refine ⟨fun z hz => ?_, fun z hz => ?_⟩
                    · have := (List.getElem?_eq_some_iff.1 hz).1; omega
                    · rw [hy] at hz; cases hz; omega
                  have hgm' : ∀ z ∈ lg.mks.drop j', y.idx ≤ z.idx := fun z hz => mk_ge hms hall.1 z ((List.drop_sublist_drop_left lg.mks hle1).mem hz)
                  have hgs' : ∀ z ∈ lg.sns.drop i', y.idx ≤ z.idx := fun z hz => pt_ge hsort hall.2 z ((List.drop_sublist_drop_left lg.sns hle2).mem hz)
                  refine hK593 _ _ ?_
                  clear hK593
                  refine nd_start (l := [0, 1]) rfl ?_
                  refine nd_batch tabOk tabZ_ok [(0, {}), (1, {})] [0, 1, 4, 5, 9, 8, 7, 6] (T' := [(0, .pointer (some ⟨bl, 0, none⟩)), (1, .pointer (some ⟨bl, 0, none⟩)), (4, .pointer (some ⟨b2, 0, none⟩)), (5, .pointer (some ⟨b14, 0, none⟩)), (9, .int .i64 y.idx), (8, .slice (winA (some ⟨b536, 0, none⟩) sc i' 15) (lg.sns.length - i') (sc - i')), (7, .slice (winA mo mc j' 2) (lg.mks.length - j') (mc - j')), (6, .int .i64 y.idx)]) (φ := True) (rest := []) h597 (by kernel_rfl) rfl trivial fun a602 h603 => ?_
                  clear h597
                  refine nd_done ?_
                  have h604 := h603.memMono (L' := [(bl, ⟨logC lg.base (.slice eo lg.evs.length ec) (.slice mo lg.mks.length mc) (.slice (some ⟨b536, 0, none⟩) lg.sns.length sc), 89, true⟩), (b2, ⟨[.int .i64 0, .int .i64 0, .int .i64 0], 114, false⟩), (b14, ⟨curC ((runF (seg lg.evs q (y.idx - pos').toNat) (m', o')).1) ((runF (seg lg.evs q (y.idx - pos').toNat) (m', o')).2) y.idx, 105, false⟩)]) (List.Sublist.cons_cons _ (List.Sublist.cons_cons _ (List.Sublist.cons_cons _ (List.Sublist.cons _ List.Sublist.slnil))))
                  clear h603
                  exact ⟨g, by omega, j', i', (runF (seg lg.evs q (y.idx - pos').toNat) (m', o')).1, (runF (seg lg.evs q (y.idx - pos').toNat) (m', o')).2, y.idx, y.idx, (y.idx - lg.base.idx).toNat, hj', hi', by omega, by omega, by omega, hmok2, hgm', hgs', by rw [← hv]; exact (vloop_next hnx hfin hs2 hvm hvs).symm, (h604.slotsMono (restr_spec (keep := [0, 1, 4, 5, 6, 7, 8]) rfl))⟩
                clear hK593
                refine wp_loop_ghost (fun gg ga gw => ∃ (i' : Nat), (i' ≤ lg.sns.length) ∧ (i ≤ i') ∧ (gg = lg.sns.length - i') ∧ (vs y.idx (runF (seg lg.evs q (y.idx - pos').toNat) (m', o')) (lg.sns.drop i) = vs y.idx (runF (seg lg.evs q (y.idx - pos').toNat) (m', o')) (lg.sns.drop i')) ∧ St ⟨165, [], w, Rws [rl evC 31 3 lg.evs eo ec eF, rl mkC 93 2 lg.mks mo mc mF, rl ptC 84 15 lg.sns (some ⟨b536, 0, none⟩) sc ([b536])], Ff [rl evC 31 3 lg.evs eo ec eF, rl mkC 93 2 lg.mks mo mc mF, rl ptC 84 15 lg.sns (some ⟨b536, 0, none⟩) sc ([b536])]⟩ [(0, .pointer (some ⟨bl, 0, none⟩)), (1, .pointer (some ⟨bl, 0, none⟩)), (4, .pointer (some ⟨b2, 0, none⟩)), (5, .pointer (some ⟨b14, 0, none⟩)), (6, .int .i64 good), (9, .int .i64 y.idx), (8, .slice (winA (some ⟨b536, 0, none⟩) sc i' 15) (lg.sns.length - i') (sc - i')), (7, .slice (winA mo mc j' 2) (lg.mks.length - j') (mc - j'))] [(bl, ⟨logC lg.base (.slice eo lg.evs.length ec) (.slice mo lg.mks.length mc) (.slice (some ⟨b536, 0, none⟩) lg.sns.length sc), 89, true⟩), (b2, ⟨[.int .i64 0, .int .i64 0, .int .i64 0], 114, false⟩), (b14, ⟨curC ((runF (seg lg.evs q (y.idx - pos').toNat) (m', o')).1) ((runF (seg lg.evs q (y.idx - pos').toNat) (m', o')).2) y.idx, 105, false⟩), (b536, ⟨cs537, 84, true⟩)] ga gw) (lg.sns.length - i) ⟨i, by omega, Nat.le_refl _, rfl, rfl, (h588.slotsMono (restr_spec (keep := [0, 1, 4, 5, 6, 9, 8, 7]) rfl))⟩ ?_
                clear h588
                rintro gg a605 w606 ⟨i', hi608, hi609, hi610, hi611, h607⟩
                refine wp_seq_k fun K612 hK612 => ?_
                refine wp_seq_k fun K613 hK613 => ?_
                rcases Bool.eq_false_or_eq_true (decide ((((lg.sns.length - i') : Nat) : Int) > 0)) with hb614 | hb614
                ·
                  have hb614f : (((lg.sns.length - i') : Nat) : Int) > 0 := by simpa using hb614
                  obtain ⟨y', hy'⟩ := Sx.get_some (xs := lg.sns) (i := i') (by omega)
                  have hc615 := rl_at (h607.inv.get (j := 2) rfl) (h607.kn (k := 3) rfl) ptC_len hy'
                  have hlt616 : i' < sc := by have h1 : lg.sns.length ≤ sc := rl_cap (h607.inv.get (j := 2) rfl); have h2 := (List.getElem?_eq_some_iff.1 hy').1; omega
                  rw [winA_some b536 15 hlt616] at h607
                  refine nd_start (l := [0, 1, 2, 3, 4, 5, 6, 7, 8, 9, 10]) rfl ?_
                  refine nd_batch tabOk tabZ_ok [(0, {}), (1, {}), (2, {f := 2}), (3, {}), (4, {}), (5, {}), (6, {}), (7, {k := 3, m := 1, vs := [.int .i64 y'.idx]}), (8, {}), (9, {}), (10, {})] [0, 1, 4, 5, 6, 9, 8, 7, 136] (T' := [(0, .pointer (some ⟨bl, 0, none⟩)), (1, .pointer (some ⟨bl, 0, none⟩)), (4, .pointer (some ⟨b2, 0, none⟩)), (5, .pointer (some ⟨b14, 0, none⟩)), (6, .int .i64 good), (9, .int .i64 y.idx), (8, .slice (some ⟨b536, (i' * 15), none⟩) (lg.sns.length - i') (sc - i')), (7, .slice (winA mo mc j' 2) (lg.mks.length - j') (mc - j')), (136, .bool (y'.idx == y.idx))]) (φ := (decide ((((lg.sns.length - i') : Nat) : Int) > 0)) = true ∧ (0 ≤ (0 : Int) ∧ (0 : Int) < (((lg.sns.length - i') : Nat) : Int)) ∧ (b536 = b536 ∧ cellsAre cs537 (i' * 15) [.int .i64 y'.idx]) ∧ True) (rest := []) h607 (by kernel_rfl) rfl ⟨hb614, ⟨by omega, by omega⟩, ⟨rfl, (pt_idx hc615)⟩, trivial⟩ fun a617 h618 => ?_
                  clear h607
                  refine nd_done ?_
                  refine hK613 _ _ ?_
                  clear hK613
                  refine c_split h618 (b := (y'.idx == y.idx)) rfl (fun hc619 => ?_) (fun hc619 => ?_)
                  ·
                    have hc619f : y'.idx = y.idx := by simpa using hc619
                    have hxn : y'.idx = y.idx := hc619f
                    refine wp_skip ?_
                    refine hK612 _ _ ?_
                    clear hK612
                    refine wp_seq_k fun K620 hK620 => ?_
                    refine wp_block ?_
                    refine wp_seq_k fun K621 hK621 => ?_
                    rcases Bool.eq_false_or_eq_true ((Bool.xor true (machEq y'.st (runF (seg lg.evs q (y.idx - pos').toNat) (m', o')).1))) with hb622 | hb622
                    ·
                      have hme : machEq y'.st (runF (seg lg.evs q (y.idx - pos').toNat) (m', o')).1 = false := by simpa using hb622
                      have hvs := hi611.trans (vs_bad1 hy' hxn hme)
                      refine dr_start (KB := [bl, b2, b14, b536]) (Bi := [[0, 1, 2, 3], [0, 1, 2, 3], [0, 1, 2, 3], [0, 1, 2, 3], [0, 1, 2, 3], [0, 1, 2, 3], [0, 1, 2, 3], [0, 1, 2, 3], [0, 1, 2, 3], [0, 1, 2, 3], [0, 1, 2, 3], [0, 1, 2, 3], [0, 1, 2, 3], [0, 1, 2, 3], [0, 1, 2, 3], [0, 1, 2, 3]]) mixed h618 fun w623 h624 => ?_
                      clear h618
                      refine dr_batch tabOk tabZ_ok (by repeat (first | exact PF.body | with_reducible apply PF.inB | with_reducible apply PF.next)) [(0, {}), (1, {}), (2, {}), (3, {k := 3, m := 1, vs := [.int .u64 y'.st.now, .int .i8 y'.st.cur, .int .u8 y'.st.s0, .int .u8 y'.st.s1, .int .u8 y'.st.s2, .int .u8 y'.st.s3, .int .u64 y'.st.r0, .int .u64 y'.st.r1, .int .u64 y'.st.r2, .int .u64 y'.st.r3, .int .u64 y'.st.word], p := 3}), (4, {}), (5, {k := 2, p := 2}), (6, {f := 2}), (7, {}), (8, {}), (9, {}), (10, {}), (11, {k := 0, p := 0}), (12, {}), (13, {k := 0, p := 0}), (14, {}), (15, {})] [0, 1, 4, 5, 6, 9, 8, 7, 154] (T' := [(0, .pointer (some ⟨bl, 0, none⟩)), (1, .pointer (some ⟨bl, 0, none⟩)), (4, .pointer (some ⟨b2, 0, none⟩)), (5, .pointer (some ⟨b14, 0, none⟩)), (6, .int .i64 good), (9, .int .i64 y.idx), (8, .slice (some ⟨b536, (i' * 15), none⟩) (lg.sns.length - i') (sc - i')), (7, .slice (winA mo mc j' 2) (lg.mks.length - j') (mc - j')), (154, .bool true)]) (φ := (0 ≤ (0 : Int) ∧ (0 : Int) < (((lg.sns.length - i') : Nat) : Int)) ∧ (b536 = b536 ∧ cellsAre cs537 ((i' * 15) + 1) [.int .u64 y'.st.now, .int .i8 y'.st.cur, .int .u8 y'.st.s0, .int .u8 y'.st.s1, .int .u8 y'.st.s2, .int .u8 y'.st.s3, .int .u64 y'.st.r0, .int .u64 y'.st.r1, .int .u64 y'.st.r2, .int .u64 y'.st.r3, .int .u64 y'.st.word]) ∧ (b14 = b14 ∧ Nat.ble (0 + 11) 15 = true) ∧ EqRun Tryf.prog 58 (.agg #[.int .u64 y'.st.now, .int .i8 y'.st.cur, .int .u8 y'.st.s0, .int .u8 y'.st.s1, .int .u8 y'.st.s2, .int .u8 y'.st.s3, .int .u64 y'.st.r0, .int .u64 y'.st.r1, .int .u64 y'.st.r2, .int .u64 y'.st.r3, .int .u64 y'.st.word]) (.agg #[.int .u64 ((runF (seg lg.evs q (y.idx - pos').toNat) (m', o')).1.now), .int .i8 ((runF (seg lg.evs q (y.idx - pos').toNat) (m', o')).1.cur), .int .u8 ((runF (seg lg.evs q (y.idx - pos').toNat) (m', o')).1.s0), .int .u8 ((runF (seg lg.evs q (y.idx - pos').toNat) (m', o')).1.s1), .int .u8 ((runF (seg lg.evs q (y.idx - pos').toNat) (m', o')).1.s2), .int .u8 ((runF (seg lg.evs q (y.idx - pos').toNat) (m', o')).1.s3), .int .u64 ((runF (seg lg.evs q (y.idx - pos').toNat) (m', o')).1.r0), .int .u64 ((runF (seg lg.evs q (y.idx - pos').toNat) (m', o')).1.r1), .int .u64 ((runF (seg lg.evs q (y.idx - pos').toNat) (m', o')).1.r2), .int .u64 ((runF (seg lg.evs q (y.idx - pos').toNat) (m', o')).1.r3), .int .u64 ((runF (seg lg.evs q (y.idx - pos').toNat) (m', o')).1.word)]) false ∧ True) (fuel := 0) h624 (by kernel_rfl) rfl (by kernel_rfl) (by kernel_rfl) ⟨trivial, trivial, trivial, rfl, trivial, rfl, trivial, trivial, trivial, trivial, trivial, rfl, trivial, rfl, trivial, trivial, trivial⟩ ⟨⟨by omega, by omega⟩, ⟨rfl, (pt_st hc615)⟩, ⟨rfl, rfl⟩, (by have hq := run46 y'.st (runF (seg lg.evs q (y.idx - pos').toNat) (m', o')).1; rw [show machEq y'.st (runF (seg lg.evs q (y.idx - pos').toNat) (m', o')).1 = false by simpa using hb622] at hq; exact hq), trivial⟩ fun a626 h627 => ?_
                      clear h624
                      refine wpAnyK_done (by kernel_rfl) ?_ _
                      refine hK621 _ _ ?_
                      clear hK621
                      refine c_true h627 rfl ?_
                      refine wp_seq_k fun K628 hK628 => ?_
                      refine nd_start (l := [0, 1, 2, 3, 4, 5, 6, 7, 8, 9]) rfl ?_
                      refine nd_batch tabOk tabZ_ok [(0, {}), (1, {}), (2, {}), (3, {}), (4, {}), (5, {}), (6, {k := 0}), (7, {}), (8, {})] [0, 1, 4, 5, 6, 9, 8, 7, 163] (T' := [(0, .pointer (some ⟨bl, 0, none⟩)), (1, .pointer (some ⟨bl, 0, none⟩)), (4, .pointer (some ⟨b2, 0, none⟩)), (5, .pointer (some ⟨b14, 0, none⟩)), (6, .int .i64 good), (9, .int .i64 y.idx), (8, .slice (some ⟨b536, (i' * 15), none⟩) (lg.sns.length - i') (sc - i')), (7, .slice (winA mo mc j' 2) (lg.mks.length - j') (mc - j')), (163, .agg #[.int .i64 y.idx, .int .i64 good, .int .i64 (y.idx - lg.base.idx)])]) (φ := (bl = bl ∧ Nat.ble (0 + 1) 18 = true) ∧ inR .i64 (y.idx - lg.base.idx) ∧ True) (rest := [9]) h627 (by kernel_rfl) rfl ⟨⟨rfl, rfl⟩, ⟨by omega, by omega⟩, trivial⟩ fun a629 h630 => ?_
                      clear h627
                      refine nd_op ?_
                      refine op_store tabOk {k := 1} (L' := [(bl, ⟨logC lg.base (.slice eo lg.evs.length ec) (.slice mo lg.mks.length mc) (.slice (some ⟨b536, 0, none⟩) lg.sns.length sc), 89, true⟩), (b2, ⟨[.int .i64 y.idx, .int .i64 good, .int .i64 (y.idx - lg.base.idx)], 114, false⟩), (b14, ⟨curC ((runF (seg lg.evs q (y.idx - pos').toNat) (m', o')).1) ((runF (seg lg.evs q (y.idx - pos').toNat) (m', o')).2) y.idx, 105, false⟩), (b536, ⟨cs537, 84, true⟩)]) (φ := b2 = b2 ∧ Nat.ble (0 + 3) 3 = true) h630 rfl rfl rfl (by kernel_rfl) ⟨rfl, rfl⟩ fun w631 h632 => ?_
                      clear h630
                      refine nd_done ?_
                      refine hK628 _ _ ?_
                      clear hK628
                      refine wp_ret ?_
                      have hres := hv.symm.trans (vloop_snap hnx hfin hs2 hvm hvs)
                      try simp only [Exit.then, Exit.inBlock]
                      try rw [if_pos trivial]
                      exact s_ret tabOk tabZ_ok h632 [(.cell 4 114, {k := 1})] (vs := [.agg #[.int .i64 y.idx, .int .i64 good, .int .i64 (y.idx - lg.base.idx)]]) (φ := (b2 = b2 ∧ Nat.ble (0 + 3) 3 = true) ∧ True) rfl (by kernel_rfl) ⟨⟨rfl, rfl⟩, trivial⟩ ⟨by rw [hres]; rfl, h632.frame⟩
                    ·
                      have hme : machEq y'.st (runF (seg lg.evs q (y.idx - pos').toNat) (m', o')).1 = true := by simpa using hb622
                      refine dr_start (KB := [bl, b2, b14, b536]) (Bi := [[0, 1, 2, 3], [0, 1, 2, 3], [0, 1, 2, 3], [0, 1, 2, 3], [0, 1, 2, 3], [0, 1, 2, 3], [0, 1, 2, 3], [0, 1, 2, 3], [0, 1, 2, 3], [0, 1, 2, 3], [0, 1, 2, 3], [0, 1, 2, 3], [0, 1, 2, 3], [0, 1, 2, 3], [0, 1, 2, 3], [0, 1, 2, 3]]) mixed h618 fun w633 h634 => ?_
                      clear h618
                      refine dr_batch tabOk tabZ_ok (by repeat (first | exact PF.body | with_reducible apply PF.inB | with_reducible apply PF.next)) [(0, {}), (1, {}), (2, {}), (3, {k := 3, m := 1, vs := [.int .u64 y'.st.now, .int .i8 y'.st.cur, .int .u8 y'.st.s0, .int .u8 y'.st.s1, .int .u8 y'.st.s2, .int .u8 y'.st.s3, .int .u64 y'.st.r0, .int .u64 y'.st.r1, .int .u64 y'.st.r2, .int .u64 y'.st.r3, .int .u64 y'.st.word], p := 3}), (4, {}), (5, {k := 2, p := 2}), (6, {f := 1}), (7, {}), (8, {}), (9, {}), (10, {}), (11, {k := 3, m := 1, vs := [.bool y'.out.refused, .int .i8 y'.out.running, .int .u64 y'.out.value], p := 3}), (12, {}), (13, {k := 2, p := 2}), (14, {vs := [.bool (otEq y'.out (runF (seg lg.evs q (y.idx - pos').toNat) (m', o')).2)]}), (15, {})] [0, 1, 4, 5, 6, 9, 8, 7, 154] (T' := [(0, .pointer (some ⟨bl, 0, none⟩)), (1, .pointer (some ⟨bl, 0, none⟩)), (4, .pointer (some ⟨b2, 0, none⟩)), (5, .pointer (some ⟨b14, 0, none⟩)), (6, .int .i64 good), (9, .int .i64 y.idx), (8, .slice (some ⟨b536, (i' * 15), none⟩) (lg.sns.length - i') (sc - i')), (7, .slice (winA mo mc j' 2) (lg.mks.length - j') (mc - j')), (154, .bool (Bool.xor true (otEq y'.out (runF (seg lg.evs q (y.idx - pos').toNat) (m', o')).2)))]) (φ := (0 ≤ (0 : Int) ∧ (0 : Int) < (((lg.sns.length - i') : Nat) : Int)) ∧ (b536 = b536 ∧ cellsAre cs537 ((i' * 15) + 1) [.int .u64 y'.st.now, .int .i8 y'.st.cur, .int .u8 y'.st.s0, .int .u8 y'.st.s1, .int .u8 y'.st.s2, .int .u8 y'.st.s3, .int .u64 y'.st.r0, .int .u64 y'.st.r1, .int .u64 y'.st.r2, .int .u64 y'.st.r3, .int .u64 y'.st.word]) ∧ (b14 = b14 ∧ Nat.ble (0 + 11) 15 = true) ∧ EqRun Tryf.prog 58 (.agg #[.int .u64 y'.st.now, .int .i8 y'.st.cur, .int .u8 y'.st.s0, .int .u8 y'.st.s1, .int .u8 y'.st.s2, .int .u8 y'.st.s3, .int .u64 y'.st.r0, .int .u64 y'.st.r1, .int .u64 y'.st.r2, .int .u64 y'.st.r3, .int .u64 y'.st.word]) (.agg #[.int .u64 ((runF (seg lg.evs q (y.idx - pos').toNat) (m', o')).1.now), .int .i8 ((runF (seg lg.evs q (y.idx - pos').toNat) (m', o')).1.cur), .int .u8 ((runF (seg lg.evs q (y.idx - pos').toNat) (m', o')).1.s0), .int .u8 ((runF (seg lg.evs q (y.idx - pos').toNat) (m', o')).1.s1), .int .u8 ((runF (seg lg.evs q (y.idx - pos').toNat) (m', o')).1.s2), .int .u8 ((runF (seg lg.evs q (y.idx - pos').toNat) (m', o')).1.s3), .int .u64 ((runF (seg lg.evs q (y.idx - pos').toNat) (m', o')).1.r0), .int .u64 ((runF (seg lg.evs q (y.idx - pos').toNat) (m', o')).1.r1), .int .u64 ((runF (seg lg.evs q (y.idx - pos').toNat) (m', o')).1.r2), .int .u64 ((runF (seg lg.evs q (y.idx - pos').toNat) (m', o')).1.r3), .int .u64 ((runF (seg lg.evs q (y.idx - pos').toNat) (m', o')).1.word)]) true ∧ (0 ≤ (0 : Int) ∧ (0 : Int) < (((lg.sns.length - i') : Nat) : Int)) ∧ (b536 = b536 ∧ cellsAre cs537 ((i' * 15) + 12) [.bool y'.out.refused, .int .i8 y'.out.running, .int .u64 y'.out.value]) ∧ (b14 = b14 ∧ Nat.ble (11 + 3) 15 = true) ∧ EqRun Tryf.prog 44 (.agg #[.bool y'.out.refused, .int .i8 y'.out.running, .int .u64 y'.out.value]) (.agg #[.bool ((runF (seg lg.evs q (y.idx - pos').toNat) (m', o')).2.refused), .int .i8 ((runF (seg lg.evs q (y.idx - pos').toNat) (m', o')).2.running), .int .u64 ((runF (seg lg.evs q (y.idx - pos').toNat) (m', o')).2.value)]) (otEq y'.out (runF (seg lg.evs q (y.idx - pos').toNat) (m', o')).2) ∧ True) (fuel := 0) h634 (by kernel_rfl) rfl (by kernel_rfl) (by kernel_rfl) ⟨trivial, trivial, trivial, rfl, trivial, rfl, trivial, trivial, trivial, trivial, trivial, rfl, trivial, rfl, trivial, trivial, trivial⟩ ⟨⟨by omega, by omega⟩, ⟨rfl, (pt_st hc615)⟩, ⟨rfl, rfl⟩, (by have hq := run46 y'.st (runF (seg lg.evs q (y.idx - pos').toNat) (m', o')).1; rw [show machEq y'.st (runF (seg lg.evs q (y.idx - pos').toNat) (m', o')).1 = true by simpa using hb622] at hq; exact hq), ⟨by omega, by omega⟩, ⟨rfl, (pt_out hc615)⟩, ⟨rfl, rfl⟩, run39 y'.out (runF (seg lg.evs q (y.idx - pos').toNat) (m', o')).2, trivial⟩ fun a636 h637 => ?_
                      clear h634
                      refine wpAnyK_done (by kernel_rfl) ?_ _
                      refine hK621 _ _ ?_
                      clear hK621
                      refine c_split h637 (b := (Bool.xor true (otEq y'.out (runF (seg lg.evs q (y.idx - pos').toNat) (m', o')).2))) rfl (fun hc638 => ?_) (fun hc638 => ?_)
                      ·
                        have hoe : otEq y'.out (runF (seg lg.evs q (y.idx - pos').toNat) (m', o')).2 = false := by simpa using hc638
                        have hvs := hi611.trans (vs_bad2 hy' hxn hoe)
                        refine wp_seq_k fun K639 hK639 => ?_
                        refine nd_start (l := [0, 1, 2, 3, 4, 5, 6, 7, 8, 9]) rfl ?_
                        refine nd_batch tabOk tabZ_ok [(0, {}), (1, {}), (2, {}), (3, {}), (4, {}), (5, {}), (6, {k := 0}), (7, {}), (8, {})] [0, 1, 4, 5, 6, 9, 8, 7, 163] (T' := [(0, .pointer (some ⟨bl, 0, none⟩)), (1, .pointer (some ⟨bl, 0, none⟩)), (4, .pointer (some ⟨b2, 0, none⟩)), (5, .pointer (some ⟨b14, 0, none⟩)), (6, .int .i64 good), (9, .int .i64 y.idx), (8, .slice (some ⟨b536, (i' * 15), none⟩) (lg.sns.length - i') (sc - i')), (7, .slice (winA mo mc j' 2) (lg.mks.length - j') (mc - j')), (163, .agg #[.int .i64 y.idx, .int .i64 good, .int .i64 (y.idx - lg.base.idx)])]) (φ := (bl = bl ∧ Nat.ble (0 + 1) 18 = true) ∧ inR .i64 (y.idx - lg.base.idx) ∧ True) (rest := [9]) h637 (by kernel_rfl) rfl ⟨⟨rfl, rfl⟩, ⟨by omega, by omega⟩, trivial⟩ fun a640 h641 => ?_
                        clear h637
                        refine nd_op ?_
                        refine op_store tabOk {k := 1} (L' := [(bl, ⟨logC lg.base (.slice eo lg.evs.length ec) (.slice mo lg.mks.length mc) (.slice (some ⟨b536, 0, none⟩) lg.sns.length sc), 89, true⟩), (b2, ⟨[.int .i64 y.idx, .int .i64 good, .int .i64 (y.idx - lg.base.idx)], 114, false⟩), (b14, ⟨curC ((runF (seg lg.evs q (y.idx - pos').toNat) (m', o')).1) ((runF (seg lg.evs q (y.idx - pos').toNat) (m', o')).2) y.idx, 105, false⟩), (b536, ⟨cs537, 84, true⟩)]) (φ := b2 = b2 ∧ Nat.ble (0 + 3) 3 = true) h641 rfl rfl rfl (by kernel_rfl) ⟨rfl, rfl⟩ fun w642 h643 => ?_
                        clear h641
                        refine nd_done ?_
                        refine hK639 _ _ ?_
                        clear hK639
                        refine wp_ret ?_
                        have hres := hv.symm.trans (vloop_snap hnx hfin hs2 hvm hvs)
                        try simp only [Exit.then, Exit.inBlock]
                        try rw [if_pos trivial]
                        exact s_ret tabOk tabZ_ok h643 [(.cell 4 114, {k := 1})] (vs := [.agg #[.int .i64 y.idx, .int .i64 good, .int .i64 (y.idx - lg.base.idx)]]) (φ := (b2 = b2 ∧ Nat.ble (0 + 3) 3 = true) ∧ True) rfl (by kernel_rfl) ⟨⟨rfl, rfl⟩, trivial⟩ ⟨by rw [hres]; rfl, h643.frame⟩
                      ·
                        have hoe : otEq y'.out (runF (seg lg.evs q (y.idx - pos').toNat) (m', o')).2 = true := by simpa using hc638
                        have hsame := hi611.trans (vs_same hy' hxn hme hoe)
                        refine wp_skip ?_
                        refine hK620 _ _ ?_
                        clear hK620
                        refine nd_start (l := [0, 1, 2]) rfl ?_
                        refine nd_batch tabOk tabZ_ok [(0, {}), (1, {}), (2, {})] [0, 1, 4, 5, 6, 9, 7, 8] (T' := [(0, .pointer (some ⟨bl, 0, none⟩)), (1, .pointer (some ⟨bl, 0, none⟩)), (4, .pointer (some ⟨b2, 0, none⟩)), (5, .pointer (some ⟨b14, 0, none⟩)), (6, .int .i64 good), (9, .int .i64 y.idx), (7, .slice (winA mo mc j' 2) (lg.mks.length - j') (mc - j')), (8, .slice (sliceBase (some ⟨b536, (i' * 15), none⟩) (sc - i') 1 15) ((lg.sns.length - i') - 1) ((sc - i') - 1))]) (φ := (0 ≤ (1 : Int) ∧ (1 : Int) ≤ (((lg.sns.length - i') : Nat) : Int)) ∧ True) (rest := []) h637 (by kernel_rfl) rfl ⟨⟨by omega, by omega⟩, trivial⟩ fun a644 h645 => ?_
                        clear h637
                        refine nd_done ?_
                        have e646 : sliceBase (some ⟨b536, (i' * 15), none⟩) (sc - i') 1 15 = winA (some ⟨b536, 0, none⟩) sc (i' + 1) 15 := by rw [← winA_some b536 15 hlt616]; exact winA_succ 15 (.inr ⟨b536, rfl⟩) hlt616
                        have e647 : lg.sns.length - i' - 1 = lg.sns.length - (i' + 1) := by omega
                        have e648 : sc - i' - 1 = sc - (i' + 1) := by omega
                        rw [e646, e647, e648] at h645
                        exact ⟨(gg - 1), by omega, (i' + 1), by omega, by omega, by omega, hsame, (h645.slotsMono (restr_spec (keep := [0, 1, 4, 5, 6, 9, 8, 7]) rfl))⟩
                  ·
                    have hc619f : y'.idx ≠ y.idx := by simpa using hc619
                    refine wp_exit ?_
                    rw [← winA_some b536 15 hlt616] at h618
                    have hstop : ∀ z, lg.sns[i']? = some z → z.idx ≠ y.idx := (by intro z hz; rw [hy'] at hz; cases hz; exact hc619f)
                    exact hm594 i' _ _ hi608 hi609 (hi611.trans (vs_stop hstop)) hstop (h618.slotsMono (restr_spec (keep := [0, 1, 4, 5, 6, 9, 8, 7]) rfl))
                ·
                  have hb614f : ¬ (((lg.sns.length - i') : Nat) : Int) > 0 := by simpa using hb614
                  refine nd_start (l := [0, 1, 2, 3, 4, 5, 6, 7, 8, 9, 10]) rfl ?_
                  refine nd_batch tabOk tabZ_ok [(0, {}), (1, {}), (2, {f := 1}), (3, {}), (4, {}), (5, {}), (6, {}), (7, {}), (8, {}), (9, {}), (10, {})] [0, 1, 4, 5, 6, 9, 8, 7, 136] (T' := [(0, .pointer (some ⟨bl, 0, none⟩)), (1, .pointer (some ⟨bl, 0, none⟩)), (4, .pointer (some ⟨b2, 0, none⟩)), (5, .pointer (some ⟨b14, 0, none⟩)), (6, .int .i64 good), (9, .int .i64 y.idx), (8, .slice (winA (some ⟨b536, 0, none⟩) sc i' 15) (lg.sns.length - i') (sc - i')), (7, .slice (winA mo mc j' 2) (lg.mks.length - j') (mc - j')), (136, .bool false)]) (φ := (decide ((((lg.sns.length - i') : Nat) : Int) > 0)) = false ∧ True) (rest := []) h607 (by kernel_rfl) rfl ⟨hb614, trivial⟩ fun a649 h650 => ?_
                  clear h607
                  refine nd_done ?_
                  refine hK613 _ _ ?_
                  clear hK613
                  refine c_false h650 rfl ?_
                  refine wp_exit ?_
                  have hstop : ∀ z, lg.sns[i']? = some z → z.idx ≠ y.idx := (by intro z hz; have := (List.getElem?_eq_some_iff.1 hz).1; omega)
                  exact hm594 i' _ _ hi608 hi609 (hi611.trans (vs_stop hstop)) hstop (h650.slotsMono (restr_spec (keep := [0, 1, 4, 5, 6, 9, 8, 7]) rfl))
              clear hK584
              refine wp_loop_ghost (fun gg ga gw => ∃ (j' : Nat), (j' ≤ lg.mks.length) ∧ (j ≤ j') ∧ (gg = lg.mks.length - j') ∧ (vm y.idx (dig (runF (seg lg.evs q (y.idx - pos').toNat) (m', o')).1) (lg.mks.drop j) = vm y.idx (dig (runF (seg lg.evs q (y.idx - pos').toNat) (m', o')).1) (lg.mks.drop j')) ∧ St ⟨165, [], w, Rws [rl evC 31 3 lg.evs eo ec eF, rl mkC 93 2 lg.mks mo mc mF, rl ptC 84 15 lg.sns (some ⟨b536, 0, none⟩) sc ([b536])], Ff [rl evC 31 3 lg.evs eo ec eF, rl mkC 93 2 lg.mks mo mc mF, rl ptC 84 15 lg.sns (some ⟨b536, 0, none⟩) sc ([b536])]⟩ [(0, .pointer (some ⟨bl, 0, none⟩)), (1, .pointer (some ⟨bl, 0, none⟩)), (4, .pointer (some ⟨b2, 0, none⟩)), (5, .pointer (some ⟨b14, 0, none⟩)), (6, .int .i64 good), (9, .int .i64 y.idx), (7, .slice (winA mo mc j' 2) (lg.mks.length - j') (mc - j')), (8, .slice (winA (some ⟨b536, 0, none⟩) sc i 15) (lg.sns.length - i) (sc - i))] [(bl, ⟨logC lg.base (.slice eo lg.evs.length ec) (.slice mo lg.mks.length mc) (.slice (some ⟨b536, 0, none⟩) lg.sns.length sc), 89, true⟩), (b2, ⟨[.int .i64 0, .int .i64 0, .int .i64 0], 114, false⟩), (b14, ⟨curC ((runF (seg lg.evs q (y.idx - pos').toNat) (m', o')).1) ((runF (seg lg.evs q (y.idx - pos').toNat) (m', o')).2) y.idx, 105, false⟩), (b536, ⟨cs537, 84, true⟩)] ga gw) (lg.mks.length - j) ⟨j, by omega, Nat.le_refl _, rfl, rfl, (h582.slotsMono (restr_spec (keep := [0, 1, 4, 5, 6, 9, 7, 8]) rfl))⟩ ?_
              clear h582
              rintro gg a651 w652 ⟨j', hi654, hi655, hi656, hi657, h653⟩
              refine wp_seq_k fun K658 hK658 => ?_
              refine wp_seq_k fun K659 hK659 => ?_
              rcases Bool.eq_false_or_eq_true (decide ((((lg.mks.length - j') : Nat) : Int) > 0)) with hb660 | hb660
              ·
                have hb660f : (((lg.mks.length - j') : Nat) : Int) > 0 := by simpa using hb660
                obtain ⟨x', hx'⟩ := Sx.get_some (xs := lg.mks) (i := j') (by omega)
                obtain ⟨b661, cs662, ho663, hb664, hc665, hF666, hq668, hl669⟩ := rl_open (h653.inv.get (j := 1) rfl) mkC_len hx'
                subst ho663 hF666
                have h667 := h653.open_ hb664 (h653.notinL (by simp [Ff]) (kcons (fun _ => (fun hq => hsep (by have hq2 : bl = b661 := hq; rw [hq2]; simp [Hd.F]))) (kcons (by intro hq; cases hq) (kcons (by intro hq; cases hq) (kcons (fun _ => (fun hq => Ff_nodup h653.inv.1 (i := 2) (j := 1) rfl rfl (by decide) b536 (by simp) (by have hq2 : b536 = b661 := hq; rw [hq2]; simp))) knil)))))
                clear h653
                have hlt670 : j' < mc := by have h1 : lg.mks.length ≤ mc := rl_cap (h667.inv.get (j := 1) rfl); have h2 := (List.getElem?_eq_some_iff.1 hx').1; omega
                rw [winA_some b661 2 hlt670] at h667
                refine nd_start (l := [0, 1, 2, 3, 4, 5, 6, 7, 8, 9, 10]) rfl ?_
                refine nd_batch tabOk tabZ_ok [(0, {}), (1, {}), (2, {f := 2}), (3, {}), (4, {}), (5, {}), (6, {}), (7, {k := 4, m := 1, vs := [.int .i64 x'.idx]}), (8, {}), (9, {}), (10, {})] [0, 1, 4, 5, 6, 9, 7, 8, 107] (T' := [(0, .pointer (some ⟨bl, 0, none⟩)), (1, .pointer (some ⟨bl, 0, none⟩)), (4, .pointer (some ⟨b2, 0, none⟩)), (5, .pointer (some ⟨b14, 0, none⟩)), (6, .int .i64 good), (9, .int .i64 y.idx), (7, .slice (some ⟨b661, (j' * 2), none⟩) (lg.mks.length - j') (mc - j')), (8, .slice (winA (some ⟨b536, 0, none⟩) sc i 15) (lg.sns.length - i) (sc - i)), (107, .bool (x'.idx == y.idx))]) (φ := (decide ((((lg.mks.length - j') : Nat) : Int) > 0)) = true ∧ (0 ≤ (0 : Int) ∧ (0 : Int) < (((lg.mks.length - j') : Nat) : Int)) ∧ (b661 = b661 ∧ cellsAre cs662 (j' * 2) [.int .i64 x'.idx]) ∧ True) (rest := []) h667 (by kernel_rfl) rfl ⟨hb660, ⟨by omega, by omega⟩, ⟨rfl, ⟨(hc665).1, trivial⟩⟩, trivial⟩ fun a671 h672 => ?_
                clear h667
                refine nd_done ?_
                refine hK659 _ _ ?_
                clear hK659
                refine c_split h672 (b := (x'.idx == y.idx)) rfl (fun hc673 => ?_) (fun hc673 => ?_)
                ·
                  have hc673f : x'.idx = y.idx := by simpa using hc673
                  have hxn : x'.idx = y.idx := hc673f
                  refine wp_skip ?_
                  refine hK658 _ _ ?_
                  clear hK658
                  refine wp_seq_k fun K674 hK674 => ?_
                  refine wp_block ?_
                  refine wp_seq_k fun K675 hK675 => ?_
                  refine dr_start (KB := [bl, b2, b14, b536, b661]) (Bi := [[0, 1, 2, 3, 4], [0, 1, 2, 3, 4], [0, 1, 2, 3, 4], [0, 1, 2, 3, 4], [0, 1, 2, 3, 4], [4], [0, 1, 2, 3, 4]]) mixed h672 fun w676 h677 => ?_
                  clear h672
                  refine dr_batch tabOk tabZ_ok (by repeat (first | exact PF.body | with_reducible apply PF.inB | with_reducible apply PF.next)) [(0, {}), (1, {}), (2, {}), (3, {k := 4, m := 1, vs := [.int .u64 x'.sum], p := 4}), (4, {})] [0, 1, 4, 5, 6, 9, 7, 8, 113, 114] (T' := [(0, .pointer (some ⟨bl, 0, none⟩)), (1, .pointer (some ⟨bl, 0, none⟩)), (4, .pointer (some ⟨b2, 0, none⟩)), (5, .pointer (some ⟨b14, 0, none⟩)), (6, .int .i64 good), (9, .int .i64 y.idx), (7, .slice (some ⟨b661, (j' * 2), none⟩) (lg.mks.length - j') (mc - j')), (8, .slice (winA (some ⟨b536, 0, none⟩) sc i 15) (lg.sns.length - i) (sc - i)), (113, .int .u64 x'.sum), (114, .pointer (some ⟨b14, 0, none⟩))]) (φ := (0 ≤ (0 : Int) ∧ (0 : Int) < (((lg.mks.length - j') : Nat) : Int)) ∧ (b661 = b661 ∧ cellsAre cs662 ((j' * 2) + 1) [.int .u64 x'.sum]) ∧ True) (fuel := 2) h677 (by kernel_rfl) rfl (by kernel_rfl) (by kernel_rfl) ⟨trivial, trivial, trivial, rfl, trivial, trivial⟩ ⟨⟨by omega, by omega⟩, ⟨rfl, ⟨(hc665).2.1, trivial⟩⟩, trivial⟩ fun a679 h680 => ?_
                  clear h677
                  refine wpAnyK_one (i := 5) (fuel := 1) (by kernel_rfl) ?_
                  refine op_call h680 rfl rfl rfl (callOk Tryf.func51 (by decide) rfl) (args := [.pointer (some ⟨b14, 0, none⟩)]) rfl (digest_ok [] (outC (runF (seg lg.evs q (y.idx - pos').toNat) (m', o')).2 ++ [.int .i64 y.idx]) (runF (seg lg.evs q (y.idx - pos').toNat) (m', o')).1 hmok2 b14 105 false _ (h680.kn (k := 2) rfl)) ?_
                  rintro _ w681 ⟨rfl, hf683⟩
                  refine ⟨_, rfl, ?_⟩
                  have h682 := (h680.grow hf683).put (d := some 115) (v := .int .u64 (dig (runF (seg lg.evs q (y.idx - pos').toNat) (m', o')).1)) (T' := [(115, .int .u64 (dig (runF (seg lg.evs q (y.idx - pos').toNat) (m', o')).1)), (0, .pointer (some ⟨bl, 0, none⟩)), (1, .pointer (some ⟨bl, 0, none⟩)), (4, .pointer (some ⟨b2, 0, none⟩)), (5, .pointer (some ⟨b14, 0, none⟩)), (6, .int .i64 good), (9, .int .i64 y.idx), (7, .slice (some ⟨b661, (j' * 2), none⟩) (lg.mks.length - j') (mc - j')), (8, .slice (winA (some ⟨b536, 0, none⟩) sc i 15) (lg.sns.length - i) (sc - i)), (113, .int .u64 x'.sum), (114, .pointer (some ⟨b14, 0, none⟩))]) rfl
                  refine ⟨(h680.keepFr hf683 (kcons (by simp) knil)), ?_⟩
                  clear h680
                  refine dr_batch tabOk tabZ_ok (by repeat (first | exact PF.body | with_reducible apply PF.inB | with_reducible apply PF.next)) [(6, {})] [0, 1, 4, 5, 6, 9, 7, 8, 116] (T' := [(0, .pointer (some ⟨bl, 0, none⟩)), (1, .pointer (some ⟨bl, 0, none⟩)), (4, .pointer (some ⟨b2, 0, none⟩)), (5, .pointer (some ⟨b14, 0, none⟩)), (6, .int .i64 good), (9, .int .i64 y.idx), (7, .slice (some ⟨b661, (j' * 2), none⟩) (lg.mks.length - j') (mc - j')), (8, .slice (winA (some ⟨b536, 0, none⟩) sc i 15) (lg.sns.length - i) (sc - i)), (116, .bool (x'.sum != (dig (runF (seg lg.evs q (y.idx - pos').toNat) (m', o')).1)))]) (φ := True) (fuel := 0) h682 (by kernel_rfl) rfl (by kernel_rfl) (by kernel_rfl) ⟨trivial, trivial⟩ trivial fun a684 h685 => ?_
                  clear h682
                  refine wpAnyK_done (by kernel_rfl) ?_ _
                  refine hK675 _ _ ?_
                  clear hK675
                  refine c_split h685 (b := (x'.sum != (dig (runF (seg lg.evs q (y.idx - pos').toNat) (m', o')).1))) rfl (fun hc686 => ?_) (fun hc686 => ?_)
                  ·
                    have hc686f : x'.sum ≠ (dig (runF (seg lg.evs q (y.idx - pos').toNat) (m', o')).1) := by simpa using hc686
                    have hvm := hi657.trans (vm_bad hx' hxn hc686f)
                    refine wp_seq_k fun K687 hK687 => ?_
                    refine nd_start (l := [0, 1, 2, 3, 4, 5, 6, 7, 8, 9]) rfl ?_
                    refine nd_batch tabOk tabZ_ok [(0, {}), (1, {}), (2, {}), (3, {}), (4, {}), (5, {}), (6, {k := 0}), (7, {}), (8, {})] [0, 1, 4, 5, 6, 9, 7, 8, 125] (T' := [(0, .pointer (some ⟨bl, 0, none⟩)), (1, .pointer (some ⟨bl, 0, none⟩)), (4, .pointer (some ⟨b2, 0, none⟩)), (5, .pointer (some ⟨b14, 0, none⟩)), (6, .int .i64 good), (9, .int .i64 y.idx), (7, .slice (some ⟨b661, (j' * 2), none⟩) (lg.mks.length - j') (mc - j')), (8, .slice (winA (some ⟨b536, 0, none⟩) sc i 15) (lg.sns.length - i) (sc - i)), (125, .agg #[.int .i64 y.idx, .int .i64 good, .int .i64 (y.idx - lg.base.idx)])]) (φ := (bl = bl ∧ Nat.ble (0 + 1) 18 = true) ∧ inR .i64 (y.idx - lg.base.idx) ∧ True) (rest := [9]) h685 (by kernel_rfl) rfl ⟨⟨rfl, rfl⟩, ⟨by omega, by omega⟩, trivial⟩ fun a688 h689 => ?_
                    clear h685
                    refine nd_op ?_
                    refine op_store tabOk {k := 1} (L' := [(bl, ⟨logC lg.base (.slice eo lg.evs.length ec) (.slice (some ⟨b661, 0, none⟩) lg.mks.length mc) (.slice (some ⟨b536, 0, none⟩) lg.sns.length sc), 89, true⟩), (b2, ⟨[.int .i64 y.idx, .int .i64 good, .int .i64 (y.idx - lg.base.idx)], 114, false⟩), (b14, ⟨curC ((runF (seg lg.evs q (y.idx - pos').toNat) (m', o')).1) ((runF (seg lg.evs q (y.idx - pos').toNat) (m', o')).2) y.idx, 105, false⟩), (b536, ⟨cs537, 84, true⟩), (b661, ⟨cs662, 93, true⟩)]) (φ := b2 = b2 ∧ Nat.ble (0 + 3) 3 = true) h689 rfl rfl rfl (by kernel_rfl) ⟨rfl, rfl⟩ fun w690 h691 => ?_
                    clear h689
                    refine nd_done ?_
                    refine hK687 _ _ ?_
                    clear hK687
                    refine wp_ret ?_
                    have hres := hv.symm.trans (vloop_mark hnx hfin hs2 hvm)
                    try simp only [Exit.then, Exit.inBlock]
                    try rw [if_pos trivial]
                    exact s_ret tabOk tabZ_ok h691 [(.cell 4 114, {k := 1})] (vs := [.agg #[.int .i64 y.idx, .int .i64 good, .int .i64 (y.idx - lg.base.idx)]]) (φ := (b2 = b2 ∧ Nat.ble (0 + 3) 3 = true) ∧ True) rfl (by kernel_rfl) ⟨⟨rfl, rfl⟩, trivial⟩ ⟨by rw [hres]; rfl, h691.frame⟩
                  ·
                    have hc686f : x'.sum = (dig (runF (seg lg.evs q (y.idx - pos').toNat) (m', o')).1) := by simpa using hc686
                    have hsame := hi657.trans (vm_same hx' hxn hc686f)
                    refine wp_skip ?_
                    refine hK674 _ _ ?_
                    clear hK674
                    refine nd_start (l := [0, 1, 2]) rfl ?_
                    refine nd_batch tabOk tabZ_ok [(0, {}), (1, {}), (2, {})] [0, 1, 4, 5, 6, 9, 8, 7] (T' := [(0, .pointer (some ⟨bl, 0, none⟩)), (1, .pointer (some ⟨bl, 0, none⟩)), (4, .pointer (some ⟨b2, 0, none⟩)), (5, .pointer (some ⟨b14, 0, none⟩)), (6, .int .i64 good), (9, .int .i64 y.idx), (8, .slice (winA (some ⟨b536, 0, none⟩) sc i 15) (lg.sns.length - i) (sc - i)), (7, .slice (sliceBase (some ⟨b661, (j' * 2), none⟩) (mc - j') 1 2) ((lg.mks.length - j') - 1) ((mc - j') - 1))]) (φ := (0 ≤ (1 : Int) ∧ (1 : Int) ≤ (((lg.mks.length - j') : Nat) : Int)) ∧ True) (rest := []) h685 (by kernel_rfl) rfl ⟨⟨by omega, by omega⟩, trivial⟩ fun a692 h693 => ?_
                    clear h685
                    refine nd_done ?_
                    have h694 := h693.memMono (L' := [(bl, ⟨logC lg.base (.slice eo lg.evs.length ec) (.slice (some ⟨b661, 0, none⟩) lg.mks.length mc) (.slice (some ⟨b536, 0, none⟩) lg.sns.length sc), 89, true⟩), (b2, ⟨[.int .i64 0, .int .i64 0, .int .i64 0], 114, false⟩), (b14, ⟨curC ((runF (seg lg.evs q (y.idx - pos').toNat) (m', o')).1) ((runF (seg lg.evs q (y.idx - pos').toNat) (m', o')).2) y.idx, 105, false⟩), (b536, ⟨cs537, 84, true⟩)]) (List.Sublist.cons_cons _ (List.Sublist.cons_cons _ (List.Sublist.cons_cons _ (List.Sublist.cons_cons _ (List.Sublist.cons _ List.Sublist.slnil)))))
                    clear h693
                    have e695 : sliceBase (some ⟨b661, (j' * 2), none⟩) (mc - j') 1 2 = winA (some ⟨b661, 0, none⟩) mc (j' + 1) 2 := by rw [← winA_some b661 2 hlt670]; exact winA_succ 2 (.inr ⟨b661, rfl⟩) hlt670
                    have e696 : lg.mks.length - j' - 1 = lg.mks.length - (j' + 1) := by omega
                    have e697 : mc - j' - 1 = mc - (j' + 1) := by omega
                    rw [e695, e696, e697] at h694
                    exact ⟨(gg - 1), by omega, (j' + 1), by omega, by omega, by omega, hsame, (h694.slotsMono (restr_spec (keep := [0, 1, 4, 5, 6, 9, 7, 8]) rfl))⟩
                ·
                  have hc673f : x'.idx ≠ y.idx := by simpa using hc673
                  refine wp_exit ?_
                  rw [← winA_some b661 2 hlt670] at h672
                  have hstop : ∀ z, lg.mks[j']? = some z → z.idx ≠ y.idx := (by intro z hz; rw [hx'] at hz; cases hz; exact hc673f)
                  exact hm585 j' _ _ hi654 hi655 (hi657.trans (vm_stop hstop)) hstop ((h672.memMono (List.Sublist.cons_cons _ (List.Sublist.cons_cons _ (List.Sublist.cons_cons _ (List.Sublist.cons_cons _ (List.Sublist.cons _ List.Sublist.slnil)))))).slotsMono (restr_spec (keep := [0, 1, 4, 5, 6, 9, 7, 8]) rfl))
              ·
                have hb660f : ¬ (((lg.mks.length - j') : Nat) : Int) > 0 := by simpa using hb660
                refine nd_start (l := [0, 1, 2, 3, 4, 5, 6, 7, 8, 9, 10]) rfl ?_
                refine nd_batch tabOk tabZ_ok [(0, {}), (1, {}), (2, {f := 1}), (3, {}), (4, {}), (5, {}), (6, {}), (7, {}), (8, {}), (9, {}), (10, {})] [0, 1, 4, 5, 6, 9, 7, 8, 107] (T' := [(0, .pointer (some ⟨bl, 0, none⟩)), (1, .pointer (some ⟨bl, 0, none⟩)), (4, .pointer (some ⟨b2, 0, none⟩)), (5, .pointer (some ⟨b14, 0, none⟩)), (6, .int .i64 good), (9, .int .i64 y.idx), (7, .slice (winA mo mc j' 2) (lg.mks.length - j') (mc - j')), (8, .slice (winA (some ⟨b536, 0, none⟩) sc i 15) (lg.sns.length - i) (sc - i)), (107, .bool false)]) (φ := (decide ((((lg.mks.length - j') : Nat) : Int) > 0)) = false ∧ True) (rest := []) h653 (by kernel_rfl) rfl ⟨hb660, trivial⟩ fun a698 h699 => ?_
                clear h653
                refine nd_done ?_
                refine hK659 _ _ ?_
                clear hK659
                refine c_false h699 rfl ?_
                refine wp_exit ?_
                have hstop : ∀ z, lg.mks[j']? = some z → z.idx ≠ y.idx := (by intro z hz; have := (List.getElem?_eq_some_iff.1 hz).1; omega)
                exact hm585 j' _ _ hi654 hi655 (hi657.trans (vm_stop hstop)) hstop (h699.slotsMono (restr_spec (keep := [0, 1, 4, 5, 6, 9, 7, 8]) rfl))
          ·
            have hc548f : ¬ y.idx < ((lg.base.idx + (lg.evs.length : Int)) + 1) := by simpa using hc548
            refine wp_skip ?_
            refine hK533 _ _ ?_
            clear hK533
            refine wp_seq_k fun K700 hK700 => ?_
            refine wp_seq_k fun K701 hK701 => ?_
            refine nd_start (l := [0, 1, 2, 3]) rfl ?_
            refine nd_batch tabOk tabZ_ok [(0, {}), (1, {})] [0, 1, 4, 5, 6, 7, 8, 9, 77, 78] (T' := [(0, .pointer (some ⟨bl, 0, none⟩)), (1, .pointer (some ⟨bl, 0, none⟩)), (4, .pointer (some ⟨b2, 0, none⟩)), (5, .pointer (some ⟨b14, 0, none⟩)), (6, .int .i64 good), (7, .slice (winA mo mc j 2) (lg.mks.length - j) (mc - j)), (8, .slice (some ⟨b536, (i * 15), none⟩) (lg.sns.length - i) (sc - i)), (9, .int .i64 ((lg.base.idx + (lg.evs.length : Int)) + 1)), (77, .int .i64 ((lg.base.idx + (lg.evs.length : Int)) + 1)), (78, .pointer (some ⟨bl, 0, none⟩))]) (φ := True) (rest := [2, 3]) h547 (by kernel_rfl) rfl trivial fun a702 h703 => ?_
            clear h547
            refine nd_op ?_
            refine op_call h703 rfl rfl rfl (callOk Tryf.func41 (by decide) rfl) (args := [.pointer (some ⟨bl, 0, none⟩)]) rfl (end_ok bl lg.base eo lg.evs.length ec (.slice mo lg.mks.length mc) (.slice (some ⟨b536, 0, none⟩) lg.sns.length sc) true _ (h703.kn (k := 0) rfl) hb0 (by omega) (by omega)) ?_
            rintro _ w704 ⟨rfl, hf706⟩
            refine ⟨_, rfl, ?_⟩
            have h705 := (h703.grow hf706).put (d := some 79) (v := .int .i64 (lg.base.idx + (lg.evs.length : Int))) (T' := [(79, .int .i64 (lg.base.idx + (lg.evs.length : Int))), (0, .pointer (some ⟨bl, 0, none⟩)), (1, .pointer (some ⟨bl, 0, none⟩)), (4, .pointer (some ⟨b2, 0, none⟩)), (5, .pointer (some ⟨b14, 0, none⟩)), (6, .int .i64 good), (7, .slice (winA mo mc j 2) (lg.mks.length - j) (mc - j)), (8, .slice (some ⟨b536, (i * 15), none⟩) (lg.sns.length - i) (sc - i)), (9, .int .i64 ((lg.base.idx + (lg.evs.length : Int)) + 1)), (77, .int .i64 ((lg.base.idx + (lg.evs.length : Int)) + 1)), (78, .pointer (some ⟨bl, 0, none⟩))]) rfl
            clear h703
            refine nd_batch tabOk tabZ_ok [(3, {})] [0, 1, 4, 5, 6, 7, 8, 9, 80] (T' := [(0, .pointer (some ⟨bl, 0, none⟩)), (1, .pointer (some ⟨bl, 0, none⟩)), (4, .pointer (some ⟨b2, 0, none⟩)), (5, .pointer (some ⟨b14, 0, none⟩)), (6, .int .i64 good), (7, .slice (winA mo mc j 2) (lg.mks.length - j) (mc - j)), (8, .slice (some ⟨b536, (i * 15), none⟩) (lg.sns.length - i) (sc - i)), (9, .int .i64 ((lg.base.idx + (lg.evs.length : Int)) + 1)), (80, .bool (decide (((lg.base.idx + (lg.evs.length : Int)) + 1) > (lg.base.idx + (lg.evs.length : Int)))))]) (φ := True) (rest := []) h705 (by kernel_rfl) rfl trivial fun a707 h708 => ?_
            clear h705
            refine nd_done ?_
            refine hK701 _ _ ?_
            clear hK701
            refine c_split h708 (b := decide (((lg.base.idx + (lg.evs.length : Int)) + 1) > (lg.base.idx + (lg.evs.length : Int)))) rfl (fun hc709 => ?_) (fun hc709 => ?_)
            ·
              have hc709f : ((lg.base.idx + (lg.evs.length : Int)) + 1) > (lg.base.idx + (lg.evs.length : Int)) := by simpa using hc709
              have hnx : nextOf lg.fin (lg.mks.drop j) (lg.sns.drop i) = ((lg.base.idx + (lg.evs.length : Int)) + 1) := by rw [next_s (fin := lg.fin) (by omega) hy, if_neg (by omega)]; rfl
              have hfin : lg.fin < ((lg.base.idx + (lg.evs.length : Int)) + 1) := hc709f
              refine wp_seq_k fun K710 hK710 => ?_
              refine nd_start (l := [0, 1, 2, 3]) rfl ?_
              refine nd_batch tabOk tabZ_ok [(0, {}), (1, {})] [0, 1, 4, 5, 6, 7, 8, 9, 81, 82] (T' := [(0, .pointer (some ⟨bl, 0, none⟩)), (1, .pointer (some ⟨bl, 0, none⟩)), (4, .pointer (some ⟨b2, 0, none⟩)), (5, .pointer (some ⟨b14, 0, none⟩)), (6, .int .i64 good), (7, .slice (winA mo mc j 2) (lg.mks.length - j) (mc - j)), (8, .slice (some ⟨b536, (i * 15), none⟩) (lg.sns.length - i) (sc - i)), (9, .int .i64 ((lg.base.idx + (lg.evs.length : Int)) + 1)), (81, .pointer (some ⟨bl, 0, none⟩)), (82, .pointer (some ⟨bl, 0, none⟩))]) (φ := True) (rest := [2, 3]) h708 (by kernel_rfl) rfl trivial fun a711 h712 => ?_
              clear h708
              refine nd_op ?_
              refine op_call h712 rfl rfl rfl (callOk Tryf.func41 (by decide) rfl) (args := [.pointer (some ⟨bl, 0, none⟩)]) rfl (end_ok bl lg.base eo lg.evs.length ec (.slice mo lg.mks.length mc) (.slice (some ⟨b536, 0, none⟩) lg.sns.length sc) true _ (h712.kn (k := 0) rfl) hb0 (by omega) (by omega)) ?_
              rintro _ w713 ⟨rfl, hf715⟩
              refine ⟨_, rfl, ?_⟩
              have h714 := (h712.grow hf715).put (d := some 83) (v := .int .i64 (lg.base.idx + (lg.evs.length : Int))) (T' := [(83, .int .i64 (lg.base.idx + (lg.evs.length : Int))), (0, .pointer (some ⟨bl, 0, none⟩)), (1, .pointer (some ⟨bl, 0, none⟩)), (4, .pointer (some ⟨b2, 0, none⟩)), (5, .pointer (some ⟨b14, 0, none⟩)), (6, .int .i64 good), (7, .slice (winA mo mc j 2) (lg.mks.length - j) (mc - j)), (8, .slice (some ⟨b536, (i * 15), none⟩) (lg.sns.length - i) (sc - i)), (9, .int .i64 ((lg.base.idx + (lg.evs.length : Int)) + 1)), (81, .pointer (some ⟨bl, 0, none⟩)), (82, .pointer (some ⟨bl, 0, none⟩))]) rfl
              clear h712
              refine nd_op ?_
              refine op_call h714 rfl rfl rfl (callOk Tryf.func44 (by decide) rfl) (args := [.pointer (some ⟨b14, 0, none⟩), .pointer (some ⟨bl, 0, none⟩), .int .i64 (lg.base.idx + (lg.evs.length : Int))]) rfl (run_ok b14 bl ⟨eo, ec, eF, mo, mc, mF, (some ⟨b536, 0, none⟩), sc, [b536]⟩ lg _ (LogAt.of (d := ⟨eo, ec, eF, mo, mc, mF, (some ⟨b536, 0, none⟩), sc, [b536]⟩) (h714.kn (k := 0) rfl) h714.inv hsep) m' o' pos' (lg.base.idx + (lg.evs.length : Int)) q ((lg.base.idx + (lg.evs.length : Int)) - pos').toNat (h714.kn (k := 2) rfl) (h714.ne 2 0 rfl rfl rfl) (h714.dj (k := 2) rfl rfl) hev hmok hq (by omega) (by omega) (by omega) hb0 (by omega)) ?_
              rintro _ w716 ⟨rfl, hbs, hf718⟩
              refine ⟨_, rfl, ?_⟩
              have h717 := (h714.setBlk (k := 2) rfl rfl hf718 hbs (L' := [(bl, ⟨logC lg.base (.slice eo lg.evs.length ec) (.slice mo lg.mks.length mc) (.slice (some ⟨b536, 0, none⟩) lg.sns.length sc), 89, true⟩), (b2, ⟨[.int .i64 0, .int .i64 0, .int .i64 0], 114, false⟩), (b14, ⟨curC ((runF (seg lg.evs q ((lg.base.idx + (lg.evs.length : Int)) - pos').toNat) (m', o')).1) ((runF (seg lg.evs q ((lg.base.idx + (lg.evs.length : Int)) - pos').toNat) (m', o')).2) (lg.base.idx + (lg.evs.length : Int)), 105, false⟩), (b536, ⟨cs537, 84, true⟩)]) rfl).put (d := some 84) (v := .tuple #[]) (T' := [(84, .tuple #[]), (83, .int .i64 (lg.base.idx + (lg.evs.length : Int))), (0, .pointer (some ⟨bl, 0, none⟩)), (1, .pointer (some ⟨bl, 0, none⟩)), (4, .pointer (some ⟨b2, 0, none⟩)), (5, .pointer (some ⟨b14, 0, none⟩)), (6, .int .i64 good), (7, .slice (winA mo mc j 2) (lg.mks.length - j) (mc - j)), (8, .slice (some ⟨b536, (i * 15), none⟩) (lg.sns.length - i) (sc - i)), (9, .int .i64 ((lg.base.idx + (lg.evs.length : Int)) + 1)), (81, .pointer (some ⟨bl, 0, none⟩)), (82, .pointer (some ⟨bl, 0, none⟩))]) rfl
              clear h714
              refine nd_done ?_
              refine hK710 _ _ ?_
              clear hK710
              refine wp_seq_k fun K719 hK719 => ?_
              refine dr_start (KB := [bl, b2, b14, b536]) (Bi := [[0, 1, 2, 3], [0, 1, 2, 3], [0, 1, 2, 3], [0, 1, 2, 3], [0, 1, 2, 3], [0, 1, 2, 3], [0, 1, 2, 3], [0, 1, 2, 3], [0, 1, 2, 3], []]) mixed h717 fun w720 h721 => ?_
              clear h717
              refine dr_batch tabOk tabZ_ok (by repeat (first | exact PF.body | with_reducible apply PF.inB | with_reducible apply PF.next)) [(0, {}), (1, {}), (2, {k := 2, p := 2}), (3, {}), (4, {}), (5, {}), (6, {k := 0, p := 0}), (7, {}), (8, {})] [0, 1, 4, 5, 6, 7, 8, 9, 93] (T' := [(0, .pointer (some ⟨bl, 0, none⟩)), (1, .pointer (some ⟨bl, 0, none⟩)), (4, .pointer (some ⟨b2, 0, none⟩)), (5, .pointer (some ⟨b14, 0, none⟩)), (6, .int .i64 good), (7, .slice (winA mo mc j 2) (lg.mks.length - j) (mc - j)), (8, .slice (some ⟨b536, (i * 15), none⟩) (lg.sns.length - i) (sc - i)), (9, .int .i64 ((lg.base.idx + (lg.evs.length : Int)) + 1)), (93, .agg #[.int .i64 (-1), .int .i64 good, .int .i64 ((lg.base.idx + (lg.evs.length : Int)) - lg.base.idx)])]) (φ := (b14 = b14 ∧ Nat.ble (14 + 1) 15 = true) ∧ (bl = bl ∧ Nat.ble (0 + 1) 18 = true) ∧ inR .i64 ((lg.base.idx + (lg.evs.length : Int)) - lg.base.idx) ∧ True) (fuel := 1) h721 (by kernel_rfl) rfl (by kernel_rfl) (by kernel_rfl) ⟨trivial, trivial, rfl, trivial, trivial, trivial, rfl, trivial, trivial, trivial⟩ ⟨⟨rfl, rfl⟩, ⟨rfl, rfl⟩, ⟨by omega, by omega⟩, trivial⟩ fun a723 h724 => ?_
              clear h721
              refine wpAnyK_one (i := 9) (fuel := 0) (by kernel_rfl) ?_
              refine op_store tabOk {k := 1} (L' := [(bl, ⟨logC lg.base (.slice eo lg.evs.length ec) (.slice mo lg.mks.length mc) (.slice (some ⟨b536, 0, none⟩) lg.sns.length sc), 89, true⟩), (b2, ⟨[.int .i64 (-1), .int .i64 good, .int .i64 ((lg.base.idx + (lg.evs.length : Int)) - lg.base.idx)], 114, false⟩), (b14, ⟨curC ((runF (seg lg.evs q ((lg.base.idx + (lg.evs.length : Int)) - pos').toNat) (m', o')).1) ((runF (seg lg.evs q ((lg.base.idx + (lg.evs.length : Int)) - pos').toNat) (m', o')).2) (lg.base.idx + (lg.evs.length : Int)), 105, false⟩), (b536, ⟨cs537, 84, true⟩)]) (φ := b2 = b2 ∧ Nat.ble (0 + 3) 3 = true) h724 rfl rfl rfl (by kernel_rfl) ⟨rfl, rfl⟩ fun w725 h726 => ?_
              have hkh726 := h724.known
              refine ⟨keepNil, ?_⟩
              clear h724
              refine wpAnyK_done (by kernel_rfl) ?_ _
              refine hK719 _ _ ?_
              clear hK719
              refine wp_ret ?_
              have hres := hv.symm.trans (vloop_end hnx hfin)
              try simp only [Exit.then, Exit.inBlock]
              try rw [if_pos trivial]
              exact s_ret tabOk tabZ_ok h726 [(.cell 4 114, {k := 1})] (vs := [.agg #[.int .i64 (-1), .int .i64 good, .int .i64 ((lg.base.idx + (lg.evs.length : Int)) - lg.base.idx)]]) (φ := (b2 = b2 ∧ Nat.ble (0 + 3) 3 = true) ∧ True) rfl (by kernel_rfl) ⟨⟨rfl, rfl⟩, trivial⟩ ⟨by rw [hres]; rfl, h726.frame⟩
            ·
              have hc709f : ¬ ((lg.base.idx + (lg.evs.length : Int)) + 1) > (lg.base.idx + (lg.evs.length : Int)) := by simpa using hc709
              have hnx : nextOf lg.fin (lg.mks.drop j) (lg.sns.drop i) = ((lg.base.idx + (lg.evs.length : Int)) + 1) := by rw [next_s (fin := lg.fin) (by omega) hy, if_neg (by omega)]; rfl
              have hfin : ¬ lg.fin < ((lg.base.idx + (lg.evs.length : Int)) + 1) := hc709f
              have hnp : pos' ≤ ((lg.base.idx + (lg.evs.length : Int)) + 1) := by omega
              have hmok2 := runF_ok (seg lg.evs q (((lg.base.idx + (lg.evs.length : Int)) + 1) - pos').toNat) (m', o') hmok (seg_ok hev _ _)
              have hs2 : runF (seg lg.evs (pos' - lg.base.idx).toNat (((lg.base.idx + (lg.evs.length : Int)) + 1) - pos').toNat) (m', o') = runF (seg lg.evs q (((lg.base.idx + (lg.evs.length : Int)) + 1) - pos').toNat) (m', o') := by rw [show (pos' - lg.base.idx).toNat = q by omega]
              simp only [Lg.fin] at hfin
              refine wp_skip ?_
              refine hK700 _ _ ?_
              clear hK700
              refine wp_seq_k fun K727 hK727 => ?_
              refine nd_start (l := [0, 1, 2]) rfl ?_
              refine nd_batch tabOk tabZ_ok [(0, {}), (1, {})] [0, 1, 4, 5, 6, 7, 8, 9, 94, 95] (T' := [(0, .pointer (some ⟨bl, 0, none⟩)), (1, .pointer (some ⟨bl, 0, none⟩)), (4, .pointer (some ⟨b2, 0, none⟩)), (5, .pointer (some ⟨b14, 0, none⟩)), (6, .int .i64 good), (7, .slice (winA mo mc j 2) (lg.mks.length - j) (mc - j)), (8, .slice (some ⟨b536, (i * 15), none⟩) (lg.sns.length - i) (sc - i)), (9, .int .i64 ((lg.base.idx + (lg.evs.length : Int)) + 1)), (94, .pointer (some ⟨bl, 0, none⟩)), (95, .int .i64 ((lg.base.idx + (lg.evs.length : Int)) + 1))]) (φ := True) (rest := [2]) h708 (by kernel_rfl) rfl trivial fun a728 h729 => ?_
              clear h708
              refine nd_op ?_
              refine op_call h729 rfl rfl rfl (callOk Tryf.func44 (by decide) rfl) (args := [.pointer (some ⟨b14, 0, none⟩), .pointer (some ⟨bl, 0, none⟩), .int .i64 ((lg.base.idx + (lg.evs.length : Int)) + 1)]) rfl (run_ok b14 bl ⟨eo, ec, eF, mo, mc, mF, (some ⟨b536, 0, none⟩), sc, [b536]⟩ lg _ (LogAt.of (d := ⟨eo, ec, eF, mo, mc, mF, (some ⟨b536, 0, none⟩), sc, [b536]⟩) (h729.kn (k := 0) rfl) h729.inv hsep) m' o' pos' ((lg.base.idx + (lg.evs.length : Int)) + 1) q (((lg.base.idx + (lg.evs.length : Int)) + 1) - pos').toNat (h729.kn (k := 2) rfl) (h729.ne 2 0 rfl rfl rfl) (h729.dj (k := 2) rfl rfl) hev hmok hq (by omega) (by omega) (by omega) hb0 (by omega)) ?_
              rintro _ w730 ⟨rfl, hbs, hf732⟩
              refine ⟨_, rfl, ?_⟩
              have h731 := (h729.setBlk (k := 2) rfl rfl hf732 hbs (L' := [(bl, ⟨logC lg.base (.slice eo lg.evs.length ec) (.slice mo lg.mks.length mc) (.slice (some ⟨b536, 0, none⟩) lg.sns.length sc), 89, true⟩), (b2, ⟨[.int .i64 0, .int .i64 0, .int .i64 0], 114, false⟩), (b14, ⟨curC ((runF (seg lg.evs q (((lg.base.idx + (lg.evs.length : Int)) + 1) - pos').toNat) (m', o')).1) ((runF (seg lg.evs q (((lg.base.idx + (lg.evs.length : Int)) + 1) - pos').toNat) (m', o')).2) ((lg.base.idx + (lg.evs.length : Int)) + 1), 105, false⟩), (b536, ⟨cs537, 84, true⟩)]) rfl).put (d := some 96) (v := .tuple #[]) (T' := [(96, .tuple #[]), (0, .pointer (some ⟨bl, 0, none⟩)), (1, .pointer (some ⟨bl, 0, none⟩)), (4, .pointer (some ⟨b2, 0, none⟩)), (5, .pointer (some ⟨b14, 0, none⟩)), (6, .int .i64 good), (7, .slice (winA mo mc j 2) (lg.mks.length - j) (mc - j)), (8, .slice (some ⟨b536, (i * 15), none⟩) (lg.sns.length - i) (sc - i)), (9, .int .i64 ((lg.base.idx + (lg.evs.length : Int)) + 1)), (94, .pointer (some ⟨bl, 0, none⟩)), (95, .int .i64 ((lg.base.idx + (lg.evs.length : Int)) + 1))]) rfl
              clear h729
              refine nd_done ?_
              refine hK727 _ _ ?_
              clear hK727
              refine wp_seq_k fun K733 hK733 => ?_
              refine wp_block ?_
              rw [← winA_some b536 15 hlt545] at h731
              have hm734 : ∀ (j' : Nat) (ca : Act) (cw : World), (j' ≤ lg.mks.length) → (j ≤ j') → (vm ((lg.base.idx + (lg.evs.length : Int)) + 1) (dig (runF (seg lg.evs q (((lg.base.idx + (lg.evs.length : Int)) + 1) - pos').toNat) (m', o')).1) (lg.mks.drop j) = some (lg.mks.drop j')) → (∀ z, lg.mks[j']? = some z → z.idx ≠ ((lg.base.idx + (lg.evs.length : Int)) + 1)) → St ⟨165, [], w, Rws [rl evC 31 3 lg.evs eo ec eF, rl mkC 93 2 lg.mks mo mc mF, rl ptC 84 15 lg.sns (some ⟨b536, 0, none⟩) sc ([b536])], Ff [rl evC 31 3 lg.evs eo ec eF, rl mkC 93 2 lg.mks mo mc mF, rl ptC 84 15 lg.sns (some ⟨b536, 0, none⟩) sc ([b536])]⟩ [(0, .pointer (some ⟨bl, 0, none⟩)), (1, .pointer (some ⟨bl, 0, none⟩)), (4, .pointer (some ⟨b2, 0, none⟩)), (5, .pointer (some ⟨b14, 0, none⟩)), (6, .int .i64 good), (9, .int .i64 ((lg.base.idx + (lg.evs.length : Int)) + 1)), (7, .slice (winA mo mc j' 2) (lg.mks.length - j') (mc - j')), (8, .slice (winA (some ⟨b536, 0, none⟩) sc i 15) (lg.sns.length - i) (sc - i))] [(bl, ⟨logC lg.base (.slice eo lg.evs.length ec) (.slice mo lg.mks.length mc) (.slice (some ⟨b536, 0, none⟩) lg.sns.length sc), 89, true⟩), (b2, ⟨[.int .i64 0, .int .i64 0, .int .i64 0], 114, false⟩), (b14, ⟨curC ((runF (seg lg.evs q (((lg.base.idx + (lg.evs.length : Int)) + 1) - pos').toNat) (m', o')).1) ((runF (seg lg.evs q (((lg.base.idx + (lg.evs.length : Int)) + 1) - pos').toNat) (m', o')).2) ((lg.base.idx + (lg.evs.length : Int)) + 1), 105, false⟩), (b536, ⟨cs537, 84, true⟩)] ca cw → K733 ca cw := by
                intro j' a735 w736 hi738 hi739 hi740 hi741 h737
                have hj' := hi738
                have hle1 := hi739
                have hvm := hi740
                have hstop1 := hi741
                refine hK733 _ _ ?_
                clear hK733
                refine wp_seq_k fun K742 hK742 => ?_
                refine wp_block ?_
                have hm743 : ∀ (i' : Nat) (ca : Act) (cw : World), (i' ≤ lg.sns.length) → (i ≤ i') → (vs ((lg.base.idx + (lg.evs.length : Int)) + 1) (runF (seg lg.evs q (((lg.base.idx + (lg.evs.length : Int)) + 1) - pos').toNat) (m', o')) (lg.sns.drop i) = some (lg.sns.drop i')) → (∀ z, lg.sns[i']? = some z → z.idx ≠ ((lg.base.idx + (lg.evs.length : Int)) + 1)) → St ⟨165, [], w, Rws [rl evC 31 3 lg.evs eo ec eF, rl mkC 93 2 lg.mks mo mc mF, rl ptC 84 15 lg.sns (some ⟨b536, 0, none⟩) sc ([b536])], Ff [rl evC 31 3 lg.evs eo ec eF, rl mkC 93 2 lg.mks mo mc mF, rl ptC 84 15 lg.sns (some ⟨b536, 0, none⟩) sc ([b536])]⟩ [(0, .pointer (some ⟨bl, 0, none⟩)), (1, .pointer (some ⟨bl, 0, none⟩)), (4, .pointer (some ⟨b2, 0, none⟩)), (5, .pointer (some ⟨b14, 0, none⟩)), (6, .int .i64 good), (9, .int .i64 ((lg.base.idx + (lg.evs.length : Int)) + 1)), (8, .slice (winA (some ⟨b536, 0, none⟩) sc i' 15) (lg.sns.length - i') (sc - i')), (7, .slice (winA mo mc j' 2) (lg.mks.length - j') (mc - j'))] [(bl, ⟨logC lg.base (.slice eo lg.evs.length ec) (.slice mo lg.mks.length mc) (.slice (some ⟨b536, 0, none⟩) lg.sns.length sc), 89, true⟩), (b2, ⟨[.int .i64 0, .int .i64 0, .int .i64 0], 114, false⟩), (b14, ⟨curC ((runF (seg lg.evs q (((lg.base.idx + (lg.evs.length : Int)) + 1) - pos').toNat) (m', o')).1) ((runF (seg lg.evs q (((lg.base.idx + (lg.evs.length : Int)) + 1) - pos').toNat) (m', o')).2) ((lg.base.idx + (lg.evs.length : Int)) + 1), 105, false⟩), (b536, ⟨cs537, 84, true⟩)] ca cw → K742 ca cw := by
                  intro i' a744 w745 hi747 hi748 hi749 hi750 h746
                  have hi' := hi747
                  have hle2 := hi748
                  have hvs := hi749
                  have hstop2 := hi750
                  have hprog : lg.mks.length - j' + (lg.sns.length - i') < lg.mks.length - j + (lg.sns.length - i) := by
                    exfalso; omega
                  have hall : (∀ z, lg.mks[j]? = some z → ((lg.base.idx + (lg.evs.length : Int)) + 1) ≤ z.idx) ∧ (∀ z, lg.sns[i]? = some z → ((lg.base.idx + (lg.evs.length : Int)) + 1) ≤ z.idx) := by
                    refine ⟨fun z hz => ?_, fun z hz => ?_⟩
                    · have := (List.getElem?_eq_some_iff.1 hz).1; omega
                    · rw [hy] at hz; cases hz; omega
                  have hgm' : ∀ z ∈ lg.mks.drop j', ((lg.base.idx + (lg.evs.length : Int)) + 1) ≤ z.idx := fun z hz => mk_ge hms hall.1 z ((List.drop_sublist_drop_left lg.mks hle1).mem hz)
                  have hgs' : ∀ z ∈ lg.sns.drop i', ((lg.base.idx + (lg.evs.length : Int)) + 1) ≤ z.idx := fun z hz => pt_ge hsort hall.2 z ((List.drop_sublist_drop_left lg.sns hle2).mem hz)
                  refine hK742 _ _ ?_
                  clear hK742
                  refine nd_start (l := [0, 1]) rfl ?_
                  refine nd_batch tabOk tabZ_ok [(0, {}), (1, {})] [0, 1, 4, 5, 9, 8, 7, 6] (T' := [(0, .pointer (some ⟨bl, 0, none⟩)), (1, .pointer (some ⟨bl, 0, none⟩)), (4, .pointer (some ⟨b2, 0, none⟩)), (5, .pointer (some ⟨b14, 0, none⟩)), (9, .int .i64 ((lg.base.idx + (lg.evs.length : Int)) + 1)), (8, .slice (winA (some ⟨b536, 0, none⟩) sc i' 15) (lg.sns.length - i') (sc - i')), (7, .slice (winA mo mc j' 2) (lg.mks.length - j') (mc - j')), (6, .int .i64 ((lg.base.idx + (lg.evs.length : Int)) + 1))]) (φ := True) (rest := []) h746 (by kernel_rfl) rfl trivial fun a751 h752 => ?_
                  clear h746
                  refine nd_done ?_
                  have h753 := h752.memMono (L' := [(bl, ⟨logC lg.base (.slice eo lg.evs.length ec) (.slice mo lg.mks.length mc) (.slice (some ⟨b536, 0, none⟩) lg.sns.length sc), 89, true⟩), (b2, ⟨[.int .i64 0, .int .i64 0, .int .i64 0], 114, false⟩), (b14, ⟨curC ((runF (seg lg.evs q (((lg.base.idx + (lg.evs.length : Int)) + 1) - pos').toNat) (m', o')).1) ((runF (seg lg.evs q (((lg.base.idx + (lg.evs.length : Int)) + 1) - pos').toNat) (m', o')).2) ((lg.base.idx + (lg.evs.length : Int)) + 1), 105, false⟩)]) (List.Sublist.cons_cons _ (List.Sublist.cons_cons _ (List.Sublist.cons_cons _ (List.Sublist.cons _ List.Sublist.slnil))))
                  clear h752
                  exact ⟨g, by omega, j', i', (runF (seg lg.evs q (((lg.base.idx + (lg.evs.length : Int)) + 1) - pos').toNat) (m', o')).1, (runF (seg lg.evs q (((lg.base.idx + (lg.evs.length : Int)) + 1) - pos').toNat) (m', o')).2, ((lg.base.idx + (lg.evs.length : Int)) + 1), ((lg.base.idx + (lg.evs.length : Int)) + 1), (((lg.base.idx + (lg.evs.length : Int)) + 1) - lg.base.idx).toNat, hj', hi', by omega, by omega, by omega, hmok2, hgm', hgs', by rw [← hv]; exact (vloop_next hnx hfin hs2 hvm hvs).symm, (h753.slotsMono (restr_spec (keep := [0, 1, 4, 5, 6, 7, 8]) rfl))⟩
                clear hK742
                refine wp_loop_ghost (fun gg ga gw => ∃ (i' : Nat), (i' ≤ lg.sns.length) ∧ (i ≤ i') ∧ (gg = lg.sns.length - i') ∧ (vs ((lg.base.idx + (lg.evs.length : Int)) + 1) (runF (seg lg.evs q (((lg.base.idx + (lg.evs.length : Int)) + 1) - pos').toNat) (m', o')) (lg.sns.drop i) = vs ((lg.base.idx + (lg.evs.length : Int)) + 1) (runF (seg lg.evs q (((lg.base.idx + (lg.evs.length : Int)) + 1) - pos').toNat) (m', o')) (lg.sns.drop i')) ∧ St ⟨165, [], w, Rws [rl evC 31 3 lg.evs eo ec eF, rl mkC 93 2 lg.mks mo mc mF, rl ptC 84 15 lg.sns (some ⟨b536, 0, none⟩) sc ([b536])], Ff [rl evC 31 3 lg.evs eo ec eF, rl mkC 93 2 lg.mks mo mc mF, rl ptC 84 15 lg.sns (some ⟨b536, 0, none⟩) sc ([b536])]⟩ [(0, .pointer (some ⟨bl, 0, none⟩)), (1, .pointer (some ⟨bl, 0, none⟩)), (4, .pointer (some ⟨b2, 0, none⟩)), (5, .pointer (some ⟨b14, 0, none⟩)), (6, .int .i64 good), (9, .int .i64 ((lg.base.idx + (lg.evs.length : Int)) + 1)), (8, .slice (winA (some ⟨b536, 0, none⟩) sc i' 15) (lg.sns.length - i') (sc - i')), (7, .slice (winA mo mc j' 2) (lg.mks.length - j') (mc - j'))] [(bl, ⟨logC lg.base (.slice eo lg.evs.length ec) (.slice mo lg.mks.length mc) (.slice (some ⟨b536, 0, none⟩) lg.sns.length sc), 89, true⟩), (b2, ⟨[.int .i64 0, .int .i64 0, .int .i64 0], 114, false⟩), (b14, ⟨curC ((runF (seg lg.evs q (((lg.base.idx + (lg.evs.length : Int)) + 1) - pos').toNat) (m', o')).1) ((runF (seg lg.evs q (((lg.base.idx + (lg.evs.length : Int)) + 1) - pos').toNat) (m', o')).2) ((lg.base.idx + (lg.evs.length : Int)) + 1), 105, false⟩), (b536, ⟨cs537, 84, true⟩)] ga gw) (lg.sns.length - i) ⟨i, by omega, Nat.le_refl _, rfl, rfl, (h737.slotsMono (restr_spec (keep := [0, 1, 4, 5, 6, 9, 8, 7]) rfl))⟩ ?_
                clear h737
                rintro gg a754 w755 ⟨i', hi757, hi758, hi759, hi760, h756⟩
                refine wp_seq_k fun K761 hK761 => ?_
                refine wp_seq_k fun K762 hK762 => ?_
                rcases Bool.eq_false_or_eq_true (decide ((((lg.sns.length - i') : Nat) : Int) > 0)) with hb763 | hb763
                ·
                  have hb763f : (((lg.sns.length - i') : Nat) : Int) > 0 := by simpa using hb763
                  obtain ⟨y', hy'⟩ := Sx.get_some (xs := lg.sns) (i := i') (by omega)
                  have hc764 := rl_at (h756.inv.get (j := 2) rfl) (h756.kn (k := 3) rfl) ptC_len hy'
                  have hlt765 : i' < sc := by have h1 : lg.sns.length ≤ sc := rl_cap (h756.inv.get (j := 2) rfl); have h2 := (List.getElem?_eq_some_iff.1 hy').1; omega
                  rw [winA_some b536 15 hlt765] at h756
                  refine nd_start (l := [0, 1, 2, 3, 4, 5, 6, 7, 8, 9, 10]) rfl ?_
                  refine nd_batch tabOk tabZ_ok [(0, {}), (1, {}), (2, {f := 2}), (3, {}), (4, {}), (5, {}), (6, {}), (7, {k := 3, m := 1, vs := [.int .i64 y'.idx]}), (8, {}), (9, {}), (10, {})] [0, 1, 4, 5, 6, 9, 8, 7, 136] (T' := [(0, .pointer (some ⟨bl, 0, none⟩)), (1, .pointer (some ⟨bl, 0, none⟩)), (4, .pointer (some ⟨b2, 0, none⟩)), (5, .pointer (some ⟨b14, 0, none⟩)), (6, .int .i64 good), (9, .int .i64 ((lg.base.idx + (lg.evs.length : Int)) + 1)), (8, .slice (some ⟨b536, (i' * 15), none⟩) (lg.sns.length - i') (sc - i')), (7, .slice (winA mo mc j' 2) (lg.mks.length - j') (mc - j')), (136, .bool (y'.idx == ((lg.base.idx + (lg.evs.length : Int)) + 1)))]) (φ := (decide ((((lg.sns.length - i') : Nat) : Int) > 0)) = true ∧ (0 ≤ (0 : Int) ∧ (0 : Int) < (((lg.sns.length - i') : Nat) : Int)) ∧ (b536 = b536 ∧ cellsAre cs537 (i' * 15) [.int .i64 y'.idx]) ∧ True) (rest := []) h756 (by kernel_rfl) rfl ⟨hb763, ⟨by omega, by omega⟩, ⟨rfl, (pt_idx hc764)⟩, trivial⟩ fun a766 h767 => ?_
                  clear h756
                  refine nd_done ?_
                  refine hK762 _ _ ?_
                  clear hK762
                  refine c_split h767 (b := (y'.idx == ((lg.base.idx + (lg.evs.length : Int)) + 1))) rfl (fun hc768 => ?_) (fun hc768 => ?_)
                  ·
                    have hc768f : y'.idx = ((lg.base.idx + (lg.evs.length : Int)) + 1) := by simpa using hc768
                    have hxn : y'.idx = ((lg.base.idx + (lg.evs.length : Int)) + 1) := hc768f
                    refine wp_skip ?_
                    refine hK761 _ _ ?_
                    clear hK761
                    refine wp_seq_k fun K769 hK769 => ?_
                    refine wp_block ?_
                    refine wp_seq_k fun K770 hK770 => ?_
                    rcases Bool.eq_false_or_eq_true ((Bool.xor true (machEq y'.st (runF (seg lg.evs q (((lg.base.idx + (lg.evs.length : Int)) + 1) - pos').toNat) (m', o')).1))) with hb771 | hb771
                    ·
                      have hme : machEq y'.st (runF (seg lg.evs q (((lg.base.idx + (lg.evs.length : Int)) + 1) - pos').toNat) (m', o')).1 = false := by simpa using hb771
                      have hvs := hi760.trans (vs_bad1 hy' hxn hme)
                      refine dr_start (KB := [bl, b2, b14, b536]) (Bi := [[0, 1, 2, 3], [0, 1, 2, 3], [0, 1, 2, 3], [0, 1, 2, 3], [0, 1, 2, 3], [0, 1, 2, 3], [0, 1, 2, 3], [0, 1, 2, 3], [0, 1, 2, 3], [0, 1, 2, 3], [0, 1, 2, 3], [0, 1, 2, 3], [0, 1, 2, 3], [0, 1, 2, 3], [0, 1, 2, 3], [0, 1, 2, 3]]) mixed h767 fun w772 h773 => ?_
                      clear h767
                      refine dr_batch tabOk tabZ_ok (by repeat (first | exact PF.body | with_reducible apply PF.inB | with_reducible apply PF.next)) [(0, {}), (1, {}), (2, {}), (3, {k := 3, m := 1, vs := [.int .u64 y'.st.now, .int .i8 y'.st.cur, .int .u8 y'.st.s0, .int .u8 y'.st.s1, .int .u8 y'.st.s2, .int .u8 y'.st.s3, .int .u64 y'.st.r0, .int .u64 y'.st.r1, .int .u64 y'.st.r2, .int .u64 y'.st.r3, .int .u64 y'.st.word], p := 3}), (4, {}), (5, {k := 2, p := 2}), (6, {f := 2}), (7, {}), (8, {}), (9, {}), (10, {}), (11, {k := 0, p := 0}), (12, {}), (13, {k := 0, p := 0}), (14, {}), (15, {})] [0, 1, 4, 5, 6, 9, 8, 7, 154] (T' := [(0, .pointer (some ⟨bl, 0, none⟩)), (1, .pointer (some ⟨bl, 0, none⟩)), (4, .pointer (some ⟨b2, 0, none⟩)), (5, .pointer (some ⟨b14, 0, none⟩)), (6, .int .i64 good), (9, .int .i64 ((lg.base.idx + (lg.evs.length : Int)) + 1)), (8, .slice (some ⟨b536, (i' * 15), none⟩) (lg.sns.length - i') (sc - i')), (7, .slice (winA mo mc j' 2) (lg.mks.length - j') (mc - j')), (154, .bool true)]) (φ := (0 ≤ (0 : Int) ∧ (0 : Int) < (((lg.sns.length - i') : Nat) : Int)) ∧ (b536 = b536 ∧ cellsAre cs537 ((i' * 15) + 1) [.int .u64 y'.st.now, .int .i8 y'.st.cur, .int .u8 y'.st.s0, .int .u8 y'.st.s1, .int .u8 y'.st.s2, .int .u8 y'.st.s3, .int .u64 y'.st.r0, .int .u64 y'.st.r1, .int .u64 y'.st.r2, .int .u64 y'.st.r3, .int .u64 y'.st.word]) ∧ (b14 = b14 ∧ Nat.ble (0 + 11) 15 = true) ∧ EqRun Tryf.prog 58 (.agg #[.int .u64 y'.st.now, .int .i8 y'.st.cur, .int .u8 y'.st.s0, .int .u8 y'.st.s1, .int .u8 y'.st.s2, .int .u8 y'.st.s3, .int .u64 y'.st.r0, .int .u64 y'.st.r1, .int .u64 y'.st.r2, .int .u64 y'.st.r3, .int .u64 y'.st.word]) (.agg #[.int .u64 ((runF (seg lg.evs q (((lg.base.idx + (lg.evs.length : Int)) + 1) - pos').toNat) (m', o')).1.now), .int .i8 ((runF (seg lg.evs q (((lg.base.idx + (lg.evs.length : Int)) + 1) - pos').toNat) (m', o')).1.cur), .int .u8 ((runF (seg lg.evs q (((lg.base.idx + (lg.evs.length : Int)) + 1) - pos').toNat) (m', o')).1.s0), .int .u8 ((runF (seg lg.evs q (((lg.base.idx + (lg.evs.length : Int)) + 1) - pos').toNat) (m', o')).1.s1), .int .u8 ((runF (seg lg.evs q (((lg.base.idx + (lg.evs.length : Int)) + 1) - pos').toNat) (m', o')).1.s2), .int .u8 ((runF (seg lg.evs q (((lg.base.idx + (lg.evs.length : Int)) + 1) - pos').toNat) (m', o')).1.s3), .int .u64 ((runF (seg lg.evs q (((lg.base.idx + (lg.evs.length : Int)) + 1) - pos').toNat) (m', o')).1.r0), .int .u64 ((runF (seg lg.evs q (((lg.base.idx + (lg.evs.length : Int)) + 1) - pos').toNat) (m', o')).1.r1), .int .u64 ((runF (seg lg.evs q (((lg.base.idx + (lg.evs.length : Int)) + 1) - pos').toNat) (m', o')).1.r2), .int .u64 ((runF (seg lg.evs q (((lg.base.idx + (lg.evs.length : Int)) + 1) - pos').toNat) (m', o')).1.r3), .int .u64 ((runF (seg lg.evs q (((lg.base.idx + (lg.evs.length : Int)) + 1) - pos').toNat) (m', o')).1.word)]) false ∧ True) (fuel := 0) h773 (by kernel_rfl) rfl (by kernel_rfl) (by kernel_rfl) ⟨trivial, trivial, trivial, rfl, trivial, rfl, trivial, trivial, trivial, trivial, trivial, rfl, trivial, rfl, trivial, trivial, trivial⟩ ⟨⟨by omega, by omega⟩, ⟨rfl, (pt_st hc764)⟩, ⟨rfl, rfl⟩, (by have hq := run46 y'.st (runF (seg lg.evs q (((lg.base.idx + (lg.evs.length : Int)) + 1) - pos').toNat) (m', o')).1; rw [show machEq y'.st (runF (seg lg.evs q (((lg.base.idx + (lg.evs.length : Int)) + 1) - pos').toNat) (m', o')).1 = false by simpa using hb771] at hq; exact hq), trivial⟩ fun a775 h776 => ?_
                      clear h773
                      refine wpAnyK_done (by kernel_rfl) ?_ _
                      refine hK770 _ _ ?_
                      clear hK770
                      refine c_true h776 rfl ?_
                      refine wp_seq_k fun K777 hK777 => ?_
                      refine nd_start (l := [0, 1, 2, 3, 4, 5, 6, 7, 8, 9]) rfl ?_
                      refine nd_batch tabOk tabZ_ok [(0, {}), (1, {}), (2, {}), (3, {}), (4, {}), (5, {}), (6, {k := 0}), (7, {}), (8, {})] [0, 1, 4, 5, 6, 9, 8, 7, 163] (T' := [(0, .pointer (some ⟨bl, 0, none⟩)), (1, .pointer (some ⟨bl, 0, none⟩)), (4, .pointer (some ⟨b2, 0, none⟩)), (5, .pointer (some ⟨b14, 0, none⟩)), (6, .int .i64 good), (9, .int .i64 ((lg.base.idx + (lg.evs.length : Int)) + 1)), (8, .slice (some ⟨b536, (i' * 15), none⟩) (lg.sns.length - i') (sc - i')), (7, .slice (winA mo mc j' 2) (lg.mks.length - j') (mc - j')), (163, .agg #[.int .i64 ((lg.base.idx + (lg.evs.length : Int)) + 1), .int .i64 good, .int .i64 (((lg.base.idx + (lg.evs.length : Int)) + 1) - lg.base.idx)])]) (φ := (bl = bl ∧ Nat.ble (0 + 1) 18 = true) ∧ inR .i64 (((lg.base.idx + (lg.evs.length : Int)) + 1) - lg.base.idx) ∧ True) (rest := [9]) h776 (by kernel_rfl) rfl ⟨⟨rfl, rfl⟩, ⟨by omega, by omega⟩, trivial⟩ fun a778 h779 => ?_
                      clear h776
                      refine nd_op ?_
                      refine op_store tabOk {k := 1} (L' := [(bl, ⟨logC lg.base (.slice eo lg.evs.length ec) (.slice mo lg.mks.length mc) (.slice (some ⟨b536, 0, none⟩) lg.sns.length sc), 89, true⟩), (b2, ⟨[.int .i64 ((lg.base.idx + (lg.evs.length : Int)) + 1), .int .i64 good, .int .i64 (((lg.base.idx + (lg.evs.length : Int)) + 1) - lg.base.idx)], 114, false⟩), (b14, ⟨curC ((runF (seg lg.evs q (((lg.base.idx + (lg.evs.length : Int)) + 1) - pos').toNat) (m', o')).1) ((runF (seg lg.evs q (((lg.base.idx + (lg.evs.length : Int)) + 1) - pos').toNat) (m', o')).2) ((lg.base.idx + (lg.evs.length : Int)) + 1), 105, false⟩), (b536, ⟨cs537, 84, true⟩)]) (φ := b2 = b2 ∧ Nat.ble (0 + 3) 3 = true) h779 rfl rfl rfl (by kernel_rfl) ⟨rfl, rfl⟩ fun w780 h781 => ?_
                      clear h779
                      refine nd_done ?_
                      refine hK777 _ _ ?_
                      clear hK777
                      refine wp_ret ?_
                      have hres := hv.symm.trans (vloop_snap hnx hfin hs2 hvm hvs)
                      try simp only [Exit.then, Exit.inBlock]
                      try rw [if_pos trivial]
                      exact s_ret tabOk tabZ_ok h781 [(.cell 4 114, {k := 1})] (vs := [.agg #[.int .i64 ((lg.base.idx + (lg.evs.length : Int)) + 1), .int .i64 good, .int .i64 (((lg.base.idx + (lg.evs.length : Int)) + 1) - lg.base.idx)]]) (φ := (b2 = b2 ∧ Nat.ble (0 + 3) 3 = true) ∧ True) rfl (by kernel_rfl) ⟨⟨rfl, rfl⟩, trivial⟩ ⟨by rw [hres]; rfl, h781.frame⟩
                    ·
                      have hme : machEq y'.st (runF (seg lg.evs q (((lg.base.idx + (lg.evs.length : Int)) + 1) - pos').toNat) (m', o')).1 = true := by simpa using hb771
                      refine dr_start (KB := [bl, b2, b14, b536]) (Bi := [[0, 1, 2, 3], [0, 1, 2, 3], [0, 1, 2, 3], [0, 1, 2, 3], [0, 1, 2, 3], [0, 1, 2, 3], [0, 1, 2, 3], [0, 1, 2, 3], [0, 1, 2, 3], [0, 1, 2, 3], [0, 1, 2, 3], [0, 1, 2, 3], [0, 1, 2, 3], [0, 1, 2, 3], [0, 1, 2, 3], [0, 1, 2, 3]]) mixed h767 fun w782 h783 => ?_
                      clear h767
                      refine dr_batch tabOk tabZ_ok (by repeat (first | exact PF.body | with_reducible apply PF.inB | with_reducible apply PF.next)) [(0, {}), (1, {}), (2, {}), (3, {k := 3, m := 1, vs := [.int .u64 y'.st.now, .int .i8 y'.st.cur, .int .u8 y'.st.s0, .int .u8 y'.st.s1, .int .u8 y'.st.s2, .int .u8 y'.st.s3, .int .u64 y'.st.r0, .int .u64 y'.st.r1, .int .u64 y'.st.r2, .int .u64 y'.st.r3, .int .u64 y'.st.word], p := 3}), (4, {}), (5, {k := 2, p := 2}), (6, {f := 1}), (7, {}), (8, {}), (9, {}), (10, {}), (11, {k := 3, m := 1, vs := [.bool y'.out.refused, .int .i8 y'.out.running, .int .u64 y'.out.value], p := 3}), (12, {}), (13, {k := 2, p := 2}), (14, {vs := [.bool (otEq y'.out (runF (seg lg.evs q (((lg.base.idx + (lg.evs.length : Int)) + 1) - pos').toNat) (m', o')).2)]}), (15, {})] [0, 1, 4, 5, 6, 9, 8, 7, 154] (T' := [(0, .pointer (some ⟨bl, 0, none⟩)), (1, .pointer (some ⟨bl, 0, none⟩)), (4, .pointer (some ⟨b2, 0, none⟩)), (5, .pointer (some ⟨b14, 0, none⟩)), (6, .int .i64 good), (9, .int .i64 ((lg.base.idx + (lg.evs.length : Int)) + 1)), (8, .slice (some ⟨b536, (i' * 15), none⟩) (lg.sns.length - i') (sc - i')), (7, .slice (winA mo mc j' 2) (lg.mks.length - j') (mc - j')), (154, .bool (Bool.xor true (otEq y'.out (runF (seg lg.evs q (((lg.base.idx + (lg.evs.length : Int)) + 1) - pos').toNat) (m', o')).2)))]) (φ := (0 ≤ (0 : Int) ∧ (0 : Int) < (((lg.sns.length - i') : Nat) : Int)) ∧ (b536 = b536 ∧ cellsAre cs537 ((i' * 15) + 1) [.int .u64 y'.st.now, .int .i8 y'.st.cur, .int .u8 y'.st.s0, .int .u8 y'.st.s1, .int .u8 y'.st.s2, .int .u8 y'.st.s3, .int .u64 y'.st.r0, .int .u64 y'.st.r1, .int .u64 y'.st.r2, .int .u64 y'.st.r3, .int .u64 y'.st.word]) ∧ (b14 = b14 ∧ Nat.ble (0 + 11) 15 = true) ∧ EqRun Tryf.prog 58 (.agg #[.int .u64 y'.st.now, .int .i8 y'.st.cur, .int .u8 y'.st.s0, .int .u8 y'.st.s1, .int .u8 y'.st.s2, .int .u8 y'.st.s3, .int .u64 y'.st.r0, .int .u64 y'.st.r1, .int .u64 y'.st.r2, .int .u64 y'.st.r3, .int .u64 y'.st.word]) (.agg #[.int .u64 ((runF (seg lg.evs q (((lg.base.idx + (lg.evs.length : Int)) + 1) - pos').toNat) (m', o')).1.now), .int .i8 ((runF (seg lg.evs q (((lg.base.idx + (lg.evs.length : Int)) + 1) - pos').toNat) (m', o')).1.cur), .int .u8 ((runF (seg lg.evs q (((lg.base.idx + (lg.evs.length : Int)) + 1) - pos').toNat) (m', o')).1.s0), .int .u8 ((runF (seg lg.evs q (((lg.base.idx + (lg.evs.length : Int)) + 1) - pos').toNat) (m', o')).1.s1), .int .u8 ((runF (seg lg.evs q (((lg.base.idx + (lg.evs.length : Int)) + 1) - pos').toNat) (m', o')).1.s2), .int .u8 ((runF (seg lg.evs q (((lg.base.idx + (lg.evs.length : Int)) + 1) - pos').toNat) (m', o')).1.s3), .int .u64 ((runF (seg lg.evs q (((lg.base.idx + (lg.evs.length : Int)) + 1) - pos').toNat) (m', o')).1.r0), .int .u64 ((runF (seg lg.evs q (((lg.base.idx + (lg.evs.length : Int)) + 1) - pos').toNat) (m', o')).1.r1), .int .u64 ((runF (seg lg.evs q (((lg.base.idx + (lg.evs.length : Int)) + 1) - pos').toNat) (m', o')).1.r2), .int .u64 ((runF (seg lg.evs q (((lg.base.idx + (lg.evs.length : Int)) + 1) - pos').toNat) (m', o')).1.r3), .int .u64 ((runF (seg lg.evs q (((lg.base.idx + (lg.evs.length : Int)) + 1) - pos').toNat) (m', o')).1.word)]) true ∧ (0 ≤ (0 : Int) ∧ (0 : Int) < (((lg.sns.length - i') : Nat) : Int)) ∧ (b536 = b536 ∧ cellsAre cs537 ((i' * 15) + 12) [.bool y'.out.refused, .int .i8 y'.out.running, .int .u64 y'.out.value]) ∧ (b14 = b14 ∧ Nat.ble (11 + 3) 15 = true) ∧ EqRun Tryf.prog 44 (.agg #[.bool y'.out.refused, .int .i8 y'.out.running, .int .u64 y'.out.value]) (.agg #[.bool ((runF (seg lg.evs q (((lg.base.idx + (lg.evs.length : Int)) + 1) - pos').toNat) (m', o')).2.refused), .int .i8 ((runF (seg lg.evs q (((lg.base.idx + (lg.evs.length : Int)) + 1) - pos').toNat) (m', o')).2.running), .int .u64 ((runF (seg lg.evs q (((lg.base.idx + (lg.evs.length : Int)) + 1) - pos').toNat) (m', o')).2.value)]) (otEq y'.out (runF (seg lg.evs q (((lg.base.idx + (lg.evs.length : Int)) + 1) - pos').toNat) (m', o')).2) ∧ True) (fuel := 0) h783 (by kernel_rfl) rfl (by kernel_rfl) (by kernel_rfl) ⟨trivial, trivial, trivial, rfl, trivial, rfl, trivial, trivial, trivial, trivial, trivial, rfl, trivial, rfl, trivial, trivial, trivial⟩ ⟨⟨by omega, by omega⟩, ⟨rfl, (pt_st hc764)⟩, ⟨rfl, rfl⟩, (by have hq := run46 y'.st (runF (seg lg.evs q (((lg.base.idx + (lg.evs.length : Int)) + 1) - pos').toNat) (m', o')).1; rw [show machEq y'.st (runF (seg lg.evs q (((lg.base.idx + (lg.evs.length : Int)) + 1) - pos').toNat) (m', o')).1 = true by simpa using hb771] at hq; exact hq), ⟨by omega, by omega⟩, ⟨rfl, (pt_out hc764)⟩, ⟨rfl, rfl⟩, run39 y'.out (runF (seg lg.evs q (((lg.base.idx + (lg.evs.length : Int)) + 1) - pos').toNat) (m', o')).2, trivial⟩ fun a785 h786 => ?_
                      clear h783
                      refine wpAnyK_done (by kernel_rfl) ?_ _
                      refine hK770 _ _ ?_
                      clear hK770
                      refine c_split h786 (b := (Bool.xor true (otEq y'.out (runF (seg lg.evs q (((lg.base.idx + (lg.evs.length : Int)) + 1) - pos').toNat) (m', o')).2))) rfl (fun hc787 => ?_) (fun hc787 => ?_)
                      ·
                        have hoe : otEq y'.out (runF (seg lg.evs q (((lg.base.idx + (lg.evs.length : Int)) + 1) - pos').toNat) (m', o')).2 = false := by simpa using hc787
                        have hvs := hi760.trans (vs_bad2 hy' hxn hoe)
                        refine wp_seq_k fun K788 hK788 => ?_
                        refine nd_start (l := [0, 1, 2, 3, 4, 5, 6, 7, 8, 9]) rfl ?_
                        refine nd_batch tabOk tabZ_ok [(0, {}), (1, {}), (2, {}), (3, {}), (4, {}), (5, {}), (6, {k := 0}), (7, {}), (8, {})] [0, 1, 4, 5, 6, 9, 8, 7, 163] (T' := [(0, .pointer (some ⟨bl, 0, none⟩)), (1, .pointer (some ⟨bl, 0, none⟩)), (4, .pointer (some ⟨b2, 0, none⟩)), (5, .pointer (some ⟨b14, 0, none⟩)), (6, .int .i64 good), (9, .int .i64 ((lg.base.idx + (lg.evs.length : Int)) + 1)), (8, .slice (some ⟨b536, (i' * 15), none⟩) (lg.sns.length - i') (sc - i')), (7, .slice (winA mo mc j' 2) (lg.mks.length - j') (mc - j')), (163, .agg #[.int .i64 ((lg.base.idx + (lg.evs.length : Int)) + 1), .int .i64 good, .int .i64 (((lg.base.idx + (lg.evs.length : Int)) + 1) - lg.base.idx)])]) (φ := (bl = bl ∧ Nat.ble (0 + 1) 18 = true) ∧ inR .i64 (((lg.base.idx + (lg.evs.length : Int)) + 1) - lg.base.idx) ∧ True) (rest := [9]) h786 (by kernel_rfl) rfl ⟨⟨rfl, rfl⟩, ⟨by omega, by omega⟩, trivial⟩ fun a789 h790 => ?_
                        clear h786
                        refine nd_op ?_
                        refine op_store tabOk {k := 1} (L' := [(bl, ⟨logC lg.base (.slice eo lg.evs.length ec) (.slice mo lg.mks.length mc) (.slice (some ⟨b536, 0, none⟩) lg.sns.length sc), 89, true⟩), (b2, ⟨[.int .i64 ((lg.base.idx + (lg.evs.length : Int)) + 1), .int .i64 good, .int .i64 (((lg.base.idx + (lg.evs.length : Int)) + 1) - lg.base.idx)], 114, false⟩), (b14, ⟨curC ((runF (seg lg.evs q (((lg.base.idx + (lg.evs.length : Int)) + 1) - pos').toNat) (m', o')).1) ((runF (seg lg.evs q (((lg.base.idx + (lg.evs.length : Int)) + 1) - pos').toNat) (m', o')).2) ((lg.base.idx + (lg.evs.length : Int)) + 1), 105, false⟩), (b536, ⟨cs537, 84, true⟩)]) (φ := b2 = b2 ∧ Nat.ble (0 + 3) 3 = true) h790 rfl rfl rfl (by kernel_rfl) ⟨rfl, rfl⟩ fun w791 h792 => ?_
                        clear h790
                        refine nd_done ?_
                        refine hK788 _ _ ?_
                        clear hK788
                        refine wp_ret ?_
                        have hres := hv.symm.trans (vloop_snap hnx hfin hs2 hvm hvs)
                        try simp only [Exit.then, Exit.inBlock]
                        try rw [if_pos trivial]
                        exact s_ret tabOk tabZ_ok h792 [(.cell 4 114, {k := 1})] (vs := [.agg #[.int .i64 ((lg.base.idx + (lg.evs.length : Int)) + 1), .int .i64 good, .int .i64 (((lg.base.idx + (lg.evs.length : Int)) + 1) - lg.base.idx)]]) (φ := (b2 = b2 ∧ Nat.ble (0 + 3) 3 = true) ∧ True) rfl (by kernel_rfl) ⟨⟨rfl, rfl⟩, trivial⟩ ⟨by rw [hres]; rfl, h792.frame⟩
                      ·
                        have hoe : otEq y'.out (runF (seg lg.evs q (((lg.base.idx + (lg.evs.length : Int)) + 1) - pos').toNat) (m', o')).2 = true := by simpa using hc787
                        have hsame := hi760.trans (vs_same hy' hxn hme hoe)
                        refine wp_skip ?_
                        refine hK769 _ _ ?_
                        clear hK769
                        refine nd_start (l := [0, 1, 2]) rfl ?_
                        refine nd_batch tabOk tabZ_ok [(0, {}), (1, {}), (2, {})] [0, 1, 4, 5, 6, 9, 7, 8] (T' := [(0, .pointer (some ⟨bl, 0, none⟩)), (1, .pointer (some ⟨bl, 0, none⟩)), (4, .pointer (some ⟨b2, 0, none⟩)), (5, .pointer (some ⟨b14, 0, none⟩)), (6, .int .i64 good), (9, .int .i64 ((lg.base.idx + (lg.evs.length : Int)) + 1)), (7, .slice (winA mo mc j' 2) (lg.mks.length - j') (mc - j')), (8, .slice (sliceBase (some ⟨b536, (i' * 15), none⟩) (sc - i') 1 15) ((lg.sns.length - i') - 1) ((sc - i') - 1))]) (φ := (0 ≤ (1 : Int) ∧ (1 : Int) ≤ (((lg.sns.length - i') : Nat) : Int)) ∧ True) (rest := []) h786 (by kernel_rfl) rfl ⟨⟨by omega, by omega⟩, trivial⟩ fun a793 h794 => ?_
                        clear h786
                        refine nd_done ?_
                        have e795 : sliceBase (some ⟨b536, (i' * 15), none⟩) (sc - i') 1 15 = winA (some ⟨b536, 0, none⟩) sc (i' + 1) 15 := by rw [← winA_some b536 15 hlt765]; exact winA_succ 15 (.inr ⟨b536, rfl⟩) hlt765
                        have e796 : lg.sns.length - i' - 1 = lg.sns.length - (i' + 1) := by omega
                        have e797 : sc - i' - 1 = sc - (i' + 1) := by omega
                        rw [e795, e796, e797] at h794
                        exact ⟨(gg - 1), by omega, (i' + 1), by omega, by omega, by omega, hsame, (h794.slotsMono (restr_spec (keep := [0, 1, 4, 5, 6, 9, 8, 7]) rfl))⟩
                  ·
                    have hc768f : y'.idx ≠ ((lg.base.idx + (lg.evs.length : Int)) + 1) := by simpa using hc768
                    refine wp_exit ?_
                    rw [← winA_some b536 15 hlt765] at h767
                    have hstop : ∀ z, lg.sns[i']? = some z → z.idx ≠ ((lg.base.idx + (lg.evs.length : Int)) + 1) := (by intro z hz; rw [hy'] at hz; cases hz; exact hc768f)
                    exact hm743 i' _ _ hi757 hi758 (hi760.trans (vs_stop hstop)) hstop (h767.slotsMono (restr_spec (keep := [0, 1, 4, 5, 6, 9, 8, 7]) rfl))
                ·
                  have hb763f : ¬ (((lg.sns.length - i') : Nat) : Int) > 0 := by simpa using hb763
                  refine nd_start (l := [0, 1, 2, 3, 4, 5, 6, 7, 8, 9, 10]) rfl ?_
                  refine nd_batch tabOk tabZ_ok [(0, {}), (1, {}), (2, {f := 1}), (3, {}), (4, {}), (5, {}), (6, {}), (7, {}), (8, {}), (9, {}), (10, {})] [0, 1, 4, 5, 6, 9, 8, 7, 136] (T' := [(0, .pointer (some ⟨bl, 0, none⟩)), (1, .pointer (some ⟨bl, 0, none⟩)), (4, .pointer (some ⟨b2, 0, none⟩)), (5, .pointer (some ⟨b14, 0, none⟩)), (6, .int .i64 good), (9, .int .i64 ((lg.base.idx + (lg.evs.length : Int)) + 1)), (8, .slice (winA (some ⟨b536, 0, none⟩) sc i' 15) (lg.sns.length - i') (sc - i')), (7, .slice (winA mo mc j' 2) (lg.mks.length - j') (mc - j')), (136, .bool false)]) (φ := (decide ((((lg.sns.length - i') : Nat) : Int) > 0)) = false ∧ True) (rest := []) h756 (by kernel_rfl) rfl ⟨hb763, trivial⟩ fun a798 h799 => ?_
                  clear h756
                  refine nd_done ?_
                  refine hK762 _ _ ?_
                  clear hK762
                  refine c_false h799 rfl ?_
                  refine wp_exit ?_
                  have hstop : ∀ z, lg.sns[i']? = some z → z.idx ≠ ((lg.base.idx + (lg.evs.length : Int)) + 1) := (by intro z hz; have := (List.getElem?_eq_some_iff.1 hz).1; omega)
                  exact hm743 i' _ _ hi757 hi758 (hi760.trans (vs_stop hstop)) hstop (h799.slotsMono (restr_spec (keep := [0, 1, 4, 5, 6, 9, 8, 7]) rfl))
              clear hK733
              refine wp_loop_ghost (fun gg ga gw => ∃ (j' : Nat), (j' ≤ lg.mks.length) ∧ (j ≤ j') ∧ (gg = lg.mks.length - j') ∧ (vm ((lg.base.idx + (lg.evs.length : Int)) + 1) (dig (runF (seg lg.evs q (((lg.base.idx + (lg.evs.length : Int)) + 1) - pos').toNat) (m', o')).1) (lg.mks.drop j) = vm ((lg.base.idx + (lg.evs.length : Int)) + 1) (dig (runF (seg lg.evs q (((lg.base.idx + (lg.evs.length : Int)) + 1) - pos').toNat) (m', o')).1) (lg.mks.drop j')) ∧ St ⟨165, [], w, Rws [rl evC 31 3 lg.evs eo ec eF, rl mkC 93 2 lg.mks mo mc mF, rl ptC 84 15 lg.sns (some ⟨b536, 0, none⟩) sc ([b536])], Ff [rl evC 31 3 lg.evs eo ec eF, rl mkC 93 2 lg.mks mo mc mF, rl ptC 84 15 lg.sns (some ⟨b536, 0, none⟩) sc ([b536])]⟩ [(0, .pointer (some ⟨bl, 0, none⟩)), (1, .pointer (some ⟨bl, 0, none⟩)), (4, .pointer (some ⟨b2, 0, none⟩)), (5, .pointer (some ⟨b14, 0, none⟩)), (6, .int .i64 good), (9, .int .i64 ((lg.base.idx + (lg.evs.length : Int)) + 1)), (7, .slice (winA mo mc j' 2) (lg.mks.length - j') (mc - j')), (8, .slice (winA (some ⟨b536, 0, none⟩) sc i 15) (lg.sns.length - i) (sc - i))] [(bl, ⟨logC lg.base (.slice eo lg.evs.length ec) (.slice mo lg.mks.length mc) (.slice (some ⟨b536, 0, none⟩) lg.sns.length sc), 89, true⟩), (b2, ⟨[.int .i64 0, .int .i64 0, .int .i64 0], 114, false⟩), (b14, ⟨curC ((runF (seg lg.evs q (((lg.base.idx + (lg.evs.length : Int)) + 1) - pos').toNat) (m', o')).1) ((runF (seg lg.evs q (((lg.base.idx + (lg.evs.length : Int)) + 1) - pos').toNat) (m', o')).2) ((lg.base.idx + (lg.evs.length : Int)) + 1), 105, false⟩), (b536, ⟨cs537, 84, true⟩)] ga gw) (lg.mks.length - j) ⟨j, by omega, Nat.le_refl _, rfl, rfl, (h731.slotsMono (restr_spec (keep := [0, 1, 4, 5, 6, 9, 7, 8]) rfl))⟩ ?_
              clear h731
              rintro gg a800 w801 ⟨j', hi803, hi804, hi805, hi806, h802⟩
              refine wp_seq_k fun K807 hK807 => ?_
              refine wp_seq_k fun K808 hK808 => ?_
              rcases Bool.eq_false_or_eq_true (decide ((((lg.mks.length - j') : Nat) : Int) > 0)) with hb809 | hb809
              ·
                have hb809f : (((lg.mks.length - j') : Nat) : Int) > 0 := by simpa using hb809
                obtain ⟨x', hx'⟩ := Sx.get_some (xs := lg.mks) (i := j') (by omega)
                obtain ⟨b810, cs811, ho812, hb813, hc814, hF815, hq817, hl818⟩ := rl_open (h802.inv.get (j := 1) rfl) mkC_len hx'
                subst ho812 hF815
                have h816 := h802.open_ hb813 (h802.notinL (by simp [Ff]) (kcons (fun _ => (fun hq => hsep (by have hq2 : bl = b810 := hq; rw [hq2]; simp [Hd.F]))) (kcons (by intro hq; cases hq) (kcons (by intro hq; cases hq) (kcons (fun _ => (fun hq => Ff_nodup h802.inv.1 (i := 2) (j := 1) rfl rfl (by decide) b536 (by simp) (by have hq2 : b536 = b810 := hq; rw [hq2]; simp))) knil)))))
                clear h802
                have hlt819 : j' < mc := by have h1 : lg.mks.length ≤ mc := rl_cap (h816.inv.get (j := 1) rfl); have h2 := (List.getElem?_eq_some_iff.1 hx').1; omega
                rw [winA_some b810 2 hlt819] at h816
                refine nd_start (l := [0, 1, 2, 3, 4, 5, 6, 7, 8, 9, 10]) rfl ?_
                refine nd_batch tabOk tabZ_ok [(0, {}), (1, {}), (2, {f := 2}), (3, {}), (4, {}), (5, {}), (6, {}), (7, {k := 4, m := 1, vs := [.int .i64 x'.idx]}), (8, {}), (9, {}), (10, {})] [0, 1, 4, 5, 6, 9, 7, 8, 107] (T' := [(0, .pointer (some ⟨bl, 0, none⟩)), (1, .pointer (some ⟨bl, 0, none⟩)), (4, .pointer (some ⟨b2, 0, none⟩)), (5, .pointer (some ⟨b14, 0, none⟩)), (6, .int .i64 good), (9, .int .i64 ((lg.base.idx + (lg.evs.length : Int)) + 1)), (7, .slice (some ⟨b810, (j' * 2), none⟩) (lg.mks.length - j') (mc - j')), (8, .slice (winA (some ⟨b536, 0, none⟩) sc i 15) (lg.sns.length - i) (sc - i)), (107, .bool (x'.idx == ((lg.base.idx + (lg.evs.length : Int)) + 1)))]) (φ := (decide ((((lg.mks.length - j') : Nat) : Int) > 0)) = true ∧ (0 ≤ (0 : Int) ∧ (0 : Int) < (((lg.mks.length - j') : Nat) : Int)) ∧ (b810 = b810 ∧ cellsAre cs811 (j' * 2) [.int .i64 x'.idx]) ∧ True) (rest := []) h816 (by kernel_rfl) rfl ⟨hb809, ⟨by omega, by omega⟩, ⟨rfl, ⟨(hc814).1, trivial⟩⟩, trivial⟩ fun a820 h821 => ?_
                clear h816
                refine nd_done ?_
                refine hK808 _ _ ?_
                clear hK808
                refine c_split h821 (b := (x'.idx == ((lg.base.idx + (lg.evs.length : Int)) + 1))) rfl (fun hc822 => ?_) (fun hc822 => ?_)
                ·
                  have hc822f : x'.idx = ((lg.base.idx + (lg.evs.length : Int)) + 1) := by simpa using hc822
                  have hxn : x'.idx = ((lg.base.idx + (lg.evs.length : Int)) + 1) := hc822f
                  refine wp_skip ?_
                  refine hK807 _ _ ?_
                  clear hK807
                  refine wp_seq_k fun K823 hK823 => ?_
                  refine wp_block ?_
                  refine wp_seq_k fun K824 hK824 => ?_
                  refine dr_start (KB := [bl, b2, b14, b536, b810]) (Bi := [[0, 1, 2, 3, 4], [0, 1, 2, 3, 4], [0, 1, 2, 3, 4], [0, 1, 2, 3, 4], [0, 1, 2, 3, 4], [4], [0, 1, 2, 3, 4]]) mixed h821 fun w825 h826 => ?_
                  clear h821
                  refine dr_batch tabOk tabZ_ok (by repeat (first | exact PF.body | with_reducible apply PF.inB | with_reducible apply PF.next)) [(0, {}), (1, {}), (2, {}), (3, {k := 4, m := 1, vs := [.int .u64 x'.sum], p := 4}), (4, {})] [0, 1, 4, 5, 6, 9, 7, 8, 113, 114] (T' := [(0, .pointer (some ⟨bl, 0, none⟩)), (1, .pointer (some ⟨bl, 0, none⟩)), (4, .pointer (some ⟨b2, 0, none⟩)), (5, .pointer (some ⟨b14, 0, none⟩)), (6, .int .i64 good), (9, .int .i64 ((lg.base.idx + (lg.evs.length : Int)) + 1)), (7, .slice (some ⟨b810, (j' * 2), none⟩) (lg.mks.length - j') (mc - j')), (8, .slice (winA (some ⟨b536, 0, none⟩) sc i 15) (lg.sns.length - i) (sc - i)), (113, .int .u64 x'.sum), (114, .pointer (some ⟨b14, 0, none⟩))]) (φ := (0 ≤ (0 : Int) ∧ (0 : Int) < (((lg.mks.length - j') : Nat) : Int)) ∧ (b810 = b810 ∧ cellsAre cs811 ((j' * 2) + 1) [.int .u64 x'.sum]) ∧ True) (fuel := 2) h826 (by kernel_rfl) rfl (by kernel_rfl) (by kernel_rfl) ⟨trivial, trivial, trivial, rfl, trivial, trivial⟩ ⟨⟨by omega, by omega⟩, ⟨rfl, ⟨(hc814).2.1, trivial⟩⟩, trivial⟩ fun a828 h829 => ?_
                  clear h826
                  refine wpAnyK_one (i := 5) (fuel := 1) (by kernel_rfl) ?_
                  refine op_call h829 rfl rfl rfl (callOk Tryf.func51 (by decide) rfl) (args := [.pointer (some ⟨b14, 0, none⟩)]) rfl (digest_ok [] (outC (runF (seg lg.evs q (((lg.base.idx + (lg.evs.length : Int)) + 1) - pos').toNat) (m', o')).2 ++ [.int .i64 ((lg.base.idx + (lg.evs.length : Int)) + 1)]) (runF (seg lg.evs q (((lg.base.idx + (lg.evs.length : Int)) + 1) - pos').toNat) (m', o')).1 hmok2 b14 105 false _ (h829.kn (k := 2) rfl)) ?_
                  rintro _ w830 ⟨rfl, hf832⟩
                  refine ⟨_, rfl, ?_⟩
                  have h831 := (h829.grow hf832).put (d := some 115) (v := .int .u64 (dig (runF (seg lg.evs q (((lg.base.idx + (lg.evs.length : Int)) + 1) - pos').toNat) (m', o')).1)) (T' := [(115, .int .u64 (dig (runF (seg lg.evs q (((lg.base.idx + (lg.evs.length : Int)) + 1) - pos').toNat) (m', o')).1)), (0, .pointer (some ⟨bl, 0, none⟩)), (1, .pointer (some ⟨bl, 0, none⟩)), (4, .pointer (some ⟨b2, 0, none⟩)), (5, .pointer (some ⟨b14, 0, none⟩)), (6, .int .i64 good), (9, .int .i64 ((lg.base.idx + (lg.evs.length : Int)) + 1)), (7, .slice (some ⟨b810, (j' * 2), none⟩) (lg.mks.length - j') (mc - j')), (8, .slice (winA (some ⟨b536, 0, none⟩) sc i 15) (lg.sns.length - i) (sc - i)), (113, .int .u64 x'.sum), (114, .pointer (some ⟨b14, 0, none⟩))]) rfl
                  refine ⟨(h829.keepFr hf832 (kcons (by simp) knil)), ?_⟩
                  clear h829
                  refine dr_batch tabOk tabZ_ok (by repeat (first | exact PF.body | with_reducible apply PF.inB | with_reducible apply PF.next)) [(6, {})] [0, 1, 4, 5, 6, 9, 7, 8, 116] (T' := [(0, .pointer (some ⟨bl, 0, none⟩)), (1, .pointer (some ⟨bl, 0, none⟩)), (4, .pointer (some ⟨b2, 0, none⟩)), (5, .pointer (some ⟨b14, 0, none⟩)), (6, .int .i64 good), (9, .int .i64 ((lg.base.idx + (lg.evs.length : Int)) + 1)), (7, .slice (some ⟨b810, (j' * 2), none⟩) (lg.mks.length - j') (mc - j')), (8, .slice (winA (some ⟨b536, 0, none⟩) sc i 15) (lg.sns.length - i) (sc - i)), (116, .bool (x'.sum != (dig (runF (seg lg.evs q (((lg.base.idx + (lg.evs.length : Int)) + 1) - pos').toNat) (m', o')).1)))]) (φ := True) (fuel := 0) h831 (by kernel_rfl) rfl (by kernel_rfl) (by kernel_rfl) ⟨trivial, trivial⟩ trivial fun a833 h834 => ?_
                  clear h831
                  refine wpAnyK_done (by kernel_rfl) ?_ _
                  refine hK824 _ _ ?_
                  clear hK824
                  refine c_split h834 (b := (x'.sum != (dig (runF (seg lg.evs q (((lg.base.idx + (lg.evs.length : Int)) + 1) - pos').toNat) (m', o')).1))) rfl (fun hc835 => ?_) (fun hc835 => ?_)
                  ·
                    have hc835f : x'.sum ≠ (dig (runF (seg lg.evs q (((lg.base.idx + (lg.evs.length : Int)) + 1) - pos').toNat) (m', o')).1) := by simpa using hc835
                    have hvm := hi806.trans (vm_bad hx' hxn hc835f)
                    refine wp_seq_k fun K836 hK836 => ?_
                    refine nd_start (l := [0, 1, 2, 3, 4, 5, 6, 7, 8, 9]) rfl ?_
                    refine nd_batch tabOk tabZ_ok [(0, {}), (1, {}), (2, {}), (3, {}), (4, {}), (5, {}), (6, {k := 0}), (7, {}), (8, {})] [0, 1, 4, 5, 6, 9, 7, 8, 125] (T' := [(0, .pointer (some ⟨bl, 0, none⟩)), (1, .pointer (some ⟨bl, 0, none⟩)), (4, .pointer (some ⟨b2, 0, none⟩)), (5, .pointer (some ⟨b14, 0, none⟩)), (6, .int .i64 good), (9, .int .i64 ((lg.base.idx + (lg.evs.length : Int)) + 1)), (7, .slice (some ⟨b810, (j' * 2), none⟩) (lg.mks.length - j') (mc - j')), (8, .slice (winA (some ⟨b536, 0, none⟩) sc i 15) (lg.sns.length - i) (sc - i)), (125, .agg #[.int .i64 ((lg.base.idx + (lg.evs.length : Int)) + 1), .int .i64 good, .int .i64 (((lg.base.idx + (lg.evs.length : Int)) + 1) - lg.base.idx)])]) (φ := (bl = bl ∧ Nat.ble (0 + 1) 18 = true) ∧ inR .i64 (((lg.base.idx + (lg.evs.length : Int)) + 1) - lg.base.idx) ∧ True) (rest := [9]) h834 (by kernel_rfl) rfl ⟨⟨rfl, rfl⟩, ⟨by omega, by omega⟩, trivial⟩ fun a837 h838 => ?_
                    clear h834
                    refine nd_op ?_
                    refine op_store tabOk {k := 1} (L' := [(bl, ⟨logC lg.base (.slice eo lg.evs.length ec) (.slice (some ⟨b810, 0, none⟩) lg.mks.length mc) (.slice (some ⟨b536, 0, none⟩) lg.sns.length sc), 89, true⟩), (b2, ⟨[.int .i64 ((lg.base.idx + (lg.evs.length : Int)) + 1), .int .i64 good, .int .i64 (((lg.base.idx + (lg.evs.length : Int)) + 1) - lg.base.idx)], 114, false⟩), (b14, ⟨curC ((runF (seg lg.evs q (((lg.base.idx + (lg.evs.length : Int)) + 1) - pos').toNat) (m', o')).1) ((runF (seg lg.evs q (((lg.base.idx + (lg.evs.length : Int)) + 1) - pos').toNat) (m', o')).2) ((lg.base.idx + (lg.evs.length : Int)) + 1), 105, false⟩), (b536, ⟨cs537, 84, true⟩), (b810, ⟨cs811, 93, true⟩)]) (φ := b2 = b2 ∧ Nat.ble (0 + 3) 3 = true) h838 rfl rfl rfl (by kernel_rfl) ⟨rfl, rfl⟩ fun w839 h840 => ?_
                    clear h838
                    refine nd_done ?_
                    refine hK836 _ _ ?_
                    clear hK836
                    refine wp_ret ?_
                    have hres := hv.symm.trans (vloop_mark hnx hfin hs2 hvm)
                    try simp only [Exit.then, Exit.inBlock]
                    try rw [if_pos trivial]
                    exact s_ret tabOk tabZ_ok h840 [(.cell 4 114, {k := 1})] (vs := [.agg #[.int .i64 ((lg.base.idx + (lg.evs.length : Int)) + 1), .int .i64 good, .int .i64 (((lg.base.idx + (lg.evs.length : Int)) + 1) - lg.base.idx)]]) (φ := (b2 = b2 ∧ Nat.ble (0 + 3) 3 = true) ∧ True) rfl (by kernel_rfl) ⟨⟨rfl, rfl⟩, trivial⟩ ⟨by rw [hres]; rfl, h840.frame⟩
                  ·
                    have hc835f : x'.sum = (dig (runF (seg lg.evs q (((lg.base.idx + (lg.evs.length : Int)) + 1) - pos').toNat) (m', o')).1) := by simpa using hc835
                    have hsame := hi806.trans (vm_same hx' hxn hc835f)
                    refine wp_skip ?_
                    refine hK823 _ _ ?_
                    clear hK823
                    refine nd_start (l := [0, 1, 2]) rfl ?_
                    refine nd_batch tabOk tabZ_ok [(0, {}), (1, {}), (2, {})] [0, 1, 4, 5, 6, 9, 8, 7] (T' := [(0, .pointer (some ⟨bl, 0, none⟩)), (1, .pointer (some ⟨bl, 0, none⟩)), (4, .pointer (some ⟨b2, 0, none⟩)), (5, .pointer (some ⟨b14, 0, none⟩)), (6, .int .i64 good), (9, .int .i64 ((lg.base.idx + (lg.evs.length : Int)) + 1)), (8, .slice (winA (some ⟨b536, 0, none⟩) sc i 15) (lg.sns.length - i) (sc - i)), (7, .slice (sliceBase (some ⟨b810, (j' * 2), none⟩) (mc - j') 1 2) ((lg.mks.length - j') - 1) ((mc - j') - 1))]) (φ := (0 ≤ (1 : Int) ∧ (1 : Int) ≤ (((lg.mks.length - j') : Nat) : Int)) ∧ True) (rest := []) h834 (by kernel_rfl) rfl ⟨⟨by omega, by omega⟩, trivial⟩ fun a841 h842 => ?_
                    clear h834
                    refine nd_done ?_
                    have h843 := h842.memMono (L' := [(bl, ⟨logC lg.base (.slice eo lg.evs.length ec) (.slice (some ⟨b810, 0, none⟩) lg.mks.length mc) (.slice (some ⟨b536, 0, none⟩) lg.sns.length sc), 89, true⟩), (b2, ⟨[.int .i64 0, .int .i64 0, .int .i64 0], 114, false⟩), (b14, ⟨curC ((runF (seg lg.evs q (((lg.base.idx + (lg.evs.length : Int)) + 1) - pos').toNat) (m', o')).1) ((runF (seg lg.evs q (((lg.base.idx + (lg.evs.length : Int)) + 1) - pos').toNat) (m', o')).2) ((lg.base.idx + (lg.evs.length : Int)) + 1), 105, false⟩), (b536, ⟨cs537, 84, true⟩)]) (List.Sublist.cons_cons _ (List.Sublist.cons_cons _ (List.Sublist.cons_cons _ (List.Sublist.cons_cons _ (List.Sublist.cons _ List.Sublist.slnil)))))
                    clear h842
                    have e844 : sliceBase (some ⟨b810, (j' * 2), none⟩) (mc - j') 1 2 = winA (some ⟨b810, 0, none⟩) mc (j' + 1) 2 := by rw [← winA_some b810 2 hlt819]; exact winA_succ 2 (.inr ⟨b810, rfl⟩) hlt819
                    have e845 : lg.mks.length - j' - 1 = lg.mks.length - (j' + 1) := by omega
                    have e846 : mc - j' - 1 = mc - (j' + 1) := by omega
                    rw [e844, e845, e846] at h843
                    exact ⟨(gg - 1), by omega, (j' + 1), by omega, by omega, by omega, hsame, (h843.slotsMono (restr_spec (keep := [0, 1, 4, 5, 6, 9, 7, 8]) rfl))⟩
                ·
                  have hc822f : x'.idx ≠ ((lg.base.idx + (lg.evs.length : Int)) + 1) := by simpa using hc822
                  refine wp_exit ?_
                  rw [← winA_some b810 2 hlt819] at h821
                  have hstop : ∀ z, lg.mks[j']? = some z → z.idx ≠ ((lg.base.idx + (lg.evs.length : Int)) + 1) := (by intro z hz; rw [hx'] at hz; cases hz; exact hc822f)
                  exact hm734 j' _ _ hi803 hi804 (hi806.trans (vm_stop hstop)) hstop ((h821.memMono (List.Sublist.cons_cons _ (List.Sublist.cons_cons _ (List.Sublist.cons_cons _ (List.Sublist.cons_cons _ (List.Sublist.cons _ List.Sublist.slnil)))))).slotsMono (restr_spec (keep := [0, 1, 4, 5, 6, 9, 7, 8]) rfl))
              ·
                have hb809f : ¬ (((lg.mks.length - j') : Nat) : Int) > 0 := by simpa using hb809
                refine nd_start (l := [0, 1, 2, 3, 4, 5, 6, 7, 8, 9, 10]) rfl ?_
                refine nd_batch tabOk tabZ_ok [(0, {}), (1, {}), (2, {f := 1}), (3, {}), (4, {}), (5, {}), (6, {}), (7, {}), (8, {}), (9, {}), (10, {})] [0, 1, 4, 5, 6, 9, 7, 8, 107] (T' := [(0, .pointer (some ⟨bl, 0, none⟩)), (1, .pointer (some ⟨bl, 0, none⟩)), (4, .pointer (some ⟨b2, 0, none⟩)), (5, .pointer (some ⟨b14, 0, none⟩)), (6, .int .i64 good), (9, .int .i64 ((lg.base.idx + (lg.evs.length : Int)) + 1)), (7, .slice (winA mo mc j' 2) (lg.mks.length - j') (mc - j')), (8, .slice (winA (some ⟨b536, 0, none⟩) sc i 15) (lg.sns.length - i) (sc - i)), (107, .bool false)]) (φ := (decide ((((lg.mks.length - j') : Nat) : Int) > 0)) = false ∧ True) (rest := []) h802 (by kernel_rfl) rfl ⟨hb809, trivial⟩ fun a847 h848 => ?_
                clear h802
                refine nd_done ?_
                refine hK808 _ _ ?_
                clear hK808
                refine c_false h848 rfl ?_
                refine wp_exit ?_
                have hstop : ∀ z, lg.mks[j']? = some z → z.idx ≠ ((lg.base.idx + (lg.evs.length : Int)) + 1) := (by intro z hz; have := (List.getElem?_eq_some_iff.1 hz).1; omega)
                exact hm734 j' _ _ hi803 hi804 (hi806.trans (vm_stop hstop)) hstop (h848.slotsMono (restr_spec (keep := [0, 1, 4, 5, 6, 9, 7, 8]) rfl))
        ·
          have hb535f : ¬ (((lg.sns.length - i) : Nat) : Int) > 0 := by simpa using hb535
          refine nd_start (l := [0, 1, 2, 3, 4, 5, 6, 7, 8, 9, 10]) rfl ?_
          refine nd_batch tabOk tabZ_ok [(0, {}), (1, {}), (2, {f := 1}), (3, {}), (4, {}), (5, {}), (6, {}), (7, {}), (8, {}), (9, {}), (10, {})] [0, 1, 4, 5, 6, 7, 8, 9, 72] (T' := [(0, .pointer (some ⟨bl, 0, none⟩)), (1, .pointer (some ⟨bl, 0, none⟩)), (4, .pointer (some ⟨b2, 0, none⟩)), (5, .pointer (some ⟨b14, 0, none⟩)), (6, .int .i64 good), (7, .slice (winA mo mc j 2) (lg.mks.length - j) (mc - j)), (8, .slice (winA so sc i 15) (lg.sns.length - i) (sc - i)), (9, .int .i64 ((lg.base.idx + (lg.evs.length : Int)) + 1)), (72, .bool false)]) (φ := (decide ((((lg.sns.length - i) : Nat) : Int) > 0)) = false ∧ True) (rest := []) h70 (by kernel_rfl) rfl ⟨hb535, trivial⟩ fun a849 h850 => ?_
          clear h70
          refine nd_done ?_
          refine hK534 _ _ ?_
          clear hK534
          refine c_false h850 rfl ?_
          refine wp_skip ?_
          refine hK533 _ _ ?_
          clear hK533
          refine wp_seq_k fun K851 hK851 => ?_
          refine wp_seq_k fun K852 hK852 => ?_
          refine nd_start (l := [0, 1, 2, 3]) rfl ?_
          refine nd_batch tabOk tabZ_ok [(0, {}), (1, {})] [0, 1, 4, 5, 6, 7, 8, 9, 77, 78] (T' := [(0, .pointer (some ⟨bl, 0, none⟩)), (1, .pointer (some ⟨bl, 0, none⟩)), (4, .pointer (some ⟨b2, 0, none⟩)), (5, .pointer (some ⟨b14, 0, none⟩)), (6, .int .i64 good), (7, .slice (winA mo mc j 2) (lg.mks.length - j) (mc - j)), (8, .slice (winA so sc i 15) (lg.sns.length - i) (sc - i)), (9, .int .i64 ((lg.base.idx + (lg.evs.length : Int)) + 1)), (77, .int .i64 ((lg.base.idx + (lg.evs.length : Int)) + 1)), (78, .pointer (some ⟨bl, 0, none⟩))]) (φ := True) (rest := [2, 3]) h850 (by kernel_rfl) rfl trivial fun a853 h854 => ?_
          clear h850
          refine nd_op ?_
          refine op_call h854 rfl rfl rfl (callOk Tryf.func41 (by decide) rfl) (args := [.pointer (some ⟨bl, 0, none⟩)]) rfl (end_ok bl lg.base eo lg.evs.length ec (.slice mo lg.mks.length mc) (.slice so lg.sns.length sc) true _ (h854.kn (k := 0) rfl) hb0 (by omega) (by omega)) ?_
          rintro _ w855 ⟨rfl, hf857⟩
          refine ⟨_, rfl, ?_⟩
          have h856 := (h854.grow hf857).put (d := some 79) (v := .int .i64 (lg.base.idx + (lg.evs.length : Int))) (T' := [(79, .int .i64 (lg.base.idx + (lg.evs.length : Int))), (0, .pointer (some ⟨bl, 0, none⟩)), (1, .pointer (some ⟨bl, 0, none⟩)), (4, .pointer (some ⟨b2, 0, none⟩)), (5, .pointer (some ⟨b14, 0, none⟩)), (6, .int .i64 good), (7, .slice (winA mo mc j 2) (lg.mks.length - j) (mc - j)), (8, .slice (winA so sc i 15) (lg.sns.length - i) (sc - i)), (9, .int .i64 ((lg.base.idx + (lg.evs.length : Int)) + 1)), (77, .int .i64 ((lg.base.idx + (lg.evs.length : Int)) + 1)), (78, .pointer (some ⟨bl, 0, none⟩))]) rfl
          clear h854
          refine nd_batch tabOk tabZ_ok [(3, {})] [0, 1, 4, 5, 6, 7, 8, 9, 80] (T' := [(0, .pointer (some ⟨bl, 0, none⟩)), (1, .pointer (some ⟨bl, 0, none⟩)), (4, .pointer (some ⟨b2, 0, none⟩)), (5, .pointer (some ⟨b14, 0, none⟩)), (6, .int .i64 good), (7, .slice (winA mo mc j 2) (lg.mks.length - j) (mc - j)), (8, .slice (winA so sc i 15) (lg.sns.length - i) (sc - i)), (9, .int .i64 ((lg.base.idx + (lg.evs.length : Int)) + 1)), (80, .bool (decide (((lg.base.idx + (lg.evs.length : Int)) + 1) > (lg.base.idx + (lg.evs.length : Int)))))]) (φ := True) (rest := []) h856 (by kernel_rfl) rfl trivial fun a858 h859 => ?_
          clear h856
          refine nd_done ?_
          refine hK852 _ _ ?_
          clear hK852
          refine c_split h859 (b := decide (((lg.base.idx + (lg.evs.length : Int)) + 1) > (lg.base.idx + (lg.evs.length : Int)))) rfl (fun hc860 => ?_) (fun hc860 => ?_)
          ·
            have hc860f : ((lg.base.idx + (lg.evs.length : Int)) + 1) > (lg.base.idx + (lg.evs.length : Int)) := by simpa using hc860
            have hnx : nextOf lg.fin (lg.mks.drop j) (lg.sns.drop i) = ((lg.base.idx + (lg.evs.length : Int)) + 1) := next_nil (fin := lg.fin) (by omega) (by omega)
            have hfin : lg.fin < ((lg.base.idx + (lg.evs.length : Int)) + 1) := hc860f
            refine wp_seq_k fun K861 hK861 => ?_
            refine nd_start (l := [0, 1, 2, 3]) rfl ?_
            refine nd_batch tabOk tabZ_ok [(0, {}), (1, {})] [0, 1, 4, 5, 6, 7, 8, 9, 81, 82] (T' := [(0, .pointer (some ⟨bl, 0, none⟩)), (1, .pointer (some ⟨bl, 0, none⟩)), (4, .pointer (some ⟨b2, 0, none⟩)), (5, .pointer (some ⟨b14, 0, none⟩)), (6, .int .i64 good), (7, .slice (winA mo mc j 2) (lg.mks.length - j) (mc - j)), (8, .slice (winA so sc i 15) (lg.sns.length - i) (sc - i)), (9, .int .i64 ((lg.base.idx + (lg.evs.length : Int)) + 1)), (81, .pointer (some ⟨bl, 0, none⟩)), (82, .pointer (some ⟨bl, 0, none⟩))]) (φ := True) (rest := [2, 3]) h859 (by kernel_rfl) rfl trivial fun a862 h863 => ?_
            clear h859
            refine nd_op ?_
            refine op_call h863 rfl rfl rfl (callOk Tryf.func41 (by decide) rfl) (args := [.pointer (some ⟨bl, 0, none⟩)]) rfl (end_ok bl lg.base eo lg.evs.length ec (.slice mo lg.mks.length mc) (.slice so lg.sns.length sc) true _ (h863.kn (k := 0) rfl) hb0 (by omega) (by omega)) ?_
            rintro _ w864 ⟨rfl, hf866⟩
            refine ⟨_, rfl, ?_⟩
            have h865 := (h863.grow hf866).put (d := some 83) (v := .int .i64 (lg.base.idx + (lg.evs.length : Int))) (T' := [(83, .int .i64 (lg.base.idx + (lg.evs.length : Int))), (0, .pointer (some ⟨bl, 0, none⟩)), (1, .pointer (some ⟨bl, 0, none⟩)), (4, .pointer (some ⟨b2, 0, none⟩)), (5, .pointer (some ⟨b14, 0, none⟩)), (6, .int .i64 good), (7, .slice (winA mo mc j 2) (lg.mks.length - j) (mc - j)), (8, .slice (winA so sc i 15) (lg.sns.length - i) (sc - i)), (9, .int .i64 ((lg.base.idx + (lg.evs.length : Int)) + 1)), (81, .pointer (some ⟨bl, 0, none⟩)), (82, .pointer (some ⟨bl, 0, none⟩))]) rfl
            clear h863
            refine nd_op ?_
            refine op_call h865 rfl rfl rfl (callOk Tryf.func44 (by decide) rfl) (args := [.pointer (some ⟨b14, 0, none⟩), .pointer (some ⟨bl, 0, none⟩), .int .i64 (lg.base.idx + (lg.evs.length : Int))]) rfl (run_ok b14 bl ⟨eo, ec, eF, mo, mc, mF, so, sc, sF⟩ lg _ (LogAt.of (d := ⟨eo, ec, eF, mo, mc, mF, so, sc, sF⟩) (h865.kn (k := 0) rfl) h865.inv hsep) m' o' pos' (lg.base.idx + (lg.evs.length : Int)) q ((lg.base.idx + (lg.evs.length : Int)) - pos').toNat (h865.kn (k := 2) rfl) (h865.ne 2 0 rfl rfl rfl) (h865.dj (k := 2) rfl rfl) hev hmok hq (by omega) (by omega) (by omega) hb0 (by omega)) ?_
            rintro _ w867 ⟨rfl, hbs, hf869⟩
            refine ⟨_, rfl, ?_⟩
            have h868 := (h865.setBlk (k := 2) rfl rfl hf869 hbs (L' := [(bl, ⟨logC lg.base (.slice eo lg.evs.length ec) (.slice mo lg.mks.length mc) (.slice so lg.sns.length sc), 89, true⟩), (b2, ⟨[.int .i64 0, .int .i64 0, .int .i64 0], 114, false⟩), (b14, ⟨curC ((runF (seg lg.evs q ((lg.base.idx + (lg.evs.length : Int)) - pos').toNat) (m', o')).1) ((runF (seg lg.evs q ((lg.base.idx + (lg.evs.length : Int)) - pos').toNat) (m', o')).2) (lg.base.idx + (lg.evs.length : Int)), 105, false⟩)]) rfl).put (d := some 84) (v := .tuple #[]) (T' := [(84, .tuple #[]), (83, .int .i64 (lg.base.idx + (lg.evs.length : Int))), (0, .pointer (some ⟨bl, 0, none⟩)), (1, .pointer (some ⟨bl, 0, none⟩)), (4, .pointer (some ⟨b2, 0, none⟩)), (5, .pointer (some ⟨b14, 0, none⟩)), (6, .int .i64 good), (7, .slice (winA mo mc j 2) (lg.mks.length - j) (mc - j)), (8, .slice (winA so sc i 15) (lg.sns.length - i) (sc - i)), (9, .int .i64 ((lg.base.idx + (lg.evs.length : Int)) + 1)), (81, .pointer (some ⟨bl, 0, none⟩)), (82, .pointer (some ⟨bl, 0, none⟩))]) rfl
            clear h865
            refine nd_done ?_
            refine hK861 _ _ ?_
            clear hK861
            refine wp_seq_k fun K870 hK870 => ?_
            refine dr_start (KB := [bl, b2, b14]) (Bi := [[0, 1, 2], [0, 1, 2], [0, 1, 2], [0, 1, 2], [0, 1, 2], [0, 1, 2], [0, 1, 2], [0, 1, 2], [0, 1, 2], []]) mixed h868 fun w871 h872 => ?_
            clear h868
            refine dr_batch tabOk tabZ_ok (by repeat (first | exact PF.body | with_reducible apply PF.inB | with_reducible apply PF.next)) [(0, {}), (1, {}), (2, {k := 2, p := 2}), (3, {}), (4, {}), (5, {}), (6, {k := 0, p := 0}), (7, {}), (8, {})] [0, 1, 4, 5, 6, 7, 8, 9, 93] (T' := [(0, .pointer (some ⟨bl, 0, none⟩)), (1, .pointer (some ⟨bl, 0, none⟩)), (4, .pointer (some ⟨b2, 0, none⟩)), (5, .pointer (some ⟨b14, 0, none⟩)), (6, .int .i64 good), (7, .slice (winA mo mc j 2) (lg.mks.length - j) (mc - j)), (8, .slice (winA so sc i 15) (lg.sns.length - i) (sc - i)), (9, .int .i64 ((lg.base.idx + (lg.evs.length : Int)) + 1)), (93, .agg #[.int .i64 (-1), .int .i64 good, .int .i64 ((lg.base.idx + (lg.evs.length : Int)) - lg.base.idx)])]) (φ := (b14 = b14 ∧ Nat.ble (14 + 1) 15 = true) ∧ (bl = bl ∧ Nat.ble (0 + 1) 18 = true) ∧ inR .i64 ((lg.base.idx + (lg.evs.length : Int)) - lg.base.idx) ∧ True) (fuel := 1) h872 (by kernel_rfl) rfl (by kernel_rfl) (by kernel_rfl) ⟨trivial, trivial, rfl, trivial, trivial, trivial, rfl, trivial, trivial, trivial⟩ ⟨⟨rfl, rfl⟩, ⟨rfl, rfl⟩, ⟨by omega, by omega⟩, trivial⟩ fun a874 h875 => ?_
            clear h872
            refine wpAnyK_one (i := 9) (fuel := 0) (by kernel_rfl) ?_
            refine op_store tabOk {k := 1} (L' := [(bl, ⟨logC lg.base (.slice eo lg.evs.length ec) (.slice mo lg.mks.length mc) (.slice so lg.sns.length sc), 89, true⟩), (b2, ⟨[.int .i64 (-1), .int .i64 good, .int .i64 ((lg.base.idx + (lg.evs.length : Int)) - lg.base.idx)], 114, false⟩), (b14, ⟨curC ((runF (seg lg.evs q ((lg.base.idx + (lg.evs.length : Int)) - pos').toNat) (m', o')).1) ((runF (seg lg.evs q ((lg.base.idx + (lg.evs.length : Int)) - pos').toNat) (m', o')).2) (lg.base.idx + (lg.evs.length : Int)), 105, false⟩)]) (φ := b2 = b2 ∧ Nat.ble (0 + 3) 3 = true) h875 rfl rfl rfl (by kernel_rfl) ⟨rfl, rfl⟩ fun w876 h877 => ?_
            have hkh877 := h875.known
            refine ⟨keepNil, ?_⟩
            clear h875
            refine wpAnyK_done (by kernel_rfl) ?_ _
            refine hK870 _ _ ?_
            clear hK870
            refine wp_ret ?_
            have hres := hv.symm.trans (vloop_end hnx hfin)
            try simp only [Exit.then, Exit.inBlock]
            try rw [if_pos trivial]
            exact s_ret tabOk tabZ_ok h877 [(.cell 4 114, {k := 1})] (vs := [.agg #[.int .i64 (-1), .int .i64 good, .int .i64 ((lg.base.idx + (lg.evs.length : Int)) - lg.base.idx)]]) (φ := (b2 = b2 ∧ Nat.ble (0 + 3) 3 = true) ∧ True) rfl (by kernel_rfl) ⟨⟨rfl, rfl⟩, trivial⟩ ⟨by rw [hres]; rfl, h877.frame⟩
          ·
            have hc860f : ¬ ((lg.base.idx + (lg.evs.length : Int)) + 1) > (lg.base.idx + (lg.evs.length : Int)) := by simpa using hc860
            have hnx : nextOf lg.fin (lg.mks.drop j) (lg.sns.drop i) = ((lg.base.idx + (lg.evs.length : Int)) + 1) := next_nil (fin := lg.fin) (by omega) (by omega)
            have hfin : ¬ lg.fin < ((lg.base.idx + (lg.evs.length : Int)) + 1) := hc860f
            have hnp : pos' ≤ ((lg.base.idx + (lg.evs.length : Int)) + 1) := by omega
            have hmok2 := runF_ok (seg lg.evs q (((lg.base.idx + (lg.evs.length : Int)) + 1) - pos').toNat) (m', o') hmok (seg_ok hev _ _)
            have hs2 : runF (seg lg.evs (pos' - lg.base.idx).toNat (((lg.base.idx + (lg.evs.length : Int)) + 1) - pos').toNat) (m', o') = runF (seg lg.evs q (((lg.base.idx + (lg.evs.length : Int)) + 1) - pos').toNat) (m', o') := by rw [show (pos' - lg.base.idx).toNat = q by omega]
            simp only [Lg.fin] at hfin
            refine wp_skip ?_
            refine hK851 _ _ ?_
            clear hK851
            refine wp_seq_k fun K878 hK878 => ?_
            refine nd_start (l := [0, 1, 2]) rfl ?_
            refine nd_batch tabOk tabZ_ok [(0, {}), (1, {})] [0, 1, 4, 5, 6, 7, 8, 9, 94, 95] (T' := [(0, .pointer (some ⟨bl, 0, none⟩)), (1, .pointer (some ⟨bl, 0, none⟩)), (4, .pointer (some ⟨b2, 0, none⟩)), (5, .pointer (some ⟨b14, 0, none⟩)), (6, .int .i64 good), (7, .slice (winA mo mc j 2) (lg.mks.length - j) (mc - j)), (8, .slice (winA so sc i 15) (lg.sns.length - i) (sc - i)), (9, .int .i64 ((lg.base.idx + (lg.evs.length : Int)) + 1)), (94, .pointer (some ⟨bl, 0, none⟩)), (95, .int .i64 ((lg.base.idx + (lg.evs.length : Int)) + 1))]) (φ := True) (rest := [2]) h859 (by kernel_rfl) rfl trivial fun a879 h880 => ?_
            clear h859
            refine nd_op ?_
            refine op_call h880 rfl rfl rfl (callOk Tryf.func44 (by decide) rfl) (args := [.pointer (some ⟨b14, 0, none⟩), .pointer (some ⟨bl, 0, none⟩), .int .i64 ((lg.base.idx + (lg.evs.length : Int)) + 1)]) rfl (run_ok b14 bl ⟨eo, ec, eF, mo, mc, mF, so, sc, sF⟩ lg _ (LogAt.of (d := ⟨eo, ec, eF, mo, mc, mF, so, sc, sF⟩) (h880.kn (k := 0) rfl) h880.inv hsep) m' o' pos' ((lg.base.idx + (lg.evs.length : Int)) + 1) q (((lg.base.idx + (lg.evs.length : Int)) + 1) - pos').toNat (h880.kn (k := 2) rfl) (h880.ne 2 0 rfl rfl rfl) (h880.dj (k := 2) rfl rfl) hev hmok hq (by omega) (by omega) (by omega) hb0 (by omega)) ?_
            rintro _ w881 ⟨rfl, hbs, hf883⟩
            refine ⟨_, rfl, ?_⟩
            have h882 := (h880.setBlk (k := 2) rfl rfl hf883 hbs (L' := [(bl, ⟨logC lg.base (.slice eo lg.evs.length ec) (.slice mo lg.mks.length mc) (.slice so lg.sns.length sc), 89, true⟩), (b2, ⟨[.int .i64 0, .int .i64 0, .int .i64 0], 114, false⟩), (b14, ⟨curC ((runF (seg lg.evs q (((lg.base.idx + (lg.evs.length : Int)) + 1) - pos').toNat) (m', o')).1) ((runF (seg lg.evs q (((lg.base.idx + (lg.evs.length : Int)) + 1) - pos').toNat) (m', o')).2) ((lg.base.idx + (lg.evs.length : Int)) + 1), 105, false⟩)]) rfl).put (d := some 96) (v := .tuple #[]) (T' := [(96, .tuple #[]), (0, .pointer (some ⟨bl, 0, none⟩)), (1, .pointer (some ⟨bl, 0, none⟩)), (4, .pointer (some ⟨b2, 0, none⟩)), (5, .pointer (some ⟨b14, 0, none⟩)), (6, .int .i64 good), (7, .slice (winA mo mc j 2) (lg.mks.length - j) (mc - j)), (8, .slice (winA so sc i 15) (lg.sns.length - i) (sc - i)), (9, .int .i64 ((lg.base.idx + (lg.evs.length : Int)) + 1)), (94, .pointer (some ⟨bl, 0, none⟩)), (95, .int .i64 ((lg.base.idx + (lg.evs.length : Int)) + 1))]) rfl
            clear h880
            refine nd_done ?_
            refine hK878 _ _ ?_
            clear hK878
            refine wp_seq_k fun K884 hK884 => ?_
            refine wp_block ?_
            have hm885 : ∀ (j' : Nat) (ca : Act) (cw : World), (j' ≤ lg.mks.length) → (j ≤ j') → (vm ((lg.base.idx + (lg.evs.length : Int)) + 1) (dig (runF (seg lg.evs q (((lg.base.idx + (lg.evs.length : Int)) + 1) - pos').toNat) (m', o')).1) (lg.mks.drop j) = some (lg.mks.drop j')) → (∀ z, lg.mks[j']? = some z → z.idx ≠ ((lg.base.idx + (lg.evs.length : Int)) + 1)) → St ⟨165, [], w, Rws [rl evC 31 3 lg.evs eo ec eF, rl mkC 93 2 lg.mks mo mc mF, rl ptC 84 15 lg.sns so sc sF], Ff [rl evC 31 3 lg.evs eo ec eF, rl mkC 93 2 lg.mks mo mc mF, rl ptC 84 15 lg.sns so sc sF]⟩ [(0, .pointer (some ⟨bl, 0, none⟩)), (1, .pointer (some ⟨bl, 0, none⟩)), (4, .pointer (some ⟨b2, 0, none⟩)), (5, .pointer (some ⟨b14, 0, none⟩)), (6, .int .i64 good), (9, .int .i64 ((lg.base.idx + (lg.evs.length : Int)) + 1)), (7, .slice (winA mo mc j' 2) (lg.mks.length - j') (mc - j')), (8, .slice (winA so sc i 15) (lg.sns.length - i) (sc - i))] [(bl, ⟨logC lg.base (.slice eo lg.evs.length ec) (.slice mo lg.mks.length mc) (.slice so lg.sns.length sc), 89, true⟩), (b2, ⟨[.int .i64 0, .int .i64 0, .int .i64 0], 114, false⟩), (b14, ⟨curC ((runF (seg lg.evs q (((lg.base.idx + (lg.evs.length : Int)) + 1) - pos').toNat) (m', o')).1) ((runF (seg lg.evs q (((lg.base.idx + (lg.evs.length : Int)) + 1) - pos').toNat) (m', o')).2) ((lg.base.idx + (lg.evs.length : Int)) + 1), 105, false⟩)] ca cw → K884 ca cw := by
              intro j' a886 w887 hi889 hi890 hi891 hi892 h888
              have hj' := hi889
              have hle1 := hi890
              have hvm := hi891
              have hstop1 := hi892
              refine hK884 _ _ ?_
              clear hK884
              refine wp_seq_k fun K893 hK893 => ?_
              refine wp_block ?_
              have hm894 : ∀ (i' : Nat) (ca : Act) (cw : World), (i' ≤ lg.sns.length) → (i ≤ i') → (vs ((lg.base.idx + (lg.evs.length : Int)) + 1) (runF (seg lg.evs q (((lg.base.idx + (lg.evs.length : Int)) + 1) - pos').toNat) (m', o')) (lg.sns.drop i) = some (lg.sns.drop i')) → (∀ z, lg.sns[i']? = some z → z.idx ≠ ((lg.base.idx + (lg.evs.length : Int)) + 1)) → St ⟨165, [], w, Rws [rl evC 31 3 lg.evs eo ec eF, rl mkC 93 2 lg.mks mo mc mF, rl ptC 84 15 lg.sns so sc sF], Ff [rl evC 31 3 lg.evs eo ec eF, rl mkC 93 2 lg.mks mo mc mF, rl ptC 84 15 lg.sns so sc sF]⟩ [(0, .pointer (some ⟨bl, 0, none⟩)), (1, .pointer (some ⟨bl, 0, none⟩)), (4, .pointer (some ⟨b2, 0, none⟩)), (5, .pointer (some ⟨b14, 0, none⟩)), (6, .int .i64 good), (9, .int .i64 ((lg.base.idx + (lg.evs.length : Int)) + 1)), (8, .slice (winA so sc i' 15) (lg.sns.length - i') (sc - i')), (7, .slice (winA mo mc j' 2) (lg.mks.length - j') (mc - j'))] [(bl, ⟨logC lg.base (.slice eo lg.evs.length ec) (.slice mo lg.mks.length mc) (.slice so lg.sns.length sc), 89, true⟩), (b2, ⟨[.int .i64 0, .int .i64 0, .int .i64 0], 114, false⟩), (b14, ⟨curC ((runF (seg lg.evs q (((lg.base.idx + (lg.evs.length : Int)) + 1) - pos').toNat) (m', o')).1) ((runF (seg lg.evs q (((lg.base.idx + (lg.evs.length : Int)) + 1) - pos').toNat) (m', o')).2) ((lg.base.idx + (lg.evs.length : Int)) + 1), 105, false⟩)] ca cw → K893 ca cw := by
                intro i' a895 w896 hi898 hi899 hi900 hi901 h897
                have hi' := hi898
                have hle2 := hi899
                have hvs := hi900
                have hstop2 := hi901
                have hprog : lg.mks.length - j' + (lg.sns.length - i') < lg.mks.length - j + (lg.sns.length - i) := by
                  exfalso; omega
                have hall : (∀ z, lg.mks[j]? = some z → ((lg.base.idx + (lg.evs.length : Int)) + 1) ≤ z.idx) ∧ (∀ z, lg.sns[i]? = some z → ((lg.base.idx + (lg.evs.length : Int)) + 1) ≤ z.idx) := by
                  refine ⟨fun z hz => ?_, fun z hz => ?_⟩
                  · have := (List.getElem?_eq_some_iff.1 hz).1; omega
                  · have := (List.getElem?_eq_some_iff.1 hz).1; omega
                have hgm' : ∀ z ∈ lg.mks.drop j', ((lg.base.idx + (lg.evs.length : Int)) + 1) ≤ z.idx := fun z hz => mk_ge hms hall.1 z ((List.drop_sublist_drop_left lg.mks hle1).mem hz)
                have hgs' : ∀ z ∈ lg.sns.drop i', ((lg.base.idx + (lg.evs.length : Int)) + 1) ≤ z.idx := fun z hz => pt_ge hsort hall.2 z ((List.drop_sublist_drop_left lg.sns hle2).mem hz)
                refine hK893 _ _ ?_
                clear hK893
                refine nd_start (l := [0, 1]) rfl ?_
                refine nd_batch tabOk tabZ_ok [(0, {}), (1, {})] [0, 1, 4, 5, 9, 8, 7, 6] (T' := [(0, .pointer (some ⟨bl, 0, none⟩)), (1, .pointer (some ⟨bl, 0, none⟩)), (4, .pointer (some ⟨b2, 0, none⟩)), (5, .pointer (some ⟨b14, 0, none⟩)), (9, .int .i64 ((lg.base.idx + (lg.evs.length : Int)) + 1)), (8, .slice (winA so sc i' 15) (lg.sns.length - i') (sc - i')), (7, .slice (winA mo mc j' 2) (lg.mks.length - j') (mc - j')), (6, .int .i64 ((lg.base.idx + (lg.evs.length : Int)) + 1))]) (φ := True) (rest := []) h897 (by kernel_rfl) rfl trivial fun a902 h903 => ?_
                clear h897
                refine nd_done ?_
                exact ⟨g, by omega, j', i', (runF (seg lg.evs q (((lg.base.idx + (lg.evs.length : Int)) + 1) - pos').toNat) (m', o')).1, (runF (seg lg.evs q (((lg.base.idx + (lg.evs.length : Int)) + 1) - pos').toNat) (m', o')).2, ((lg.base.idx + (lg.evs.length : Int)) + 1), ((lg.base.idx + (lg.evs.length : Int)) + 1), (((lg.base.idx + (lg.evs.length : Int)) + 1) - lg.base.idx).toNat, hj', hi', by omega, by omega, by omega, hmok2, hgm', hgs', by rw [← hv]; exact (vloop_next hnx hfin hs2 hvm hvs).symm, (h903.slotsMono (restr_spec (keep := [0, 1, 4, 5, 6, 7, 8]) rfl))⟩
              clear hK893
              refine wp_loop_ghost (fun gg ga gw => ∃ (i' : Nat), (i' ≤ lg.sns.length) ∧ (i ≤ i') ∧ (gg = lg.sns.length - i') ∧ (vs ((lg.base.idx + (lg.evs.length : Int)) + 1) (runF (seg lg.evs q (((lg.base.idx + (lg.evs.length : Int)) + 1) - pos').toNat) (m', o')) (lg.sns.drop i) = vs ((lg.base.idx + (lg.evs.length : Int)) + 1) (runF (seg lg.evs q (((lg.base.idx + (lg.evs.length : Int)) + 1) - pos').toNat) (m', o')) (lg.sns.drop i')) ∧ St ⟨165, [], w, Rws [rl evC 31 3 lg.evs eo ec eF, rl mkC 93 2 lg.mks mo mc mF, rl ptC 84 15 lg.sns so sc sF], Ff [rl evC 31 3 lg.evs eo ec eF, rl mkC 93 2 lg.mks mo mc mF, rl ptC 84 15 lg.sns so sc sF]⟩ [(0, .pointer (some ⟨bl, 0, none⟩)), (1, .pointer (some ⟨bl, 0, none⟩)), (4, .pointer (some ⟨b2, 0, none⟩)), (5, .pointer (some ⟨b14, 0, none⟩)), (6, .int .i64 good), (9, .int .i64 ((lg.base.idx + (lg.evs.length : Int)) + 1)), (8, .slice (winA so sc i' 15) (lg.sns.length - i') (sc - i')), (7, .slice (winA mo mc j' 2) (lg.mks.length - j') (mc - j'))] [(bl, ⟨logC lg.base (.slice eo lg.evs.length ec) (.slice mo lg.mks.length mc) (.slice so lg.sns.length sc), 89, true⟩), (b2, ⟨[.int .i64 0, .int .i64 0, .int .i64 0], 114, false⟩), (b14, ⟨curC ((runF (seg lg.evs q (((lg.base.idx + (lg.evs.length : Int)) + 1) - pos').toNat) (m', o')).1) ((runF (seg lg.evs q (((lg.base.idx + (lg.evs.length : Int)) + 1) - pos').toNat) (m', o')).2) ((lg.base.idx + (lg.evs.length : Int)) + 1), 105, false⟩)] ga gw) (lg.sns.length - i) ⟨i, by omega, Nat.le_refl _, rfl, rfl, (h888.slotsMono (restr_spec (keep := [0, 1, 4, 5, 6, 9, 8, 7]) rfl))⟩ ?_
              clear h888
              rintro gg a904 w905 ⟨i', hi907, hi908, hi909, hi910, h906⟩
              refine wp_seq_k fun K911 hK911 => ?_
              refine wp_seq_k fun K912 hK912 => ?_
              rcases Bool.eq_false_or_eq_true (decide ((((lg.sns.length - i') : Nat) : Int) > 0)) with hb913 | hb913
              ·
                have hb913f : (((lg.sns.length - i') : Nat) : Int) > 0 := by simpa using hb913
                obtain ⟨y', hy'⟩ := Sx.get_some (xs := lg.sns) (i := i') (by omega)
                obtain ⟨b914, cs915, ho916, hb917, hc918, hF919, hq921, hl922⟩ := rl_open (h906.inv.get (j := 2) rfl) ptC_len hy'
                subst ho916 hF919
                have h920 := h906.open_ hb917 (h906.notinL (by simp [Ff]) (kcons (fun _ => (fun hq => hsep (by have hq2 : bl = b914 := hq; rw [hq2]; simp [Hd.F]))) (kcons (by intro hq; cases hq) (kcons (by intro hq; cases hq) knil))))
                clear h906
                have hlt923 : i' < sc := by have h1 : lg.sns.length ≤ sc := rl_cap (h920.inv.get (j := 2) rfl); have h2 := (List.getElem?_eq_some_iff.1 hy').1; omega
                rw [winA_some b914 15 hlt923] at h920
                refine nd_start (l := [0, 1, 2, 3, 4, 5, 6, 7, 8, 9, 10]) rfl ?_
                refine nd_batch tabOk tabZ_ok [(0, {}), (1, {}), (2, {f := 2}), (3, {}), (4, {}), (5, {}), (6, {}), (7, {k := 3, m := 1, vs := [.int .i64 y'.idx]}), (8, {}), (9, {}), (10, {})] [0, 1, 4, 5, 6, 9, 8, 7, 136] (T' := [(0, .pointer (some ⟨bl, 0, none⟩)), (1, .pointer (some ⟨bl, 0, none⟩)), (4, .pointer (some ⟨b2, 0, none⟩)), (5, .pointer (some ⟨b14, 0, none⟩)), (6, .int .i64 good), (9, .int .i64 ((lg.base.idx + (lg.evs.length : Int)) + 1)), (8, .slice (some ⟨b914, (i' * 15), none⟩) (lg.sns.length - i') (sc - i')), (7, .slice (winA mo mc j' 2) (lg.mks.length - j') (mc - j')), (136, .bool (y'.idx == ((lg.base.idx + (lg.evs.length : Int)) + 1)))]) (φ := (decide ((((lg.sns.length - i') : Nat) : Int) > 0)) = true ∧ (0 ≤ (0 : Int) ∧ (0 : Int) < (((lg.sns.length - i') : Nat) : Int)) ∧ (b914 = b914 ∧ cellsAre cs915 (i' * 15) [.int .i64 y'.idx]) ∧ True) (rest := []) h920 (by kernel_rfl) rfl ⟨hb913, ⟨by omega, by omega⟩, ⟨rfl, (pt_idx hc918)⟩, trivial⟩ fun a924 h925 => ?_
                clear h920
                refine nd_done ?_
                refine hK912 _ _ ?_
                clear hK912
                refine c_split h925 (b := (y'.idx == ((lg.base.idx + (lg.evs.length : Int)) + 1))) rfl (fun hc926 => ?_) (fun hc926 => ?_)
                ·
                  have hc926f : y'.idx = ((lg.base.idx + (lg.evs.length : Int)) + 1) := by simpa using hc926
                  have hxn : y'.idx = ((lg.base.idx + (lg.evs.length : Int)) + 1) := hc926f
                  refine wp_skip ?_
                  refine hK911 _ _ ?_
                  clear hK911
                  refine wp_seq_k fun K927 hK927 => ?_
                  refine wp_block ?_
                  refine wp_seq_k fun K928 hK928 => ?_
                  rcases Bool.eq_false_or_eq_true ((Bool.xor true (machEq y'.st (runF (seg lg.evs q (((lg.base.idx + (lg.evs.length : Int)) + 1) - pos').toNat) (m', o')).1))) with hb929 | hb929
                  ·
                    have hme : machEq y'.st (runF (seg lg.evs q (((lg.base.idx + (lg.evs.length : Int)) + 1) - pos').toNat) (m', o')).1 = false := by simpa using hb929
                    have hvs := hi910.trans (vs_bad1 hy' hxn hme)
                    refine dr_start (KB := [bl, b2, b14, b914]) (Bi := [[0, 1, 2, 3], [0, 1, 2, 3], [0, 1, 2, 3], [0, 1, 2, 3], [0, 1, 2, 3], [0, 1, 2, 3], [0, 1, 2, 3], [0, 1, 2, 3], [0, 1, 2, 3], [0, 1, 2, 3], [0, 1, 2, 3], [0, 1, 2, 3], [0, 1, 2, 3], [0, 1, 2, 3], [0, 1, 2, 3], [0, 1, 2, 3]]) mixed h925 fun w930 h931 => ?_
                    clear h925
                    refine dr_batch tabOk tabZ_ok (by repeat (first | exact PF.body | with_reducible apply PF.inB | with_reducible apply PF.next)) [(0, {}), (1, {}), (2, {}), (3, {k := 3, m := 1, vs := [.int .u64 y'.st.now, .int .i8 y'.st.cur, .int .u8 y'.st.s0, .int .u8 y'.st.s1, .int .u8 y'.st.s2, .int .u8 y'.st.s3, .int .u64 y'.st.r0, .int .u64 y'.st.r1, .int .u64 y'.st.r2, .int .u64 y'.st.r3, .int .u64 y'.st.word], p := 3}), (4, {}), (5, {k := 2, p := 2}), (6, {f := 2}), (7, {}), (8, {}), (9, {}), (10, {}), (11, {k := 0, p := 0}), (12, {}), (13, {k := 0, p := 0}), (14, {}), (15, {})] [0, 1, 4, 5, 6, 9, 8, 7, 154] (T' := [(0, .pointer (some ⟨bl, 0, none⟩)), (1, .pointer (some ⟨bl, 0, none⟩)), (4, .pointer (some ⟨b2, 0, none⟩)), (5, .pointer (some ⟨b14, 0, none⟩)), (6, .int .i64 good), (9, .int .i64 ((lg.base.idx + (lg.evs.length : Int)) + 1)), (8, .slice (some ⟨b914, (i' * 15), none⟩) (lg.sns.length - i') (sc - i')), (7, .slice (winA mo mc j' 2) (lg.mks.length - j') (mc - j')), (154, .bool true)]) (φ := (0 ≤ (0 : Int) ∧ (0 : Int) < (((lg.sns.length - i') : Nat) : Int)) ∧ (b914 = b914 ∧ cellsAre cs915 ((i' * 15) + 1) [.int .u64 y'.st.now, .int .i8 y'.st.cur, .int .u8 y'.st.s0, .int .u8 y'.st.s1, .int .u8 y'.st.s2, .int .u8 y'.st.s3, .int .u64 y'.st.r0, .int .u64 y'.st.r1, .int .u64 y'.st.r2, .int .u64 y'.st.r3, .int .u64 y'.st.word]) ∧ (b14 = b14 ∧ Nat.ble (0 + 11) 15 = true) ∧ EqRun Tryf.prog 58 (.agg #[.int .u64 y'.st.now, .int .i8 y'.st.cur, .int .u8 y'.st.s0, .int .u8 y'.st.s1, .int .u8 y'.st.s2, .int .u8 y'.st.s3, .int .u64 y'.st.r0, .int .u64 y'.st.r1, .int .u64 y'.st.r2, .int .u64 y'.st.r3, .int .u64 y'.st.word]) (.agg #[.int .u64 ((runF (seg lg.evs q (((lg.base.idx + (lg.evs.length : Int)) + 1) - pos').toNat) (m', o')).1.now), .int .i8 ((runF (seg lg.evs q (((lg.base.idx + (lg.evs.length : Int)) + 1) - pos').toNat) (m', o')).1.cur), .int .u8 ((runF (seg lg.evs q (((lg.base.idx + (lg.evs.length : Int)) + 1) - pos').toNat) (m', o')).1.s0), .int .u8 ((runF (seg lg.evs q (((lg.base.idx + (lg.evs.length : Int)) + 1) - pos').toNat) (m', o')).1.s1), .int .u8 ((runF (seg lg.evs q (((lg.base.idx + (lg.evs.length : Int)) + 1) - pos').toNat) (m', o')).1.s2), .int .u8 ((runF (seg lg.evs q (((lg.base.idx + (lg.evs.length : Int)) + 1) - pos').toNat) (m', o')).1.s3), .int .u64 ((runF (seg lg.evs q (((lg.base.idx + (lg.evs.length : Int)) + 1) - pos').toNat) (m', o')).1.r0), .int .u64 ((runF (seg lg.evs q (((lg.base.idx + (lg.evs.length : Int)) + 1) - pos').toNat) (m', o')).1.r1), .int .u64 ((runF (seg lg.evs q (((lg.base.idx + (lg.evs.length : Int)) + 1) - pos').toNat) (m', o')).1.r2), .int .u64 ((runF (seg lg.evs q (((lg.base.idx + (lg.evs.length : Int)) + 1) - pos').toNat) (m', o')).1.r3), .int .u64 ((runF (seg lg.evs q (((lg.base.idx + (lg.evs.length : Int)) + 1) - pos').toNat) (m', o')).1.word)]) false ∧ True) (fuel := 0) h931 (by kernel_rfl) rfl (by kernel_rfl) (by kernel_rfl) ⟨trivial, trivial, trivial, rfl, trivial, rfl, trivial, trivial, trivial, trivial, trivial, rfl, trivial, rfl, trivial, trivial, trivial⟩ ⟨⟨by omega, by omega⟩, ⟨rfl, (pt_st hc918)⟩, ⟨rfl, rfl⟩, (by have hq := run46 y'.st (runF (seg lg.evs q (((lg.base.idx + (lg.evs.length : Int)) + 1) - pos').toNat) (m', o')).1; rw [show machEq y'.st (runF (seg lg.evs q (((lg.base.idx + (lg.evs.length : Int)) + 1) - pos').toNat) (m', o')).1 = false by simpa using hb929] at hq; exact hq), trivial⟩ fun a933 h934 => ?_
                    clear h931
                    refine wpAnyK_done (by kernel_rfl) ?_ _
                    refine hK928 _ _ ?_
                    clear hK928
                    refine c_true h934 rfl ?_
                    refine wp_seq_k fun K935 hK935 => ?_
                    refine nd_start (l := [0, 1, 2, 3, 4, 5, 6, 7, 8, 9]) rfl ?_
                    refine nd_batch tabOk tabZ_ok [(0, {}), (1, {}), (2, {}), (3, {}), (4, {}), (5, {}), (6, {k := 0}), (7, {}), (8, {})] [0, 1, 4, 5, 6, 9, 8, 7, 163] (T' := [(0, .pointer (some ⟨bl, 0, none⟩)), (1, .pointer (some ⟨bl, 0, none⟩)), (4, .pointer (some ⟨b2, 0, none⟩)), (5, .pointer (some ⟨b14, 0, none⟩)), (6, .int .i64 good), (9, .int .i64 ((lg.base.idx + (lg.evs.length : Int)) + 1)), (8, .slice (some ⟨b914, (i' * 15), none⟩) (lg.sns.length - i') (sc - i')), (7, .slice (winA mo mc j' 2) (lg.mks.length - j') (mc - j')), (163, .agg #[.int .i64 ((lg.base.idx + (lg.evs.length : Int)) + 1), .int .i64 good, .int .i64 (((lg.base.idx + (lg.evs.length : Int)) + 1) - lg.base.idx)])]) (φ := (bl = bl ∧ Nat.ble (0 + 1) 18 = true) ∧ inR .i64 (((lg.base.idx + (lg.evs.length : Int)) + 1) - lg.base.idx) ∧ True) (rest := [9]) h934 (by kernel_rfl) rfl ⟨⟨rfl, rfl⟩, ⟨by omega, by omega⟩, trivial⟩ fun a936 h937 => ?_
                    clear h934
                    refine nd_op ?_
                    refine op_store tabOk {k := 1} (L' := [(bl, ⟨logC lg.base (.slice eo lg.evs.length ec) (.slice mo lg.mks.length mc) (.slice (some ⟨b914, 0, none⟩) lg.sns.length sc), 89, true⟩), (b2, ⟨[.int .i64 ((lg.base.idx + (lg.evs.length : Int)) + 1), .int .i64 good, .int .i64 (((lg.base.idx + (lg.evs.length : Int)) + 1) - lg.base.idx)], 114, false⟩), (b14, ⟨curC ((runF (seg lg.evs q (((lg.base.idx + (lg.evs.length : Int)) + 1) - pos').toNat) (m', o')).1) ((runF (seg lg.evs q (((lg.base.idx + (lg.evs.length : Int)) + 1) - pos').toNat) (m', o')).2) ((lg.base.idx + (lg.evs.length : Int)) + 1), 105, false⟩), (b914, ⟨cs915, 84, true⟩)]) (φ := b2 = b2 ∧ Nat.ble (0 + 3) 3 = true) h937 rfl rfl rfl (by kernel_rfl) ⟨rfl, rfl⟩ fun w938 h939 => ?_
                    clear h937
                    refine nd_done ?_
                    refine hK935 _ _ ?_
                    clear hK935
                    refine wp_ret ?_
                    have hres := hv.symm.trans (vloop_snap hnx hfin hs2 hvm hvs)
                    try simp only [Exit.then, Exit.inBlock]
                    try rw [if_pos trivial]
                    exact s_ret tabOk tabZ_ok h939 [(.cell 4 114, {k := 1})] (vs := [.agg #[.int .i64 ((lg.base.idx + (lg.evs.length : Int)) + 1), .int .i64 good, .int .i64 (((lg.base.idx + (lg.evs.length : Int)) + 1) - lg.base.idx)]]) (φ := (b2 = b2 ∧ Nat.ble (0 + 3) 3 = true) ∧ True) rfl (by kernel_rfl) ⟨⟨rfl, rfl⟩, trivial⟩ ⟨by rw [hres]; rfl, h939.frame⟩
                  ·
                    have hme : machEq y'.st (runF (seg lg.evs q (((lg.base.idx + (lg.evs.length : Int)) + 1) - pos').toNat) (m', o')).1 = true := by simpa using hb929
                    refine dr_start (KB := [bl, b2, b14, b914]) (Bi := [[0, 1, 2, 3], [0, 1, 2, 3], [0, 1, 2, 3], [0, 1, 2, 3], [0, 1, 2, 3], [0, 1, 2, 3], [0, 1, 2, 3], [0, 1, 2, 3], [0, 1, 2, 3], [0, 1, 2, 3], [0, 1, 2, 3], [0, 1, 2, 3], [0, 1, 2, 3], [0, 1, 2, 3], [0, 1, 2, 3], [0, 1, 2, 3]]) mixed h925 fun w940 h941 => ?_
                    clear h925
                    refine dr_batch tabOk tabZ_ok (by repeat (first | exact PF.body | with_reducible apply PF.inB | with_reducible apply PF.next)) [(0, {}), (1, {}), (2, {}), (3, {k := 3, m := 1, vs := [.int .u64 y'.st.now, .int .i8 y'.st.cur, .int .u8 y'.st.s0, .int .u8 y'.st.s1, .int .u8 y'.st.s2, .int .u8 y'.st.s3, .int .u64 y'.st.r0, .int .u64 y'.st.r1, .int .u64 y'.st.r2, .int .u64 y'.st.r3, .int .u64 y'.st.word], p := 3}), (4, {}), (5, {k := 2, p := 2}), (6, {f := 1}), (7, {}), (8, {}), (9, {}), (10, {}), (11, {k := 3, m := 1, vs := [.bool y'.out.refused, .int .i8 y'.out.running, .int .u64 y'.out.value], p := 3}), (12, {}), (13, {k := 2, p := 2}), (14, {vs := [.bool (otEq y'.out (runF (seg lg.evs q (((lg.base.idx + (lg.evs.length : Int)) + 1) - pos').toNat) (m', o')).2)]}), (15, {})] [0, 1, 4, 5, 6, 9, 8, 7, 154] (T' := [(0, .pointer (some ⟨bl, 0, none⟩)), (1, .pointer (some ⟨bl, 0, none⟩)), (4, .pointer (some ⟨b2, 0, none⟩)), (5, .pointer (some ⟨b14, 0, none⟩)), (6, .int .i64 good), (9, .int .i64 ((lg.base.idx + (lg.evs.length : Int)) + 1)), (8, .slice (some ⟨b914, (i' * 15), none⟩) (lg.sns.length - i') (sc - i')), (7, .slice (winA mo mc j' 2) (lg.mks.length - j') (mc - j')), (154, .bool (Bool.xor true (otEq y'.out (runF (seg lg.evs q (((lg.base.idx + (lg.evs.length : Int)) + 1) - pos').toNat) (m', o')).2)))]) (φ := (0 ≤ (0 : Int) ∧ (0 : Int) < (((lg.sns.length - i') : Nat) : Int)) ∧ (b914 = b914 ∧ cellsAre cs915 ((i' * 15) + 1) [.int .u64 y'.st.now, .int .i8 y'.st.cur, .int .u8 y'.st.s0, .int .u8 y'.st.s1, .int .u8 y'.st.s2, .int .u8 y'.st.s3, .int .u64 y'.st.r0, .int .u64 y'.st.r1, .int .u64 y'.st.r2, .int .u64 y'.st.r3, .int .u64 y'.st.word]) ∧ (b14 = b14 ∧ Nat.ble (0 + 11) 15 = true) ∧ EqRun Tryf.prog 58 (.agg #[.int .u64 y'.st.now, .int .i8 y'.st.cur, .int .u8 y'.st.s0, .int .u8 y'.st.s1, .int .u8 y'.st.s2, .int .u8 y'.st.s3, .int .u64 y'.st.r0, .int .u64 y'.st.r1, .int .u64 y'.st.r2, .int .u64 y'.st.r3, .int .u64 y'.st.word]) (.agg #[.int .u64 ((runF (seg lg.evs q (((lg.base.idx + (lg.evs.length : Int)) + 1) - pos').toNat) (m', o')).1.now), .int .i8 ((runF (seg lg.evs q (((lg.base.idx + (lg.evs.length : Int)) + 1) - pos').toNat) (m', o')).1.cur), .int .u8 ((runF (seg lg.evs q (((lg.base.idx + (lg.evs.length : Int)) + 1) - pos').toNat) (m', o')).1.s0), .int .u8 ((runF (seg lg.evs q (((lg.base.idx + (lg.evs.length : Int)) + 1) - pos').toNat) (m', o')).1.s1), .int .u8 ((runF (seg lg.evs q (((lg.base.idx + (lg.evs.length : Int)) + 1) - pos').toNat) (m', o')).1.s2), .int .u8 ((runF (seg lg.evs q (((lg.base.idx + (lg.evs.length : Int)) + 1) - pos').toNat) (m', o')).1.s3), .int .u64 ((runF (seg lg.evs q (((lg.base.idx + (lg.evs.length : Int)) + 1) - pos').toNat) (m', o')).1.r0), .int .u64 ((runF (seg lg.evs q (((lg.base.idx + (lg.evs.length : Int)) + 1) - pos').toNat) (m', o')).1.r1), .int .u64 ((runF (seg lg.evs q (((lg.base.idx + (lg.evs.length : Int)) + 1) - pos').toNat) (m', o')).1.r2), .int .u64 ((runF (seg lg.evs q (((lg.base.idx + (lg.evs.length : Int)) + 1) - pos').toNat) (m', o')).1.r3), .int .u64 ((runF (seg lg.evs q (((lg.base.idx + (lg.evs.length : Int)) + 1) - pos').toNat) (m', o')).1.word)]) true ∧ (0 ≤ (0 : Int) ∧ (0 : Int) < (((lg.sns.length - i') : Nat) : Int)) ∧ (b914 = b914 ∧ cellsAre cs915 ((i' * 15) + 12) [.bool y'.out.refused, .int .i8 y'.out.running, .int .u64 y'.out.value]) ∧ (b14 = b14 ∧ Nat.ble (11 + 3) 15 = true) ∧ EqRun Tryf.prog 44 (.agg #[.bool y'.out.refused, .int .i8 y'.out.running, .int .u64 y'.out.value]) (.agg #[.bool ((runF (seg lg.evs q (((lg.base.idx + (lg.evs.length : Int)) + 1) - pos').toNat) (m', o')).2.refused), .int .i8 ((runF (seg lg.evs q (((lg.base.idx + (lg.evs.length : Int)) + 1) - pos').toNat) (m', o')).2.running), .int .u64 ((runF (seg lg.evs q (((lg.base.idx + (lg.evs.length : Int)) + 1) - pos').toNat) (m', o')).2.value)]) (otEq y'.out (runF (seg lg.evs q (((lg.base.idx + (lg.evs.length : Int)) + 1) - pos').toNat) (m', o')).2) ∧ True) (fuel := 0) h941 (by kernel_rfl) rfl (by kernel_rfl) (by kernel_rfl) ⟨trivial, trivial, trivial, rfl, trivial, rfl, trivial, trivial, trivial, trivial, trivial, rfl, trivial, rfl, trivial, trivial, trivial⟩ ⟨⟨by omega, by omega⟩, ⟨rfl, (pt_st hc918)⟩, ⟨rfl, rfl⟩, (by have hq := run46 y'.st (runF (seg lg.evs q (((lg.base.idx + (lg.evs.length : Int)) + 1) - pos').toNat) (m', o')).1; rw [show machEq y'.st (runF (seg lg.evs q (((lg.base.idx + (lg.evs.length : Int)) + 1) - pos').toNat) (m', o')).1 = true by simpa using hb929] at hq; exact hq), ⟨by omega, by omega⟩, ⟨rfl, (pt_out hc918)⟩, ⟨rfl, rfl⟩, run39 y'.out (runF (seg lg.evs q (((lg.base.idx + (lg.evs.length : Int)) + 1) - pos').toNat) (m', o')).2, trivial⟩ fun a943 h944 => ?_
                    clear h941
                    refine wpAnyK_done (by kernel_rfl) ?_ _
                    refine hK928 _ _ ?_
                    clear hK928
                    refine c_split h944 (b := (Bool.xor true (otEq y'.out (runF (seg lg.evs q (((lg.base.idx + (lg.evs.length : Int)) + 1) - pos').toNat) (m', o')).2))) rfl (fun hc945 => ?_) (fun hc945 => ?_)
                    ·
                      have hoe : otEq y'.out (runF (seg lg.evs q (((lg.base.idx + (lg.evs.length : Int)) + 1) - pos').toNat) (m', o')).2 = false := by simpa using hc945
                      have hvs := hi910.trans (vs_bad2 hy' hxn hoe)
                      refine wp_seq_k fun K946 hK946 => ?_
                      refine nd_start (l := [0, 1, 2, 3, 4, 5, 6, 7, 8, 9]) rfl ?_
                      refine nd_batch tabOk tabZ_ok [(0, {}), (1, {}), (2, {}), (3, {}), (4, {}), (5, {}), (6, {k := 0}), (7, {}), (8, {})] [0, 1, 4, 5, 6, 9, 8, 7, 163] (T' := [(0, .pointer (some ⟨bl, 0, none⟩)), (1, .pointer (some ⟨bl, 0, none⟩)), (4, .pointer (some ⟨b2, 0, none⟩)), (5, .pointer (some ⟨b14, 0, none⟩)), (6, .int .i64 good), (9, .int .i64 ((lg.base.idx + (lg.evs.length : Int)) + 1)), (8, .slice (some ⟨b914, (i' * 15), none⟩) (lg.sns.length - i') (sc - i')), (7, .slice (winA mo mc j' 2) (lg.mks.length - j') (mc - j')), (163, .agg #[.int .i64 ((lg.base.idx + (lg.evs.length : Int)) + 1), .int .i64 good, .int .i64 (((lg.base.idx + (lg.evs.length : Int)) + 1) - lg.base.idx)])]) (φ := (bl = bl ∧ Nat.ble (0 + 1) 18 = true) ∧ inR .i64 (((lg.base.idx + (lg.evs.length : Int)) + 1) - lg.base.idx) ∧ True) (rest := [9]) h944 (by kernel_rfl) rfl ⟨⟨rfl, rfl⟩, ⟨by omega, by omega⟩, trivial⟩ fun a947 h948 => ?_
                      clear h944
                      refine nd_op ?_
                      refine op_store tabOk {k := 1} (L' := [(bl, ⟨logC lg.base (.slice eo lg.evs.length ec) (.slice mo lg.mks.length mc) (.slice (some ⟨b914, 0, none⟩) lg.sns.length sc), 89, true⟩), (b2, ⟨[.int .i64 ((lg.base.idx + (lg.evs.length : Int)) + 1), .int .i64 good, .int .i64 (((lg.base.idx + (lg.evs.length : Int)) + 1) - lg.base.idx)], 114, false⟩), (b14, ⟨curC ((runF (seg lg.evs q (((lg.base.idx + (lg.evs.length : Int)) + 1) - pos').toNat) (m', o')).1) ((runF (seg lg.evs q (((lg.base.idx + (lg.evs.length : Int)) + 1) - pos').toNat) (m', o')).2) ((lg.base.idx + (lg.evs.length : Int)) + 1), 105, false⟩), (b914, ⟨cs915, 84, true⟩)]) (φ := b2 = b2 ∧ Nat.ble (0 + 3) 3 = true) h948 rfl rfl rfl (by kernel_rfl) ⟨rfl, rfl⟩ fun w949 h950 => ?_
                      clear h948
                      refine nd_done ?_
                      refine hK946 _ _ ?_
                      clear hK946
                      refine wp_ret ?_
                      have hres := hv.symm.trans (vloop_snap hnx hfin hs2 hvm hvs)
                      try simp only [Exit.then, Exit.inBlock]
                      try rw [if_pos trivial]
                      exact s_ret tabOk tabZ_ok h950 [(.cell 4 114, {k := 1})] (vs := [.agg #[.int .i64 ((lg.base.idx + (lg.evs.length : Int)) + 1), .int .i64 good, .int .i64 (((lg.base.idx + (lg.evs.length : Int)) + 1) - lg.base.idx)]]) (φ := (b2 = b2 ∧ Nat.ble (0 + 3) 3 = true) ∧ True) rfl (by kernel_rfl) ⟨⟨rfl, rfl⟩, trivial⟩ ⟨by rw [hres]; rfl, h950.frame⟩
                    ·
                      have hoe : otEq y'.out (runF (seg lg.evs q (((lg.base.idx + (lg.evs.length : Int)) + 1) - pos').toNat) (m', o')).2 = true := by simpa using hc945
                      have hsame := hi910.trans (vs_same hy' hxn hme hoe)
                      refine wp_skip ?_
                      refine hK927 _ _ ?_
                      clear hK927
                      refine nd_start (l := [0, 1, 2]) rfl ?_
                      refine nd_batch tabOk tabZ_ok [(0, {}), (1, {}), (2, {})] [0, 1, 4, 5, 6, 9, 7, 8] (T' := [(0, .pointer (some ⟨bl, 0, none⟩)), (1, .pointer (some ⟨bl, 0, none⟩)), (4, .pointer (some ⟨b2, 0, none⟩)), (5, .pointer (some ⟨b14, 0, none⟩)), (6, .int .i64 good), (9, .int .i64 ((lg.base.idx + (lg.evs.length : Int)) + 1)), (7, .slice (winA mo mc j' 2) (lg.mks.length - j') (mc - j')), (8, .slice (sliceBase (some ⟨b914, (i' * 15), none⟩) (sc - i') 1 15) ((lg.sns.length - i') - 1) ((sc - i') - 1))]) (φ := (0 ≤ (1 : Int) ∧ (1 : Int) ≤ (((lg.sns.length - i') : Nat) : Int)) ∧ True) (rest := []) h944 (by kernel_rfl) rfl ⟨⟨by omega, by omega⟩, trivial⟩ fun a951 h952 => ?_
                      clear h944
                      refine nd_done ?_
                      have h953 := h952.memMono (L' := [(bl, ⟨logC lg.base (.slice eo lg.evs.length ec) (.slice mo lg.mks.length mc) (.slice (some ⟨b914, 0, none⟩) lg.sns.length sc), 89, true⟩), (b2, ⟨[.int .i64 0, .int .i64 0, .int .i64 0], 114, false⟩), (b14, ⟨curC ((runF (seg lg.evs q (((lg.base.idx + (lg.evs.length : Int)) + 1) - pos').toNat) (m', o')).1) ((runF (seg lg.evs q (((lg.base.idx + (lg.evs.length : Int)) + 1) - pos').toNat) (m', o')).2) ((lg.base.idx + (lg.evs.length : Int)) + 1), 105, false⟩)]) (List.Sublist.cons_cons _ (List.Sublist.cons_cons _ (List.Sublist.cons_cons _ (List.Sublist.cons _ List.Sublist.slnil))))
                      clear h952
                      have e954 : sliceBase (some ⟨b914, (i' * 15), none⟩) (sc - i') 1 15 = winA (some ⟨b914, 0, none⟩) sc (i' + 1) 15 := by rw [← winA_some b914 15 hlt923]; exact winA_succ 15 (.inr ⟨b914, rfl⟩) hlt923
                      have e955 : lg.sns.length - i' - 1 = lg.sns.length - (i' + 1) := by omega
                      have e956 : sc - i' - 1 = sc - (i' + 1) := by omega
                      rw [e954, e955, e956] at h953
                      exact ⟨(gg - 1), by omega, (i' + 1), by omega, by omega, by omega, hsame, (h953.slotsMono (restr_spec (keep := [0, 1, 4, 5, 6, 9, 8, 7]) rfl))⟩
                ·
                  have hc926f : y'.idx ≠ ((lg.base.idx + (lg.evs.length : Int)) + 1) := by simpa using hc926
                  refine wp_exit ?_
                  rw [← winA_some b914 15 hlt923] at h925
                  have hstop : ∀ z, lg.sns[i']? = some z → z.idx ≠ ((lg.base.idx + (lg.evs.length : Int)) + 1) := (by intro z hz; rw [hy'] at hz; cases hz; exact hc926f)
                  exact hm894 i' _ _ hi907 hi908 (hi910.trans (vs_stop hstop)) hstop ((h925.memMono (List.Sublist.cons_cons _ (List.Sublist.cons_cons _ (List.Sublist.cons_cons _ (List.Sublist.cons _ List.Sublist.slnil))))).slotsMono (restr_spec (keep := [0, 1, 4, 5, 6, 9, 8, 7]) rfl))
              ·
                have hb913f : ¬ (((lg.sns.length - i') : Nat) : Int) > 0 := by simpa using hb913
                refine nd_start (l := [0, 1, 2, 3, 4, 5, 6, 7, 8, 9, 10]) rfl ?_
                refine nd_batch tabOk tabZ_ok [(0, {}), (1, {}), (2, {f := 1}), (3, {}), (4, {}), (5, {}), (6, {}), (7, {}), (8, {}), (9, {}), (10, {})] [0, 1, 4, 5, 6, 9, 8, 7, 136] (T' := [(0, .pointer (some ⟨bl, 0, none⟩)), (1, .pointer (some ⟨bl, 0, none⟩)), (4, .pointer (some ⟨b2, 0, none⟩)), (5, .pointer (some ⟨b14, 0, none⟩)), (6, .int .i64 good), (9, .int .i64 ((lg.base.idx + (lg.evs.length : Int)) + 1)), (8, .slice (winA so sc i' 15) (lg.sns.length - i') (sc - i')), (7, .slice (winA mo mc j' 2) (lg.mks.length - j') (mc - j')), (136, .bool false)]) (φ := (decide ((((lg.sns.length - i') : Nat) : Int) > 0)) = false ∧ True) (rest := []) h906 (by kernel_rfl) rfl ⟨hb913, trivial⟩ fun a957 h958 => ?_
                clear h906
                refine nd_done ?_
                refine hK912 _ _ ?_
                clear hK912
                refine c_false h958 rfl ?_
                refine wp_exit ?_
                have hstop : ∀ z, lg.sns[i']? = some z → z.idx ≠ ((lg.base.idx + (lg.evs.length : Int)) + 1) := (by intro z hz; have := (List.getElem?_eq_some_iff.1 hz).1; omega)
                exact hm894 i' _ _ hi907 hi908 (hi910.trans (vs_stop hstop)) hstop (h958.slotsMono (restr_spec (keep := [0, 1, 4, 5, 6, 9, 8, 7]) rfl))
            clear hK884
            refine wp_loop_ghost (fun gg ga gw => ∃ (j' : Nat), (j' ≤ lg.mks.length) ∧ (j ≤ j') ∧ (gg = lg.mks.length - j') ∧ (vm ((lg.base.idx + (lg.evs.length : Int)) + 1) (dig (runF (seg lg.evs q (((lg.base.idx + (lg.evs.length : Int)) + 1) - pos').toNat) (m', o')).1) (lg.mks.drop j) = vm ((lg.base.idx + (lg.evs.length : Int)) + 1) (dig (runF (seg lg.evs q (((lg.base.idx + (lg.evs.length : Int)) + 1) - pos').toNat) (m', o')).1) (lg.mks.drop j')) ∧ St ⟨165, [], w, Rws [rl evC 31 3 lg.evs eo ec eF, rl mkC 93 2 lg.mks mo mc mF, rl ptC 84 15 lg.sns so sc sF], Ff [rl evC 31 3 lg.evs eo ec eF, rl mkC 93 2 lg.mks mo mc mF, rl ptC 84 15 lg.sns so sc sF]⟩ [(0, .pointer (some ⟨bl, 0, none⟩)), (1, .pointer (some ⟨bl, 0, none⟩)), (4, .pointer (some ⟨b2, 0, none⟩)), (5, .pointer (some ⟨b14, 0, none⟩)), (6, .int .i64 good), (9, .int .i64 ((lg.base.idx + (lg.evs.length : Int)) + 1)), (7, .slice (winA mo mc j' 2) (lg.mks.length - j') (mc - j')), (8, .slice (winA so sc i 15) (lg.sns.length - i) (sc - i))] [(bl, ⟨logC lg.base (.slice eo lg.evs.length ec) (.slice mo lg.mks.length mc) (.slice so lg.sns.length sc), 89, true⟩), (b2, ⟨[.int .i64 0, .int .i64 0, .int .i64 0], 114, false⟩), (b14, ⟨curC ((runF (seg lg.evs q (((lg.base.idx + (lg.evs.length : Int)) + 1) - pos').toNat) (m', o')).1) ((runF (seg lg.evs q (((lg.base.idx + (lg.evs.length : Int)) + 1) - pos').toNat) (m', o')).2) ((lg.base.idx + (lg.evs.length : Int)) + 1), 105, false⟩)] ga gw) (lg.mks.length - j) ⟨j, by omega, Nat.le_refl _, rfl, rfl, (h882.slotsMono (restr_spec (keep := [0, 1, 4, 5, 6, 9, 7, 8]) rfl))⟩ ?_
            clear h882
            rintro gg a959 w960 ⟨j', hi962, hi963, hi964, hi965, h961⟩
            refine wp_seq_k fun K966 hK966 => ?_
            refine wp_seq_k fun K967 hK967 => ?_
            rcases Bool.eq_false_or_eq_true (decide ((((lg.mks.length - j') : Nat) : Int) > 0)) with hb968 | hb968
            ·
              have hb968f : (((lg.mks.length - j') : Nat) : Int) > 0 := by simpa using hb968
              obtain ⟨x', hx'⟩ := Sx.get_some (xs := lg.mks) (i := j') (by omega)
              obtain ⟨b969, cs970, ho971, hb972, hc973, hF974, hq976, hl977⟩ := rl_open (h961.inv.get (j := 1) rfl) mkC_len hx'
              subst ho971 hF974
              have h975 := h961.open_ hb972 (h961.notinL (by simp [Ff]) (kcons (fun _ => (fun hq => hsep (by have hq2 : bl = b969 := hq; rw [hq2]; simp [Hd.F]))) (kcons (by intro hq; cases hq) (kcons (by intro hq; cases hq) knil))))
              clear h961
              have hlt978 : j' < mc := by have h1 : lg.mks.length ≤ mc := rl_cap (h975.inv.get (j := 1) rfl); have h2 := (List.getElem?_eq_some_iff.1 hx').1; omega
              rw [winA_some b969 2 hlt978] at h975
              refine nd_start (l := [0, 1, 2, 3, 4, 5, 6, 7, 8, 9, 10]) rfl ?_
              refine nd_batch tabOk tabZ_ok [(0, {}), (1, {}), (2, {f := 2}), (3, {}), (4, {}), (5, {}), (6, {}), (7, {k := 3, m := 1, vs := [.int .i64 x'.idx]}), (8, {}), (9, {}), (10, {})] [0, 1, 4, 5, 6, 9, 7, 8, 107] (T' := [(0, .pointer (some ⟨bl, 0, none⟩)), (1, .pointer (some ⟨bl, 0, none⟩)), (4, .pointer (some ⟨b2, 0, none⟩)), (5, .pointer (some ⟨b14, 0, none⟩)), (6, .int .i64 good), (9, .int .i64 ((lg.base.idx + (lg.evs.length : Int)) + 1)), (7, .slice (some ⟨b969, (j' * 2), none⟩) (lg.mks.length - j') (mc - j')), (8, .slice (winA so sc i 15) (lg.sns.length - i) (sc - i)), (107, .bool (x'.idx == ((lg.base.idx + (lg.evs.length : Int)) + 1)))]) (φ := (decide ((((lg.mks.length - j') : Nat) : Int) > 0)) = true ∧ (0 ≤ (0 : Int) ∧ (0 : Int) < (((lg.mks.length - j') : Nat) : Int)) ∧ (b969 = b969 ∧ cellsAre cs970 (j' * 2) [.int .i64 x'.idx]) ∧ True) (rest := []) h975 (by kernel_rfl) rfl ⟨hb968, ⟨by omega, by omega⟩, ⟨rfl, ⟨(hc973).1, trivial⟩⟩, trivial⟩ fun a979 h980 => ?_
              clear h975
              refine nd_done ?_
              refine hK967 _ _ ?_
              clear hK967
              refine c_split h980 (b := (x'.idx == ((lg.base.idx + (lg.evs.length : Int)) + 1))) rfl (fun hc981 => ?_) (fun hc981 => ?_)
              ·
                have hc981f : x'.idx = ((lg.base.idx + (lg.evs.length : Int)) + 1) := by simpa using hc981
                have hxn : x'.idx = ((lg.base.idx + (lg.evs.length : Int)) + 1) := hc981f
                refine wp_skip ?_
                refine hK966 _ _ ?_
                clear hK966
                refine wp_seq_k fun K982 hK982 => ?_
                refine wp_block ?_
                refine wp_seq_k fun K983 hK983 => ?_
                refine dr_start (KB := [bl, b2, b14, b969]) (Bi := [[0, 1, 2, 3], [0, 1, 2, 3], [0, 1, 2, 3], [0, 1, 2, 3], [0, 1, 2, 3], [3], [0, 1, 2, 3]]) mixed h980 fun w984 h985 => ?_
                clear h980
                refine dr_batch tabOk tabZ_ok (by repeat (first | exact PF.body | with_reducible apply PF.inB | with_reducible apply PF.next)) [(0, {}), (1, {}), (2, {}), (3, {k := 3, m := 1, vs := [.int .u64 x'.sum], p := 3}), (4, {})] [0, 1, 4, 5, 6, 9, 7, 8, 113, 114] (T' := [(0, .pointer (some ⟨bl, 0, none⟩)), (1, .pointer (some ⟨bl, 0, none⟩)), (4, .pointer (some ⟨b2, 0, none⟩)), (5, .pointer (some ⟨b14, 0, none⟩)), (6, .int .i64 good), (9, .int .i64 ((lg.base.idx + (lg.evs.length : Int)) + 1)), (7, .slice (some ⟨b969, (j' * 2), none⟩) (lg.mks.length - j') (mc - j')), (8, .slice (winA so sc i 15) (lg.sns.length - i) (sc - i)), (113, .int .u64 x'.sum), (114, .pointer (some ⟨b14, 0, none⟩))]) (φ := (0 ≤ (0 : Int) ∧ (0 : Int) < (((lg.mks.length - j') : Nat) : Int)) ∧ (b969 = b969 ∧ cellsAre cs970 ((j' * 2) + 1) [.int .u64 x'.sum]) ∧ True) (fuel := 2) h985 (by kernel_rfl) rfl (by kernel_rfl) (by kernel_rfl) ⟨trivial, trivial, trivial, rfl, trivial, trivial⟩ ⟨⟨by omega, by omega⟩, ⟨rfl, ⟨(hc973).2.1, trivial⟩⟩, trivial⟩ fun a987 h988 => ?_
                clear h985
                refine wpAnyK_one (i := 5) (fuel := 1) (by kernel_rfl) ?_
                refine op_call h988 rfl rfl rfl (callOk Tryf.func51 (by decide) rfl) (args := [.pointer (some ⟨b14, 0, none⟩)]) rfl (digest_ok [] (outC (runF (seg lg.evs q (((lg.base.idx + (lg.evs.length : Int)) + 1) - pos').toNat) (m', o')).2 ++ [.int .i64 ((lg.base.idx + (lg.evs.length : Int)) + 1)]) (runF (seg lg.evs q (((lg.base.idx + (lg.evs.length : Int)) + 1) - pos').toNat) (m', o')).1 hmok2 b14 105 false _ (h988.kn (k := 2) rfl)) ?_
                rintro _ w989 ⟨rfl, hf991⟩
                refine ⟨_, rfl, ?_⟩
                have h990 := (h988.grow hf991).put (d := some 115) (v := .int .u64 (dig (runF (seg lg.evs q (((lg.base.idx + (lg.evs.length : Int)) + 1) - pos').toNat) (m', o')).1)) (T' := [(115, .int .u64 (dig (runF (seg lg.evs q (((lg.base.idx + (lg.evs.length : Int)) + 1) - pos').toNat) (m', o')).1)), (0, .pointer (some ⟨bl, 0, none⟩)), (1, .pointer (some ⟨bl, 0, none⟩)), (4, .pointer (some ⟨b2, 0, none⟩)), (5, .pointer (some ⟨b14, 0, none⟩)), (6, .int .i64 good), (9, .int .i64 ((lg.base.idx + (lg.evs.length : Int)) + 1)), (7, .slice (some ⟨b969, (j' * 2), none⟩) (lg.mks.length - j') (mc - j')), (8, .slice (winA so sc i 15) (lg.sns.length - i) (sc - i)), (113, .int .u64 x'.sum), (114, .pointer (some ⟨b14, 0, none⟩))]) rfl
                refine ⟨(h988.keepFr hf991 (kcons (by simp) knil)), ?_⟩
                clear h988
                refine dr_batch tabOk tabZ_ok (by repeat (first | exact PF.body | with_reducible apply PF.inB | with_reducible apply PF.next)) [(6, {})] [0, 1, 4, 5, 6, 9, 7, 8, 116] (T' := [(0, .pointer (some ⟨bl, 0, none⟩)), (1, .pointer (some ⟨bl, 0, none⟩)), (4, .pointer (some ⟨b2, 0, none⟩)), (5, .pointer (some ⟨b14, 0, none⟩)), (6, .int .i64 good), (9, .int .i64 ((lg.base.idx + (lg.evs.length : Int)) + 1)), (7, .slice (some ⟨b969, (j' * 2), none⟩) (lg.mks.length - j') (mc - j')), (8, .slice (winA so sc i 15) (lg.sns.length - i) (sc - i)), (116, .bool (x'.sum != (dig (runF (seg lg.evs q (((lg.base.idx + (lg.evs.length : Int)) + 1) - pos').toNat) (m', o')).1)))]) (φ := True) (fuel := 0) h990 (by kernel_rfl) rfl (by kernel_rfl) (by kernel_rfl) ⟨trivial, trivial⟩ trivial fun a992 h993 => ?_
                clear h990
                refine wpAnyK_done (by kernel_rfl) ?_ _
                refine hK983 _ _ ?_
                clear hK983
                refine c_split h993 (b := (x'.sum != (dig (runF (seg lg.evs q (((lg.base.idx + (lg.evs.length : Int)) + 1) - pos').toNat) (m', o')).1))) rfl (fun hc994 => ?_) (fun hc994 => ?_)
                ·
                  have hc994f : x'.sum ≠ (dig (runF (seg lg.evs q (((lg.base.idx + (lg.evs.length : Int)) + 1) - pos').toNat) (m', o')).1) := by simpa using hc994
                  have hvm := hi965.trans (vm_bad hx' hxn hc994f)
                  refine wp_seq_k fun K995 hK995 => ?_
                  refine nd_start (l := [0, 1, 2, 3, 4, 5, 6, 7, 8, 9]) rfl ?_
                  refine nd_batch tabOk tabZ_ok [(0, {}), (1, {}), (2, {}), (3, {}), (4, {}), (5, {}), (6, {k := 0}), (7, {}), (8, {})] [0, 1, 4, 5, 6, 9, 7, 8, 125] (T' := [(0, .pointer (some ⟨bl, 0, none⟩)), (1, .pointer (some ⟨bl, 0, none⟩)), (4, .pointer (some ⟨b2, 0, none⟩)), (5, .pointer (some ⟨b14, 0, none⟩)), (6, .int .i64 good), (9, .int .i64 ((lg.base.idx + (lg.evs.length : Int)) + 1)), (7, .slice (some ⟨b969, (j' * 2), none⟩) (lg.mks.length - j') (mc - j')), (8, .slice (winA so sc i 15) (lg.sns.length - i) (sc - i)), (125, .agg #[.int .i64 ((lg.base.idx + (lg.evs.length : Int)) + 1), .int .i64 good, .int .i64 (((lg.base.idx + (lg.evs.length : Int)) + 1) - lg.base.idx)])]) (φ := (bl = bl ∧ Nat.ble (0 + 1) 18 = true) ∧ inR .i64 (((lg.base.idx + (lg.evs.length : Int)) + 1) - lg.base.idx) ∧ True) (rest := [9]) h993 (by kernel_rfl) rfl ⟨⟨rfl, rfl⟩, ⟨by omega, by omega⟩, trivial⟩ fun a996 h997 => ?_
                  clear h993
                  refine nd_op ?_
                  refine op_store tabOk {k := 1} (L' := [(bl, ⟨logC lg.base (.slice eo lg.evs.length ec) (.slice (some ⟨b969, 0, none⟩) lg.mks.length mc) (.slice so lg.sns.length sc), 89, true⟩), (b2, ⟨[.int .i64 ((lg.base.idx + (lg.evs.length : Int)) + 1), .int .i64 good, .int .i64 (((lg.base.idx + (lg.evs.length : Int)) + 1) - lg.base.idx)], 114, false⟩), (b14, ⟨curC ((runF (seg lg.evs q (((lg.base.idx + (lg.evs.length : Int)) + 1) - pos').toNat) (m', o')).1) ((runF (seg lg.evs q (((lg.base.idx + (lg.evs.length : Int)) + 1) - pos').toNat) (m', o')).2) ((lg.base.idx + (lg.evs.length : Int)) + 1), 105, false⟩), (b969, ⟨cs970, 93, true⟩)]) (φ := b2 = b2 ∧ Nat.ble (0 + 3) 3 = true) h997 rfl rfl rfl (by kernel_rfl) ⟨rfl, rfl⟩ fun w998 h999 => ?_
                  clear h997
                  refine nd_done ?_
                  refine hK995 _ _ ?_
                  clear hK995
                  refine wp_ret ?_
                  have hres := hv.symm.trans (vloop_mark hnx hfin hs2 hvm)
                  try simp only [Exit.then, Exit.inBlock]
                  try rw [if_pos trivial]
                  exact s_ret tabOk tabZ_ok h999 [(.cell 4 114, {k := 1})] (vs := [.agg #[.int .i64 ((lg.base.idx + (lg.evs.length : Int)) + 1), .int .i64 good, .int .i64 (((lg.base.idx + (lg.evs.length : Int)) + 1) - lg.base.idx)]]) (φ := (b2 = b2 ∧ Nat.ble (0 + 3) 3 = true) ∧ True) rfl (by kernel_rfl) ⟨⟨rfl, rfl⟩, trivial⟩ ⟨by rw [hres]; rfl, h999.frame⟩
                ·
                  have hc994f : x'.sum = (dig (runF (seg lg.evs q (((lg.base.idx + (lg.evs.length : Int)) + 1) - pos').toNat) (m', o')).1) := by simpa using hc994
                  have hsame := hi965.trans (vm_same hx' hxn hc994f)
                  refine wp_skip ?_
                  refine hK982 _ _ ?_
                  clear hK982
                  refine nd_start (l := [0, 1, 2]) rfl ?_
                  refine nd_batch tabOk tabZ_ok [(0, {}), (1, {}), (2, {})] [0, 1, 4, 5, 6, 9, 8, 7] (T' := [(0, .pointer (some ⟨bl, 0, none⟩)), (1, .pointer (some ⟨bl, 0, none⟩)), (4, .pointer (some ⟨b2, 0, none⟩)), (5, .pointer (some ⟨b14, 0, none⟩)), (6, .int .i64 good), (9, .int .i64 ((lg.base.idx + (lg.evs.length : Int)) + 1)), (8, .slice (winA so sc i 15) (lg.sns.length - i) (sc - i)), (7, .slice (sliceBase (some ⟨b969, (j' * 2), none⟩) (mc - j') 1 2) ((lg.mks.length - j') - 1) ((mc - j') - 1))]) (φ := (0 ≤ (1 : Int) ∧ (1 : Int) ≤ (((lg.mks.length - j') : Nat) : Int)) ∧ True) (rest := []) h993 (by kernel_rfl) rfl ⟨⟨by omega, by omega⟩, trivial⟩ fun a1000 h1001 => ?_
                  clear h993
                  refine nd_done ?_
                  have h1002 := h1001.memMono (L' := [(bl, ⟨logC lg.base (.slice eo lg.evs.length ec) (.slice (some ⟨b969, 0, none⟩) lg.mks.length mc) (.slice so lg.sns.length sc), 89, true⟩), (b2, ⟨[.int .i64 0, .int .i64 0, .int .i64 0], 114, false⟩), (b14, ⟨curC ((runF (seg lg.evs q (((lg.base.idx + (lg.evs.length : Int)) + 1) - pos').toNat) (m', o')).1) ((runF (seg lg.evs q (((lg.base.idx + (lg.evs.length : Int)) + 1) - pos').toNat) (m', o')).2) ((lg.base.idx + (lg.evs.length : Int)) + 1), 105, false⟩)]) (List.Sublist.cons_cons _ (List.Sublist.cons_cons _ (List.Sublist.cons_cons _ (List.Sublist.cons _ List.Sublist.slnil))))
                  clear h1001
                  have e1003 : sliceBase (some ⟨b969, (j' * 2), none⟩) (mc - j') 1 2 = winA (some ⟨b969, 0, none⟩) mc (j' + 1) 2 := by rw [← winA_some b969 2 hlt978]; exact winA_succ 2 (.inr ⟨b969, rfl⟩) hlt978
                  have e1004 : lg.mks.length - j' - 1 = lg.mks.length - (j' + 1) := by omega
                  have e1005 : mc - j' - 1 = mc - (j' + 1) := by omega
                  rw [e1003, e1004, e1005] at h1002
                  exact ⟨(gg - 1), by omega, (j' + 1), by omega, by omega, by omega, hsame, (h1002.slotsMono (restr_spec (keep := [0, 1, 4, 5, 6, 9, 7, 8]) rfl))⟩
              ·
                have hc981f : x'.idx ≠ ((lg.base.idx + (lg.evs.length : Int)) + 1) := by simpa using hc981
                refine wp_exit ?_
                rw [← winA_some b969 2 hlt978] at h980
                have hstop : ∀ z, lg.mks[j']? = some z → z.idx ≠ ((lg.base.idx + (lg.evs.length : Int)) + 1) := (by intro z hz; rw [hx'] at hz; cases hz; exact hc981f)
                exact hm885 j' _ _ hi962 hi963 (hi965.trans (vm_stop hstop)) hstop ((h980.memMono (List.Sublist.cons_cons _ (List.Sublist.cons_cons _ (List.Sublist.cons_cons _ (List.Sublist.cons _ List.Sublist.slnil))))).slotsMono (restr_spec (keep := [0, 1, 4, 5, 6, 9, 7, 8]) rfl))
            ·
              have hb968f : ¬ (((lg.mks.length - j') : Nat) : Int) > 0 := by simpa using hb968
              refine nd_start (l := [0, 1, 2, 3, 4, 5, 6, 7, 8, 9, 10]) rfl ?_
              refine nd_batch tabOk tabZ_ok [(0, {}), (1, {}), (2, {f := 1}), (3, {}), (4, {}), (5, {}), (6, {}), (7, {}), (8, {}), (9, {}), (10, {})] [0, 1, 4, 5, 6, 9, 7, 8, 107] (T' := [(0, .pointer (some ⟨bl, 0, none⟩)), (1, .pointer (some ⟨bl, 0, none⟩)), (4, .pointer (some ⟨b2, 0, none⟩)), (5, .pointer (some ⟨b14, 0, none⟩)), (6, .int .i64 good), (9, .int .i64 ((lg.base.idx + (lg.evs.length : Int)) + 1)), (7, .slice (winA mo mc j' 2) (lg.mks.length - j') (mc - j')), (8, .slice (winA so sc i 15) (lg.sns.length - i) (sc - i)), (107, .bool false)]) (φ := (decide ((((lg.mks.length - j') : Nat) : Int) > 0)) = false ∧ True) (rest := []) h961 (by kernel_rfl) rfl ⟨hb968, trivial⟩ fun a1006 h1007 => ?_
              clear h961
              refine nd_done ?_
              refine hK967 _ _ ?_
              clear hK967
              refine c_false h1007 rfl ?_
              refine wp_exit ?_
              have hstop : ∀ z, lg.mks[j']? = some z → z.idx ≠ ((lg.base.idx + (lg.evs.length : Int)) + 1) := (by intro z hz; have := (List.getElem?_eq_some_iff.1 hz).1; omega)
              exact hm885 j' _ _ hi962 hi963 (hi965.trans (vm_stop hstop)) hstop (h1007.slotsMono (restr_spec (keep := [0, 1, 4, 5, 6, 9, 7, 8]) rfl))
    clear hK39
    refine wp_loop_ghost (fun g ga gw => ∃ (i : Nat), (i ≤ lg.sns.length) ∧ (g = lg.sns.length - i) ∧ (∀ z ∈ lg.sns.take i, z.idx < lg.base.idx) ∧ St ⟨165, [], w, Rws [rl evC 31 3 lg.evs eo ec eF, rl mkC 93 2 lg.mks mo mc mF, rl ptC 84 15 lg.sns so sc sF], Ff [rl evC 31 3 lg.evs eo ec eF, rl mkC 93 2 lg.mks mo mc mF, rl ptC 84 15 lg.sns so sc sF]⟩ [(0, .pointer (some ⟨bl, 0, none⟩)), (1, .pointer (some ⟨bl, 0, none⟩)), (4, .pointer (some ⟨b2, 0, none⟩)), (5, .pointer (some ⟨b14, 0, none⟩)), (6, .int .i64 lg.base.idx), (8, .slice (winA so sc i 15) (lg.sns.length - i) (sc - i)), (7, .slice (winA mo mc j 2) (lg.mks.length - j) (mc - j))] [(bl, ⟨logC lg.base (.slice eo lg.evs.length ec) (.slice mo lg.mks.length mc) (.slice so lg.sns.length sc), 89, true⟩), (b2, ⟨[.int .i64 0, .int .i64 0, .int .i64 0], 114, false⟩), (b14, ⟨[.int .u64 lg.base.st.now, .int .i8 lg.base.st.cur, .int .u8 lg.base.st.s0, .int .u8 lg.base.st.s1, .int .u8 lg.base.st.s2, .int .u8 lg.base.st.s3, .int .u64 lg.base.st.r0, .int .u64 lg.base.st.r1, .int .u64 lg.base.st.r2, .int .u64 lg.base.st.r3, .int .u64 lg.base.st.word, .bool lg.base.out.refused, .int .i8 lg.base.out.running, .int .u64 lg.base.out.value, .int .i64 lg.base.idx], 105, false⟩)] ga gw) lg.sns.length ⟨0, Nat.zero_le _, rfl, (by simp), (by have hz : winA so sc 0 15 = so := winA_zero _ _ _; rw [hz]; exact (h35.slotsMono (restr_spec (keep := [0, 1, 4, 5, 6, 8, 7]) rfl)))⟩ ?_
    clear h35
    rintro g a1008 w1009 ⟨i, hi1011, hi1012, hi1013, h1010⟩
    refine wp_seq_k fun K1014 hK1014 => ?_
    refine wp_seq_k fun K1015 hK1015 => ?_
    rcases Bool.eq_false_or_eq_true (decide ((((lg.sns.length - i) : Nat) : Int) > 0)) with hb1016 | hb1016
    ·
      have hb1016f : (((lg.sns.length - i) : Nat) : Int) > 0 := by simpa using hb1016
      obtain ⟨y, hy⟩ := Sx.get_some (xs := lg.sns) (i := i) (by omega)
      obtain ⟨b1017, cs1018, ho1019, hb1020, hc1021, hF1022, hq1024, hl1025⟩ := rl_open (h1010.inv.get (j := 2) rfl) ptC_len hy
      subst ho1019 hF1022
      have h1023 := h1010.open_ hb1020 (h1010.notinL (by simp [Ff]) (kcons (fun _ => (fun hq => hsep (by have hq2 : bl = b1017 := hq; rw [hq2]; simp [Hd.F]))) (kcons (by intro hq; cases hq) (kcons (by intro hq; cases hq) knil))))
      clear h1010
      have hlt1026 : i < sc := by have h1 : lg.sns.length ≤ sc := rl_cap (h1023.inv.get (j := 2) rfl); have h2 := (List.getElem?_eq_some_iff.1 hy).1; omega
      rw [winA_some b1017 15 hlt1026] at h1023
      refine dr_start (KB := [bl, b2, b14, b1017]) (Bi := [[0, 1, 2, 3], [0, 1, 2, 3], [0, 1, 2, 3], [0, 1, 2, 3], [0, 1, 2, 3], [0, 1, 2, 3], [0, 1, 2, 3], [0, 1, 2, 3], [0, 1, 2, 3], [0, 1, 2, 3], [0, 1, 2, 3], [0, 1, 2, 3]]) mixed h1023 fun w1027 h1028 => ?_
      clear h1023
      refine dr_batch tabOk tabZ_ok (by repeat (first | exact PF.body | with_reducible apply PF.inB | with_reducible apply PF.next)) [(0, {}), (1, {}), (2, {f := 2}), (3, {}), (4, {}), (5, {}), (6, {}), (7, {k := 3, m := 1, vs := [.int .i64 y.idx], p := 3}), (8, {}), (9, {k := 2, p := 2}), (10, {}), (11, {})] [0, 1, 4, 5, 6, 8, 7, 49] (T' := [(0, .pointer (some ⟨bl, 0, none⟩)), (1, .pointer (some ⟨bl, 0, none⟩)), (4, .pointer (some ⟨b2, 0, none⟩)), (5, .pointer (some ⟨b14, 0, none⟩)), (6, .int .i64 lg.base.idx), (8, .slice (some ⟨b1017, (i * 15), none⟩) (lg.sns.length - i) (sc - i)), (7, .slice (winA mo mc j 2) (lg.mks.length - j) (mc - j)), (49, .bool (decide (y.idx < lg.base.idx)))]) (φ := (decide ((((lg.sns.length - i) : Nat) : Int) > 0)) = true ∧ (0 ≤ (0 : Int) ∧ (0 : Int) < (((lg.sns.length - i) : Nat) : Int)) ∧ (b1017 = b1017 ∧ cellsAre cs1018 (i * 15) [.int .i64 y.idx]) ∧ (b14 = b14 ∧ Nat.ble (14 + 1) 15 = true) ∧ True) (fuel := 0) h1028 (by kernel_rfl) rfl (by kernel_rfl) (by kernel_rfl) ⟨trivial, trivial, trivial, trivial, trivial, trivial, trivial, rfl, trivial, rfl, trivial, trivial, trivial⟩ ⟨hb1016, ⟨by omega, by omega⟩, ⟨rfl, (pt_idx hc1021)⟩, ⟨rfl, rfl⟩, trivial⟩ fun a1030 h1031 => ?_
      clear h1028
      refine wpAnyK_done (by kernel_rfl) ?_ _
      refine hK1015 _ _ ?_
      clear hK1015
      refine c_split h1031 (b := decide (y.idx < lg.base.idx)) rfl (fun hc1032 => ?_) (fun hc1032 => ?_)
      ·
        have hc1032f : y.idx < lg.base.idx := by simpa using hc1032
        refine wp_skip ?_
        refine hK1014 _ _ ?_
        clear hK1014
        refine wp_block ?_
        refine nd_start (l := [0, 1, 2]) rfl ?_
        refine nd_batch tabOk tabZ_ok [(0, {}), (1, {}), (2, {})] [0, 1, 4, 5, 6, 7, 8] (T' := [(0, .pointer (some ⟨bl, 0, none⟩)), (1, .pointer (some ⟨bl, 0, none⟩)), (4, .pointer (some ⟨b2, 0, none⟩)), (5, .pointer (some ⟨b14, 0, none⟩)), (6, .int .i64 lg.base.idx), (7, .slice (winA mo mc j 2) (lg.mks.length - j) (mc - j)), (8, .slice (sliceBase (some ⟨b1017, (i * 15), none⟩) (sc - i) 1 15) ((lg.sns.length - i) - 1) ((sc - i) - 1))]) (φ := (0 ≤ (1 : Int) ∧ (1 : Int) ≤ (((lg.sns.length - i) : Nat) : Int)) ∧ True) (rest := []) h1031 (by kernel_rfl) rfl ⟨⟨by omega, by omega⟩, trivial⟩ fun a1033 h1034 => ?_
        clear h1031
        refine nd_done ?_
        have h1035 := h1034.memMono (L' := [(bl, ⟨logC lg.base (.slice eo lg.evs.length ec) (.slice mo lg.mks.length mc) (.slice (some ⟨b1017, 0, none⟩) lg.sns.length sc), 89, true⟩), (b2, ⟨[.int .i64 0, .int .i64 0, .int .i64 0], 114, false⟩), (b14, ⟨[.int .u64 lg.base.st.now, .int .i8 lg.base.st.cur, .int .u8 lg.base.st.s0, .int .u8 lg.base.st.s1, .int .u8 lg.base.st.s2, .int .u8 lg.base.st.s3, .int .u64 lg.base.st.r0, .int .u64 lg.base.st.r1, .int .u64 lg.base.st.r2, .int .u64 lg.base.st.r3, .int .u64 lg.base.st.word, .bool lg.base.out.refused, .int .i8 lg.base.out.running, .int .u64 lg.base.out.value, .int .i64 lg.base.idx], 105, false⟩)]) (List.Sublist.cons_cons _ (List.Sublist.cons_cons _ (List.Sublist.cons_cons _ (List.Sublist.cons _ List.Sublist.slnil))))
        clear h1034
        have e1036 : sliceBase (some ⟨b1017, (i * 15), none⟩) (sc - i) 1 15 = winA (some ⟨b1017, 0, none⟩) sc (i + 1) 15 := by rw [← winA_some b1017 15 hlt1026]; exact winA_succ 15 (.inr ⟨b1017, rfl⟩) hlt1026
        have e1037 : lg.sns.length - i - 1 = lg.sns.length - (i + 1) := by omega
        have e1038 : sc - i - 1 = sc - (i + 1) := by omega
        rw [e1036, e1037, e1038] at h1035
        exact ⟨(g - 1), by omega, (i + 1), by omega, by omega, by intro z hz; rw [Sx.take_snoc hy] at hz; rcases List.mem_append.1 hz with hz | hz; exact hi1013 z hz; simp at hz; subst hz; exact hc1032f, (h1035.slotsMono (restr_spec (keep := [0, 1, 4, 5, 6, 8, 7]) rfl))⟩
      ·
        have hc1032f : ¬ y.idx < lg.base.idx := by simpa using hc1032
        refine wp_exit ?_
        rw [← winA_some b1017 15 hlt1026] at h1031
        exact hm40 i _ _ hi1011 hi1013 (by intro z hz; rw [hy] at hz; cases hz; exact hc1032f) ((h1031.memMono (List.Sublist.cons_cons _ (List.Sublist.cons_cons _ (List.Sublist.cons_cons _ (List.Sublist.cons _ List.Sublist.slnil))))).slotsMono (restr_spec (keep := [0, 1, 4, 5, 6, 8, 7]) rfl))
    ·
      have hb1016f : ¬ ((((lg.sns.length - i) : Nat) : Int) > 0) := by simpa using hb1016
      refine dr_start (KB := [bl, b2, b14]) (Bi := [[0, 1, 2], [0, 1, 2], [0, 1, 2], [0, 1, 2], [0, 1, 2], [0, 1, 2], [0, 1, 2], [0, 1, 2], [0, 1, 2], [0, 1, 2], [0, 1, 2], [0, 1, 2]]) mixed h1010 fun w1039 h1040 => ?_
      clear h1010
      refine dr_batch tabOk tabZ_ok (by repeat (first | exact PF.body | with_reducible apply PF.inB | with_reducible apply PF.next)) [(0, {}), (1, {}), (2, {f := 1}), (3, {}), (4, {}), (5, {}), (6, {}), (7, {k := 0, p := 0}), (8, {}), (9, {k := 0, p := 0}), (10, {}), (11, {})] [0, 1, 4, 5, 6, 8, 7, 49] (T' := [(0, .pointer (some ⟨bl, 0, none⟩)), (1, .pointer (some ⟨bl, 0, none⟩)), (4, .pointer (some ⟨b2, 0, none⟩)), (5, .pointer (some ⟨b14, 0, none⟩)), (6, .int .i64 lg.base.idx), (8, .slice (winA so sc i 15) (lg.sns.length - i) (sc - i)), (7, .slice (winA mo mc j 2) (lg.mks.length - j) (mc - j)), (49, .bool false)]) (φ := (decide ((((lg.sns.length - i) : Nat) : Int) > 0)) = false ∧ True) (fuel := 0) h1040 (by kernel_rfl) rfl (by kernel_rfl) (by kernel_rfl) ⟨trivial, trivial, trivial, trivial, trivial, trivial, trivial, rfl, trivial, rfl, trivial, trivial, trivial⟩ ⟨hb1016, trivial⟩ fun a1042 h1043 => ?_
      clear h1040
      refine wpAnyK_done (by kernel_rfl) ?_ _
      refine hK1015 _ _ ?_
      clear hK1015
      refine c_false h1043 rfl ?_
      refine wp_exit ?_
      exact hm40 i _ _ hi1011 hi1013 (by intro z hz; have := (List.getElem?_eq_some_iff.1 hz).1; omega) (h1043.slotsMono (restr_spec (keep := [0, 1, 4, 5, 6, 8, 7]) rfl))
  clear hK31
  refine wp_loop_ghost (fun g ga gw => ∃ (j : Nat), (j ≤ lg.mks.length) ∧ (g = lg.mks.length - j) ∧ (∀ z ∈ lg.mks.take j, z.idx < lg.base.idx) ∧ St ⟨165, [], w, Rws [rl evC 31 3 lg.evs eo ec eF, rl mkC 93 2 lg.mks mo mc mF, rl ptC 84 15 lg.sns so sc sF], Ff [rl evC 31 3 lg.evs eo ec eF, rl mkC 93 2 lg.mks mo mc mF, rl ptC 84 15 lg.sns so sc sF]⟩ [(0, .pointer (some ⟨bl, 0, none⟩)), (1, .pointer (some ⟨bl, 0, none⟩)), (4, .pointer (some ⟨b2, 0, none⟩)), (5, .pointer (some ⟨b14, 0, none⟩)), (6, .int .i64 lg.base.idx), (7, .slice (winA mo mc j 2) (lg.mks.length - j) (mc - j)), (8, .slice so lg.sns.length sc)] [(bl, ⟨logC lg.base (.slice eo lg.evs.length ec) (.slice mo lg.mks.length mc) (.slice so lg.sns.length sc), 89, true⟩), (b2, ⟨[.int .i64 0, .int .i64 0, .int .i64 0], 114, false⟩), (b14, ⟨[.int .u64 lg.base.st.now, .int .i8 lg.base.st.cur, .int .u8 lg.base.st.s0, .int .u8 lg.base.st.s1, .int .u8 lg.base.st.s2, .int .u8 lg.base.st.s3, .int .u64 lg.base.st.r0, .int .u64 lg.base.st.r1, .int .u64 lg.base.st.r2, .int .u64 lg.base.st.r3, .int .u64 lg.base.st.word, .bool lg.base.out.refused, .int .i8 lg.base.out.running, .int .u64 lg.base.out.value, .int .i64 lg.base.idx], 105, false⟩)] ga gw) lg.mks.length ⟨0, Nat.zero_le _, rfl, (by simp), (by have hz : winA mo mc 0 2 = mo := winA_zero _ _ _; rw [hz]; exact (h30.slotsMono (restr_spec (keep := [0, 1, 4, 5, 6, 7, 8]) rfl)))⟩ ?_
  clear h30
  rintro g a1044 w1045 ⟨j, hi1047, hi1048, hi1049, h1046⟩
  refine wp_seq_k fun K1050 hK1050 => ?_
  refine wp_seq_k fun K1051 hK1051 => ?_
  rcases Bool.eq_false_or_eq_true (decide ((((lg.mks.length - j) : Nat) : Int) > 0)) with hb1052 | hb1052
  ·
    have hb1052f : (((lg.mks.length - j) : Nat) : Int) > 0 := by simpa using hb1052
    obtain ⟨x, hx⟩ := Sx.get_some (xs := lg.mks) (i := j) (by omega)
    obtain ⟨b1053, cs1054, ho1055, hb1056, hc1057, hF1058, hq1060, hl1061⟩ := rl_open (h1046.inv.get (j := 1) rfl) mkC_len hx
    subst ho1055 hF1058
    have h1059 := h1046.open_ hb1056 (h1046.notinL (by simp [Ff]) (kcons (fun _ => (fun hq => hsep (by have hq2 : bl = b1053 := hq; rw [hq2]; simp [Hd.F]))) (kcons (by intro hq; cases hq) (kcons (by intro hq; cases hq) knil))))
    clear h1046
    have hlt1062 : j < mc := by have h1 : lg.mks.length ≤ mc := rl_cap (h1059.inv.get (j := 1) rfl); have h2 := (List.getElem?_eq_some_iff.1 hx).1; omega
    rw [winA_some b1053 2 hlt1062] at h1059
    refine dr_start (KB := [bl, b2, b14, b1053]) (Bi := [[0, 1, 2, 3], [0, 1, 2, 3], [0, 1, 2, 3], [0, 1, 2, 3], [0, 1, 2, 3], [0, 1, 2, 3], [0, 1, 2, 3], [0, 1, 2, 3], [0, 1, 2, 3], [0, 1, 2, 3], [0, 1, 2, 3], [0, 1, 2, 3]]) mixed h1059 fun w1063 h1064 => ?_
    clear h1059
    refine dr_batch tabOk tabZ_ok (by repeat (first | exact PF.body | with_reducible apply PF.inB | with_reducible apply PF.next)) [(0, {}), (1, {}), (2, {f := 2}), (3, {}), (4, {}), (5, {}), (6, {}), (7, {k := 3, m := 1, vs := [.int .i64 x.idx], p := 3}), (8, {}), (9, {k := 2, p := 2}), (10, {}), (11, {})] [0, 1, 4, 5, 6, 7, 8, 35] (T' := [(0, .pointer (some ⟨bl, 0, none⟩)), (1, .pointer (some ⟨bl, 0, none⟩)), (4, .pointer (some ⟨b2, 0, none⟩)), (5, .pointer (some ⟨b14, 0, none⟩)), (6, .int .i64 lg.base.idx), (7, .slice (some ⟨b1053, (j * 2), none⟩) (lg.mks.length - j) (mc - j)), (8, .slice so lg.sns.length sc), (35, .bool (decide (x.idx < lg.base.idx)))]) (φ := (decide ((((lg.mks.length - j) : Nat) : Int) > 0)) = true ∧ (0 ≤ (0 : Int) ∧ (0 : Int) < (((lg.mks.length - j) : Nat) : Int)) ∧ (b1053 = b1053 ∧ cellsAre cs1054 (j * 2) [.int .i64 x.idx]) ∧ (b14 = b14 ∧ Nat.ble (14 + 1) 15 = true) ∧ True) (fuel := 0) h1064 (by kernel_rfl) rfl (by kernel_rfl) (by kernel_rfl) ⟨trivial, trivial, trivial, trivial, trivial, trivial, trivial, rfl, trivial, rfl, trivial, trivial, trivial⟩ ⟨hb1052, ⟨by omega, by omega⟩, ⟨rfl, ⟨(hc1057).1, trivial⟩⟩, ⟨rfl, rfl⟩, trivial⟩ fun a1066 h1067 => ?_
    clear h1064
    refine wpAnyK_done (by kernel_rfl) ?_ _
    refine hK1051 _ _ ?_
    clear hK1051
    refine c_split h1067 (b := decide (x.idx < lg.base.idx)) rfl (fun hc1068 => ?_) (fun hc1068 => ?_)
    ·
      have hc1068f : x.idx < lg.base.idx := by simpa using hc1068
      refine wp_skip ?_
      refine hK1050 _ _ ?_
      clear hK1050
      refine wp_block ?_
      refine nd_start (l := [0, 1, 2]) rfl ?_
      refine nd_batch tabOk tabZ_ok [(0, {}), (1, {}), (2, {})] [0, 1, 4, 5, 6, 8, 7] (T' := [(0, .pointer (some ⟨bl, 0, none⟩)), (1, .pointer (some ⟨bl, 0, none⟩)), (4, .pointer (some ⟨b2, 0, none⟩)), (5, .pointer (some ⟨b14, 0, none⟩)), (6, .int .i64 lg.base.idx), (8, .slice so lg.sns.length sc), (7, .slice (sliceBase (some ⟨b1053, (j * 2), none⟩) (mc - j) 1 2) ((lg.mks.length - j) - 1) ((mc - j) - 1))]) (φ := (0 ≤ (1 : Int) ∧ (1 : Int) ≤ (((lg.mks.length - j) : Nat) : Int)) ∧ True) (rest := []) h1067 (by kernel_rfl) rfl ⟨⟨by omega, by omega⟩, trivial⟩ fun a1069 h1070 => ?_
      clear h1067
      refine nd_done ?_
      have h1071 := h1070.memMono (L' := [(bl, ⟨logC lg.base (.slice eo lg.evs.length ec) (.slice (some ⟨b1053, 0, none⟩) lg.mks.length mc) (.slice so lg.sns.length sc), 89, true⟩), (b2, ⟨[.int .i64 0, .int .i64 0, .int .i64 0], 114, false⟩), (b14, ⟨[.int .u64 lg.base.st.now, .int .i8 lg.base.st.cur, .int .u8 lg.base.st.s0, .int .u8 lg.base.st.s1, .int .u8 lg.base.st.s2, .int .u8 lg.base.st.s3, .int .u64 lg.base.st.r0, .int .u64 lg.base.st.r1, .int .u64 lg.base.st.r2, .int .u64 lg.base.st.r3, .int .u64 lg.base.st.word, .bool lg.base.out.refused, .int .i8 lg.base.out.running, .int .u64 lg.base.out.value, .int .i64 lg.base.idx], 105, false⟩)]) (List.Sublist.cons_cons _ (List.Sublist.cons_cons _ (List.Sublist.cons_cons _ (List.Sublist.cons _ List.Sublist.slnil))))
      clear h1070
      have e1072 : sliceBase (some ⟨b1053, (j * 2), none⟩) (mc - j) 1 2 = winA (some ⟨b1053, 0, none⟩) mc (j + 1) 2 := by rw [← winA_some b1053 2 hlt1062]; exact winA_succ 2 (.inr ⟨b1053, rfl⟩) hlt1062
      have e1073 : lg.mks.length - j - 1 = lg.mks.length - (j + 1) := by omega
      have e1074 : mc - j - 1 = mc - (j + 1) := by omega
      rw [e1072, e1073, e1074] at h1071
      exact ⟨(g - 1), by omega, (j + 1), by omega, by omega, by intro z hz; rw [Sx.take_snoc hx] at hz; rcases List.mem_append.1 hz with hz | hz; exact hi1049 z hz; simp at hz; subst hz; exact hc1068f, (h1071.slotsMono (restr_spec (keep := [0, 1, 4, 5, 6, 7, 8]) rfl))⟩
    ·
      have hc1068f : ¬ x.idx < lg.base.idx := by simpa using hc1068
      refine wp_exit ?_
      rw [← winA_some b1053 2 hlt1062] at h1067
      exact hm32 j _ _ hi1047 hi1049 (by intro z hz; rw [hx] at hz; cases hz; exact hc1068f) ((h1067.memMono (List.Sublist.cons_cons _ (List.Sublist.cons_cons _ (List.Sublist.cons_cons _ (List.Sublist.cons _ List.Sublist.slnil))))).slotsMono (restr_spec (keep := [0, 1, 4, 5, 6, 7, 8]) rfl))
  ·
    have hb1052f : ¬ ((((lg.mks.length - j) : Nat) : Int) > 0) := by simpa using hb1052
    refine dr_start (KB := [bl, b2, b14]) (Bi := [[0, 1, 2], [0, 1, 2], [0, 1, 2], [0, 1, 2], [0, 1, 2], [0, 1, 2], [0, 1, 2], [0, 1, 2], [0, 1, 2], [0, 1, 2], [0, 1, 2], [0, 1, 2]]) mixed h1046 fun w1075 h1076 => ?_
    clear h1046
    refine dr_batch tabOk tabZ_ok (by repeat (first | exact PF.body | with_reducible apply PF.inB | with_reducible apply PF.next)) [(0, {}), (1, {}), (2, {f := 1}), (3, {}), (4, {}), (5, {}), (6, {}), (7, {k := 0, p := 0}), (8, {}), (9, {k := 0, p := 0}), (10, {}), (11, {})] [0, 1, 4, 5, 6, 7, 8, 35] (T' := [(0, .pointer (some ⟨bl, 0, none⟩)), (1, .pointer (some ⟨bl, 0, none⟩)), (4, .pointer (some ⟨b2, 0, none⟩)), (5, .pointer (some ⟨b14, 0, none⟩)), (6, .int .i64 lg.base.idx), (7, .slice (winA mo mc j 2) (lg.mks.length - j) (mc - j)), (8, .slice so lg.sns.length sc), (35, .bool false)]) (φ := (decide ((((lg.mks.length - j) : Nat) : Int) > 0)) = false ∧ True) (fuel := 0) h1076 (by kernel_rfl) rfl (by kernel_rfl) (by kernel_rfl) ⟨trivial, trivial, trivial, trivial, trivial, trivial, trivial, rfl, trivial, rfl, trivial, trivial, trivial⟩ ⟨hb1052, trivial⟩ fun a1078 h1079 => ?_
    clear h1076
    refine wpAnyK_done (by kernel_rfl) ?_ _
    refine hK1051 _ _ ?_
    clear hK1051
    refine c_false h1079 rfl ?_
    refine wp_exit ?_
    exact hm32 j _ _ hi1047 hi1049 (by intro z hz; have := (List.getElem?_eq_some_iff.1 hz).1; omega) (h1079.slotsMono (restr_spec (keep := [0, 1, 4, 5, 6, 7, 8]) rfl))

end Go.Proofs.Qxb6500919aFmt
