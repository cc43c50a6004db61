/-
  The divergence detector. (Made by program: a symbolic walk that prints its steps.)
-/
import Derived.Test.Qxb6500919aFmtTab
import Derived.Test.Qxb6500919aFmtLib2
import Derived.Test.Qxb6500919aFmtVf
import Derived.Test.Qxb6500919aFmtW1
import Derived.Test.Qxb6500919aFmtW2
import Derived.Test.Qxb6500919aFmtW3
import Derived.Test.Qxb6500919aFmtW4
import Derived.Test.Qxb6500919aFmtW5
import Derived.Test.Qxb6500919aFmtW6
import Derived.Test.Qxb6500919aFmtWA
namespace Go.Proofs.Qxb6500919aFmt
open Go.Sx Go.Rp
set_option maxRecDepth 100000
set_option maxHeartbeats 4000000
set_option linter.unusedVariables false
set_option linter.unusedSimpArgs false

theorem verifyB_ok (bl : Nat) (d : Hd) (lg : Lg) (w : World) (hl : LogAt w bl d lg) (p : Pt) (bq off : Nat) (cs : List Value) (ty : TypeId) (hbq : w.heap[bq]? = some (Blk.obj ⟨cs, ty, true⟩)) (hp : cellsAre cs off (ptC p)) (hso : d.so = some ⟨bq, 0, none⟩) (hin : ∀ p ∈ lg.sns, lg.base.idx ≤ p.idx ∧ p.idx ≤ lg.fin) (hmin : ∀ p ∈ lg.mks, lg.base.idx ≤ p.idx ∧ p.idx ≤ lg.fin) (hsort : lg.sns.Pairwise (fun a b => a.idx < b.idx)) (hms : lg.mks.Pairwise (fun a b => a.idx < b.idx))
    (hpw : lg.base.idx ≤ p.idx ∧ p.idx ≤ lg.fin) (hpok : p.st.ok) (hev : ∀ e ∈ lg.evs, e.ok) (hb0 : 0 ≤ lg.base.idx) (hb1 : lg.base.idx ≤ 900000000) (hlen : lg.evs.length ≤ 1000) (hml : lg.mks.length ≤ 1000) (hsl : lg.sns.length ≤ 1000) :
    Calls Tryf.prog 50 #[.pointer (some ⟨bl, 0, none⟩), .pointer (some ⟨bq, off, none⟩)] w fun e w' => e = .returned (.agg (repC (vfy lg p)).toArray) ∧ Fr [] w w' := by
  have hfq : lg.fin = lg.base.idx + (lg.evs.length : Int) := rfl
  obtain ⟨eo, ec, eF, mo, mc, mF, so, sc, sF⟩ := d
  obtain ⟨hbl, hA, hsep⟩ := hl
  simp only at hso
  subst hso
  obtain ⟨⟨cs', hcs'⟩, hsF⟩ := rl_blk (hA.get (j := 2) rfl)
  simp only at hsF
  subst hsF
  have hcc : cs' = cs ∧ 84 = ty := by rw [hbq] at hcs'; simp [Blk.obj] at hcs'; exact ⟨hcs'.1.symm, hcs'.2.symm⟩
  obtain ⟨rfl, rfl⟩ := hcc
  refine enter (n := 165) (K := []) (A := Rws [rl evC 31 3 lg.evs eo ec eF, rl mkC 93 2 lg.mks mo mc mF, rl ptC 84 15 lg.sns (some ⟨bq, 0, none⟩) sc ([bq])]) (F := Ff [rl evC 31 3 lg.evs eo ec eF, rl mkC 93 2 lg.mks mo mc mF, rl ptC 84 15 lg.sns (some ⟨bq, 0, none⟩) sc ([bq])]) (T := [(0, .pointer (some ⟨bl, 0, none⟩)), (1, .pointer (some ⟨bq, off, none⟩))]) (L := [(bl, ⟨logC lg.base (.slice eo lg.evs.length ec) (.slice mo lg.mks.length mc) (.slice (some ⟨bq, 0, none⟩) lg.sns.length sc), 89, true⟩), (bq, ⟨cs', 84, true⟩)]) (args := [.pointer (some ⟨bl, 0, none⟩), .pointer (some ⟨bq, off, none⟩)]) Tryf.func50 rfl rfl rfl rfl (kcons hbl (kcons hcs' knil)) (by simp only [List.map_cons, List.map_nil, List.nodup_cons, List.mem_singleton, List.not_mem_nil, not_false_eq_true, List.nodup_nil, and_true]; intro hq; exact hsep (by rw [hq]; simp [Hd.F])) (kcons (by intro hq; cases hq) (kcons (by intro hq; cases hq) knil)) hA Rws.stable (hA).low (kcons (by intro hq; cases hq) (kcons (by intro hq; cases hq) knil)) ?_
  intro a h
  refine wp_seq_k fun K1 hK1 => ?_
  refine nd_start (l := [0]) rfl ?_
  refine nd_op ?_
  refine op_new tabOk (cells := [.int .i64 0, .int .i64 0, .int .i64 0]) (ty := 114) (ln := none) (L1 := fun b2 => [(bl, ⟨logC lg.base (.slice eo lg.evs.length ec) (.slice mo lg.mks.length mc) (.slice (some ⟨bq, 0, none⟩) lg.sns.length sc), 89, true⟩), (bq, ⟨cs', 84, true⟩), (b2, ⟨[.int .i64 0, .int .i64 0, .int .i64 0], 114, false⟩)]) h rfl rfl rfl rfl (by kernel_rfl) (fun _ => rfl) fun b2 w3 a4 h5 hf6 hn7 => ?_
  clear h
  refine nd_done ?_
  refine hK1 _ _ ?_
  clear hK1
  refine wp_seq_k fun K8 hK8 => ?_
  refine nd_start (l := [0, 1, 2, 3]) rfl ?_
  refine nd_batch tabOk tabZ_ok [(0, {})] [4, 0, 1, 10] (T' := [(4, .pointer (some ⟨b2, 0, none⟩)), (0, .pointer (some ⟨bl, 0, none⟩)), (1, .pointer (some ⟨bq, off, none⟩)), (10, .pointer (some ⟨bq, off, none⟩))]) (φ := True) (rest := [1, 2, 3]) h5 (by kernel_rfl) rfl trivial fun a9 h10 => ?_
  clear h5
  refine nd_op ?_
  refine op_call h10 rfl rfl rfl (callOk Tryf.func42 (by decide) rfl) (args := [.pointer (some ⟨bq, off, none⟩)]) rfl (startAt_ok bq off cs' 84 true p _ (h10.kn (k := 1) rfl) hp) ?_
  rintro _ w11 ⟨rfl, hf13⟩
  refine ⟨_, rfl, ?_⟩
  have h12 := (h10.grow hf13).put (d := some 11) (v := .agg #[.int .u64 p.st.now, .int .i8 p.st.cur, .int .u8 p.st.s0, .int .u8 p.st.s1, .int .u8 p.st.s2, .int .u8 p.st.s3, .int .u64 p.st.r0, .int .u64 p.st.r1, .int .u64 p.st.r2, .int .u64 p.st.r3, .int .u64 p.st.word, .bool p.out.refused, .int .i8 p.out.running, .int .u64 p.out.value, .int .i64 p.idx]) (T' := [(11, .agg #[.int .u64 p.st.now, .int .i8 p.st.cur, .int .u8 p.st.s0, .int .u8 p.st.s1, .int .u8 p.st.s2, .int .u8 p.st.s3, .int .u64 p.st.r0, .int .u64 p.st.r1, .int .u64 p.st.r2, .int .u64 p.st.r3, .int .u64 p.st.word, .bool p.out.refused, .int .i8 p.out.running, .int .u64 p.out.value, .int .i64 p.idx]), (4, .pointer (some ⟨b2, 0, none⟩)), (0, .pointer (some ⟨bl, 0, none⟩)), (1, .pointer (some ⟨bq, off, none⟩)), (10, .pointer (some ⟨bq, off, none⟩))]) rfl
  clear h10
  refine nd_op ?_
  refine op_new tabOk (cells := [.int .u64 0, .int .i8 0, .int .u8 0, .int .u8 0, .int .u8 0, .int .u8 0, .int .u64 0, .int .u64 0, .int .u64 0, .int .u64 0, .int .u64 0, .bool false, .int .i8 0, .int .u64 0, .int .i64 0]) (ty := 105) (ln := none) (L1 := fun b14 => [(bl, ⟨logC lg.base (.slice eo lg.evs.length ec) (.slice mo lg.mks.length mc) (.slice (some ⟨bq, 0, none⟩) lg.sns.length sc), 89, true⟩), (bq, ⟨cs', 84, true⟩), (b2, ⟨[.int .i64 0, .int .i64 0, .int .i64 0], 114, false⟩), (b14, ⟨[.int .u64 0, .int .i8 0, .int .u8 0, .int .u8 0, .int .u8 0, .int .u8 0, .int .u64 0, .int .u64 0, .int .u64 0, .int .u64 0, .int .u64 0, .bool false, .int .i8 0, .int .u64 0, .int .i64 0], 105, false⟩)]) h12 rfl rfl rfl rfl (by kernel_rfl) (fun _ => rfl) fun b14 w15 a16 h17 hf18 hn19 => ?_
  clear h12
  refine nd_op ?_
  refine op_store tabOk {k := 3} (L' := [(bl, ⟨logC lg.base (.slice eo lg.evs.length ec) (.slice mo lg.mks.length mc) (.slice (some ⟨bq, 0, none⟩) lg.sns.length sc), 89, true⟩), (bq, ⟨cs', 84, true⟩), (b2, ⟨[.int .i64 0, .int .i64 0, .int .i64 0], 114, false⟩), (b14, ⟨[.int .u64 p.st.now, .int .i8 p.st.cur, .int .u8 p.st.s0, .int .u8 p.st.s1, .int .u8 p.st.s2, .int .u8 p.st.s3, .int .u64 p.st.r0, .int .u64 p.st.r1, .int .u64 p.st.r2, .int .u64 p.st.r3, .int .u64 p.st.word, .bool p.out.refused, .int .i8 p.out.running, .int .u64 p.out.value, .int .i64 p.idx], 105, false⟩)]) (φ := b14 = b14 ∧ Nat.ble (0 + 15) 15 = true) h17 rfl rfl rfl (by kernel_rfl) ⟨rfl, rfl⟩ fun w20 h21 => ?_
  clear h17
  refine nd_done ?_
  refine hK8 _ _ ?_
  clear hK8
  refine wp_seq_k fun K22 hK22 => ?_
  refine nd_start (l := [0, 1, 2, 3, 4]) rfl ?_
  refine nd_batch tabOk tabZ_ok [(0, {}), (1, {}), (2, {}), (3, {k := 1, m := 1, vs := [.int .i64 p.idx]}), (4, {})] [5, 4, 0, 1, 6] (T' := [(5, .pointer (some ⟨b14, 0, none⟩)), (4, .pointer (some ⟨b2, 0, none⟩)), (0, .pointer (some ⟨bl, 0, none⟩)), (1, .pointer (some ⟨bq, off, none⟩)), (6, .int .i64 p.idx)]) (φ := (bq = bq ∧ cellsAre cs' off [.int .i64 p.idx]) ∧ True) (rest := []) h21 (by kernel_rfl) rfl ⟨⟨rfl, (pt_idx hp)⟩, trivial⟩ fun a23 h24 => ?_
  clear h21
  refine nd_done ?_
  refine hK22 _ _ ?_
  clear hK22
  refine wp_seq_k fun K25 hK25 => ?_
  refine dr_start (KB := [bl, bq, b2, b14]) (Bi := [[0, 1, 2, 3], [0, 1, 2, 3], [0, 1, 2, 3], [0, 1, 2, 3], [0, 1, 2, 3], [0, 1, 2, 3], [0, 1, 2, 3], [0, 1, 2, 3], [0, 1, 2, 3], [0, 1, 2, 3]]) mixed h24 fun w26 h27 => ?_
  clear h24
  refine dr_batch tabOk tabZ_ok (by repeat (first | exact PF.body | with_reducible apply PF.inB | with_reducible apply PF.next)) [(0, {}), (1, {}), (2, {}), (3, {k := 0, p := 0}), (4, {}), (5, {}), (6, {}), (7, {k := 0, p := 0}), (8, {}), (9, {})] [5, 4, 0, 1, 6, 7, 8] (T' := [(5, .pointer (some ⟨b14, 0, none⟩)), (4, .pointer (some ⟨b2, 0, none⟩)), (0, .pointer (some ⟨bl, 0, none⟩)), (1, .pointer (some ⟨bq, off, none⟩)), (6, .int .i64 p.idx), (7, .slice mo lg.mks.length mc), (8, .slice (some ⟨bq, 0, none⟩) lg.sns.length sc)]) (φ := (bl = bl ∧ Nat.ble (16 + 1) 18 = true) ∧ (bl = bl ∧ Nat.ble (17 + 1) 18 = true) ∧ True) (fuel := 0) h27 (by kernel_rfl) rfl (by kernel_rfl) (by kernel_rfl) ⟨trivial, trivial, trivial, rfl, trivial, trivial, trivial, rfl, trivial, trivial, trivial⟩ ⟨⟨rfl, rfl⟩, ⟨rfl, rfl⟩, trivial⟩ fun a29 h30 => ?_
  clear h27
  refine wpAnyK_done (by kernel_rfl) ?_ _
  refine hK25 _ _ ?_
  clear hK25
  refine wp_seq_k fun K31 hK31 => ?_
  refine wp_block ?_
  have hm32 : ∀ (j : Nat) (ca : Act) (cw : World), (j ≤ lg.mks.length) → (∀ z ∈ lg.mks.take j, z.idx < p.idx) → (∀ z, lg.mks[j]? = some z → ¬ z.idx < p.idx) → St ⟨165, [], w, Rws [rl evC 31 3 lg.evs eo ec eF, rl mkC 93 2 lg.mks mo mc mF, rl ptC 84 15 lg.sns (some ⟨bq, 0, none⟩) sc ([bq])], Ff [rl evC 31 3 lg.evs eo ec eF, rl mkC 93 2 lg.mks mo mc mF, rl ptC 84 15 lg.sns (some ⟨bq, 0, none⟩) sc ([bq])]⟩ [(0, .pointer (some ⟨bl, 0, none⟩)), (1, .pointer (some ⟨bq, off, none⟩)), (4, .pointer (some ⟨b2, 0, none⟩)), (5, .pointer (some ⟨b14, 0, none⟩)), (6, .int .i64 p.idx), (7, .slice (winA mo mc j 2) (lg.mks.length - j) (mc - j)), (8, .slice (some ⟨bq, 0, none⟩) lg.sns.length sc)] [(bl, ⟨logC lg.base (.slice eo lg.evs.length ec) (.slice mo lg.mks.length mc) (.slice (some ⟨bq, 0, none⟩) lg.sns.length sc), 89, true⟩), (bq, ⟨cs', 84, true⟩), (b2, ⟨[.int .i64 0, .int .i64 0, .int .i64 0], 114, false⟩), (b14, ⟨[.int .u64 p.st.now, .int .i8 p.st.cur, .int .u8 p.st.s0, .int .u8 p.st.s1, .int .u8 p.st.s2, .int .u8 p.st.s3, .int .u64 p.st.r0, .int .u64 p.st.r1, .int .u64 p.st.r2, .int .u64 p.st.r3, .int .u64 p.st.word, .bool p.out.refused, .int .i8 p.out.running, .int .u64 p.out.value, .int .i64 p.idx], 105, false⟩)] ca cw → K31 ca cw := by
    intro j a33 w34 hi36 hi37 hi38 h35
    have hlen1 := hi36
    have hsk1 := hi37
    have hst1 := hi38
    refine hK31 _ _ ?_
    clear hK31
    refine wp_seq_k fun K39 hK39 => ?_
    refine wp_block ?_
    have hm40 : ∀ (i : Nat) (ca : Act) (cw : World), (i ≤ lg.sns.length) → (∀ z ∈ lg.sns.take i, z.idx < p.idx) → (∀ z, lg.sns[i]? = some z → ¬ z.idx < p.idx) → St ⟨165, [], w, Rws [rl evC 31 3 lg.evs eo ec eF, rl mkC 93 2 lg.mks mo mc mF, rl ptC 84 15 lg.sns (some ⟨bq, 0, none⟩) sc ([bq])], Ff [rl evC 31 3 lg.evs eo ec eF, rl mkC 93 2 lg.mks mo mc mF, rl ptC 84 15 lg.sns (some ⟨bq, 0, none⟩) sc ([bq])]⟩ [(0, .pointer (some ⟨bl, 0, none⟩)), (1, .pointer (some ⟨bq, off, none⟩)), (4, .pointer (some ⟨b2, 0, none⟩)), (5, .pointer (some ⟨b14, 0, none⟩)), (6, .int .i64 p.idx), (8, .slice (winA (some ⟨bq, 0, none⟩) sc i 15) (lg.sns.length - i) (sc - i)), (7, .slice (winA mo mc j 2) (lg.mks.length - j) (mc - j))] [(bl, ⟨logC lg.base (.slice eo lg.evs.length ec) (.slice mo lg.mks.length mc) (.slice (some ⟨bq, 0, none⟩) lg.sns.length sc), 89, true⟩), (bq, ⟨cs', 84, true⟩), (b2, ⟨[.int .i64 0, .int .i64 0, .int .i64 0], 114, false⟩), (b14, ⟨[.int .u64 p.st.now, .int .i8 p.st.cur, .int .u8 p.st.s0, .int .u8 p.st.s1, .int .u8 p.st.s2, .int .u8 p.st.s3, .int .u64 p.st.r0, .int .u64 p.st.r1, .int .u64 p.st.r2, .int .u64 p.st.r3, .int .u64 p.st.word, .bool p.out.refused, .int .i8 p.out.running, .int .u64 p.out.value, .int .i64 p.idx], 105, false⟩)] ca cw → K39 ca cw := by
      intro i a41 w42 hi44 hi45 hi46 h43
      have hlen2 := hi44
      have hsk2 := hi45
      have hst2 := hi46
      refine hK39 _ _ ?_
      clear hK39
      refine wp_block ?_
      have hdm := dropWhile_at (f := fun k => decide (k.idx < p.idx)) (l := lg.mks) (j := j) (by simpa using hsk1) (by simpa using hst1)
      have hds := dropWhile_at (f := fun k => decide (k.idx < p.idx)) (l := lg.sns) (j := i) (by simpa using hsk2) (by simpa using hst2)
      have hgm := mk_ge (n := p.idx) hms (j := j) (fun z hz => by have := hst1 z hz; omega)
      have hgs := pt_ge (n := p.idx) hsort (j := i) (fun z hz => by have := hst2 z hz; omega)
      refine wp_loop_ghost (fun g ga gw => ∃ (j i : Nat) (m' : Mach) (o' : Ot) (pos' good : Int) (q : Nat), (j ≤ lg.mks.length) ∧ (i ≤ lg.sns.length) ∧ (lg.mks.length - j + (lg.sns.length - i) < g) ∧ (pos' - lg.base.idx = q) ∧ (q ≤ lg.evs.length) ∧ (m'.ok) ∧ (∀ z ∈ lg.mks.drop j, pos' ≤ z.idx) ∧ (∀ z ∈ lg.sns.drop i, pos' ≤ z.idx) ∧ (vloop lg p.idx g (lg.mks.drop j) (lg.sns.drop i) (m', o') pos' good = vfy lg p) ∧ St ⟨165, [], w, Rws [rl evC 31 3 lg.evs eo ec eF, rl mkC 93 2 lg.mks mo mc mF, rl ptC 84 15 lg.sns (some ⟨bq, 0, none⟩) sc ([bq])], Ff [rl evC 31 3 lg.evs eo ec eF, rl mkC 93 2 lg.mks mo mc mF, rl ptC 84 15 lg.sns (some ⟨bq, 0, none⟩) sc ([bq])]⟩ [(0, .pointer (some ⟨bl, 0, none⟩)), (1, .pointer (some ⟨bq, off, none⟩)), (4, .pointer (some ⟨b2, 0, none⟩)), (5, .pointer (some ⟨b14, 0, none⟩)), (6, .int .i64 good), (7, .slice (winA mo mc j 2) (lg.mks.length - j) (mc - j)), (8, .slice (winA (some ⟨bq, 0, none⟩) sc i 15) (lg.sns.length - i) (sc - i))] [(bl, ⟨logC lg.base (.slice eo lg.evs.length ec) (.slice mo lg.mks.length mc) (.slice (some ⟨bq, 0, none⟩) lg.sns.length sc), 89, true⟩), (bq, ⟨cs', 84, true⟩), (b2, ⟨[.int .i64 0, .int .i64 0, .int .i64 0], 114, false⟩), (b14, ⟨curC m' o' pos', 105, false⟩)] ga gw) (lg.mks.length + lg.sns.length + 1) ⟨j, i, p.st, p.out, p.idx, p.idx, (p.idx - lg.base.idx).toNat, hlen1, hlen2, by omega, by omega, by simp only [Lg.fin] at hpw; omega, hpok, hgm, hgs, by unfold vfy; rw [hdm, hds], (h43.slotsMono (restr_spec (keep := [0, 1, 4, 5, 6, 7, 8]) rfl))⟩ ?_
      clear h43
      rintro g a47 w48 ⟨j, i, m', o', pos', good, q, hi50, hi51, hi52, hi53, hi54, hi55, hi56, hi57, hi58, h49⟩
      obtain ⟨g, rfl⟩ : ∃ g0, g = g0 + 1 := ⟨g - 1, by omega⟩
      have hj := hi50
      have hi := hi51
      have hg := hi52
      have hq := hi53
      have hqe := hi54
      have hmok := hi55
      have hgm := hi56
      have hgs := hi57
      have hv := hi58
      refine wp_block ?_
      refine wp_seq_k fun K59 hK59 => ?_
      refine nd_start (l := [0, 1, 2, 3]) rfl ?_
      refine nd_batch tabOk tabZ_ok [(0, {})] [0, 1, 4, 5, 6, 7, 8, 52] (T' := [(0, .pointer (some ⟨bl, 0, none⟩)), (1, .pointer (some ⟨bq, off, none⟩)), (4, .pointer (some ⟨b2, 0, none⟩)), (5, .pointer (some ⟨b14, 0, none⟩)), (6, .int .i64 good), (7, .slice (winA mo mc j 2) (lg.mks.length - j) (mc - j)), (8, .slice (winA (some ⟨bq, 0, none⟩) sc i 15) (lg.sns.length - i) (sc - i)), (52, .pointer (some ⟨bl, 0, none⟩))]) (φ := True) (rest := [1, 2, 3]) h49 (by kernel_rfl) rfl trivial fun a60 h61 => ?_
      clear h49
      refine nd_op ?_
      refine op_call h61 rfl rfl rfl (callOk Tryf.func41 (by decide) rfl) (args := [.pointer (some ⟨bl, 0, none⟩)]) rfl (end_ok bl lg.base eo lg.evs.length ec (.slice mo lg.mks.length mc) (.slice (some ⟨bq, 0, none⟩) lg.sns.length sc) true _ (h61.kn (k := 0) rfl) hb0 (by omega) (by omega)) ?_
      rintro _ w62 ⟨rfl, hf64⟩
      refine ⟨_, rfl, ?_⟩
      have h63 := (h61.grow hf64).put (d := some 53) (v := .int .i64 (lg.base.idx + (lg.evs.length : Int))) (T' := [(53, .int .i64 (lg.base.idx + (lg.evs.length : Int))), (0, .pointer (some ⟨bl, 0, none⟩)), (1, .pointer (some ⟨bq, off, none⟩)), (4, .pointer (some ⟨b2, 0, none⟩)), (5, .pointer (some ⟨b14, 0, none⟩)), (6, .int .i64 good), (7, .slice (winA mo mc j 2) (lg.mks.length - j) (mc - j)), (8, .slice (winA (some ⟨bq, 0, none⟩) sc i 15) (lg.sns.length - i) (sc - i)), (52, .pointer (some ⟨bl, 0, none⟩))]) rfl
      clear h61
      refine nd_batch tabOk tabZ_ok [(2, {}), (3, {})] [0, 1, 4, 5, 6, 7, 8, 9] (T' := [(0, .pointer (some ⟨bl, 0, none⟩)), (1, .pointer (some ⟨bq, off, none⟩)), (4, .pointer (some ⟨b2, 0, none⟩)), (5, .pointer (some ⟨b14, 0, none⟩)), (6, .int .i64 good), (7, .slice (winA mo mc j 2) (lg.mks.length - j) (mc - j)), (8, .slice (winA (some ⟨bq, 0, none⟩) sc i 15) (lg.sns.length - i) (sc - i)), (9, .int .i64 ((lg.base.idx + (lg.evs.length : Int)) + 1))]) (φ := inR .i64 ((lg.base.idx + (lg.evs.length : Int)) + 1) ∧ True) (rest := []) h63 (by kernel_rfl) rfl ⟨⟨by omega, by omega⟩, trivial⟩ fun a65 h66 => ?_
      clear h63
      refine nd_done ?_
      refine hK59 _ _ ?_
      clear hK59
      refine wp_seq_k fun K67 hK67 => ?_
      refine wp_seq_k fun K68 hK68 => ?_
      refine nd_start (l := [0, 1, 2]) rfl ?_
      refine nd_batch tabOk tabZ_ok [(0, {}), (1, {}), (2, {})] [0, 1, 4, 5, 6, 7, 8, 9, 57] (T' := [(0, .pointer (some ⟨bl, 0, none⟩)), (1, .pointer (some ⟨bq, off, none⟩)), (4, .pointer (some ⟨b2, 0, none⟩)), (5, .pointer (some ⟨b14, 0, none⟩)), (6, .int .i64 good), (7, .slice (winA mo mc j 2) (lg.mks.length - j) (mc - j)), (8, .slice (winA (some ⟨bq, 0, none⟩) sc i 15) (lg.sns.length - i) (sc - i)), (9, .int .i64 ((lg.base.idx + (lg.evs.length : Int)) + 1)), (57, .bool (decide ((((lg.mks.length - j) : Nat) : Int) > 0)))]) (φ := True) (rest := []) h66 (by kernel_rfl) rfl trivial fun a69 h70 => ?_
      clear h66
      refine nd_done ?_
      refine hK68 _ _ ?_
      clear hK68
      refine c_split h70 (b := decide ((((lg.mks.length - j) : Nat) : Int) > 0)) rfl (fun hc71 => ?_) (fun hc71 => ?_)
      ·
        have hc71f : (((lg.mks.length - j) : Nat) : Int) > 0 := by simpa using hc71
        obtain ⟨x, hx⟩ := Sx.get_some (xs := lg.mks) (i := j) (by omega)
        have hxw := hmin x (List.mem_of_getElem? hx)
        have hxg := hgm x (by rw [drop_at hx]; simp)
        obtain ⟨b72, cs73, ho74, hb75, hc76, hF77, hq79, hl80⟩ := rl_open (h70.inv.get (j := 1) rfl) mkC_len hx
        subst ho74 hF77
        have h78 := h70.open_ hb75 (h70.notinL (by simp [Ff]) (kcons (fun _ => (fun hq => hsep (by have hq2 : bl = b72 := hq; rw [hq2]; simp [Hd.F]))) (kcons (fun _ => (fun hq => Ff_nodup h70.inv.1 (i := 2) (j := 1) rfl rfl (by decide) bq (by simp) (by have hq2 : bq = b72 := hq; rw [hq2]; simp))) (kcons (by intro hq; cases hq) (kcons (by intro hq; cases hq) knil)))))
        clear h70
        have hlt81 : j < mc := by have h1 : lg.mks.length ≤ mc := rl_cap (h78.inv.get (j := 1) rfl); have h2 := (List.getElem?_eq_some_iff.1 hx).1; omega
        rw [winA_some b72 2 hlt81] at h78
        refine nd_start (l := [0, 1, 2, 3, 4]) rfl ?_
        refine nd_batch tabOk tabZ_ok [(0, {}), (1, {}), (2, {}), (3, {k := 4, m := 1, vs := [.int .i64 x.idx]}), (4, {})] [0, 1, 4, 5, 6, 7, 8, 9] (T' := [(0, .pointer (some ⟨bl, 0, none⟩)), (1, .pointer (some ⟨bq, off, none⟩)), (4, .pointer (some ⟨b2, 0, none⟩)), (5, .pointer (some ⟨b14, 0, none⟩)), (6, .int .i64 good), (7, .slice (some ⟨b72, (j * 2), none⟩) (lg.mks.length - j) (mc - j)), (8, .slice (winA (some ⟨bq, 0, none⟩) sc i 15) (lg.sns.length - i) (sc - i)), (9, .int .i64 x.idx)]) (φ := (0 ≤ (0 : Int) ∧ (0 : Int) < (((lg.mks.length - j) : Nat) : Int)) ∧ (b72 = b72 ∧ cellsAre cs73 (j * 2) [.int .i64 x.idx]) ∧ True) (rest := []) h78 (by kernel_rfl) rfl ⟨⟨by omega, by omega⟩, ⟨rfl, ⟨(hc76).1, trivial⟩⟩, trivial⟩ fun a82 h83 => ?_
        clear h78
        refine nd_done ?_
        refine hK67 _ _ ?_
        clear hK67
        refine wp_seq_k fun K84 hK84 => ?_
        refine wp_seq_k fun K85 hK85 => ?_
        rcases Bool.eq_false_or_eq_true (decide ((((lg.sns.length - i) : Nat) : Int) > 0)) with hb86 | hb86
        ·
          have hb86f : (((lg.sns.length - i) : Nat) : Int) > 0 := by simpa using hb86
          obtain ⟨y, hy⟩ := Sx.get_some (xs := lg.sns) (i := i) (by omega)
          have hyw := hin y (List.mem_of_getElem? hy)
          have hyg := hgs y (by rw [drop_at hy]; simp)
          have hc87 := rl_at (h83.inv.get (j := 2) rfl) (h83.kn (k := 1) rfl) ptC_len hy
          have hlt88 : i < sc := by have h1 : lg.sns.length ≤ sc := rl_cap (h83.inv.get (j := 2) rfl); have h2 := (List.getElem?_eq_some_iff.1 hy).1; omega
          rw [winA_some bq 15 hlt88] at h83
          refine nd_start (l := [0, 1, 2, 3, 4, 5, 6, 7, 8, 9, 10]) rfl ?_
          refine nd_batch tabOk tabZ_ok [(0, {}), (1, {}), (2, {f := 2}), (3, {}), (4, {}), (5, {}), (6, {}), (7, {k := 1, m := 1, vs := [.int .i64 y.idx]}), (8, {}), (9, {}), (10, {})] [0, 1, 4, 5, 6, 7, 8, 9, 72] (T' := [(0, .pointer (some ⟨bl, 0, none⟩)), (1, .pointer (some ⟨bq, off, none⟩)), (4, .pointer (some ⟨b2, 0, none⟩)), (5, .pointer (some ⟨b14, 0, none⟩)), (6, .int .i64 good), (7, .slice (some ⟨b72, (j * 2), none⟩) (lg.mks.length - j) (mc - j)), (8, .slice (some ⟨bq, (i * 15), none⟩) (lg.sns.length - i) (sc - i)), (9, .int .i64 x.idx), (72, .bool (decide (y.idx < x.idx)))]) (φ := (decide ((((lg.sns.length - i) : Nat) : Int) > 0)) = true ∧ (0 ≤ (0 : Int) ∧ (0 : Int) < (((lg.sns.length - i) : Nat) : Int)) ∧ (bq = bq ∧ cellsAre cs' (i * 15) [.int .i64 y.idx]) ∧ True) (rest := []) h83 (by kernel_rfl) rfl ⟨hb86, ⟨by omega, by omega⟩, ⟨rfl, (pt_idx hc87)⟩, trivial⟩ fun a89 h90 => ?_
          clear h83
          refine nd_done ?_
          refine hK85 _ _ ?_
          clear hK85
          refine c_split h90 (b := decide (y.idx < x.idx)) rfl (fun hc91 => ?_) (fun hc91 => ?_)
          ·
            have hc91f : y.idx < x.idx := by simpa using hc91
            refine nd_start (l := [0, 1, 2, 3, 4]) rfl ?_
            refine nd_batch tabOk tabZ_ok [(0, {}), (1, {}), (2, {}), (3, {k := 1, m := 1, vs := [.int .i64 y.idx]}), (4, {})] [0, 1, 4, 5, 6, 7, 8, 9] (T' := [(0, .pointer (some ⟨bl, 0, none⟩)), (1, .pointer (some ⟨bq, off, none⟩)), (4, .pointer (some ⟨b2, 0, none⟩)), (5, .pointer (some ⟨b14, 0, none⟩)), (6, .int .i64 good), (7, .slice (some ⟨b72, (j * 2), none⟩) (lg.mks.length - j) (mc - j)), (8, .slice (some ⟨bq, (i * 15), none⟩) (lg.sns.length - i) (sc - i)), (9, .int .i64 y.idx)]) (φ := (0 ≤ (0 : Int) ∧ (0 : Int) < (((lg.sns.length - i) : Nat) : Int)) ∧ (bq = bq ∧ cellsAre cs' (i * 15) [.int .i64 y.idx]) ∧ True) (rest := []) h90 (by kernel_rfl) rfl ⟨⟨by omega, by omega⟩, ⟨rfl, (pt_idx hc87)⟩, trivial⟩ fun a92 h93 => ?_
            clear h90
            refine nd_done ?_
            refine hK84 _ _ ?_
            clear hK84
            refine wp_seq_k fun K94 hK94 => ?_
            refine wp_seq_k fun K95 hK95 => ?_
            refine nd_start (l := [0, 1, 2, 3]) rfl ?_
            refine nd_batch tabOk tabZ_ok [(0, {}), (1, {})] [0, 1, 4, 5, 6, 7, 8, 9, 77, 78] (T' := [(0, .pointer (some ⟨bl, 0, none⟩)), (1, .pointer (some ⟨bq, off, none⟩)), (4, .pointer (some ⟨b2, 0, none⟩)), (5, .pointer (some ⟨b14, 0, none⟩)), (6, .int .i64 good), (7, .slice (some ⟨b72, (j * 2), none⟩) (lg.mks.length - j) (mc - j)), (8, .slice (some ⟨bq, (i * 15), none⟩) (lg.sns.length - i) (sc - i)), (9, .int .i64 y.idx), (77, .int .i64 y.idx), (78, .pointer (some ⟨bl, 0, none⟩))]) (φ := True) (rest := [2, 3]) h93 (by kernel_rfl) rfl trivial fun a96 h97 => ?_
            clear h93
            refine nd_op ?_
            refine op_call h97 rfl rfl rfl (callOk Tryf.func41 (by decide) rfl) (args := [.pointer (some ⟨bl, 0, none⟩)]) rfl (end_ok bl lg.base eo lg.evs.length ec (.slice (some ⟨b72, 0, none⟩) lg.mks.length mc) (.slice (some ⟨bq, 0, none⟩) lg.sns.length sc) true _ (h97.kn (k := 0) rfl) hb0 (by omega) (by omega)) ?_
            rintro _ w98 ⟨rfl, hf100⟩
            refine ⟨_, rfl, ?_⟩
            have h99 := (h97.grow hf100).put (d := some 79) (v := .int .i64 (lg.base.idx + (lg.evs.length : Int))) (T' := [(79, .int .i64 (lg.base.idx + (lg.evs.length : Int))), (0, .pointer (some ⟨bl, 0, none⟩)), (1, .pointer (some ⟨bq, off, none⟩)), (4, .pointer (some ⟨b2, 0, none⟩)), (5, .pointer (some ⟨b14, 0, none⟩)), (6, .int .i64 good), (7, .slice (some ⟨b72, (j * 2), none⟩) (lg.mks.length - j) (mc - j)), (8, .slice (some ⟨bq, (i * 15), none⟩) (lg.sns.length - i) (sc - i)), (9, .int .i64 y.idx), (77, .int .i64 y.idx), (78, .pointer (some ⟨bl, 0, none⟩))]) rfl
            clear h97
            refine nd_batch tabOk tabZ_ok [(3, {})] [0, 1, 4, 5, 6, 7, 8, 9, 80] (T' := [(0, .pointer (some ⟨bl, 0, none⟩)), (1, .pointer (some ⟨bq, off, none⟩)), (4, .pointer (some ⟨b2, 0, none⟩)), (5, .pointer (some ⟨b14, 0, none⟩)), (6, .int .i64 good), (7, .slice (some ⟨b72, (j * 2), none⟩) (lg.mks.length - j) (mc - j)), (8, .slice (some ⟨bq, (i * 15), none⟩) (lg.sns.length - i) (sc - i)), (9, .int .i64 y.idx), (80, .bool (decide (y.idx > (lg.base.idx + (lg.evs.length : Int)))))]) (φ := True) (rest := []) h99 (by kernel_rfl) rfl trivial fun a101 h102 => ?_
            clear h99
            refine nd_done ?_
            refine hK95 _ _ ?_
            clear hK95
            refine c_split h102 (b := decide (y.idx > (lg.base.idx + (lg.evs.length : Int)))) rfl (fun hc103 => ?_) (fun hc103 => ?_)
            ·
              have hc103f : y.idx > (lg.base.idx + (lg.evs.length : Int)) := by simpa using hc103
              have hnx : nextOf lg.fin (lg.mks.drop j) (lg.sns.drop i) = y.idx := by rw [next_ms (fin := lg.fin) hx hy, if_pos (by omega)]
              have hfin : lg.fin < y.idx := hc103f
              refine wp_seq_k fun K104 hK104 => ?_
              refine nd_start (l := [0, 1, 2, 3]) rfl ?_
              refine nd_batch tabOk tabZ_ok [(0, {}), (1, {})] [0, 1, 4, 5, 6, 7, 8, 9, 81, 82] (T' := [(0, .pointer (some ⟨bl, 0, none⟩)), (1, .pointer (some ⟨bq, off, none⟩)), (4, .pointer (some ⟨b2, 0, none⟩)), (5, .pointer (some ⟨b14, 0, none⟩)), (6, .int .i64 good), (7, .slice (some ⟨b72, (j * 2), none⟩) (lg.mks.length - j) (mc - j)), (8, .slice (some ⟨bq, (i * 15), none⟩) (lg.sns.length - i) (sc - i)), (9, .int .i64 y.idx), (81, .pointer (some ⟨bl, 0, none⟩)), (82, .pointer (some ⟨bl, 0, none⟩))]) (φ := True) (rest := [2, 3]) h102 (by kernel_rfl) rfl trivial fun a105 h106 => ?_
              clear h102
              refine nd_op ?_
              refine op_call h106 rfl rfl rfl (callOk Tryf.func41 (by decide) rfl) (args := [.pointer (some ⟨bl, 0, none⟩)]) rfl (end_ok bl lg.base eo lg.evs.length ec (.slice (some ⟨b72, 0, none⟩) lg.mks.length mc) (.slice (some ⟨bq, 0, none⟩) lg.sns.length sc) true _ (h106.kn (k := 0) rfl) hb0 (by omega) (by omega)) ?_
              rintro _ w107 ⟨rfl, hf109⟩
              refine ⟨_, rfl, ?_⟩
              have h108 := (h106.grow hf109).put (d := some 83) (v := .int .i64 (lg.base.idx + (lg.evs.length : Int))) (T' := [(83, .int .i64 (lg.base.idx + (lg.evs.length : Int))), (0, .pointer (some ⟨bl, 0, none⟩)), (1, .pointer (some ⟨bq, off, none⟩)), (4, .pointer (some ⟨b2, 0, none⟩)), (5, .pointer (some ⟨b14, 0, none⟩)), (6, .int .i64 good), (7, .slice (some ⟨b72, (j * 2), none⟩) (lg.mks.length - j) (mc - j)), (8, .slice (some ⟨bq, (i * 15), none⟩) (lg.sns.length - i) (sc - i)), (9, .int .i64 y.idx), (81, .pointer (some ⟨bl, 0, none⟩)), (82, .pointer (some ⟨bl, 0, none⟩))]) rfl
              clear h106
              refine nd_op ?_
              refine op_call h108 rfl rfl rfl (callOk Tryf.func44 (by decide) rfl) (args := [.pointer (some ⟨b14, 0, none⟩), .pointer (some ⟨bl, 0, none⟩), .int .i64 (lg.base.idx + (lg.evs.length : Int))]) rfl (run_ok b14 bl ⟨eo, ec, eF, (some ⟨b72, 0, none⟩), mc, [b72], (some ⟨bq, 0, none⟩), sc, [bq]⟩ lg _ (LogAt.of (d := ⟨eo, ec, eF, (some ⟨b72, 0, none⟩), mc, [b72], (some ⟨bq, 0, none⟩), sc, [bq]⟩) (h108.kn (k := 0) rfl) h108.inv hsep) m' o' pos' (lg.base.idx + (lg.evs.length : Int)) q ((lg.base.idx + (lg.evs.length : Int)) - pos').toNat (h108.kn (k := 3) rfl) (h108.ne 3 0 rfl rfl rfl) (h108.dj (k := 3) rfl rfl) hev hmok hq (by omega) (by omega) (by omega) hb0 (by omega)) ?_
              rintro _ w110 ⟨rfl, hbs, hf112⟩
              refine ⟨_, rfl, ?_⟩
              have h111 := (h108.setBlk (k := 3) rfl rfl hf112 hbs (L' := [(bl, ⟨logC lg.base (.slice eo lg.evs.length ec) (.slice (some ⟨b72, 0, none⟩) lg.mks.length mc) (.slice (some ⟨bq, 0, none⟩) lg.sns.length sc), 89, true⟩), (bq, ⟨cs', 84, true⟩), (b2, ⟨[.int .i64 0, .int .i64 0, .int .i64 0], 114, false⟩), (b14, ⟨curC ((runF (seg lg.evs q ((lg.base.idx + (lg.evs.length : Int)) - pos').toNat) (m', o')).1) ((runF (seg lg.evs q ((lg.base.idx + (lg.evs.length : Int)) - pos').toNat) (m', o')).2) (lg.base.idx + (lg.evs.length : Int)), 105, false⟩), (b72, ⟨cs73, 93, true⟩)]) rfl).put (d := some 84) (v := .tuple #[]) (T' := [(84, .tuple #[]), (83, .int .i64 (lg.base.idx + (lg.evs.length : Int))), (0, .pointer (some ⟨bl, 0, none⟩)), (1, .pointer (some ⟨bq, off, none⟩)), (4, .pointer (some ⟨b2, 0, none⟩)), (5, .pointer (some ⟨b14, 0, none⟩)), (6, .int .i64 good), (7, .slice (some ⟨b72, (j * 2), none⟩) (lg.mks.length - j) (mc - j)), (8, .slice (some ⟨bq, (i * 15), none⟩) (lg.sns.length - i) (sc - i)), (9, .int .i64 y.idx), (81, .pointer (some ⟨bl, 0, none⟩)), (82, .pointer (some ⟨bl, 0, none⟩))]) rfl
              clear h108
              refine nd_done ?_
              refine hK104 _ _ ?_
              clear hK104
              refine wp_seq_k fun K113 hK113 => ?_
              refine dr_start (KB := [bl, bq, b2, b14, b72]) (Bi := [[0, 1, 2, 3, 4], [0, 1, 2, 3, 4], [0, 1, 2, 3, 4], [0, 1, 2, 3, 4], [0, 1, 2, 3, 4], [0, 1, 2, 3, 4], [0, 1, 2, 3, 4], [0, 1, 2, 3, 4], [0, 1, 2, 3, 4], []]) mixed h111 fun w114 h115 => ?_
              clear h111
              refine dr_batch tabOk tabZ_ok (by repeat (first | exact PF.body | with_reducible apply PF.inB | with_reducible apply PF.next)) [(0, {}), (1, {}), (2, {k := 3, p := 3}), (3, {}), (4, {}), (5, {}), (6, {k := 1, m := 1, vs := [.int .i64 p.idx], p := 1}), (7, {}), (8, {})] [0, 1, 4, 5, 6, 7, 8, 9, 93] (T' := [(0, .pointer (some ⟨bl, 0, none⟩)), (1, .pointer (some ⟨bq, off, none⟩)), (4, .pointer (some ⟨b2, 0, none⟩)), (5, .pointer (some ⟨b14, 0, none⟩)), (6, .int .i64 good), (7, .slice (some ⟨b72, (j * 2), none⟩) (lg.mks.length - j) (mc - j)), (8, .slice (some ⟨bq, (i * 15), none⟩) (lg.sns.length - i) (sc - i)), (9, .int .i64 y.idx), (93, .agg #[.int .i64 (-1), .int .i64 good, .int .i64 ((lg.base.idx + (lg.evs.length : Int)) - p.idx)])]) (φ := (b14 = b14 ∧ Nat.ble (14 + 1) 15 = true) ∧ (bq = bq ∧ cellsAre cs' off [.int .i64 p.idx]) ∧ inR .i64 ((lg.base.idx + (lg.evs.length : Int)) - p.idx) ∧ True) (fuel := 1) h115 (by kernel_rfl) rfl (by kernel_rfl) (by kernel_rfl) ⟨trivial, trivial, rfl, trivial, trivial, trivial, rfl, trivial, trivial, trivial⟩ ⟨⟨rfl, rfl⟩, ⟨rfl, (pt_idx hp)⟩, ⟨by omega, by omega⟩, trivial⟩ fun a117 h118 => ?_
              clear h115
              refine wpAnyK_one (i := 9) (fuel := 0) (by kernel_rfl) ?_
              refine op_store tabOk {k := 2} (L' := [(bl, ⟨logC lg.base (.slice eo lg.evs.length ec) (.slice (some ⟨b72, 0, none⟩) lg.mks.length mc) (.slice (some ⟨bq, 0, none⟩) lg.sns.length sc), 89, true⟩), (bq, ⟨cs', 84, true⟩), (b2, ⟨[.int .i64 (-1), .int .i64 good, .int .i64 ((lg.base.idx + (lg.evs.length : Int)) - p.idx)], 114, false⟩), (b14, ⟨curC ((runF (seg lg.evs q ((lg.base.idx + (lg.evs.length : Int)) - pos').toNat) (m', o')).1) ((runF (seg lg.evs q ((lg.base.idx + (lg.evs.length : Int)) - pos').toNat) (m', o')).2) (lg.base.idx + (lg.evs.length : Int)), 105, false⟩), (b72, ⟨cs73, 93, true⟩)]) (φ := b2 = b2 ∧ Nat.ble (0 + 3) 3 = true) h118 rfl rfl rfl (by kernel_rfl) ⟨rfl, rfl⟩ fun w119 h120 => ?_
              have hkh120 := h118.known
              refine ⟨keepNil, ?_⟩
              clear h118
              refine wpAnyK_done (by kernel_rfl) ?_ _
              refine hK113 _ _ ?_
              clear hK113
              refine wp_ret ?_
              have hres := hv.symm.trans (vloop_end hnx hfin)
              try simp only [Exit.then, Exit.inBlock]
              try rw [if_pos trivial]
              exact s_ret tabOk tabZ_ok h120 [(.cell 4 114, {k := 2})] (vs := [.agg #[.int .i64 (-1), .int .i64 good, .int .i64 ((lg.base.idx + (lg.evs.length : Int)) - p.idx)]]) (φ := (b2 = b2 ∧ Nat.ble (0 + 3) 3 = true) ∧ True) rfl (by kernel_rfl) ⟨⟨rfl, rfl⟩, trivial⟩ ⟨by rw [hres]; rfl, h120.frame⟩
            ·
              have hc103f : ¬ y.idx > (lg.base.idx + (lg.evs.length : Int)) := by simpa using hc103
              have hnx : nextOf lg.fin (lg.mks.drop j) (lg.sns.drop i) = y.idx := by rw [next_ms (fin := lg.fin) hx hy, if_pos (by omega)]
              have hfin : ¬ lg.fin < y.idx := hc103f
              have hnp : pos' ≤ y.idx := by omega
              have hmok2 := runF_ok (seg lg.evs q (y.idx - pos').toNat) (m', o') hmok (seg_ok hev _ _)
              have hs2 : runF (seg lg.evs (pos' - lg.base.idx).toNat (y.idx - pos').toNat) (m', o') = runF (seg lg.evs q (y.idx - pos').toNat) (m', o') := by rw [show (pos' - lg.base.idx).toNat = q by omega]
              simp only [Lg.fin] at hfin
              refine wp_skip ?_
              refine hK94 _ _ ?_
              clear hK94
              refine wp_seq_k fun K121 hK121 => ?_
              refine nd_start (l := [0, 1, 2]) rfl ?_
              refine nd_batch tabOk tabZ_ok [(0, {}), (1, {})] [0, 1, 4, 5, 6, 7, 8, 9, 94, 95] (T' := [(0, .pointer (some ⟨bl, 0, none⟩)), (1, .pointer (some ⟨bq, off, none⟩)), (4, .pointer (some ⟨b2, 0, none⟩)), (5, .pointer (some ⟨b14, 0, none⟩)), (6, .int .i64 good), (7, .slice (some ⟨b72, (j * 2), none⟩) (lg.mks.length - j) (mc - j)), (8, .slice (some ⟨bq, (i * 15), none⟩) (lg.sns.length - i) (sc - i)), (9, .int .i64 y.idx), (94, .pointer (some ⟨bl, 0, none⟩)), (95, .int .i64 y.idx)]) (φ := True) (rest := [2]) h102 (by kernel_rfl) rfl trivial fun a122 h123 => ?_
              clear h102
              refine nd_op ?_
              refine op_call h123 rfl rfl rfl (callOk Tryf.func44 (by decide) rfl) (args := [.pointer (some ⟨b14, 0, none⟩), .pointer (some ⟨bl, 0, none⟩), .int .i64 y.idx]) rfl (run_ok b14 bl ⟨eo, ec, eF, (some ⟨b72, 0, none⟩), mc, [b72], (some ⟨bq, 0, none⟩), sc, [bq]⟩ lg _ (LogAt.of (d := ⟨eo, ec, eF, (some ⟨b72, 0, none⟩), mc, [b72], (some ⟨bq, 0, none⟩), sc, [bq]⟩) (h123.kn (k := 0) rfl) h123.inv hsep) m' o' pos' y.idx q (y.idx - pos').toNat (h123.kn (k := 3) rfl) (h123.ne 3 0 rfl rfl rfl) (h123.dj (k := 3) rfl rfl) hev hmok hq (by omega) (by omega) (by omega) hb0 (by omega)) ?_
              rintro _ w124 ⟨rfl, hbs, hf126⟩
              refine ⟨_, rfl, ?_⟩
              have h125 := (h123.setBlk (k := 3) rfl rfl hf126 hbs (L' := [(bl, ⟨logC lg.base (.slice eo lg.evs.length ec) (.slice (some ⟨b72, 0, none⟩) lg.mks.length mc) (.slice (some ⟨bq, 0, none⟩) lg.sns.length sc), 89, true⟩), (bq, ⟨cs', 84, true⟩), (b2, ⟨[.int .i64 0, .int .i64 0, .int .i64 0], 114, false⟩), (b14, ⟨curC ((runF (seg lg.evs q (y.idx - pos').toNat) (m', o')).1) ((runF (seg lg.evs q (y.idx - pos').toNat) (m', o')).2) y.idx, 105, false⟩), (b72, ⟨cs73, 93, true⟩)]) rfl).put (d := some 96) (v := .tuple #[]) (T' := [(96, .tuple #[]), (0, .pointer (some ⟨bl, 0, none⟩)), (1, .pointer (some ⟨bq, off, none⟩)), (4, .pointer (some ⟨b2, 0, none⟩)), (5, .pointer (some ⟨b14, 0, none⟩)), (6, .int .i64 good), (7, .slice (some ⟨b72, (j * 2), none⟩) (lg.mks.length - j) (mc - j)), (8, .slice (some ⟨bq, (i * 15), none⟩) (lg.sns.length - i) (sc - i)), (9, .int .i64 y.idx), (94, .pointer (some ⟨bl, 0, none⟩)), (95, .int .i64 y.idx)]) rfl
              clear h123
              refine nd_done ?_
              refine hK121 _ _ ?_
              clear hK121
              refine wp_seq_k fun K127 hK127 => ?_
              refine wp_block ?_
              rw [← winA_some b72 2 hlt81] at h125
              rw [← winA_some bq 15 hlt88] at h125
              have hm128 : ∀ (j' : Nat) (ca : Act) (cw : World), (j' ≤ lg.mks.length) → (j ≤ j') → (vm y.idx (dig (runF (seg lg.evs q (y.idx - pos').toNat) (m', o')).1) (lg.mks.drop j) = some (lg.mks.drop j')) → (∀ z, lg.mks[j']? = some z → z.idx ≠ y.idx) → St ⟨165, [], w, Rws [rl evC 31 3 lg.evs eo ec eF, rl mkC 93 2 lg.mks (some ⟨b72, 0, none⟩) mc ([b72]), rl ptC 84 15 lg.sns (some ⟨bq, 0, none⟩) sc ([bq])], Ff [rl evC 31 3 lg.evs eo ec eF, rl mkC 93 2 lg.mks (some ⟨b72, 0, none⟩) mc ([b72]), rl ptC 84 15 lg.sns (some ⟨bq, 0, none⟩) sc ([bq])]⟩ [(0, .pointer (some ⟨bl, 0, none⟩)), (1, .pointer (some ⟨bq, off, none⟩)), (4, .pointer (some ⟨b2, 0, none⟩)), (5, .pointer (some ⟨b14, 0, none⟩)), (6, .int .i64 good), (9, .int .i64 y.idx), (7, .slice (winA (some ⟨b72, 0, none⟩) mc j' 2) (lg.mks.length - j') (mc - j')), (8, .slice (winA (some ⟨bq, 0, none⟩) sc i 15) (lg.sns.length - i) (sc - i))] [(bl, ⟨logC lg.base (.slice eo lg.evs.length ec) (.slice (some ⟨b72, 0, none⟩) lg.mks.length mc) (.slice (some ⟨bq, 0, none⟩) lg.sns.length sc), 89, true⟩), (bq, ⟨cs', 84, true⟩), (b2, ⟨[.int .i64 0, .int .i64 0, .int .i64 0], 114, false⟩), (b14, ⟨curC ((runF (seg lg.evs q (y.idx - pos').toNat) (m', o')).1) ((runF (seg lg.evs q (y.idx - pos').toNat) (m', o')).2) y.idx, 105, false⟩), (b72, ⟨cs73, 93, true⟩)] ca cw → K127 ca cw := by
                intro j' a129 w130 hi132 hi133 hi134 hi135 h131
                have hj' := hi132
                have hle1 := hi133
                have hvm := hi134
                have hstop1 := hi135
                refine hK127 _ _ ?_
                clear hK127
                refine wp_seq_k fun K136 hK136 => ?_
                refine wp_block ?_
                have hm137 : ∀ (i' : Nat) (ca : Act) (cw : World), (i' ≤ lg.sns.length) → (i ≤ i') → (vs y.idx (runF (seg lg.evs q (y.idx - pos').toNat) (m', o')) (lg.sns.drop i) = some (lg.sns.drop i')) → (∀ z, lg.sns[i']? = some z → z.idx ≠ y.idx) → St ⟨165, [], w, Rws [rl evC 31 3 lg.evs eo ec eF, rl mkC 93 2 lg.mks (some ⟨b72, 0, none⟩) mc ([b72]), rl ptC 84 15 lg.sns (some ⟨bq, 0, none⟩) sc ([bq])], Ff [rl evC 31 3 lg.evs eo ec eF, rl mkC 93 2 lg.mks (some ⟨b72, 0, none⟩) mc ([b72]), rl ptC 84 15 lg.sns (some ⟨bq, 0, none⟩) sc ([bq])]⟩ [(0, .pointer (some ⟨bl, 0, none⟩)), (1, .pointer (some ⟨bq, off, none⟩)), (4, .pointer (some ⟨b2, 0, none⟩)), (5, .pointer (some ⟨b14, 0, none⟩)), (6, .int .i64 good), (9, .int .i64 y.idx), (8, .slice (winA (some ⟨bq, 0, none⟩) sc i' 15) (lg.sns.length - i') (sc - i')), (7, .slice (winA (some ⟨b72, 0, none⟩) mc j' 2) (lg.mks.length - j') (mc - j'))] [(bl, ⟨logC lg.base (.slice eo lg.evs.length ec) (.slice (some ⟨b72, 0, none⟩) lg.mks.length mc) (.slice (some ⟨bq, 0, none⟩) lg.sns.length sc), 89, true⟩), (bq, ⟨cs', 84, true⟩), (b2, ⟨[.int .i64 0, .int .i64 0, .int .i64 0], 114, false⟩), (b14, ⟨curC ((runF (seg lg.evs q (y.idx - pos').toNat) (m', o')).1) ((runF (seg lg.evs q (y.idx - pos').toNat) (m', o')).2) y.idx, 105, false⟩), (b72, ⟨cs73, 93, true⟩)] ca cw → K136 ca cw := by
                  intro i' a138 w139 hi141 hi142 hi143 hi144 h140
                  have hi' := hi141
                  have hle2 := hi142
                  have hvs := hi143
                  have hstop2 := hi144
                  have hprog : lg.mks.length - j' + (lg.sns.length - i') < lg.mks.length - j + (lg.sns.length - i) := by
                    have : i ≠ i' := by intro hjj; subst hjj; exact hstop2 y hy rfl
                    have := (List.getElem?_eq_some_iff.1 hy).1; omega
                  have hall : (∀ z, lg.mks[j]? = some z → y.idx ≤ z.idx) ∧ (∀ z, lg.sns[i]? = some z → y.idx ≤ z.idx) := by
                    refine ⟨fun z hz => ?_, fun z hz => ?_⟩
                    · rw [hx] at hz; cases hz; omega
                    · rw [hy] at hz; cases hz; omega
                  have hgm' : ∀ z ∈ lg.mks.drop j', y.idx ≤ z.idx := fun z hz => mk_ge hms hall.1 z ((List.drop_sublist_drop_left lg.mks hle1).mem hz)
                  have hgs' : ∀ z ∈ lg.sns.drop i', y.idx ≤ z.idx := fun z hz => pt_ge hsort hall.2 z ((List.drop_sublist_drop_left lg.sns hle2).mem hz)
                  refine hK136 _ _ ?_
                  clear hK136
                  refine nd_start (l := [0, 1]) rfl ?_
                  refine nd_batch tabOk tabZ_ok [(0, {}), (1, {})] [0, 1, 4, 5, 9, 8, 7, 6] (T' := [(0, .pointer (some ⟨bl, 0, none⟩)), (1, .pointer (some ⟨bq, off, none⟩)), (4, .pointer (some ⟨b2, 0, none⟩)), (5, .pointer (some ⟨b14, 0, none⟩)), (9, .int .i64 y.idx), (8, .slice (winA (some ⟨bq, 0, none⟩) sc i' 15) (lg.sns.length - i') (sc - i')), (7, .slice (winA (some ⟨b72, 0, none⟩) mc j' 2) (lg.mks.length - j') (mc - j')), (6, .int .i64 y.idx)]) (φ := True) (rest := []) h140 (by kernel_rfl) rfl trivial fun a145 h146 => ?_
                  clear h140
                  refine nd_done ?_
                  have h147 := h146.memMono (L' := [(bl, ⟨logC lg.base (.slice eo lg.evs.length ec) (.slice (some ⟨b72, 0, none⟩) lg.mks.length mc) (.slice (some ⟨bq, 0, none⟩) lg.sns.length sc), 89, true⟩), (bq, ⟨cs', 84, true⟩), (b2, ⟨[.int .i64 0, .int .i64 0, .int .i64 0], 114, false⟩), (b14, ⟨curC ((runF (seg lg.evs q (y.idx - pos').toNat) (m', o')).1) ((runF (seg lg.evs q (y.idx - pos').toNat) (m', o')).2) y.idx, 105, false⟩)]) (List.Sublist.cons_cons _ (List.Sublist.cons_cons _ (List.Sublist.cons_cons _ (List.Sublist.cons_cons _ (List.Sublist.cons _ List.Sublist.slnil)))))
                  clear h146
                  exact ⟨g, by omega, j', i', (runF (seg lg.evs q (y.idx - pos').toNat) (m', o')).1, (runF (seg lg.evs q (y.idx - pos').toNat) (m', o')).2, y.idx, y.idx, (y.idx - lg.base.idx).toNat, hj', hi', by omega, by omega, by omega, hmok2, hgm', hgs', by rw [← hv]; exact (vloop_next hnx hfin hs2 hvm hvs).symm, (h147.slotsMono (restr_spec (keep := [0, 1, 4, 5, 6, 7, 8]) rfl))⟩
                clear hK136
                refine wp_loop_ghost (fun gg ga gw => ∃ (i' : Nat), (i' ≤ lg.sns.length) ∧ (i ≤ i') ∧ (gg = lg.sns.length - i') ∧ (vs y.idx (runF (seg lg.evs q (y.idx - pos').toNat) (m', o')) (lg.sns.drop i) = vs y.idx (runF (seg lg.evs q (y.idx - pos').toNat) (m', o')) (lg.sns.drop i')) ∧ St ⟨165, [], w, Rws [rl evC 31 3 lg.evs eo ec eF, rl mkC 93 2 lg.mks (some ⟨b72, 0, none⟩) mc ([b72]), rl ptC 84 15 lg.sns (some ⟨bq, 0, none⟩) sc ([bq])], Ff [rl evC 31 3 lg.evs eo ec eF, rl mkC 93 2 lg.mks (some ⟨b72, 0, none⟩) mc ([b72]), rl ptC 84 15 lg.sns (some ⟨bq, 0, none⟩) sc ([bq])]⟩ [(0, .pointer (some ⟨bl, 0, none⟩)), (1, .pointer (some ⟨bq, off, none⟩)), (4, .pointer (some ⟨b2, 0, none⟩)), (5, .pointer (some ⟨b14, 0, none⟩)), (6, .int .i64 good), (9, .int .i64 y.idx), (8, .slice (winA (some ⟨bq, 0, none⟩) sc i' 15) (lg.sns.length - i') (sc - i')), (7, .slice (winA (some ⟨b72, 0, none⟩) mc j' 2) (lg.mks.length - j') (mc - j'))] [(bl, ⟨logC lg.base (.slice eo lg.evs.length ec) (.slice (some ⟨b72, 0, none⟩) lg.mks.length mc) (.slice (some ⟨bq, 0, none⟩) lg.sns.length sc), 89, true⟩), (bq, ⟨cs', 84, true⟩), (b2, ⟨[.int .i64 0, .int .i64 0, .int .i64 0], 114, false⟩), (b14, ⟨curC ((runF (seg lg.evs q (y.idx - pos').toNat) (m', o')).1) ((runF (seg lg.evs q (y.idx - pos').toNat) (m', o')).2) y.idx, 105, false⟩), (b72, ⟨cs73, 93, true⟩)] ga gw) (lg.sns.length - i) ⟨i, by omega, Nat.le_refl _, rfl, rfl, (h131.slotsMono (restr_spec (keep := [0, 1, 4, 5, 6, 9, 8, 7]) rfl))⟩ ?_
                clear h131
                rintro gg a148 w149 ⟨i', hi151, hi152, hi153, hi154, h150⟩
                refine wp_seq_k fun K155 hK155 => ?_
                refine wp_seq_k fun K156 hK156 => ?_
                rcases Bool.eq_false_or_eq_true (decide ((((lg.sns.length - i') : Nat) : Int) > 0)) with hb157 | hb157
                ·
                  have hb157f : (((lg.sns.length - i') : Nat) : Int) > 0 := by simpa using hb157
                  obtain ⟨y', hy'⟩ := Sx.get_some (xs := lg.sns) (i := i') (by omega)
                  have hc158 := rl_at (h150.inv.get (j := 2) rfl) (h150.kn (k := 1) rfl) ptC_len hy'
                  have hlt159 : i' < sc := by have h1 : lg.sns.length ≤ sc := rl_cap (h150.inv.get (j := 2) rfl); have h2 := (List.getElem?_eq_some_iff.1 hy').1; omega
                  rw [winA_some bq 15 hlt159] at h150
                  refine nd_start (l := [0, 1, 2, 3, 4, 5, 6, 7, 8, 9, 10]) rfl ?_
                  refine nd_batch tabOk tabZ_ok [(0, {}), (1, {}), (2, {f := 2}), (3, {}), (4, {}), (5, {}), (6, {}), (7, {k := 1, m := 1, vs := [.int .i64 y'.idx]}), (8, {}), (9, {}), (10, {})] [0, 1, 4, 5, 6, 9, 8, 7, 136] (T' := [(0, .pointer (some ⟨bl, 0, none⟩)), (1, .pointer (some ⟨bq, off, none⟩)), (4, .pointer (some ⟨b2, 0, none⟩)), (5, .pointer (some ⟨b14, 0, none⟩)), (6, .int .i64 good), (9, .int .i64 y.idx), (8, .slice (some ⟨bq, (i' * 15), none⟩) (lg.sns.length - i') (sc - i')), (7, .slice (winA (some ⟨b72, 0, none⟩) mc j' 2) (lg.mks.length - j') (mc - j')), (136, .bool (y'.idx == y.idx))]) (φ := (decide ((((lg.sns.length - i') : Nat) : Int) > 0)) = true ∧ (0 ≤ (0 : Int) ∧ (0 : Int) < (((lg.sns.length - i') : Nat) : Int)) ∧ (bq = bq ∧ cellsAre cs' (i' * 15) [.int .i64 y'.idx]) ∧ True) (rest := []) h150 (by kernel_rfl) rfl ⟨hb157, ⟨by omega, by omega⟩, ⟨rfl, (pt_idx hc158)⟩, trivial⟩ fun a160 h161 => ?_
                  clear h150
                  refine nd_done ?_
                  refine hK156 _ _ ?_
                  clear hK156
                  refine c_split h161 (b := (y'.idx == y.idx)) rfl (fun hc162 => ?_) (fun hc162 => ?_)
                  ·
                    have hc162f : y'.idx = y.idx := by simpa using hc162
                    have hxn : y'.idx = y.idx := hc162f
                    refine wp_skip ?_
                    refine hK155 _ _ ?_
                    clear hK155
                    refine wp_seq_k fun K163 hK163 => ?_
                    refine wp_block ?_
                    refine wp_seq_k fun K164 hK164 => ?_
                    rcases Bool.eq_false_or_eq_true ((Bool.xor true (machEq y'.st (runF (seg lg.evs q (y.idx - pos').toNat) (m', o')).1))) with hb165 | hb165
                    ·
                      have hme : machEq y'.st (runF (seg lg.evs q (y.idx - pos').toNat) (m', o')).1 = false := by simpa using hb165
                      have hvs := hi154.trans (vs_bad1 hy' hxn hme)
                      refine dr_start (KB := [bl, bq, b2, b14, b72]) (Bi := [[0, 1, 2, 3, 4], [0, 1, 2, 3, 4], [0, 1, 2, 3, 4], [0, 1, 2, 3, 4], [0, 1, 2, 3, 4], [0, 1, 2, 3, 4], [0, 1, 2, 3, 4], [0, 1, 2, 3, 4], [0, 1, 2, 3, 4], [0, 1, 2, 3, 4], [0, 1, 2, 3, 4], [0, 1, 2, 3, 4], [0, 1, 2, 3, 4], [0, 1, 2, 3, 4], [0, 1, 2, 3, 4], [0, 1, 2, 3, 4]]) mixed h161 fun w166 h167 => ?_
                      clear h161
                      refine dr_batch tabOk tabZ_ok (by repeat (first | exact PF.body | with_reducible apply PF.inB | with_reducible apply PF.next)) [(0, {}), (1, {}), (2, {}), (3, {k := 1, m := 1, vs := [.int .u64 y'.st.now, .int .i8 y'.st.cur, .int .u8 y'.st.s0, .int .u8 y'.st.s1, .int .u8 y'.st.s2, .int .u8 y'.st.s3, .int .u64 y'.st.r0, .int .u64 y'.st.r1, .int .u64 y'.st.r2, .int .u64 y'.st.r3, .int .u64 y'.st.word], p := 1}), (4, {}), (5, {k := 3, p := 3}), (6, {f := 2}), (7, {}), (8, {}), (9, {}), (10, {}), (11, {k := 0, p := 0}), (12, {}), (13, {k := 0, p := 0}), (14, {}), (15, {})] [0, 1, 4, 5, 6, 9, 8, 7, 154] (T' := [(0, .pointer (some ⟨bl, 0, none⟩)), (1, .pointer (some ⟨bq, off, none⟩)), (4, .pointer (some ⟨b2, 0, none⟩)), (5, .pointer (some ⟨b14, 0, none⟩)), (6, .int .i64 good), (9, .int .i64 y.idx), (8, .slice (some ⟨bq, (i' * 15), none⟩) (lg.sns.length - i') (sc - i')), (7, .slice (winA (some ⟨b72, 0, none⟩) mc j' 2) (lg.mks.length - j') (mc - j')), (154, .bool true)]) (φ := (0 ≤ (0 : Int) ∧ (0 : Int) < (((lg.sns.length - i') : Nat) : Int)) ∧ (bq = bq ∧ cellsAre cs' ((i' * 15) + 1) [.int .u64 y'.st.now, .int .i8 y'.st.cur, .int .u8 y'.st.s0, .int .u8 y'.st.s1, .int .u8 y'.st.s2, .int .u8 y'.st.s3, .int .u64 y'.st.r0, .int .u64 y'.st.r1, .int .u64 y'.st.r2, .int .u64 y'.st.r3, .int .u64 y'.st.word]) ∧ (b14 = b14 ∧ Nat.ble (0 + 11) 15 = true) ∧ EqRun Tryf.prog 58 (.agg #[.int .u64 y'.st.now, .int .i8 y'.st.cur, .int .u8 y'.st.s0, .int .u8 y'.st.s1, .int .u8 y'.st.s2, .int .u8 y'.st.s3, .int .u64 y'.st.r0, .int .u64 y'.st.r1, .int .u64 y'.st.r2, .int .u64 y'.st.r3, .int .u64 y'.st.word]) (.agg #[.int .u64 ((runF (seg lg.evs q (y.idx - pos').toNat) (m', o')).1.now), .int .i8 ((runF (seg lg.evs q (y.idx - pos').toNat) (m', o')).1.cur), .int .u8 ((runF (seg lg.evs q (y.idx - pos').toNat) (m', o')).1.s0), .int .u8 ((runF (seg lg.evs q (y.idx - pos').toNat) (m', o')).1.s1), .int .u8 ((runF (seg lg.evs q (y.idx - pos').toNat) (m', o')).1.s2), .int .u8 ((runF (seg lg.evs q (y.idx - pos').toNat) (m', o')).1.s3), .int .u64 ((runF (seg lg.evs q (y.idx - pos').toNat) (m', o')).1.r0), .int .u64 ((runF (seg lg.evs q (y.idx - pos').toNat) (m', o')).1.r1), .int .u64 ((runF (seg lg.evs q (y.idx - pos').toNat) (m', o')).1.r2), .int .u64 ((runF (seg lg.evs q (y.idx - pos').toNat) (m', o')).1.r3), .int .u64 ((runF (seg lg.evs q (y.idx - pos').toNat) (m', o')).1.word)]) false ∧ True) (fuel := 0) h167 (by kernel_rfl) rfl (by kernel_rfl) (by kernel_rfl) ⟨trivial, trivial, trivial, rfl, trivial, rfl, trivial, trivial, trivial, trivial, trivial, rfl, trivial, rfl, trivial, trivial, trivial⟩ ⟨⟨by omega, by omega⟩, ⟨rfl, (pt_st hc158)⟩, ⟨rfl, rfl⟩, (by have hq := run46 y'.st (runF (seg lg.evs q (y.idx - pos').toNat) (m', o')).1; rw [show machEq y'.st (runF (seg lg.evs q (y.idx - pos').toNat) (m', o')).1 = false by simpa using hb165] at hq; exact hq), trivial⟩ fun a169 h170 => ?_
                      clear h167
                      refine wpAnyK_done (by kernel_rfl) ?_ _
                      refine hK164 _ _ ?_
                      clear hK164
                      refine c_true h170 rfl ?_
                      refine wp_seq_k fun K171 hK171 => ?_
                      refine nd_start (l := [0, 1, 2, 3, 4, 5, 6, 7, 8, 9]) rfl ?_
                      refine nd_batch tabOk tabZ_ok [(0, {}), (1, {}), (2, {}), (3, {}), (4, {}), (5, {}), (6, {k := 1, m := 1, vs := [.int .i64 p.idx]}), (7, {}), (8, {})] [0, 1, 4, 5, 6, 9, 8, 7, 163] (T' := [(0, .pointer (some ⟨bl, 0, none⟩)), (1, .pointer (some ⟨bq, off, none⟩)), (4, .pointer (some ⟨b2, 0, none⟩)), (5, .pointer (some ⟨b14, 0, none⟩)), (6, .int .i64 good), (9, .int .i64 y.idx), (8, .slice (some ⟨bq, (i' * 15), none⟩) (lg.sns.length - i') (sc - i')), (7, .slice (winA (some ⟨b72, 0, none⟩) mc j' 2) (lg.mks.length - j') (mc - j')), (163, .agg #[.int .i64 y.idx, .int .i64 good, .int .i64 (y.idx - p.idx)])]) (φ := (bq = bq ∧ cellsAre cs' off [.int .i64 p.idx]) ∧ inR .i64 (y.idx - p.idx) ∧ True) (rest := [9]) h170 (by kernel_rfl) rfl ⟨⟨rfl, (pt_idx hp)⟩, ⟨by omega, by omega⟩, trivial⟩ fun a172 h173 => ?_
                      clear h170
                      refine nd_op ?_
                      refine op_store tabOk {k := 2} (L' := [(bl, ⟨logC lg.base (.slice eo lg.evs.length ec) (.slice (some ⟨b72, 0, none⟩) lg.mks.length mc) (.slice (some ⟨bq, 0, none⟩) lg.sns.length sc), 89, true⟩), (bq, ⟨cs', 84, true⟩), (b2, ⟨[.int .i64 y.idx, .int .i64 good, .int .i64 (y.idx - p.idx)], 114, false⟩), (b14, ⟨curC ((runF (seg lg.evs q (y.idx - pos').toNat) (m', o')).1) ((runF (seg lg.evs q (y.idx - pos').toNat) (m', o')).2) y.idx, 105, false⟩), (b72, ⟨cs73, 93, true⟩)]) (φ := b2 = b2 ∧ Nat.ble (0 + 3) 3 = true) h173 rfl rfl rfl (by kernel_rfl) ⟨rfl, rfl⟩ fun w174 h175 => ?_
                      clear h173
                      refine nd_done ?_
                      refine hK171 _ _ ?_
                      clear hK171
                      refine wp_ret ?_
                      have hres := hv.symm.trans (vloop_snap hnx hfin hs2 hvm hvs)
                      try simp only [Exit.then, Exit.inBlock]
                      try rw [if_pos trivial]
                      exact s_ret tabOk tabZ_ok h175 [(.cell 4 114, {k := 2})] (vs := [.agg #[.int .i64 y.idx, .int .i64 good, .int .i64 (y.idx - p.idx)]]) (φ := (b2 = b2 ∧ Nat.ble (0 + 3) 3 = true) ∧ True) rfl (by kernel_rfl) ⟨⟨rfl, rfl⟩, trivial⟩ ⟨by rw [hres]; rfl, h175.frame⟩
                    ·
                      have hme : machEq y'.st (runF (seg lg.evs q (y.idx - pos').toNat) (m', o')).1 = true := by simpa using hb165
                      refine dr_start (KB := [bl, bq, b2, b14, b72]) (Bi := [[0, 1, 2, 3, 4], [0, 1, 2, 3, 4], [0, 1, 2, 3, 4], [0, 1, 2, 3, 4], [0, 1, 2, 3, 4], [0, 1, 2, 3, 4], [0, 1, 2, 3, 4], [0, 1, 2, 3, 4], [0, 1, 2, 3, 4], [0, 1, 2, 3, 4], [0, 1, 2, 3, 4], [0, 1, 2, 3, 4], [0, 1, 2, 3, 4], [0, 1, 2, 3, 4], [0, 1, 2, 3, 4], [0, 1, 2, 3, 4]]) mixed h161 fun w176 h177 => ?_
                      clear h161
                      refine dr_batch tabOk tabZ_ok (by repeat (first | exact PF.body | with_reducible apply PF.inB | with_reducible apply PF.next)) [(0, {}), (1, {}), (2, {}), (3, {k := 1, m := 1, vs := [.int .u64 y'.st.now, .int .i8 y'.st.cur, .int .u8 y'.st.s0, .int .u8 y'.st.s1, .int .u8 y'.st.s2, .int .u8 y'.st.s3, .int .u64 y'.st.r0, .int .u64 y'.st.r1, .int .u64 y'.st.r2, .int .u64 y'.st.r3, .int .u64 y'.st.word], p := 1}), (4, {}), (5, {k := 3, p := 3}), (6, {f := 1}), (7, {}), (8, {}), (9, {}), (10, {}), (11, {k := 1, m := 1, vs := [.bool y'.out.refused, .int .i8 y'.out.running, .int .u64 y'.out.value], p := 1}), (12, {}), (13, {k := 3, p := 3}), (14, {vs := [.bool (otEq y'.out (runF (seg lg.evs q (y.idx - pos').toNat) (m', o')).2)]}), (15, {})] [0, 1, 4, 5, 6, 9, 8, 7, 154] (T' := [(0, .pointer (some ⟨bl, 0, none⟩)), (1, .pointer (some ⟨bq, off, none⟩)), (4, .pointer (some ⟨b2, 0, none⟩)), (5, .pointer (some ⟨b14, 0, none⟩)), (6, .int .i64 good), (9, .int .i64 y.idx), (8, .slice (some ⟨bq, (i' * 15), none⟩) (lg.sns.length - i') (sc - i')), (7, .slice (winA (some ⟨b72, 0, none⟩) mc j' 2) (lg.mks.length - j') (mc - j')), (154, .bool (Bool.xor true (otEq y'.out (runF (seg lg.evs q (y.idx - pos').toNat) (m', o')).2)))]) (φ := (0 ≤ (0 : Int) ∧ (0 : Int) < (((lg.sns.length - i') : Nat) : Int)) ∧ (bq = bq ∧ cellsAre cs' ((i' * 15) + 1) [.int .u64 y'.st.now, .int .i8 y'.st.cur, .int .u8 y'.st.s0, .int .u8 y'.st.s1, .int .u8 y'.st.s2, .int .u8 y'.st.s3, .int .u64 y'.st.r0, .int .u64 y'.st.r1, .int .u64 y'.st.r2, .int .u64 y'.st.r3, .int .u64 y'.st.word]) ∧ (b14 = b14 ∧ Nat.ble (0 + 11) 15 = true) ∧ EqRun Tryf.prog 58 (.agg #[.int .u64 y'.st.now, .int .i8 y'.st.cur, .int .u8 y'.st.s0, .int .u8 y'.st.s1, .int .u8 y'.st.s2, .int .u8 y'.st.s3, .int .u64 y'.st.r0, .int .u64 y'.st.r1, .int .u64 y'.st.r2, .int .u64 y'.st.r3, .int .u64 y'.st.word]) (.agg #[.int .u64 ((runF (seg lg.evs q (y.idx - pos').toNat) (m', o')).1.now), .int .i8 ((runF (seg lg.evs q (y.idx - pos').toNat) (m', o')).1.cur), .int .u8 ((runF (seg lg.evs q (y.idx - pos').toNat) (m', o')).1.s0), .int .u8 ((runF (seg lg.evs q (y.idx - pos').toNat) (m', o')).1.s1), .int .u8 ((runF (seg lg.evs q (y.idx - pos').toNat) (m', o')).1.s2), .int .u8 ((runF (seg lg.evs q (y.idx - pos').toNat) (m', o')).1.s3), .int .u64 ((runF (seg lg.evs q (y.idx - pos').toNat) (m', o')).1.r0), .int .u64 ((runF (seg lg.evs q (y.idx - pos').toNat) (m', o')).1.r1), .int .u64 ((runF (seg lg.evs q (y.idx - pos').toNat) (m', o')).1.r2), .int .u64 ((runF (seg lg.evs q (y.idx - pos').toNat) (m', o')).1.r3), .int .u64 ((runF (seg lg.evs q (y.idx - pos').toNat) (m', o')).1.word)]) true ∧ (0 ≤ (0 : Int) ∧ (0 : Int) < (((lg.sns.length - i') : Nat) : Int)) ∧ (bq = bq ∧ cellsAre cs' ((i' * 15) + 12) [.bool y'.out.refused, .int .i8 y'.out.running, .int .u64 y'.out.value]) ∧ (b14 = b14 ∧ Nat.ble (11 + 3) 15 = true) ∧ EqRun Tryf.prog 44 (.agg #[.bool y'.out.refused, .int .i8 y'.out.running, .int .u64 y'.out.value]) (.agg #[.bool ((runF (seg lg.evs q (y.idx - pos').toNat) (m', o')).2.refused), .int .i8 ((runF (seg lg.evs q (y.idx - pos').toNat) (m', o')).2.running), .int .u64 ((runF (seg lg.evs q (y.idx - pos').toNat) (m', o')).2.value)]) (otEq y'.out (runF (seg lg.evs q (y.idx - pos').toNat) (m', o')).2) ∧ True) (fuel := 0) h177 (by kernel_rfl) rfl (by kernel_rfl) (by kernel_rfl) ⟨trivial, trivial, trivial, rfl, trivial, rfl, trivial, trivial, trivial, trivial, trivial, rfl, trivial, rfl, trivial, trivial, trivial⟩ ⟨⟨by omega, by omega⟩, ⟨rfl, (pt_st hc158)⟩, ⟨rfl, rfl⟩, (by have hq := run46 y'.st (runF (seg lg.evs q (y.idx - pos').toNat) (m', o')).1; rw [show machEq y'.st (runF (seg lg.evs q (y.idx - pos').toNat) (m', o')).1 = true by simpa using hb165] at hq; exact hq), ⟨by omega, by omega⟩, ⟨rfl, (pt_out hc158)⟩, ⟨rfl, rfl⟩, run39 y'.out (runF (seg lg.evs q (y.idx - pos').toNat) (m', o')).2, trivial⟩ fun a179 h180 => ?_
                      clear h177
                      refine wpAnyK_done (by kernel_rfl) ?_ _
                      refine hK164 _ _ ?_
                      clear hK164
                      refine c_split h180 (b := (Bool.xor true (otEq y'.out (runF (seg lg.evs q (y.idx - pos').toNat) (m', o')).2))) rfl (fun hc181 => ?_) (fun hc181 => ?_)
                      ·
                        have hoe : otEq y'.out (runF (seg lg.evs q (y.idx - pos').toNat) (m', o')).2 = false := by simpa using hc181
                        have hvs := hi154.trans (vs_bad2 hy' hxn hoe)
                        refine wp_seq_k fun K182 hK182 => ?_
                        refine nd_start (l := [0, 1, 2, 3, 4, 5, 6, 7, 8, 9]) rfl ?_
                        refine nd_batch tabOk tabZ_ok [(0, {}), (1, {}), (2, {}), (3, {}), (4, {}), (5, {}), (6, {k := 1, m := 1, vs := [.int .i64 p.idx]}), (7, {}), (8, {})] [0, 1, 4, 5, 6, 9, 8, 7, 163] (T' := [(0, .pointer (some ⟨bl, 0, none⟩)), (1, .pointer (some ⟨bq, off, none⟩)), (4, .pointer (some ⟨b2, 0, none⟩)), (5, .pointer (some ⟨b14, 0, none⟩)), (6, .int .i64 good), (9, .int .i64 y.idx), (8, .slice (some ⟨bq, (i' * 15), none⟩) (lg.sns.length - i') (sc - i')), (7, .slice (winA (some ⟨b72, 0, none⟩) mc j' 2) (lg.mks.length - j') (mc - j')), (163, .agg #[.int .i64 y.idx, .int .i64 good, .int .i64 (y.idx - p.idx)])]) (φ := (bq = bq ∧ cellsAre cs' off [.int .i64 p.idx]) ∧ inR .i64 (y.idx - p.idx) ∧ True) (rest := [9]) h180 (by kernel_rfl) rfl ⟨⟨rfl, (pt_idx hp)⟩, ⟨by omega, by omega⟩, trivial⟩ fun a183 h184 => ?_
                        clear h180
                        refine nd_op ?_
                        refine op_store tabOk {k := 2} (L' := [(bl, ⟨logC lg.base (.slice eo lg.evs.length ec) (.slice (some ⟨b72, 0, none⟩) lg.mks.length mc) (.slice (some ⟨bq, 0, none⟩) lg.sns.length sc), 89, true⟩), (bq, ⟨cs', 84, true⟩), (b2, ⟨[.int .i64 y.idx, .int .i64 good, .int .i64 (y.idx - p.idx)], 114, false⟩), (b14, ⟨curC ((runF (seg lg.evs q (y.idx - pos').toNat) (m', o')).1) ((runF (seg lg.evs q (y.idx - pos').toNat) (m', o')).2) y.idx, 105, false⟩), (b72, ⟨cs73, 93, true⟩)]) (φ := b2 = b2 ∧ Nat.ble (0 + 3) 3 = true) h184 rfl rfl rfl (by kernel_rfl) ⟨rfl, rfl⟩ fun w185 h186 => ?_
                        clear h184
                        refine nd_done ?_
                        refine hK182 _ _ ?_
                        clear hK182
                        refine wp_ret ?_
                        have hres := hv.symm.trans (vloop_snap hnx hfin hs2 hvm hvs)
                        try simp only [Exit.then, Exit.inBlock]
                        try rw [if_pos trivial]
                        exact s_ret tabOk tabZ_ok h186 [(.cell 4 114, {k := 2})] (vs := [.agg #[.int .i64 y.idx, .int .i64 good, .int .i64 (y.idx - p.idx)]]) (φ := (b2 = b2 ∧ Nat.ble (0 + 3) 3 = true) ∧ True) rfl (by kernel_rfl) ⟨⟨rfl, rfl⟩, trivial⟩ ⟨by rw [hres]; rfl, h186.frame⟩
                      ·
                        have hoe : otEq y'.out (runF (seg lg.evs q (y.idx - pos').toNat) (m', o')).2 = true := by simpa using hc181
                        have hsame := hi154.trans (vs_same hy' hxn hme hoe)
                        refine wp_skip ?_
                        refine hK163 _ _ ?_
                        clear hK163
                        refine nd_start (l := [0, 1, 2]) rfl ?_
                        refine nd_batch tabOk tabZ_ok [(0, {}), (1, {}), (2, {})] [0, 1, 4, 5, 6, 9, 7, 8] (T' := [(0, .pointer (some ⟨bl, 0, none⟩)), (1, .pointer (some ⟨bq, off, none⟩)), (4, .pointer (some ⟨b2, 0, none⟩)), (5, .pointer (some ⟨b14, 0, none⟩)), (6, .int .i64 good), (9, .int .i64 y.idx), (7, .slice (winA (some ⟨b72, 0, none⟩) mc j' 2) (lg.mks.length - j') (mc - j')), (8, .slice (sliceBase (some ⟨bq, (i' * 15), none⟩) (sc - i') 1 15) ((lg.sns.length - i') - 1) ((sc - i') - 1))]) (φ := (0 ≤ (1 : Int) ∧ (1 : Int) ≤ (((lg.sns.length - i') : Nat) : Int)) ∧ True) (rest := []) h180 (by kernel_rfl) rfl ⟨⟨by omega, by omega⟩, trivial⟩ fun a187 h188 => ?_
                        clear h180
                        refine nd_done ?_
                        have e189 : sliceBase (some ⟨bq, (i' * 15), none⟩) (sc - i') 1 15 = winA (some ⟨bq, 0, none⟩) sc (i' + 1) 15 := by rw [← winA_some bq 15 hlt159]; exact winA_succ 15 (.inr ⟨bq, rfl⟩) hlt159
                        have e190 : lg.sns.length - i' - 1 = lg.sns.length - (i' + 1) := by omega
                        have e191 : sc - i' - 1 = sc - (i' + 1) := by omega
                        rw [e189, e190, e191] at h188
                        exact ⟨(gg - 1), by omega, (i' + 1), by omega, by omega, by omega, hsame, (h188.slotsMono (restr_spec (keep := [0, 1, 4, 5, 6, 9, 8, 7]) rfl))⟩
                  ·
                    have hc162f : y'.idx ≠ y.idx := by simpa using hc162
                    refine wp_exit ?_
                    rw [← winA_some bq 15 hlt159] at h161
                    have hstop : ∀ z, lg.sns[i']? = some z → z.idx ≠ y.idx := (by intro z hz; rw [hy'] at hz; cases hz; exact hc162f)
                    exact hm137 i' _ _ hi151 hi152 (hi154.trans (vs_stop hstop)) hstop (h161.slotsMono (restr_spec (keep := [0, 1, 4, 5, 6, 9, 8, 7]) rfl))
                ·
                  have hb157f : ¬ (((lg.sns.length - i') : Nat) : Int) > 0 := by simpa using hb157
                  refine nd_start (l := [0, 1, 2, 3, 4, 5, 6, 7, 8, 9, 10]) rfl ?_
                  refine nd_batch tabOk tabZ_ok [(0, {}), (1, {}), (2, {f := 1}), (3, {}), (4, {}), (5, {}), (6, {}), (7, {}), (8, {}), (9, {}), (10, {})] [0, 1, 4, 5, 6, 9, 8, 7, 136] (T' := [(0, .pointer (some ⟨bl, 0, none⟩)), (1, .pointer (some ⟨bq, off, none⟩)), (4, .pointer (some ⟨b2, 0, none⟩)), (5, .pointer (some ⟨b14, 0, none⟩)), (6, .int .i64 good), (9, .int .i64 y.idx), (8, .slice (winA (some ⟨bq, 0, none⟩) sc i' 15) (lg.sns.length - i') (sc - i')), (7, .slice (winA (some ⟨b72, 0, none⟩) mc j' 2) (lg.mks.length - j') (mc - j')), (136, .bool false)]) (φ := (decide ((((lg.sns.length - i') : Nat) : Int) > 0)) = false ∧ True) (rest := []) h150 (by kernel_rfl) rfl ⟨hb157, trivial⟩ fun a192 h193 => ?_
                  clear h150
                  refine nd_done ?_
                  refine hK156 _ _ ?_
                  clear hK156
                  refine c_false h193 rfl ?_
                  refine wp_exit ?_
                  have hstop : ∀ z, lg.sns[i']? = some z → z.idx ≠ y.idx := (by intro z hz; have := (List.getElem?_eq_some_iff.1 hz).1; omega)
                  exact hm137 i' _ _ hi151 hi152 (hi154.trans (vs_stop hstop)) hstop (h193.slotsMono (restr_spec (keep := [0, 1, 4, 5, 6, 9, 8, 7]) rfl))
              clear hK127
              refine wp_loop_ghost (fun gg ga gw => ∃ (j' : Nat), (j' ≤ lg.mks.length) ∧ (j ≤ j') ∧ (gg = lg.mks.length - j') ∧ (vm y.idx (dig (runF (seg lg.evs q (y.idx - pos').toNat) (m', o')).1) (lg.mks.drop j) = vm y.idx (dig (runF (seg lg.evs q (y.idx - pos').toNat) (m', o')).1) (lg.mks.drop j')) ∧ St ⟨165, [], w, Rws [rl evC 31 3 lg.evs eo ec eF, rl mkC 93 2 lg.mks (some ⟨b72, 0, none⟩) mc ([b72]), rl ptC 84 15 lg.sns (some ⟨bq, 0, none⟩) sc ([bq])], Ff [rl evC 31 3 lg.evs eo ec eF, rl mkC 93 2 lg.mks (some ⟨b72, 0, none⟩) mc ([b72]), rl ptC 84 15 lg.sns (some ⟨bq, 0, none⟩) sc ([bq])]⟩ [(0, .pointer (some ⟨bl, 0, none⟩)), (1, .pointer (some ⟨bq, off, none⟩)), (4, .pointer (some ⟨b2, 0, none⟩)), (5, .pointer (some ⟨b14, 0, none⟩)), (6, .int .i64 good), (9, .int .i64 y.idx), (7, .slice (winA (some ⟨b72, 0, none⟩) mc j' 2) (lg.mks.length - j') (mc - j')), (8, .slice (winA (some ⟨bq, 0, none⟩) sc i 15) (lg.sns.length - i) (sc - i))] [(bl, ⟨logC lg.base (.slice eo lg.evs.length ec) (.slice (some ⟨b72, 0, none⟩) lg.mks.length mc) (.slice (some ⟨bq, 0, none⟩) lg.sns.length sc), 89, true⟩), (bq, ⟨cs', 84, true⟩), (b2, ⟨[.int .i64 0, .int .i64 0, .int .i64 0], 114, false⟩), (b14, ⟨curC ((runF (seg lg.evs q (y.idx - pos').toNat) (m', o')).1) ((runF (seg lg.evs q (y.idx - pos').toNat) (m', o')).2) y.idx, 105, false⟩), (b72, ⟨cs73, 93, true⟩)] ga gw) (lg.mks.length - j) ⟨j, by omega, Nat.le_refl _, rfl, rfl, (h125.slotsMono (restr_spec (keep := [0, 1, 4, 5, 6, 9, 7, 8]) rfl))⟩ ?_
              clear h125
              rintro gg a194 w195 ⟨j', hi197, hi198, hi199, hi200, h196⟩
              refine wp_seq_k fun K201 hK201 => ?_
              refine wp_seq_k fun K202 hK202 => ?_
              rcases Bool.eq_false_or_eq_true (decide ((((lg.mks.length - j') : Nat) : Int) > 0)) with hb203 | hb203
              ·
                have hb203f : (((lg.mks.length - j') : Nat) : Int) > 0 := by simpa using hb203
                obtain ⟨x', hx'⟩ := Sx.get_some (xs := lg.mks) (i := j') (by omega)
                have hc204 := rl_at (h196.inv.get (j := 1) rfl) (h196.kn (k := 4) rfl) mkC_len hx'
                have hlt205 : j' < mc := by have h1 : lg.mks.length ≤ mc := rl_cap (h196.inv.get (j := 1) rfl); have h2 := (List.getElem?_eq_some_iff.1 hx').1; omega
                rw [winA_some b72 2 hlt205] at h196
                refine nd_start (l := [0, 1, 2, 3, 4, 5, 6, 7, 8, 9, 10]) rfl ?_
                refine nd_batch tabOk tabZ_ok [(0, {}), (1, {}), (2, {f := 2}), (3, {}), (4, {}), (5, {}), (6, {}), (7, {k := 4, m := 1, vs := [.int .i64 x'.idx]}), (8, {}), (9, {}), (10, {})] [0, 1, 4, 5, 6, 9, 7, 8, 107] (T' := [(0, .pointer (some ⟨bl, 0, none⟩)), (1, .pointer (some ⟨bq, off, none⟩)), (4, .pointer (some ⟨b2, 0, none⟩)), (5, .pointer (some ⟨b14, 0, none⟩)), (6, .int .i64 good), (9, .int .i64 y.idx), (7, .slice (some ⟨b72, (j' * 2), none⟩) (lg.mks.length - j') (mc - j')), (8, .slice (winA (some ⟨bq, 0, none⟩) sc i 15) (lg.sns.length - i) (sc - i)), (107, .bool (x'.idx == y.idx))]) (φ := (decide ((((lg.mks.length - j') : Nat) : Int) > 0)) = true ∧ (0 ≤ (0 : Int) ∧ (0 : Int) < (((lg.mks.length - j') : Nat) : Int)) ∧ (b72 = b72 ∧ cellsAre cs73 (j' * 2) [.int .i64 x'.idx]) ∧ True) (rest := []) h196 (by kernel_rfl) rfl ⟨hb203, ⟨by omega, by omega⟩, ⟨rfl, ⟨(hc204).1, trivial⟩⟩, trivial⟩ fun a206 h207 => ?_
                clear h196
                refine nd_done ?_
                refine hK202 _ _ ?_
                clear hK202
                refine c_split h207 (b := (x'.idx == y.idx)) rfl (fun hc208 => ?_) (fun hc208 => ?_)
                ·
                  have hc208f : x'.idx = y.idx := by simpa using hc208
                  have hxn : x'.idx = y.idx := hc208f
                  refine wp_skip ?_
                  refine hK201 _ _ ?_
                  clear hK201
                  refine wp_seq_k fun K209 hK209 => ?_
                  refine wp_block ?_
                  refine wp_seq_k fun K210 hK210 => ?_
                  refine dr_start (KB := [bl, bq, b2, b14, b72]) (Bi := [[0, 1, 2, 3, 4], [0, 1, 2, 3, 4], [0, 1, 2, 3, 4], [0, 1, 2, 3, 4], [0, 1, 2, 3, 4], [4], [0, 1, 2, 3, 4]]) mixed h207 fun w211 h212 => ?_
                  clear h207
                  refine dr_batch tabOk tabZ_ok (by repeat (first | exact PF.body | with_reducible apply PF.inB | with_reducible apply PF.next)) [(0, {}), (1, {}), (2, {}), (3, {k := 4, m := 1, vs := [.int .u64 x'.sum], p := 4}), (4, {})] [0, 1, 4, 5, 6, 9, 7, 8, 113, 114] (T' := [(0, .pointer (some ⟨bl, 0, none⟩)), (1, .pointer (some ⟨bq, off, none⟩)), (4, .pointer (some ⟨b2, 0, none⟩)), (5, .pointer (some ⟨b14, 0, none⟩)), (6, .int .i64 good), (9, .int .i64 y.idx), (7, .slice (some ⟨b72, (j' * 2), none⟩) (lg.mks.length - j') (mc - j')), (8, .slice (winA (some ⟨bq, 0, none⟩) sc i 15) (lg.sns.length - i) (sc - i)), (113, .int .u64 x'.sum), (114, .pointer (some ⟨b14, 0, none⟩))]) (φ := (0 ≤ (0 : Int) ∧ (0 : Int) < (((lg.mks.length - j') : Nat) : Int)) ∧ (b72 = b72 ∧ cellsAre cs73 ((j' * 2) + 1) [.int .u64 x'.sum]) ∧ True) (fuel := 2) h212 (by kernel_rfl) rfl (by kernel_rfl) (by kernel_rfl) ⟨trivial, trivial, trivial, rfl, trivial, trivial⟩ ⟨⟨by omega, by omega⟩, ⟨rfl, ⟨(hc204).2.1, trivial⟩⟩, trivial⟩ fun a214 h215 => ?_
                  clear h212
                  refine wpAnyK_one (i := 5) (fuel := 1) (by kernel_rfl) ?_
                  refine op_call h215 rfl rfl rfl (callOk Tryf.func51 (by decide) rfl) (args := [.pointer (some ⟨b14, 0, none⟩)]) rfl (digest_ok [] (outC (runF (seg lg.evs q (y.idx - pos').toNat) (m', o')).2 ++ [.int .i64 y.idx]) (runF (seg lg.evs q (y.idx - pos').toNat) (m', o')).1 hmok2 b14 105 false _ (h215.kn (k := 3) rfl)) ?_
                  rintro _ w216 ⟨rfl, hf218⟩
                  refine ⟨_, rfl, ?_⟩
                  have h217 := (h215.grow hf218).put (d := some 115) (v := .int .u64 (dig (runF (seg lg.evs q (y.idx - pos').toNat) (m', o')).1)) (T' := [(115, .int .u64 (dig (runF (seg lg.evs q (y.idx - pos').toNat) (m', o')).1)), (0, .pointer (some ⟨bl, 0, none⟩)), (1, .pointer (some ⟨bq, off, none⟩)), (4, .pointer (some ⟨b2, 0, none⟩)), (5, .pointer (some ⟨b14, 0, none⟩)), (6, .int .i64 good), (9, .int .i64 y.idx), (7, .slice (some ⟨b72, (j' * 2), none⟩) (lg.mks.length - j') (mc - j')), (8, .slice (winA (some ⟨bq, 0, none⟩) sc i 15) (lg.sns.length - i) (sc - i)), (113, .int .u64 x'.sum), (114, .pointer (some ⟨b14, 0, none⟩))]) rfl
                  refine ⟨(h215.keepFr hf218 (kcons (by simp) knil)), ?_⟩
                  clear h215
                  refine dr_batch tabOk tabZ_ok (by repeat (first | exact PF.body | with_reducible apply PF.inB | with_reducible apply PF.next)) [(6, {})] [0, 1, 4, 5, 6, 9, 7, 8, 116] (T' := [(0, .pointer (some ⟨bl, 0, none⟩)), (1, .pointer (some ⟨bq, off, none⟩)), (4, .pointer (some ⟨b2, 0, none⟩)), (5, .pointer (some ⟨b14, 0, none⟩)), (6, .int .i64 good), (9, .int .i64 y.idx), (7, .slice (some ⟨b72, (j' * 2), none⟩) (lg.mks.length - j') (mc - j')), (8, .slice (winA (some ⟨bq, 0, none⟩) sc i 15) (lg.sns.length - i) (sc - i)), (116, .bool (x'.sum != (dig (runF (seg lg.evs q (y.idx - pos').toNat) (m', o')).1)))]) (φ := True) (fuel := 0) h217 (by kernel_rfl) rfl (by kernel_rfl) (by kernel_rfl) ⟨trivial, trivial⟩ trivial fun a219 h220 => ?_
                  clear h217
                  refine wpAnyK_done (by kernel_rfl) ?_ _
                  refine hK210 _ _ ?_
                  clear hK210
                  refine c_split h220 (b := (x'.sum != (dig (runF (seg lg.evs q (y.idx - pos').toNat) (m', o')).1))) rfl (fun hc221 => ?_) (fun hc221 => ?_)
                  ·
                    have hc221f : x'.sum ≠ (dig (runF (seg lg.evs q (y.idx - pos').toNat) (m', o')).1) := by simpa using hc221
                    have hvm := hi200.trans (vm_bad hx' hxn hc221f)
                    refine wp_seq_k fun K222 hK222 => ?_
                    refine nd_start (l := [0, 1, 2, 3, 4, 5, 6, 7, 8, 9]) rfl ?_
                    refine nd_batch tabOk tabZ_ok [(0, {}), (1, {}), (2, {}), (3, {}), (4, {}), (5, {}), (6, {k := 1, m := 1, vs := [.int .i64 p.idx]}), (7, {}), (8, {})] [0, 1, 4, 5, 6, 9, 7, 8, 125] (T' := [(0, .pointer (some ⟨bl, 0, none⟩)), (1, .pointer (some ⟨bq, off, none⟩)), (4, .pointer (some ⟨b2, 0, none⟩)), (5, .pointer (some ⟨b14, 0, none⟩)), (6, .int .i64 good), (9, .int .i64 y.idx), (7, .slice (some ⟨b72, (j' * 2), none⟩) (lg.mks.length - j') (mc - j')), (8, .slice (winA (some ⟨bq, 0, none⟩) sc i 15) (lg.sns.length - i) (sc - i)), (125, .agg #[.int .i64 y.idx, .int .i64 good, .int .i64 (y.idx - p.idx)])]) (φ := (bq = bq ∧ cellsAre cs' off [.int .i64 p.idx]) ∧ inR .i64 (y.idx - p.idx) ∧ True) (rest := [9]) h220 (by kernel_rfl) rfl ⟨⟨rfl, (pt_idx hp)⟩, ⟨by omega, by omega⟩, trivial⟩ fun a223 h224 => ?_
                    clear h220
                    refine nd_op ?_
                    refine op_store tabOk {k := 2} (L' := [(bl, ⟨logC lg.base (.slice eo lg.evs.length ec) (.slice (some ⟨b72, 0, none⟩) lg.mks.length mc) (.slice (some ⟨bq, 0, none⟩) lg.sns.length sc), 89, true⟩), (bq, ⟨cs', 84, true⟩), (b2, ⟨[.int .i64 y.idx, .int .i64 good, .int .i64 (y.idx - p.idx)], 114, false⟩), (b14, ⟨curC ((runF (seg lg.evs q (y.idx - pos').toNat) (m', o')).1) ((runF (seg lg.evs q (y.idx - pos').toNat) (m', o')).2) y.idx, 105, false⟩), (b72, ⟨cs73, 93, true⟩)]) (φ := b2 = b2 ∧ Nat.ble (0 + 3) 3 = true) h224 rfl rfl rfl (by kernel_rfl) ⟨rfl, rfl⟩ fun w225 h226 => ?_
                    clear h224
                    refine nd_done ?_
                    refine hK222 _ _ ?_
                    clear hK222
                    refine wp_ret ?_
                    have hres := hv.symm.trans (vloop_mark hnx hfin hs2 hvm)
                    try simp only [Exit.then, Exit.inBlock]
                    try rw [if_pos trivial]
                    exact s_ret tabOk tabZ_ok h226 [(.cell 4 114, {k := 2})] (vs := [.agg #[.int .i64 y.idx, .int .i64 good, .int .i64 (y.idx - p.idx)]]) (φ := (b2 = b2 ∧ Nat.ble (0 + 3) 3 = true) ∧ True) rfl (by kernel_rfl) ⟨⟨rfl, rfl⟩, trivial⟩ ⟨by rw [hres]; rfl, h226.frame⟩
                  ·
                    have hc221f : x'.sum = (dig (runF (seg lg.evs q (y.idx - pos').toNat) (m', o')).1) := by simpa using hc221
                    have hsame := hi200.trans (vm_same hx' hxn hc221f)
                    refine wp_skip ?_
                    refine hK209 _ _ ?_
                    clear hK209
                    refine nd_start (l := [0, 1, 2]) rfl ?_
                    refine nd_batch tabOk tabZ_ok [(0, {}), (1, {}), (2, {})] [0, 1, 4, 5, 6, 9, 8, 7] (T' := [(0, .pointer (some ⟨bl, 0, none⟩)), (1, .pointer (some ⟨bq, off, none⟩)), (4, .pointer (some ⟨b2, 0, none⟩)), (5, .pointer (some ⟨b14, 0, none⟩)), (6, .int .i64 good), (9, .int .i64 y.idx), (8, .slice (winA (some ⟨bq, 0, none⟩) sc i 15) (lg.sns.length - i) (sc - i)), (7, .slice (sliceBase (some ⟨b72, (j' * 2), none⟩) (mc - j') 1 2) ((lg.mks.length - j') - 1) ((mc - j') - 1))]) (φ := (0 ≤ (1 : Int) ∧ (1 : Int) ≤ (((lg.mks.length - j') : Nat) : Int)) ∧ True) (rest := []) h220 (by kernel_rfl) rfl ⟨⟨by omega, by omega⟩, trivial⟩ fun a227 h228 => ?_
                    clear h220
                    refine nd_done ?_
                    have e229 : sliceBase (some ⟨b72, (j' * 2), none⟩) (mc - j') 1 2 = winA (some ⟨b72, 0, none⟩) mc (j' + 1) 2 := by rw [← winA_some b72 2 hlt205]; exact winA_succ 2 (.inr ⟨b72, rfl⟩) hlt205
                    have e230 : lg.mks.length - j' - 1 = lg.mks.length - (j' + 1) := by omega
                    have e231 : mc - j' - 1 = mc - (j' + 1) := by omega
                    rw [e229, e230, e231] at h228
                    exact ⟨(gg - 1), by omega, (j' + 1), by omega, by omega, by omega, hsame, (h228.slotsMono (restr_spec (keep := [0, 1, 4, 5, 6, 9, 7, 8]) rfl))⟩
                ·
                  have hc208f : x'.idx ≠ y.idx := by simpa using hc208
                  refine wp_exit ?_
                  rw [← winA_some b72 2 hlt205] at h207
                  have hstop : ∀ z, lg.mks[j']? = some z → z.idx ≠ y.idx := (by intro z hz; rw [hx'] at hz; cases hz; exact hc208f)
                  exact hm128 j' _ _ hi197 hi198 (hi200.trans (vm_stop hstop)) hstop (h207.slotsMono (restr_spec (keep := [0, 1, 4, 5, 6, 9, 7, 8]) rfl))
              ·
                have hb203f : ¬ (((lg.mks.length - j') : Nat) : Int) > 0 := by simpa using hb203
                refine nd_start (l := [0, 1, 2, 3, 4, 5, 6, 7, 8, 9, 10]) rfl ?_
                refine nd_batch tabOk tabZ_ok [(0, {}), (1, {}), (2, {f := 1}), (3, {}), (4, {}), (5, {}), (6, {}), (7, {}), (8, {}), (9, {}), (10, {})] [0, 1, 4, 5, 6, 9, 7, 8, 107] (T' := [(0, .pointer (some ⟨bl, 0, none⟩)), (1, .pointer (some ⟨bq, off, none⟩)), (4, .pointer (some ⟨b2, 0, none⟩)), (5, .pointer (some ⟨b14, 0, none⟩)), (6, .int .i64 good), (9, .int .i64 y.idx), (7, .slice (winA (some ⟨b72, 0, none⟩) mc j' 2) (lg.mks.length - j') (mc - j')), (8, .slice (winA (some ⟨bq, 0, none⟩) sc i 15) (lg.sns.length - i) (sc - i)), (107, .bool false)]) (φ := (decide ((((lg.mks.length - j') : Nat) : Int) > 0)) = false ∧ True) (rest := []) h196 (by kernel_rfl) rfl ⟨hb203, trivial⟩ fun a232 h233 => ?_
                clear h196
                refine nd_done ?_
                refine hK202 _ _ ?_
                clear hK202
                refine c_false h233 rfl ?_
                refine wp_exit ?_
                have hstop : ∀ z, lg.mks[j']? = some z → z.idx ≠ y.idx := (by intro z hz; have := (List.getElem?_eq_some_iff.1 hz).1; omega)
                exact hm128 j' _ _ hi197 hi198 (hi200.trans (vm_stop hstop)) hstop (h233.slotsMono (restr_spec (keep := [0, 1, 4, 5, 6, 9, 7, 8]) rfl))
          ·
            have hc91f : ¬ y.idx < x.idx := by simpa using hc91
            refine wp_skip ?_
            refine hK84 _ _ ?_
            clear hK84
            refine wp_seq_k fun K234 hK234 => ?_
            refine wp_seq_k fun K235 hK235 => ?_
            refine nd_start (l := [0, 1, 2, 3]) rfl ?_
            refine nd_batch tabOk tabZ_ok [(0, {}), (1, {})] [0, 1, 4, 5, 6, 7, 8, 9, 77, 78] (T' := [(0, .pointer (some ⟨bl, 0, none⟩)), (1, .pointer (some ⟨bq, off, none⟩)), (4, .pointer (some ⟨b2, 0, none⟩)), (5, .pointer (some ⟨b14, 0, none⟩)), (6, .int .i64 good), (7, .slice (some ⟨b72, (j * 2), none⟩) (lg.mks.length - j) (mc - j)), (8, .slice (some ⟨bq, (i * 15), none⟩) (lg.sns.length - i) (sc - i)), (9, .int .i64 x.idx), (77, .int .i64 x.idx), (78, .pointer (some ⟨bl, 0, none⟩))]) (φ := True) (rest := [2, 3]) h90 (by kernel_rfl) rfl trivial fun a236 h237 => ?_
            clear h90
            refine nd_op ?_
            refine op_call h237 rfl rfl rfl (callOk Tryf.func41 (by decide) rfl) (args := [.pointer (some ⟨bl, 0, none⟩)]) rfl (end_ok bl lg.base eo lg.evs.length ec (.slice (some ⟨b72, 0, none⟩) lg.mks.length mc) (.slice (some ⟨bq, 0, none⟩) lg.sns.length sc) true _ (h237.kn (k := 0) rfl) hb0 (by omega) (by omega)) ?_
            rintro _ w238 ⟨rfl, hf240⟩
            refine ⟨_, rfl, ?_⟩
            have h239 := (h237.grow hf240).put (d := some 79) (v := .int .i64 (lg.base.idx + (lg.evs.length : Int))) (T' := [(79, .int .i64 (lg.base.idx + (lg.evs.length : Int))), (0, .pointer (some ⟨bl, 0, none⟩)), (1, .pointer (some ⟨bq, off, none⟩)), (4, .pointer (some ⟨b2, 0, none⟩)), (5, .pointer (some ⟨b14, 0, none⟩)), (6, .int .i64 good), (7, .slice (some ⟨b72, (j * 2), none⟩) (lg.mks.length - j) (mc - j)), (8, .slice (some ⟨bq, (i * 15), none⟩) (lg.sns.length - i) (sc - i)), (9, .int .i64 x.idx), (77, .int .i64 x.idx), (78, .pointer (some ⟨bl, 0, none⟩))]) rfl
            clear h237
            refine nd_batch tabOk tabZ_ok [(3, {})] [0, 1, 4, 5, 6, 7, 8, 9, 80] (T' := [(0, .pointer (some ⟨bl, 0, none⟩)), (1, .pointer (some ⟨bq, off, none⟩)), (4, .pointer (some ⟨b2, 0, none⟩)), (5, .pointer (some ⟨b14, 0, none⟩)), (6, .int .i64 good), (7, .slice (some ⟨b72, (j * 2), none⟩) (lg.mks.length - j) (mc - j)), (8, .slice (some ⟨bq, (i * 15), none⟩) (lg.sns.length - i) (sc - i)), (9, .int .i64 x.idx), (80, .bool (decide (x.idx > (lg.base.idx + (lg.evs.length : Int)))))]) (φ := True) (rest := []) h239 (by kernel_rfl) rfl trivial fun a241 h242 => ?_
            clear h239
            refine nd_done ?_
            refine hK235 _ _ ?_
            clear hK235
            refine c_split h242 (b := decide (x.idx > (lg.base.idx + (lg.evs.length : Int)))) rfl (fun hc243 => ?_) (fun hc243 => ?_)
            ·
              have hc243f : x.idx > (lg.base.idx + (lg.evs.length : Int)) := by simpa using hc243
              have hnx : nextOf lg.fin (lg.mks.drop j) (lg.sns.drop i) = x.idx := by rw [next_ms (fin := lg.fin) hx hy, if_neg (by omega)]
              have hfin : lg.fin < x.idx := hc243f
              refine wp_seq_k fun K244 hK244 => ?_
              refine nd_start (l := [0, 1, 2, 3]) rfl ?_
              refine nd_batch tabOk tabZ_ok [(0, {}), (1, {})] [0, 1, 4, 5, 6, 7, 8, 9, 81, 82] (T' := [(0, .pointer (some ⟨bl, 0, none⟩)), (1, .pointer (some ⟨bq, off, none⟩)), (4, .pointer (some ⟨b2, 0, none⟩)), (5, .pointer (some ⟨b14, 0, none⟩)), (6, .int .i64 good), (7, .slice (some ⟨b72, (j * 2), none⟩) (lg.mks.length - j) (mc - j)), (8, .slice (some ⟨bq, (i * 15), none⟩) (lg.sns.length - i) (sc - i)), (9, .int .i64 x.idx), (81, .pointer (some ⟨bl, 0, none⟩)), (82, .pointer (some ⟨bl, 0, none⟩))]) (φ := True) (rest := [2, 3]) h242 (by kernel_rfl) rfl trivial fun a245 h246 => ?_
              clear h242
              refine nd_op ?_
              refine op_call h246 rfl rfl rfl (callOk Tryf.func41 (by decide) rfl) (args := [.pointer (some ⟨bl, 0, none⟩)]) rfl (end_ok bl lg.base eo lg.evs.length ec (.slice (some ⟨b72, 0, none⟩) lg.mks.length mc) (.slice (some ⟨bq, 0, none⟩) lg.sns.length sc) true _ (h246.kn (k := 0) rfl) hb0 (by omega) (by omega)) ?_
              rintro _ w247 ⟨rfl, hf249⟩
              refine ⟨_, rfl, ?_⟩
              have h248 := (h246.grow hf249).put (d := some 83) (v := .int .i64 (lg.base.idx + (lg.evs.length : Int))) (T' := [(83, .int .i64 (lg.base.idx + (lg.evs.length : Int))), (0, .pointer (some ⟨bl, 0, none⟩)), (1, .pointer (some ⟨bq, off, none⟩)), (4, .pointer (some ⟨b2, 0, none⟩)), (5, .pointer (some ⟨b14, 0, none⟩)), (6, .int .i64 good), (7, .slice (some ⟨b72, (j * 2), none⟩) (lg.mks.length - j) (mc - j)), (8, .slice (some ⟨bq, (i * 15), none⟩) (lg.sns.length - i) (sc - i)), (9, .int .i64 x.idx), (81, .pointer (some ⟨bl, 0, none⟩)), (82, .pointer (some ⟨bl, 0, none⟩))]) rfl
              clear h246
              refine nd_op ?_
              refine op_call h248 rfl rfl rfl (callOk Tryf.func44 (by decide) rfl) (args := [.pointer (some ⟨b14, 0, none⟩), .pointer (some ⟨bl, 0, none⟩), .int .i64 (lg.base.idx + (lg.evs.length : Int))]) rfl (run_ok b14 bl ⟨eo, ec, eF, (some ⟨b72, 0, none⟩), mc, [b72], (some ⟨bq, 0, none⟩), sc, [bq]⟩ lg _ (LogAt.of (d := ⟨eo, ec, eF, (some ⟨b72, 0, none⟩), mc, [b72], (some ⟨bq, 0, none⟩), sc, [bq]⟩) (h248.kn (k := 0) rfl) h248.inv hsep) m' o' pos' (lg.base.idx + (lg.evs.length : Int)) q ((lg.base.idx + (lg.evs.length : Int)) - pos').toNat (h248.kn (k := 3) rfl) (h248.ne 3 0 rfl rfl rfl) (h248.dj (k := 3) rfl rfl) hev hmok hq (by omega) (by omega) (by omega) hb0 (by omega)) ?_
              rintro _ w250 ⟨rfl, hbs, hf252⟩
              refine ⟨_, rfl, ?_⟩
              have h251 := (h248.setBlk (k := 3) rfl rfl hf252 hbs (L' := [(bl, ⟨logC lg.base (.slice eo lg.evs.length ec) (.slice (some ⟨b72, 0, none⟩) lg.mks.length mc) (.slice (some ⟨bq, 0, none⟩) lg.sns.length sc), 89, true⟩), (bq, ⟨cs', 84, true⟩), (b2, ⟨[.int .i64 0, .int .i64 0, .int .i64 0], 114, false⟩), (b14, ⟨curC ((runF (seg lg.evs q ((lg.base.idx + (lg.evs.length : Int)) - pos').toNat) (m', o')).1) ((runF (seg lg.evs q ((lg.base.idx + (lg.evs.length : Int)) - pos').toNat) (m', o')).2) (lg.base.idx + (lg.evs.length : Int)), 105, false⟩), (b72, ⟨cs73, 93, true⟩)]) rfl).put (d := some 84) (v := .tuple #[]) (T' := [(84, .tuple #[]), (83, .int .i64 (lg.base.idx + (lg.evs.length : Int))), (0, .pointer (some ⟨bl, 0, none⟩)), (1, .pointer (some ⟨bq, off, none⟩)), (4, .pointer (some ⟨b2, 0, none⟩)), (5, .pointer (some ⟨b14, 0, none⟩)), (6, .int .i64 good), (7, .slice (some ⟨b72, (j * 2), none⟩) (lg.mks.length - j) (mc - j)), (8, .slice (some ⟨bq, (i * 15), none⟩) (lg.sns.length - i) (sc - i)), (9, .int .i64 x.idx), (81, .pointer (some ⟨bl, 0, none⟩)), (82, .pointer (some ⟨bl, 0, none⟩))]) rfl
              clear h248
              refine nd_done ?_
              refine hK244 _ _ ?_
              clear hK244
              refine wp_seq_k fun K253 hK253 => ?_
              refine dr_start (KB := [bl, bq, b2, b14, b72]) (Bi := [[0, 1, 2, 3, 4], [0, 1, 2, 3, 4], [0, 1, 2, 3, 4], [0, 1, 2, 3, 4], [0, 1, 2, 3, 4], [0, 1, 2, 3, 4], [0, 1, 2, 3, 4], [0, 1, 2, 3, 4], [0, 1, 2, 3, 4], []]) mixed h251 fun w254 h255 => ?_
              clear h251
              refine dr_batch tabOk tabZ_ok (by repeat (first | exact PF.body | with_reducible apply PF.inB | with_reducible apply PF.next)) [(0, {}), (1, {}), (2, {k := 3, p := 3}), (3, {}), (4, {}), (5, {}), (6, {k := 1, m := 1, vs := [.int .i64 p.idx], p := 1}), (7, {}), (8, {})] [0, 1, 4, 5, 6, 7, 8, 9, 93] (T' := [(0, .pointer (some ⟨bl, 0, none⟩)), (1, .pointer (some ⟨bq, off, none⟩)), (4, .pointer (some ⟨b2, 0, none⟩)), (5, .pointer (some ⟨b14, 0, none⟩)), (6, .int .i64 good), (7, .slice (some ⟨b72, (j * 2), none⟩) (lg.mks.length - j) (mc - j)), (8, .slice (some ⟨bq, (i * 15), none⟩) (lg.sns.length - i) (sc - i)), (9, .int .i64 x.idx), (93, .agg #[.int .i64 (-1), .int .i64 good, .int .i64 ((lg.base.idx + (lg.evs.length : Int)) - p.idx)])]) (φ := (b14 = b14 ∧ Nat.ble (14 + 1) 15 = true) ∧ (bq = bq ∧ cellsAre cs' off [.int .i64 p.idx]) ∧ inR .i64 ((lg.base.idx + (lg.evs.length : Int)) - p.idx) ∧ True) (fuel := 1) h255 (by kernel_rfl) rfl (by kernel_rfl) (by kernel_rfl) ⟨trivial, trivial, rfl, trivial, trivial, trivial, rfl, trivial, trivial, trivial⟩ ⟨⟨rfl, rfl⟩, ⟨rfl, (pt_idx hp)⟩, ⟨by omega, by omega⟩, trivial⟩ fun a257 h258 => ?_
              clear h255
              refine wpAnyK_one (i := 9) (fuel := 0) (by kernel_rfl) ?_
              refine op_store tabOk {k := 2} (L' := [(bl, ⟨logC lg.base (.slice eo lg.evs.length ec) (.slice (some ⟨b72, 0, none⟩) lg.mks.length mc) (.slice (some ⟨bq, 0, none⟩) lg.sns.length sc), 89, true⟩), (bq, ⟨cs', 84, true⟩), (b2, ⟨[.int .i64 (-1), .int .i64 good, .int .i64 ((lg.base.idx + (lg.evs.length : Int)) - p.idx)], 114, false⟩), (b14, ⟨curC ((runF (seg lg.evs q ((lg.base.idx + (lg.evs.length : Int)) - pos').toNat) (m', o')).1) ((runF (seg lg.evs q ((lg.base.idx + (lg.evs.length : Int)) - pos').toNat) (m', o')).2) (lg.base.idx + (lg.evs.length : Int)), 105, false⟩), (b72, ⟨cs73, 93, true⟩)]) (φ := b2 = b2 ∧ Nat.ble (0 + 3) 3 = true) h258 rfl rfl rfl (by kernel_rfl) ⟨rfl, rfl⟩ fun w259 h260 => ?_
              have hkh260 := h258.known
              refine ⟨keepNil, ?_⟩
              clear h258
              refine wpAnyK_done (by kernel_rfl) ?_ _
              refine hK253 _ _ ?_
              clear hK253
              refine wp_ret ?_
              have hres := hv.symm.trans (vloop_end hnx hfin)
              try simp only [Exit.then, Exit.inBlock]
              try rw [if_pos trivial]
              exact s_ret tabOk tabZ_ok h260 [(.cell 4 114, {k := 2})] (vs := [.agg #[.int .i64 (-1), .int .i64 good, .int .i64 ((lg.base.idx + (lg.evs.length : Int)) - p.idx)]]) (φ := (b2 = b2 ∧ Nat.ble (0 + 3) 3 = true) ∧ True) rfl (by kernel_rfl) ⟨⟨rfl, rfl⟩, trivial⟩ ⟨by rw [hres]; rfl, h260.frame⟩
            ·
              have hc243f : ¬ x.idx > (lg.base.idx + (lg.evs.length : Int)) := by simpa using hc243
              have hnx : nextOf lg.fin (lg.mks.drop j) (lg.sns.drop i) = x.idx := by rw [next_ms (fin := lg.fin) hx hy, if_neg (by omega)]
              have hfin : ¬ lg.fin < x.idx := hc243f
              have hnp : pos' ≤ x.idx := by omega
              have hmok2 := runF_ok (seg lg.evs q (x.idx - pos').toNat) (m', o') hmok (seg_ok hev _ _)
              have hs2 : runF (seg lg.evs (pos' - lg.base.idx).toNat (x.idx - pos').toNat) (m', o') = runF (seg lg.evs q (x.idx - pos').toNat) (m', o') := by rw [show (pos' - lg.base.idx).toNat = q by omega]
              simp only [Lg.fin] at hfin
              refine wp_skip ?_
              refine hK234 _ _ ?_
              clear hK234
              refine wp_seq_k fun K261 hK261 => ?_
              refine nd_start (l := [0, 1, 2]) rfl ?_
              refine nd_batch tabOk tabZ_ok [(0, {}), (1, {})] [0, 1, 4, 5, 6, 7, 8, 9, 94, 95] (T' := [(0, .pointer (some ⟨bl, 0, none⟩)), (1, .pointer (some ⟨bq, off, none⟩)), (4, .pointer (some ⟨b2, 0, none⟩)), (5, .pointer (some ⟨b14, 0, none⟩)), (6, .int .i64 good), (7, .slice (some ⟨b72, (j * 2), none⟩) (lg.mks.length - j) (mc - j)), (8, .slice (some ⟨bq, (i * 15), none⟩) (lg.sns.length - i) (sc - i)), (9, .int .i64 x.idx), (94, .pointer (some ⟨bl, 0, none⟩)), (95, .int .i64 x.idx)]) (φ := True) (rest := [2]) h242 (by kernel_rfl) rfl trivial fun a262 h263 => ?_
              clear h242
              refine nd_op ?_
              refine op_call h263 rfl rfl rfl (callOk Tryf.func44 (by decide) rfl) (args := [.pointer (some ⟨b14, 0, none⟩), .pointer (some ⟨bl, 0, none⟩), .int .i64 x.idx]) rfl (run_ok b14 bl ⟨eo, ec, eF, (some ⟨b72, 0, none⟩), mc, [b72], (some ⟨bq, 0, none⟩), sc, [bq]⟩ lg _ (LogAt.of (d := ⟨eo, ec, eF, (some ⟨b72, 0, none⟩), mc, [b72], (some ⟨bq, 0, none⟩), sc, [bq]⟩) (h263.kn (k := 0) rfl) h263.inv hsep) m' o' pos' x.idx q (x.idx - pos').toNat (h263.kn (k := 3) rfl) (h263.ne 3 0 rfl rfl rfl) (h263.dj (k := 3) rfl rfl) hev hmok hq (by omega) (by omega) (by omega) hb0 (by omega)) ?_
              rintro _ w264 ⟨rfl, hbs, hf266⟩
              refine ⟨_, rfl, ?_⟩
              have h265 := (h263.setBlk (k := 3) rfl rfl hf266 hbs (L' := [(bl, ⟨logC lg.base (.slice eo lg.evs.length ec) (.slice (some ⟨b72, 0, none⟩) lg.mks.length mc) (.slice (some ⟨bq, 0, none⟩) lg.sns.length sc), 89, true⟩), (bq, ⟨cs', 84, true⟩), (b2, ⟨[.int .i64 0, .int .i64 0, .int .i64 0], 114, false⟩), (b14, ⟨curC ((runF (seg lg.evs q (x.idx - pos').toNat) (m', o')).1) ((runF (seg lg.evs q (x.idx - pos').toNat) (m', o')).2) x.idx, 105, false⟩), (b72, ⟨cs73, 93, true⟩)]) rfl).put (d := some 96) (v := .tuple #[]) (T' := [(96, .tuple #[]), (0, .pointer (some ⟨bl, 0, none⟩)), (1, .pointer (some ⟨bq, off, none⟩)), (4, .pointer (some ⟨b2, 0, none⟩)), (5, .pointer (some ⟨b14, 0, none⟩)), (6, .int .i64 good), (7, .slice (some ⟨b72, (j * 2), none⟩) (lg.mks.length - j) (mc - j)), (8, .slice (some ⟨bq, (i * 15), none⟩) (lg.sns.length - i) (sc - i)), (9, .int .i64 x.idx), (94, .pointer (some ⟨bl, 0, none⟩)), (95, .int .i64 x.idx)]) rfl
              clear h263
              refine nd_done ?_
              refine hK261 _ _ ?_
              clear hK261
              refine wp_seq_k fun K267 hK267 => ?_
              refine wp_block ?_
              rw [← winA_some b72 2 hlt81] at h265
              rw [← winA_some bq 15 hlt88] at h265
              have hm268 : ∀ (j' : Nat) (ca : Act) (cw : World), (j' ≤ lg.mks.length) → (j ≤ j') → (vm x.idx (dig (runF (seg lg.evs q (x.idx - pos').toNat) (m', o')).1) (lg.mks.drop j) = some (lg.mks.drop j')) → (∀ z, lg.mks[j']? = some z → z.idx ≠ x.idx) → St ⟨165, [], w, Rws [rl evC 31 3 lg.evs eo ec eF, rl mkC 93 2 lg.mks (some ⟨b72, 0, none⟩) mc ([b72]), rl ptC 84 15 lg.sns (some ⟨bq, 0, none⟩) sc ([bq])], Ff [rl evC 31 3 lg.evs eo ec eF, rl mkC 93 2 lg.mks (some ⟨b72, 0, none⟩) mc ([b72]), rl ptC 84 15 lg.sns (some ⟨bq, 0, none⟩) sc ([bq])]⟩ [(0, .pointer (some ⟨bl, 0, none⟩)), (1, .pointer (some ⟨bq, off, none⟩)), (4, .pointer (some ⟨b2, 0, none⟩)), (5, .pointer (some ⟨b14, 0, none⟩)), (6, .int .i64 good), (9, .int .i64 x.idx), (7, .slice (winA (some ⟨b72, 0, none⟩) mc j' 2) (lg.mks.length - j') (mc - j')), (8, .slice (winA (some ⟨bq, 0, none⟩) sc i 15) (lg.sns.length - i) (sc - i))] [(bl, ⟨logC lg.base (.slice eo lg.evs.length ec) (.slice (some ⟨b72, 0, none⟩) lg.mks.length mc) (.slice (some ⟨bq, 0, none⟩) lg.sns.length sc), 89, true⟩), (bq, ⟨cs', 84, true⟩), (b2, ⟨[.int .i64 0, .int .i64 0, .int .i64 0], 114, false⟩), (b14, ⟨curC ((runF (seg lg.evs q (x.idx - pos').toNat) (m', o')).1) ((runF (seg lg.evs q (x.idx - pos').toNat) (m', o')).2) x.idx, 105, false⟩), (b72, ⟨cs73, 93, true⟩)] ca cw → K267 ca cw := by
                intro j' a269 w270 hi272 hi273 hi274 hi275 h271
                have hj' := hi272
                have hle1 := hi273
                have hvm := hi274
                have hstop1 := hi275
                refine hK267 _ _ ?_
                clear hK267
                refine wp_seq_k fun K276 hK276 => ?_
                refine wp_block ?_
                have hm277 : ∀ (i' : Nat) (ca : Act) (cw : World), (i' ≤ lg.sns.length) → (i ≤ i') → (vs x.idx (runF (seg lg.evs q (x.idx - pos').toNat) (m', o')) (lg.sns.drop i) = some (lg.sns.drop i')) → (∀ z, lg.sns[i']? = some z → z.idx ≠ x.idx) → St ⟨165, [], w, Rws [rl evC 31 3 lg.evs eo ec eF, rl mkC 93 2 lg.mks (some ⟨b72, 0, none⟩) mc ([b72]), rl ptC 84 15 lg.sns (some ⟨bq, 0, none⟩) sc ([bq])], Ff [rl evC 31 3 lg.evs eo ec eF, rl mkC 93 2 lg.mks (some ⟨b72, 0, none⟩) mc ([b72]), rl ptC 84 15 lg.sns (some ⟨bq, 0, none⟩) sc ([bq])]⟩ [(0, .pointer (some ⟨bl, 0, none⟩)), (1, .pointer (some ⟨bq, off, none⟩)), (4, .pointer (some ⟨b2, 0, none⟩)), (5, .pointer (some ⟨b14, 0, none⟩)), (6, .int .i64 good), (9, .int .i64 x.idx), (8, .slice (winA (some ⟨bq, 0, none⟩) sc i' 15) (lg.sns.length - i') (sc - i')), (7, .slice (winA (some ⟨b72, 0, none⟩) mc j' 2) (lg.mks.length - j') (mc - j'))] [(bl, ⟨logC lg.base (.slice eo lg.evs.length ec) (.slice (some ⟨b72, 0, none⟩) lg.mks.length mc) (.slice (some ⟨bq, 0, none⟩) lg.sns.length sc), 89, true⟩), (bq, ⟨cs', 84, true⟩), (b2, ⟨[.int .i64 0, .int .i64 0, .int .i64 0], 114, false⟩), (b14, ⟨curC ((runF (seg lg.evs q (x.idx - pos').toNat) (m', o')).1) ((runF (seg lg.evs q (x.idx - pos').toNat) (m', o')).2) x.idx, 105, false⟩), (b72, ⟨cs73, 93, true⟩)] ca cw → K276 ca cw := by
                  intro i' a278 w279 hi281 hi282 hi283 hi284 h280
                  have hi' := hi281
                  have hle2 := hi282
                  have hvs := hi283
                  have hstop2 := hi284
                  have hprog : lg.mks.length - j' + (lg.sns.length - i') < lg.mks.length - j + (lg.sns.length - i) := by
                    have : j ≠ j' := by intro hjj; subst hjj; exact hstop1 x hx rfl
                    have := (List.getElem?_eq_some_iff.1 hx).1; omega
                  have hall : (∀ z, lg.mks[j]? = some z → x.idx ≤ z.idx) ∧ (∀ z, lg.sns[i]? = some z → x.idx ≤ z.idx) := by
                    refine ⟨fun z hz => ?_, fun z hz => ?_⟩
                    · rw [hx] at hz; cases hz; omega
                    · rw [hy] at hz; cases hz; omega
                  have hgm' : ∀ z ∈ lg.mks.drop j', x.idx ≤ z.idx := fun z hz => mk_ge hms hall.1 z ((List.drop_sublist_drop_left lg.mks hle1).mem hz)
                  have hgs' : ∀ z ∈ lg.sns.drop i', x.idx ≤ z.idx := fun z hz => pt_ge hsort hall.2 z ((List.drop_sublist_drop_left lg.sns hle2).mem hz)
                  refine hK276 _ _ ?_
                  clear hK276
                  refine nd_start (l := [0, 1]) rfl ?_
                  refine nd_batch tabOk tabZ_ok [(0, {}), (1, {})] [0, 1, 4, 5, 9, 8, 7, 6] (T' := [(0, .pointer (some ⟨bl, 0, none⟩)), (1, .pointer (some ⟨bq, off, none⟩)), (4, .pointer (some ⟨b2, 0, none⟩)), (5, .pointer (some ⟨b14, 0, none⟩)), (9, .int .i64 x.idx), (8, .slice (winA (some ⟨bq, 0, none⟩) sc i' 15) (lg.sns.length - i') (sc - i')), (7, .slice (winA (some ⟨b72, 0, none⟩) mc j' 2) (lg.mks.length - j') (mc - j')), (6, .int .i64 x.idx)]) (φ := True) (rest := []) h280 (by kernel_rfl) rfl trivial fun a285 h286 => ?_
                  clear h280
                  refine nd_done ?_
                  have h287 := h286.memMono (L' := [(bl, ⟨logC lg.base (.slice eo lg.evs.length ec) (.slice (some ⟨b72, 0, none⟩) lg.mks.length mc) (.slice (some ⟨bq, 0, none⟩) lg.sns.length sc), 89, true⟩), (bq, ⟨cs', 84, true⟩), (b2, ⟨[.int .i64 0, .int .i64 0, .int .i64 0], 114, false⟩), (b14, ⟨curC ((runF (seg lg.evs q (x.idx - pos').toNat) (m', o')).1) ((runF (seg lg.evs q (x.idx - pos').toNat) (m', o')).2) x.idx, 105, false⟩)]) (List.Sublist.cons_cons _ (List.Sublist.cons_cons _ (List.Sublist.cons_cons _ (List.Sublist.cons_cons _ (List.Sublist.cons _ List.Sublist.slnil)))))
                  clear h286
                  exact ⟨g, by omega, j', i', (runF (seg lg.evs q (x.idx - pos').toNat) (m', o')).1, (runF (seg lg.evs q (x.idx - pos').toNat) (m', o')).2, x.idx, x.idx, (x.idx - lg.base.idx).toNat, hj', hi', by omega, by omega, by omega, hmok2, hgm', hgs', by rw [← hv]; exact (vloop_next hnx hfin hs2 hvm hvs).symm, (h287.slotsMono (restr_spec (keep := [0, 1, 4, 5, 6, 7, 8]) rfl))⟩
                clear hK276
                refine wp_loop_ghost (fun gg ga gw => ∃ (i' : Nat), (i' ≤ lg.sns.length) ∧ (i ≤ i') ∧ (gg = lg.sns.length - i') ∧ (vs x.idx (runF (seg lg.evs q (x.idx - pos').toNat) (m', o')) (lg.sns.drop i) = vs x.idx (runF (seg lg.evs q (x.idx - pos').toNat) (m', o')) (lg.sns.drop i')) ∧ St ⟨165, [], w, Rws [rl evC 31 3 lg.evs eo ec eF, rl mkC 93 2 lg.mks (some ⟨b72, 0, none⟩) mc ([b72]), rl ptC 84 15 lg.sns (some ⟨bq, 0, none⟩) sc ([bq])], Ff [rl evC 31 3 lg.evs eo ec eF, rl mkC 93 2 lg.mks (some ⟨b72, 0, none⟩) mc ([b72]), rl ptC 84 15 lg.sns (some ⟨bq, 0, none⟩) sc ([bq])]⟩ [(0, .pointer (some ⟨bl, 0, none⟩)), (1, .pointer (some ⟨bq, off, none⟩)), (4, .pointer (some ⟨b2, 0, none⟩)), (5, .pointer (some ⟨b14, 0, none⟩)), (6, .int .i64 good), (9, .int .i64 x.idx), (8, .slice (winA (some ⟨bq, 0, none⟩) sc i' 15) (lg.sns.length - i') (sc - i')), (7, .slice (winA (some ⟨b72, 0, none⟩) mc j' 2) (lg.mks.length - j') (mc - j'))] [(bl, ⟨logC lg.base (.slice eo lg.evs.length ec) (.slice (some ⟨b72, 0, none⟩) lg.mks.length mc) (.slice (some ⟨bq, 0, none⟩) lg.sns.length sc), 89, true⟩), (bq, ⟨cs', 84, true⟩), (b2, ⟨[.int .i64 0, .int .i64 0, .int .i64 0], 114, false⟩), (b14, ⟨curC ((runF (seg lg.evs q (x.idx - pos').toNat) (m', o')).1) ((runF (seg lg.evs q (x.idx - pos').toNat) (m', o')).2) x.idx, 105, false⟩), (b72, ⟨cs73, 93, true⟩)] ga gw) (lg.sns.length - i) ⟨i, by omega, Nat.le_refl _, rfl, rfl, (h271.slotsMono (restr_spec (keep := [0, 1, 4, 5, 6, 9, 8, 7]) rfl))⟩ ?_
                clear h271
                rintro gg a288 w289 ⟨i', hi291, hi292, hi293, hi294, h290⟩
                refine wp_seq_k fun K295 hK295 => ?_
                refine wp_seq_k fun K296 hK296 => ?_
                rcases Bool.eq_false_or_eq_true (decide ((((lg.sns.length - i') : Nat) : Int) > 0)) with hb297 | hb297
                ·
                  have hb297f : (((lg.sns.length - i') : Nat) : Int) > 0 := by simpa using hb297
                  obtain ⟨y', hy'⟩ := Sx.get_some (xs := lg.sns) (i := i') (by omega)
                  have hc298 := rl_at (h290.inv.get (j := 2) rfl) (h290.kn (k := 1) rfl) ptC_len hy'
                  have hlt299 : i' < sc := by have h1 : lg.sns.length ≤ sc := rl_cap (h290.inv.get (j := 2) rfl); have h2 := (List.getElem?_eq_some_iff.1 hy').1; omega
                  rw [winA_some bq 15 hlt299] at h290
                  refine nd_start (l := [0, 1, 2, 3, 4, 5, 6, 7, 8, 9, 10]) rfl ?_
                  refine nd_batch tabOk tabZ_ok [(0, {}), (1, {}), (2, {f := 2}), (3, {}), (4, {}), (5, {}), (6, {}), (7, {k := 1, m := 1, vs := [.int .i64 y'.idx]}), (8, {}), (9, {}), (10, {})] [0, 1, 4, 5, 6, 9, 8, 7, 136] (T' := [(0, .pointer (some ⟨bl, 0, none⟩)), (1, .pointer (some ⟨bq, off, none⟩)), (4, .pointer (some ⟨b2, 0, none⟩)), (5, .pointer (some ⟨b14, 0, none⟩)), (6, .int .i64 good), (9, .int .i64 x.idx), (8, .slice (some ⟨bq, (i' * 15), none⟩) (lg.sns.length - i') (sc - i')), (7, .slice (winA (some ⟨b72, 0, none⟩) mc j' 2) (lg.mks.length - j') (mc - j')), (136, .bool (y'.idx == x.idx))]) (φ := (decide ((((lg.sns.length - i') : Nat) : Int) > 0)) = true ∧ (0 ≤ (0 : Int) ∧ (0 : Int) < (((lg.sns.length - i') : Nat) : Int)) ∧ (bq = bq ∧ cellsAre cs' (i' * 15) [.int .i64 y'.idx]) ∧ True) (rest := []) h290 (by kernel_rfl) rfl ⟨hb297, ⟨by omega, by omega⟩, ⟨rfl, (pt_idx hc298)⟩, trivial⟩ fun a300 h301 => ?_
                  clear h290
                  refine nd_done ?_
                  refine hK296 _ _ ?_
                  clear hK296
                  refine c_split h301 (b := (y'.idx == x.idx)) rfl (fun hc302 => ?_) (fun hc302 => ?_)
                  ·
                    have hc302f : y'.idx = x.idx := by simpa using hc302
                    have hxn : y'.idx = x.idx := hc302f
                    refine wp_skip ?_
                    refine hK295 _ _ ?_
                    clear hK295
                    refine wp_seq_k fun K303 hK303 => ?_
                    refine wp_block ?_
                    refine wp_seq_k fun K304 hK304 => ?_
                    rcases Bool.eq_false_or_eq_true ((Bool.xor true (machEq y'.st (runF (seg lg.evs q (x.idx - pos').toNat) (m', o')).1))) with hb305 | hb305
                    ·
                      have hme : machEq y'.st (runF (seg lg.evs q (x.idx - pos').toNat) (m', o')).1 = false := by simpa using hb305
                      have hvs := hi294.trans (vs_bad1 hy' hxn hme)
                      refine dr_start (KB := [bl, bq, b2, b14, b72]) (Bi := [[0, 1, 2, 3, 4], [0, 1, 2, 3, 4], [0, 1, 2, 3, 4], [0, 1, 2, 3, 4], [0, 1, 2, 3, 4], [0, 1, 2, 3, 4], [0, 1, 2, 3, 4], [0, 1, 2, 3, 4], [0, 1, 2, 3, 4], [0, 1, 2, 3, 4], [0, 1, 2, 3, 4], [0, 1, 2, 3, 4], [0, 1, 2, 3, 4], [0, 1, 2, 3, 4], [0, 1, 2, 3, 4], [0, 1, 2, 3, 4]]) mixed h301 fun w306 h307 => ?_
                      clear h301
                      refine dr_batch tabOk tabZ_ok (by repeat (first | exact PF.body | with_reducible apply PF.inB | with_reducible apply PF.next)) [(0, {}), (1, {}), (2, {}), (3, {k := 1, m := 1, vs := [.int .u64 y'.st.now, .int .i8 y'.st.cur, .int .u8 y'.st.s0, .int .u8 y'.st.s1, .int .u8 y'.st.s2, .int .u8 y'.st.s3, .int .u64 y'.st.r0, .int .u64 y'.st.r1, .int .u64 y'.st.r2, .int .u64 y'.st.r3, .int .u64 y'.st.word], p := 1}), (4, {}), (5, {k := 3, p := 3}), (6, {f := 2}), (7, {}), (8, {}), (9, {}), (10, {}), (11, {k := 0, p := 0}), (12, {}), (13, {k := 0, p := 0}), (14, {}), (15, {})] [0, 1, 4, 5, 6, 9, 8, 7, 154] (T' := [(0, .pointer (some ⟨bl, 0, none⟩)), (1, .pointer (some ⟨bq, off, none⟩)), (4, .pointer (some ⟨b2, 0, none⟩)), (5, .pointer (some ⟨b14, 0, none⟩)), (6, .int .i64 good), (9, .int .i64 x.idx), (8, .slice (some ⟨bq, (i' * 15), none⟩) (lg.sns.length - i') (sc - i')), (7, .slice (winA (some ⟨b72, 0, none⟩) mc j' 2) (lg.mks.length - j') (mc - j')), (154, .bool true)]) (φ := (0 ≤ (0 : Int) ∧ (0 : Int) < (((lg.sns.length - i') : Nat) : Int)) ∧ (bq = bq ∧ cellsAre cs' ((i' * 15) + 1) [.int .u64 y'.st.now, .int .i8 y'.st.cur, .int .u8 y'.st.s0, .int .u8 y'.st.s1, .int .u8 y'.st.s2, .int .u8 y'.st.s3, .int .u64 y'.st.r0, .int .u64 y'.st.r1, .int .u64 y'.st.r2, .int .u64 y'.st.r3, .int .u64 y'.st.word]) ∧ (b14 = b14 ∧ Nat.ble (0 + 11) 15 = true) ∧ EqRun Tryf.prog 58 (.agg #[.int .u64 y'.st.now, .int .i8 y'.st.cur, .int .u8 y'.st.s0, .int .u8 y'.st.s1, .int .u8 y'.st.s2, .int .u8 y'.st.s3, .int .u64 y'.st.r0, .int .u64 y'.st.r1, .int .u64 y'.st.r2, .int .u64 y'.st.r3, .int .u64 y'.st.word]) (.agg #[.int .u64 ((runF (seg lg.evs q (x.idx - pos').toNat) (m', o')).1.now), .int .i8 ((runF (seg lg.evs q (x.idx - pos').toNat) (m', o')).1.cur), .int .u8 ((runF (seg lg.evs q (x.idx - pos').toNat) (m', o')).1.s0), .int .u8 ((runF (seg lg.evs q (x.idx - pos').toNat) (m', o')).1.s1), .int .u8 ((runF (seg lg.evs q (x.idx - pos').toNat) (m', o')).1.s2), .int .u8 ((runF (seg lg.evs q (x.idx - pos').toNat) (m', o')).1.s3), .int .u64 ((runF (seg lg.evs q (x.idx - pos').toNat) (m', o')).1.r0), .int .u64 ((runF (seg lg.evs q (x.idx - pos').toNat) (m', o')).1.r1), .int .u64 ((runF (seg lg.evs q (x.idx - pos').toNat) (m', o')).1.r2), .int .u64 ((runF (seg lg.evs q (x.idx - pos').toNat) (m', o')).1.r3), .int .u64 ((runF (seg lg.evs q (x.idx - pos').toNat) (m', o')).1.word)]) false ∧ True) (fuel := 0) h307 (by kernel_rfl) rfl (by kernel_rfl) (by kernel_rfl) ⟨trivial, trivial, trivial, rfl, trivial, rfl, trivial, trivial, trivial, trivial, trivial, rfl, trivial, rfl, trivial, trivial, trivial⟩ ⟨⟨by omega, by omega⟩, ⟨rfl, (pt_st hc298)⟩, ⟨rfl, rfl⟩, (by have hq := run46 y'.st (runF (seg lg.evs q (x.idx - pos').toNat) (m', o')).1; rw [show machEq y'.st (runF (seg lg.evs q (x.idx - pos').toNat) (m', o')).1 = false by simpa using hb305] at hq; exact hq), trivial⟩ fun a309 h310 => ?_
                      clear h307
                      refine wpAnyK_done (by kernel_rfl) ?_ _
                      refine hK304 _ _ ?_
                      clear hK304
                      refine c_true h310 rfl ?_
                      refine wp_seq_k fun K311 hK311 => ?_
                      refine nd_start (l := [0, 1, 2, 3, 4, 5, 6, 7, 8, 9]) rfl ?_
                      refine nd_batch tabOk tabZ_ok [(0, {}), (1, {}), (2, {}), (3, {}), (4, {}), (5, {}), (6, {k := 1, m := 1, vs := [.int .i64 p.idx]}), (7, {}), (8, {})] [0, 1, 4, 5, 6, 9, 8, 7, 163] (T' := [(0, .pointer (some ⟨bl, 0, none⟩)), (1, .pointer (some ⟨bq, off, none⟩)), (4, .pointer (some ⟨b2, 0, none⟩)), (5, .pointer (some ⟨b14, 0, none⟩)), (6, .int .i64 good), (9, .int .i64 x.idx), (8, .slice (some ⟨bq, (i' * 15), none⟩) (lg.sns.length - i') (sc - i')), (7, .slice (winA (some ⟨b72, 0, none⟩) mc j' 2) (lg.mks.length - j') (mc - j')), (163, .agg #[.int .i64 x.idx, .int .i64 good, .int .i64 (x.idx - p.idx)])]) (φ := (bq = bq ∧ cellsAre cs' off [.int .i64 p.idx]) ∧ inR .i64 (x.idx - p.idx) ∧ True) (rest := [9]) h310 (by kernel_rfl) rfl ⟨⟨rfl, (pt_idx hp)⟩, ⟨by omega, by omega⟩, trivial⟩ fun a312 h313 => ?_
                      clear h310
                      refine nd_op ?_
                      refine op_store tabOk {k := 2} (L' := [(bl, ⟨logC lg.base (.slice eo lg.evs.length ec) (.slice (some ⟨b72, 0, none⟩) lg.mks.length mc) (.slice (some ⟨bq, 0, none⟩) lg.sns.length sc), 89, true⟩), (bq, ⟨cs', 84, true⟩), (b2, ⟨[.int .i64 x.idx, .int .i64 good, .int .i64 (x.idx - p.idx)], 114, false⟩), (b14, ⟨curC ((runF (seg lg.evs q (x.idx - pos').toNat) (m', o')).1) ((runF (seg lg.evs q (x.idx - pos').toNat) (m', o')).2) x.idx, 105, false⟩), (b72, ⟨cs73, 93, true⟩)]) (φ := b2 = b2 ∧ Nat.ble (0 + 3) 3 = true) h313 rfl rfl rfl (by kernel_rfl) ⟨rfl, rfl⟩ fun w314 h315 => ?_
                      clear h313
                      refine nd_done ?_
                      refine hK311 _ _ ?_
                      clear hK311
                      refine wp_ret ?_
                      have hres := hv.symm.trans (vloop_snap hnx hfin hs2 hvm hvs)
                      try simp only [Exit.then, Exit.inBlock]
                      try rw [if_pos trivial]
                      exact s_ret tabOk tabZ_ok h315 [(.cell 4 114, {k := 2})] (vs := [.agg #[.int .i64 x.idx, .int .i64 good, .int .i64 (x.idx - p.idx)]]) (φ := (b2 = b2 ∧ Nat.ble (0 + 3) 3 = true) ∧ True) rfl (by kernel_rfl) ⟨⟨rfl, rfl⟩, trivial⟩ ⟨by rw [hres]; rfl, h315.frame⟩
                    ·
                      have hme : machEq y'.st (runF (seg lg.evs q (x.idx - pos').toNat) (m', o')).1 = true := by simpa using hb305
                      refine dr_start (KB := [bl, bq, b2, b14, b72]) (Bi := [[0, 1, 2, 3, 4], [0, 1, 2, 3, 4], [0, 1, 2, 3, 4], [0, 1, 2, 3, 4], [0, 1, 2, 3, 4], [0, 1, 2, 3, 4], [0, 1, 2, 3, 4], [0, 1, 2, 3, 4], [0, 1, 2, 3, 4], [0, 1, 2, 3, 4], [0, 1, 2, 3, 4], [0, 1, 2, 3, 4], [0, 1, 2, 3, 4], [0, 1, 2, 3, 4], [0, 1, 2, 3, 4], [0, 1, 2, 3, 4]]) mixed h301 fun w316 h317 => ?_
                      clear h301
                      refine dr_batch tabOk tabZ_ok (by repeat (first | exact PF.body | with_reducible apply PF.inB | with_reducible apply PF.next)) [(0, {}), (1, {}), (2, {}), (3, {k := 1, m := 1, vs := [.int .u64 y'.st.now, .int .i8 y'.st.cur, .int .u8 y'.st.s0, .int .u8 y'.st.s1, .int .u8 y'.st.s2, .int .u8 y'.st.s3, .int .u64 y'.st.r0, .int .u64 y'.st.r1, .int .u64 y'.st.r2, .int .u64 y'.st.r3, .int .u64 y'.st.word], p := 1}), (4, {}), (5, {k := 3, p := 3}), (6, {f := 1}), (7, {}), (8, {}), (9, {}), (10, {}), (11, {k := 1, m := 1, vs := [.bool y'.out.refused, .int .i8 y'.out.running, .int .u64 y'.out.value], p := 1}), (12, {}), (13, {k := 3, p := 3}), (14, {vs := [.bool (otEq y'.out (runF (seg lg.evs q (x.idx - pos').toNat) (m', o')).2)]}), (15, {})] [0, 1, 4, 5, 6, 9, 8, 7, 154] (T' := [(0, .pointer (some ⟨bl, 0, none⟩)), (1, .pointer (some ⟨bq, off, none⟩)), (4, .pointer (some ⟨b2, 0, none⟩)), (5, .pointer (some ⟨b14, 0, none⟩)), (6, .int .i64 good), (9, .int .i64 x.idx), (8, .slice (some ⟨bq, (i' * 15), none⟩) (lg.sns.length - i') (sc - i')), (7, .slice (winA (some ⟨b72, 0, none⟩) mc j' 2) (lg.mks.length - j') (mc - j')), (154, .bool (Bool.xor true (otEq y'.out (runF (seg lg.evs q (x.idx - pos').toNat) (m', o')).2)))]) (φ := (0 ≤ (0 : Int) ∧ (0 : Int) < (((lg.sns.length - i') : Nat) : Int)) ∧ (bq = bq ∧ cellsAre cs' ((i' * 15) + 1) [.int .u64 y'.st.now, .int .i8 y'.st.cur, .int .u8 y'.st.s0, .int .u8 y'.st.s1, .int .u8 y'.st.s2, .int .u8 y'.st.s3, .int .u64 y'.st.r0, .int .u64 y'.st.r1, .int .u64 y'.st.r2, .int .u64 y'.st.r3, .int .u64 y'.st.word]) ∧ (b14 = b14 ∧ Nat.ble (0 + 11) 15 = true) ∧ EqRun Tryf.prog 58 (.agg #[.int .u64 y'.st.now, .int .i8 y'.st.cur, .int .u8 y'.st.s0, .int .u8 y'.st.s1, .int .u8 y'.st.s2, .int .u8 y'.st.s3, .int .u64 y'.st.r0, .int .u64 y'.st.r1, .int .u64 y'.st.r2, .int .u64 y'.st.r3, .int .u64 y'.st.word]) (.agg #[.int .u64 ((runF (seg lg.evs q (x.idx - pos').toNat) (m', o')).1.now), .int .i8 ((runF (seg lg.evs q (x.idx - pos').toNat) (m', o')).1.cur), .int .u8 ((runF (seg lg.evs q (x.idx - pos').toNat) (m', o')).1.s0), .int .u8 ((runF (seg lg.evs q (x.idx - pos').toNat) (m', o')).1.s1), .int .u8 ((runF (seg lg.evs q (x.idx - pos').toNat) (m', o')).1.s2), .int .u8 ((runF (seg lg.evs q (x.idx - pos').toNat) (m', o')).1.s3), .int .u64 ((runF (seg lg.evs q (x.idx - pos').toNat) (m', o')).1.r0), .int .u64 ((runF (seg lg.evs q (x.idx - pos').toNat) (m', o')).1.r1), .int .u64 ((runF (seg lg.evs q (x.idx - pos').toNat) (m', o')).1.r2), .int .u64 ((runF (seg lg.evs q (x.idx - pos').toNat) (m', o')).1.r3), .int .u64 ((runF (seg lg.evs q (x.idx - pos').toNat) (m', o')).1.word)]) true ∧ (0 ≤ (0 : Int) ∧ (0 : Int) < (((lg.sns.length - i') : Nat) : Int)) ∧ (bq = bq ∧ cellsAre cs' ((i' * 15) + 12) [.bool y'.out.refused, .int .i8 y'.out.running, .int .u64 y'.out.value]) ∧ (b14 = b14 ∧ Nat.ble (11 + 3) 15 = true) ∧ EqRun Tryf.prog 44 (.agg #[.bool y'.out.refused, .int .i8 y'.out.running, .int .u64 y'.out.value]) (.agg #[.bool ((runF (seg lg.evs q (x.idx - pos').toNat) (m', o')).2.refused), .int .i8 ((runF (seg lg.evs q (x.idx - pos').toNat) (m', o')).2.running), .int .u64 ((runF (seg lg.evs q (x.idx - pos').toNat) (m', o')).2.value)]) (otEq y'.out (runF (seg lg.evs q (x.idx - pos').toNat) (m', o')).2) ∧ True) (fuel := 0) h317 (by kernel_rfl) rfl (by kernel_rfl) (by kernel_rfl) ⟨trivial, trivial, trivial, rfl, trivial, rfl, trivial, trivial, trivial, trivial, trivial, rfl, trivial, rfl, trivial, trivial, trivial⟩ ⟨⟨by omega, by omega⟩, ⟨rfl, (pt_st hc298)⟩, ⟨rfl, rfl⟩, (by have hq := run46 y'.st (runF (seg lg.evs q (x.idx - pos').toNat) (m', o')).1; rw [show machEq y'.st (runF (seg lg.evs q (x.idx - pos').toNat) (m', o')).1 = true by simpa using hb305] at hq; exact hq), ⟨by omega, by omega⟩, ⟨rfl, (pt_out hc298)⟩, ⟨rfl, rfl⟩, run39 y'.out (runF (seg lg.evs q (x.idx - pos').toNat) (m', o')).2, trivial⟩ fun a319 h320 => ?_
                      clear h317
                      refine wpAnyK_done (by kernel_rfl) ?_ _
                      refine hK304 _ _ ?_
                      clear hK304
                      refine c_split h320 (b := (Bool.xor true (otEq y'.out (runF (seg lg.evs q (x.idx - pos').toNat) (m', o')).2))) rfl (fun hc321 => ?_) (fun hc321 => ?_)
                      ·
                        have hoe : otEq y'.out (runF (seg lg.evs q (x.idx - pos').toNat) (m', o')).2 = false := by simpa using hc321
                        have hvs := hi294.trans (vs_bad2 hy' hxn hoe)
                        refine wp_seq_k fun K322 hK322 => ?_
                        refine nd_start (l := [0, 1, 2, 3, 4, 5, 6, 7, 8, 9]) rfl ?_
                        refine nd_batch tabOk tabZ_ok [(0, {}), (1, {}), (2, {}), (3, {}), (4, {}), (5, {}), (6, {k := 1, m := 1, vs := [.int .i64 p.idx]}), (7, {}), (8, {})] [0, 1, 4, 5, 6, 9, 8, 7, 163] (T' := [(0, .pointer (some ⟨bl, 0, none⟩)), (1, .pointer (some ⟨bq, off, none⟩)), (4, .pointer (some ⟨b2, 0, none⟩)), (5, .pointer (some ⟨b14, 0, none⟩)), (6, .int .i64 good), (9, .int .i64 x.idx), (8, .slice (some ⟨bq, (i' * 15), none⟩) (lg.sns.length - i') (sc - i')), (7, .slice (winA (some ⟨b72, 0, none⟩) mc j' 2) (lg.mks.length - j') (mc - j')), (163, .agg #[.int .i64 x.idx, .int .i64 good, .int .i64 (x.idx - p.idx)])]) (φ := (bq = bq ∧ cellsAre cs' off [.int .i64 p.idx]) ∧ inR .i64 (x.idx - p.idx) ∧ True) (rest := [9]) h320 (by kernel_rfl) rfl ⟨⟨rfl, (pt_idx hp)⟩, ⟨by omega, by omega⟩, trivial⟩ fun a323 h324 => ?_
                        clear h320
                        refine nd_op ?_
                        refine op_store tabOk {k := 2} (L' := [(bl, ⟨logC lg.base (.slice eo lg.evs.length ec) (.slice (some ⟨b72, 0, none⟩) lg.mks.length mc) (.slice (some ⟨bq, 0, none⟩) lg.sns.length sc), 89, true⟩), (bq, ⟨cs', 84, true⟩), (b2, ⟨[.int .i64 x.idx, .int .i64 good, .int .i64 (x.idx - p.idx)], 114, false⟩), (b14, ⟨curC ((runF (seg lg.evs q (x.idx - pos').toNat) (m', o')).1) ((runF (seg lg.evs q (x.idx - pos').toNat) (m', o')).2) x.idx, 105, false⟩), (b72, ⟨cs73, 93, true⟩)]) (φ := b2 = b2 ∧ Nat.ble (0 + 3) 3 = true) h324 rfl rfl rfl (by kernel_rfl) ⟨rfl, rfl⟩ fun w325 h326 => ?_
                        clear h324
                        refine nd_done ?_
                        refine hK322 _ _ ?_
                        clear hK322
                        refine wp_ret ?_
                        have hres := hv.symm.trans (vloop_snap hnx hfin hs2 hvm hvs)
                        try simp only [Exit.then, Exit.inBlock]
                        try rw [if_pos trivial]
                        exact s_ret tabOk tabZ_ok h326 [(.cell 4 114, {k := 2})] (vs := [.agg #[.int .i64 x.idx, .int .i64 good, .int .i64 (x.idx - p.idx)]]) (φ := (b2 = b2 ∧ Nat.ble (0 + 3) 3 = true) ∧ True) rfl (by kernel_rfl) ⟨⟨rfl, rfl⟩, trivial⟩ ⟨by rw [hres]; rfl, h326.frame⟩
                      ·
                        have hoe : otEq y'.out (runF (seg lg.evs q (x.idx - pos').toNat) (m', o')).2 = true := by simpa using hc321
                        have hsame := hi294.trans (vs_same hy' hxn hme hoe)
                        refine wp_skip ?_
                        refine hK303 _ _ ?_
                        clear hK303
                        refine nd_start (l := [0, 1, 2]) rfl ?_
                        refine nd_batch tabOk tabZ_ok [(0, {}), (1, {}), (2, {})] [0, 1, 4, 5, 6, 9, 7, 8] (T' := [(0, .pointer (some ⟨bl, 0, none⟩)), (1, .pointer (some ⟨bq, off, none⟩)), (4, .pointer (some ⟨b2, 0, none⟩)), (5, .pointer (some ⟨b14, 0, none⟩)), (6, .int .i64 good), (9, .int .i64 x.idx), (7, .slice (winA (some ⟨b72, 0, none⟩) mc j' 2) (lg.mks.length - j') (mc - j')), (8, .slice (sliceBase (some ⟨bq, (i' * 15), none⟩) (sc - i') 1 15) ((lg.sns.length - i') - 1) ((sc - i') - 1))]) (φ := (0 ≤ (1 : Int) ∧ (1 : Int) ≤ (((lg.sns.length - i') : Nat) : Int)) ∧ True) (rest := []) h320 (by kernel_rfl) rfl ⟨⟨by omega, by omega⟩, trivial⟩ fun a327 h328 => ?_
                        clear h320
                        refine nd_done ?_
                        have e329 : sliceBase (some ⟨bq, (i' * 15), none⟩) (sc - i') 1 15 = winA (some ⟨bq, 0, none⟩) sc (i' + 1) 15 := by rw [← winA_some bq 15 hlt299]; exact winA_succ 15 (.inr ⟨bq, rfl⟩) hlt299
                        have e330 : lg.sns.length - i' - 1 = lg.sns.length - (i' + 1) := by omega
                        have e331 : sc - i' - 1 = sc - (i' + 1) := by omega
                        rw [e329, e330, e331] at h328
                        exact ⟨(gg - 1), by omega, (i' + 1), by omega, by omega, by omega, hsame, (h328.slotsMono (restr_spec (keep := [0, 1, 4, 5, 6, 9, 8, 7]) rfl))⟩
                  ·
                    have hc302f : y'.idx ≠ x.idx := by simpa using hc302
                    refine wp_exit ?_
                    rw [← winA_some bq 15 hlt299] at h301
                    have hstop : ∀ z, lg.sns[i']? = some z → z.idx ≠ x.idx := (by intro z hz; rw [hy'] at hz; cases hz; exact hc302f)
                    exact hm277 i' _ _ hi291 hi292 (hi294.trans (vs_stop hstop)) hstop (h301.slotsMono (restr_spec (keep := [0, 1, 4, 5, 6, 9, 8, 7]) rfl))
                ·
                  have hb297f : ¬ (((lg.sns.length - i') : Nat) : Int) > 0 := by simpa using hb297
                  refine nd_start (l := [0, 1, 2, 3, 4, 5, 6, 7, 8, 9, 10]) rfl ?_
                  refine nd_batch tabOk tabZ_ok [(0, {}), (1, {}), (2, {f := 1}), (3, {}), (4, {}), (5, {}), (6, {}), (7, {}), (8, {}), (9, {}), (10, {})] [0, 1, 4, 5, 6, 9, 8, 7, 136] (T' := [(0, .pointer (some ⟨bl, 0, none⟩)), (1, .pointer (some ⟨bq, off, none⟩)), (4, .pointer (some ⟨b2, 0, none⟩)), (5, .pointer (some ⟨b14, 0, none⟩)), (6, .int .i64 good), (9, .int .i64 x.idx), (8, .slice (winA (some ⟨bq, 0, none⟩) sc i' 15) (lg.sns.length - i') (sc - i')), (7, .slice (winA (some ⟨b72, 0, none⟩) mc j' 2) (lg.mks.length - j') (mc - j')), (136, .bool false)]) (φ := (decide ((((lg.sns.length - i') : Nat) : Int) > 0)) = false ∧ True) (rest := []) h290 (by kernel_rfl) rfl ⟨hb297, trivial⟩ fun a332 h333 => ?_
                  clear h290
                  refine nd_done ?_
                  refine hK296 _ _ ?_
                  clear hK296
                  refine c_false h333 rfl ?_
                  refine wp_exit ?_
                  have hstop : ∀ z, lg.sns[i']? = some z → z.idx ≠ x.idx := (by intro z hz; have := (List.getElem?_eq_some_iff.1 hz).1; omega)
                  exact hm277 i' _ _ hi291 hi292 (hi294.trans (vs_stop hstop)) hstop (h333.slotsMono (restr_spec (keep := [0, 1, 4, 5, 6, 9, 8, 7]) rfl))
              clear hK267
              refine wp_loop_ghost (fun gg ga gw => ∃ (j' : Nat), (j' ≤ lg.mks.length) ∧ (j ≤ j') ∧ (gg = lg.mks.length - j') ∧ (vm x.idx (dig (runF (seg lg.evs q (x.idx - pos').toNat) (m', o')).1) (lg.mks.drop j) = vm x.idx (dig (runF (seg lg.evs q (x.idx - pos').toNat) (m', o')).1) (lg.mks.drop j')) ∧ St ⟨165, [], w, Rws [rl evC 31 3 lg.evs eo ec eF, rl mkC 93 2 lg.mks (some ⟨b72, 0, none⟩) mc ([b72]), rl ptC 84 15 lg.sns (some ⟨bq, 0, none⟩) sc ([bq])], Ff [rl evC 31 3 lg.evs eo ec eF, rl mkC 93 2 lg.mks (some ⟨b72, 0, none⟩) mc ([b72]), rl ptC 84 15 lg.sns (some ⟨bq, 0, none⟩) sc ([bq])]⟩ [(0, .pointer (some ⟨bl, 0, none⟩)), (1, .pointer (some ⟨bq, off, none⟩)), (4, .pointer (some ⟨b2, 0, none⟩)), (5, .pointer (some ⟨b14, 0, none⟩)), (6, .int .i64 good), (9, .int .i64 x.idx), (7, .slice (winA (some ⟨b72, 0, none⟩) mc j' 2) (lg.mks.length - j') (mc - j')), (8, .slice (winA (some ⟨bq, 0, none⟩) sc i 15) (lg.sns.length - i) (sc - i))] [(bl, ⟨logC lg.base (.slice eo lg.evs.length ec) (.slice (some ⟨b72, 0, none⟩) lg.mks.length mc) (.slice (some ⟨bq, 0, none⟩) lg.sns.length sc), 89, true⟩), (bq, ⟨cs', 84, true⟩), (b2, ⟨[.int .i64 0, .int .i64 0, .int .i64 0], 114, false⟩), (b14, ⟨curC ((runF (seg lg.evs q (x.idx - pos').toNat) (m', o')).1) ((runF (seg lg.evs q (x.idx - pos').toNat) (m', o')).2) x.idx, 105, false⟩), (b72, ⟨cs73, 93, true⟩)] ga gw) (lg.mks.length - j) ⟨j, by omega, Nat.le_refl _, rfl, rfl, (h265.slotsMono (restr_spec (keep := [0, 1, 4, 5, 6, 9, 7, 8]) rfl))⟩ ?_
              clear h265
              rintro gg a334 w335 ⟨j', hi337, hi338, hi339, hi340, h336⟩
              refine wp_seq_k fun K341 hK341 => ?_
              refine wp_seq_k fun K342 hK342 => ?_
              rcases Bool.eq_false_or_eq_true (decide ((((lg.mks.length - j') : Nat) : Int) > 0)) with hb343 | hb343
              ·
                have hb343f : (((lg.mks.length - j') : Nat) : Int) > 0 := by simpa using hb343
                obtain ⟨x', hx'⟩ := Sx.get_some (xs := lg.mks) (i := j') (by omega)
                have hc344 := rl_at (h336.inv.get (j := 1) rfl) (h336.kn (k := 4) rfl) mkC_len hx'
                have hlt345 : j' < mc := by have h1 : lg.mks.length ≤ mc := rl_cap (h336.inv.get (j := 1) rfl); have h2 := (List.getElem?_eq_some_iff.1 hx').1; omega
                rw [winA_some b72 2 hlt345] at h336
                refine nd_start (l := [0, 1, 2, 3, 4, 5, 6, 7, 8, 9, 10]) rfl ?_
                refine nd_batch tabOk tabZ_ok [(0, {}), (1, {}), (2, {f := 2}), (3, {}), (4, {}), (5, {}), (6, {}), (7, {k := 4, m := 1, vs := [.int .i64 x'.idx]}), (8, {}), (9, {}), (10, {})] [0, 1, 4, 5, 6, 9, 7, 8, 107] (T' := [(0, .pointer (some ⟨bl, 0, none⟩)), (1, .pointer (some ⟨bq, off, none⟩)), (4, .pointer (some ⟨b2, 0, none⟩)), (5, .pointer (some ⟨b14, 0, none⟩)), (6, .int .i64 good), (9, .int .i64 x.idx), (7, .slice (some ⟨b72, (j' * 2), none⟩) (lg.mks.length - j') (mc - j')), (8, .slice (winA (some ⟨bq, 0, none⟩) sc i 15) (lg.sns.length - i) (sc - i)), (107, .bool (x'.idx == x.idx))]) (φ := (decide ((((lg.mks.length - j') : Nat) : Int) > 0)) = true ∧ (0 ≤ (0 : Int) ∧ (0 : Int) < (((lg.mks.length - j') : Nat) : Int)) ∧ (b72 = b72 ∧ cellsAre cs73 (j' * 2) [.int .i64 x'.idx]) ∧ True) (rest := []) h336 (by kernel_rfl) rfl ⟨hb343, ⟨by omega, by omega⟩, ⟨rfl, ⟨(hc344).1, trivial⟩⟩, trivial⟩ fun a346 h347 => ?_
                clear h336
                refine nd_done ?_
                refine hK342 _ _ ?_
                clear hK342
                refine c_split h347 (b := (x'.idx == x.idx)) rfl (fun hc348 => ?_) (fun hc348 => ?_)
                ·
                  have hc348f : x'.idx = x.idx := by simpa using hc348
                  have hxn : x'.idx = x.idx := hc348f
                  refine wp_skip ?_
                  refine hK341 _ _ ?_
                  clear hK341
                  refine wp_seq_k fun K349 hK349 => ?_
                  refine wp_block ?_
                  refine wp_seq_k fun K350 hK350 => ?_
                  refine dr_start (KB := [bl, bq, b2, b14, b72]) (Bi := [[0, 1, 2, 3, 4], [0, 1, 2, 3, 4], [0, 1, 2, 3, 4], [0, 1, 2, 3, 4], [0, 1, 2, 3, 4], [4], [0, 1, 2, 3, 4]]) mixed h347 fun w351 h352 => ?_
                  clear h347
                  refine dr_batch tabOk tabZ_ok (by repeat (first | exact PF.body | with_reducible apply PF.inB | with_reducible apply PF.next)) [(0, {}), (1, {}), (2, {}), (3, {k := 4, m := 1, vs := [.int .u64 x'.sum], p := 4}), (4, {})] [0, 1, 4, 5, 6, 9, 7, 8, 113, 114] (T' := [(0, .pointer (some ⟨bl, 0, none⟩)), (1, .pointer (some ⟨bq, off, none⟩)), (4, .pointer (some ⟨b2, 0, none⟩)), (5, .pointer (some ⟨b14, 0, none⟩)), (6, .int .i64 good), (9, .int .i64 x.idx), (7, .slice (some ⟨b72, (j' * 2), none⟩) (lg.mks.length - j') (mc - j')), (8, .slice (winA (some ⟨bq, 0, none⟩) sc i 15) (lg.sns.length - i) (sc - i)), (113, .int .u64 x'.sum), (114, .pointer (some ⟨b14, 0, none⟩))]) (φ := (0 ≤ (0 : Int) ∧ (0 : Int) < (((lg.mks.length - j') : Nat) : Int)) ∧ (b72 = b72 ∧ cellsAre cs73 ((j' * 2) + 1) [.int .u64 x'.sum]) ∧ True) (fuel := 2) h352 (by kernel_rfl) rfl (by kernel_rfl) (by kernel_rfl) ⟨trivial, trivial, trivial, rfl, trivial, trivial⟩ ⟨⟨by omega, by omega⟩, ⟨rfl, ⟨(hc344).2.1, trivial⟩⟩, trivial⟩ fun a354 h355 => ?_
                  clear h352
                  refine wpAnyK_one (i := 5) (fuel := 1) (by kernel_rfl) ?_
                  refine op_call h355 rfl rfl rfl (callOk Tryf.func51 (by decide) rfl) (args := [.pointer (some ⟨b14, 0, none⟩)]) rfl (digest_ok [] (outC (runF (seg lg.evs q (x.idx - pos').toNat) (m', o')).2 ++ [.int .i64 x.idx]) (runF (seg lg.evs q (x.idx - pos').toNat) (m', o')).1 hmok2 b14 105 false _ (h355.kn (k := 3) rfl)) ?_
                  rintro _ w356 ⟨rfl, hf358⟩
                  refine ⟨_, rfl, ?_⟩
                  have h357 := (h355.grow hf358).put (d := some 115) (v := .int .u64 (dig (runF (seg lg.evs q (x.idx - pos').toNat) (m', o')).1)) (T' := [(115, .int .u64 (dig (runF (seg lg.evs q (x.idx - pos').toNat) (m', o')).1)), (0, .pointer (some ⟨bl, 0, none⟩)), (1, .pointer (some ⟨bq, off, none⟩)), (4, .pointer (some ⟨b2, 0, none⟩)), (5, .pointer (some ⟨b14, 0, none⟩)), (6, .int .i64 good), (9, .int .i64 x.idx), (7, .slice (some ⟨b72, (j' * 2), none⟩) (lg.mks.length - j') (mc - j')), (8, .slice (winA (some ⟨bq, 0, none⟩) sc i 15) (lg.sns.length - i) (sc - i)), (113, .int .u64 x'.sum), (114, .pointer (some ⟨b14, 0, none⟩))]) rfl
                  refine ⟨(h355.keepFr hf358 (kcons (by simp) knil)), ?_⟩
                  clear h355
                  refine dr_batch tabOk tabZ_ok (by repeat (first | exact PF.body | with_reducible apply PF.inB | with_reducible apply PF.next)) [(6, {})] [0, 1, 4, 5, 6, 9, 7, 8, 116] (T' := [(0, .pointer (some ⟨bl, 0, none⟩)), (1, .pointer (some ⟨bq, off, none⟩)), (4, .pointer (some ⟨b2, 0, none⟩)), (5, .pointer (some ⟨b14, 0, none⟩)), (6, .int .i64 good), (9, .int .i64 x.idx), (7, .slice (some ⟨b72, (j' * 2), none⟩) (lg.mks.length - j') (mc - j')), (8, .slice (winA (some ⟨bq, 0, none⟩) sc i 15) (lg.sns.length - i) (sc - i)), (116, .bool (x'.sum != (dig (runF (seg lg.evs q (x.idx - pos').toNat) (m', o')).1)))]) (φ := True) (fuel := 0) h357 (by kernel_rfl) rfl (by kernel_rfl) (by kernel_rfl) ⟨trivial, trivial⟩ trivial fun a359 h360 => ?_
                  clear h357
                  refine wpAnyK_done (by kernel_rfl) ?_ _
                  refine hK350 _ _ ?_
                  clear hK350
                  refine c_split h360 (b := (x'.sum != (dig (runF (seg lg.evs q (x.idx - pos').toNat) (m', o')).1))) rfl (fun hc361 => ?_) (fun hc361 => ?_)
                  ·
                    have hc361f : x'.sum ≠ (dig (runF (seg lg.evs q (x.idx - pos').toNat) (m', o')).1) := by simpa using hc361
                    have hvm := hi340.trans (vm_bad hx' hxn hc361f)
                    refine wp_seq_k fun K362 hK362 => ?_
                    refine nd_start (l := [0, 1, 2, 3, 4, 5, 6, 7, 8, 9]) rfl ?_
                    refine nd_batch tabOk tabZ_ok [(0, {}), (1, {}), (2, {}), (3, {}), (4, {}), (5, {}), (6, {k := 1, m := 1, vs := [.int .i64 p.idx]}), (7, {}), (8, {})] [0, 1, 4, 5, 6, 9, 7, 8, 125] (T' := [(0, .pointer (some ⟨bl, 0, none⟩)), (1, .pointer (some ⟨bq, off, none⟩)), (4, .pointer (some ⟨b2, 0, none⟩)), (5, .pointer (some ⟨b14, 0, none⟩)), (6, .int .i64 good), (9, .int .i64 x.idx), (7, .slice (some ⟨b72, (j' * 2), none⟩) (lg.mks.length - j') (mc - j')), (8, .slice (winA (some ⟨bq, 0, none⟩) sc i 15) (lg.sns.length - i) (sc - i)), (125, .agg #[.int .i64 x.idx, .int .i64 good, .int .i64 (x.idx - p.idx)])]) (φ := (bq = bq ∧ cellsAre cs' off [.int .i64 p.idx]) ∧ inR .i64 (x.idx - p.idx) ∧ True) (rest := [9]) h360 (by kernel_rfl) rfl ⟨⟨rfl, (pt_idx hp)⟩, ⟨by omega, by omega⟩, trivial⟩ fun a363 h364 => ?_
                    clear h360
                    refine nd_op ?_
                    refine op_store tabOk {k := 2} (L' := [(bl, ⟨logC lg.base (.slice eo lg.evs.length ec) (.slice (some ⟨b72, 0, none⟩) lg.mks.length mc) (.slice (some ⟨bq, 0, none⟩) lg.sns.length sc), 89, true⟩), (bq, ⟨cs', 84, true⟩), (b2, ⟨[.int .i64 x.idx, .int .i64 good, .int .i64 (x.idx - p.idx)], 114, false⟩), (b14, ⟨curC ((runF (seg lg.evs q (x.idx - pos').toNat) (m', o')).1) ((runF (seg lg.evs q (x.idx - pos').toNat) (m', o')).2) x.idx, 105, false⟩), (b72, ⟨cs73, 93, true⟩)]) (φ := b2 = b2 ∧ Nat.ble (0 + 3) 3 = true) h364 rfl rfl rfl (by kernel_rfl) ⟨rfl, rfl⟩ fun w365 h366 => ?_
                    clear h364
                    refine nd_done ?_
                    refine hK362 _ _ ?_
                    clear hK362
                    refine wp_ret ?_
                    have hres := hv.symm.trans (vloop_mark hnx hfin hs2 hvm)
                    try simp only [Exit.then, Exit.inBlock]
                    try rw [if_pos trivial]
                    exact s_ret tabOk tabZ_ok h366 [(.cell 4 114, {k := 2})] (vs := [.agg #[.int .i64 x.idx, .int .i64 good, .int .i64 (x.idx - p.idx)]]) (φ := (b2 = b2 ∧ Nat.ble (0 + 3) 3 = true) ∧ True) rfl (by kernel_rfl) ⟨⟨rfl, rfl⟩, trivial⟩ ⟨by rw [hres]; rfl, h366.frame⟩
                  ·
                    have hc361f : x'.sum = (dig (runF (seg lg.evs q (x.idx - pos').toNat) (m', o')).1) := by simpa using hc361
                    have hsame := hi340.trans (vm_same hx' hxn hc361f)
                    refine wp_skip ?_
                    refine hK349 _ _ ?_
                    clear hK349
                    refine nd_start (l := [0, 1, 2]) rfl ?_
                    refine nd_batch tabOk tabZ_ok [(0, {}), (1, {}), (2, {})] [0, 1, 4, 5, 6, 9, 8, 7] (T' := [(0, .pointer (some ⟨bl, 0, none⟩)), (1, .pointer (some ⟨bq, off, none⟩)), (4, .pointer (some ⟨b2, 0, none⟩)), (5, .pointer (some ⟨b14, 0, none⟩)), (6, .int .i64 good), (9, .int .i64 x.idx), (8, .slice (winA (some ⟨bq, 0, none⟩) sc i 15) (lg.sns.length - i) (sc - i)), (7, .slice (sliceBase (some ⟨b72, (j' * 2), none⟩) (mc - j') 1 2) ((lg.mks.length - j') - 1) ((mc - j') - 1))]) (φ := (0 ≤ (1 : Int) ∧ (1 : Int) ≤ (((lg.mks.length - j') : Nat) : Int)) ∧ True) (rest := []) h360 (by kernel_rfl) rfl ⟨⟨by omega, by omega⟩, trivial⟩ fun a367 h368 => ?_
                    clear h360
                    refine nd_done ?_
                    have e369 : sliceBase (some ⟨b72, (j' * 2), none⟩) (mc - j') 1 2 = winA (some ⟨b72, 0, none⟩) mc (j' + 1) 2 := by rw [← winA_some b72 2 hlt345]; exact winA_succ 2 (.inr ⟨b72, rfl⟩) hlt345
                    have e370 : lg.mks.length - j' - 1 = lg.mks.length - (j' + 1) := by omega
                    have e371 : mc - j' - 1 = mc - (j' + 1) := by omega
                    rw [e369, e370, e371] at h368
                    exact ⟨(gg - 1), by omega, (j' + 1), by omega, by omega, by omega, hsame, (h368.slotsMono (restr_spec (keep := [0, 1, 4, 5, 6, 9, 7, 8]) rfl))⟩
                ·
                  have hc348f : x'.idx ≠ x.idx := by simpa using hc348
                  refine wp_exit ?_
                  rw [← winA_some b72 2 hlt345] at h347
                  have hstop : ∀ z, lg.mks[j']? = some z → z.idx ≠ x.idx := (by intro z hz; rw [hx'] at hz; cases hz; exact hc348f)
                  exact hm268 j' _ _ hi337 hi338 (hi340.trans (vm_stop hstop)) hstop (h347.slotsMono (restr_spec (keep := [0, 1, 4, 5, 6, 9, 7, 8]) rfl))
              ·
                have hb343f : ¬ (((lg.mks.length - j') : Nat) : Int) > 0 := by simpa using hb343
                refine nd_start (l := [0, 1, 2, 3, 4, 5, 6, 7, 8, 9, 10]) rfl ?_
                refine nd_batch tabOk tabZ_ok [(0, {}), (1, {}), (2, {f := 1}), (3, {}), (4, {}), (5, {}), (6, {}), (7, {}), (8, {}), (9, {}), (10, {})] [0, 1, 4, 5, 6, 9, 7, 8, 107] (T' := [(0, .pointer (some ⟨bl, 0, none⟩)), (1, .pointer (some ⟨bq, off, none⟩)), (4, .pointer (some ⟨b2, 0, none⟩)), (5, .pointer (some ⟨b14, 0, none⟩)), (6, .int .i64 good), (9, .int .i64 x.idx), (7, .slice (winA (some ⟨b72, 0, none⟩) mc j' 2) (lg.mks.length - j') (mc - j')), (8, .slice (winA (some ⟨bq, 0, none⟩) sc i 15) (lg.sns.length - i) (sc - i)), (107, .bool false)]) (φ := (decide ((((lg.mks.length - j') : Nat) : Int) > 0)) = false ∧ True) (rest := []) h336 (by kernel_rfl) rfl ⟨hb343, trivial⟩ fun a372 h373 => ?_
                clear h336
                refine nd_done ?_
                refine hK342 _ _ ?_
                clear hK342
                refine c_false h373 rfl ?_
                refine wp_exit ?_
                have hstop : ∀ z, lg.mks[j']? = some z → z.idx ≠ x.idx := (by intro z hz; have := (List.getElem?_eq_some_iff.1 hz).1; omega)
                exact hm268 j' _ _ hi337 hi338 (hi340.trans (vm_stop hstop)) hstop (h373.slotsMono (restr_spec (keep := [0, 1, 4, 5, 6, 9, 7, 8]) rfl))
        ·
          have hb86f : ¬ (((lg.sns.length - i) : Nat) : Int) > 0 := by simpa using hb86
          refine nd_start (l := [0, 1, 2, 3, 4, 5, 6, 7, 8, 9, 10]) rfl ?_
          refine nd_batch tabOk tabZ_ok [(0, {}), (1, {}), (2, {f := 1}), (3, {}), (4, {}), (5, {}), (6, {}), (7, {}), (8, {}), (9, {}), (10, {})] [0, 1, 4, 5, 6, 7, 8, 9, 72] (T' := [(0, .pointer (some ⟨bl, 0, none⟩)), (1, .pointer (some ⟨bq, off, none⟩)), (4, .pointer (some ⟨b2, 0, none⟩)), (5, .pointer (some ⟨b14, 0, none⟩)), (6, .int .i64 good), (7, .slice (some ⟨b72, (j * 2), none⟩) (lg.mks.length - j) (mc - j)), (8, .slice (winA (some ⟨bq, 0, none⟩) sc i 15) (lg.sns.length - i) (sc - i)), (9, .int .i64 x.idx), (72, .bool false)]) (φ := (decide ((((lg.sns.length - i) : Nat) : Int) > 0)) = false ∧ True) (rest := []) h83 (by kernel_rfl) rfl ⟨hb86, trivial⟩ fun a374 h375 => ?_
          clear h83
          refine nd_done ?_
          refine hK85 _ _ ?_
          clear hK85
          refine c_false h375 rfl ?_
          refine wp_skip ?_
          refine hK84 _ _ ?_
          clear hK84
          refine wp_seq_k fun K376 hK376 => ?_
          refine wp_seq_k fun K377 hK377 => ?_
          refine nd_start (l := [0, 1, 2, 3]) rfl ?_
          refine nd_batch tabOk tabZ_ok [(0, {}), (1, {})] [0, 1, 4, 5, 6, 7, 8, 9, 77, 78] (T' := [(0, .pointer (some ⟨bl, 0, none⟩)), (1, .pointer (some ⟨bq, off, none⟩)), (4, .pointer (some ⟨b2, 0, none⟩)), (5, .pointer (some ⟨b14, 0, none⟩)), (6, .int .i64 good), (7, .slice (some ⟨b72, (j * 2), none⟩) (lg.mks.length - j) (mc - j)), (8, .slice (winA (some ⟨bq, 0, none⟩) sc i 15) (lg.sns.length - i) (sc - i)), (9, .int .i64 x.idx), (77, .int .i64 x.idx), (78, .pointer (some ⟨bl, 0, none⟩))]) (φ := True) (rest := [2, 3]) h375 (by kernel_rfl) rfl trivial fun a378 h379 => ?_
          clear h375
          refine nd_op ?_
          refine op_call h379 rfl rfl rfl (callOk Tryf.func41 (by decide) rfl) (args := [.pointer (some ⟨bl, 0, none⟩)]) rfl (end_ok bl lg.base eo lg.evs.length ec (.slice (some ⟨b72, 0, none⟩) lg.mks.length mc) (.slice (some ⟨bq, 0, none⟩) lg.sns.length sc) true _ (h379.kn (k := 0) rfl) hb0 (by omega) (by omega)) ?_
          rintro _ w380 ⟨rfl, hf382⟩
          refine ⟨_, rfl, ?_⟩
          have h381 := (h379.grow hf382).put (d := some 79) (v := .int .i64 (lg.base.idx + (lg.evs.length : Int))) (T' := [(79, .int .i64 (lg.base.idx + (lg.evs.length : Int))), (0, .pointer (some ⟨bl, 0, none⟩)), (1, .pointer (some ⟨bq, off, none⟩)), (4, .pointer (some ⟨b2, 0, none⟩)), (5, .pointer (some ⟨b14, 0, none⟩)), (6, .int .i64 good), (7, .slice (some ⟨b72, (j * 2), none⟩) (lg.mks.length - j) (mc - j)), (8, .slice (winA (some ⟨bq, 0, none⟩) sc i 15) (lg.sns.length - i) (sc - i)), (9, .int .i64 x.idx), (77, .int .i64 x.idx), (78, .pointer (some ⟨bl, 0, none⟩))]) rfl
          clear h379
          refine nd_batch tabOk tabZ_ok [(3, {})] [0, 1, 4, 5, 6, 7, 8, 9, 80] (T' := [(0, .pointer (some ⟨bl, 0, none⟩)), (1, .pointer (some ⟨bq, off, none⟩)), (4, .pointer (some ⟨b2, 0, none⟩)), (5, .pointer (some ⟨b14, 0, none⟩)), (6, .int .i64 good), (7, .slice (some ⟨b72, (j * 2), none⟩) (lg.mks.length - j) (mc - j)), (8, .slice (winA (some ⟨bq, 0, none⟩) sc i 15) (lg.sns.length - i) (sc - i)), (9, .int .i64 x.idx), (80, .bool (decide (x.idx > (lg.base.idx + (lg.evs.length : Int)))))]) (φ := True) (rest := []) h381 (by kernel_rfl) rfl trivial fun a383 h384 => ?_
          clear h381
          refine nd_done ?_
          refine hK377 _ _ ?_
          clear hK377
          refine c_split h384 (b := decide (x.idx > (lg.base.idx + (lg.evs.length : Int)))) rfl (fun hc385 => ?_) (fun hc385 => ?_)
          ·
            have hc385f : x.idx > (lg.base.idx + (lg.evs.length : Int)) := by simpa using hc385
            have hnx : nextOf lg.fin (lg.mks.drop j) (lg.sns.drop i) = x.idx := next_m (fin := lg.fin) hx (by omega)
            have hfin : lg.fin < x.idx := hc385f
            refine wp_seq_k fun K386 hK386 => ?_
            refine nd_start (l := [0, 1, 2, 3]) rfl ?_
            refine nd_batch tabOk tabZ_ok [(0, {}), (1, {})] [0, 1, 4, 5, 6, 7, 8, 9, 81, 82] (T' := [(0, .pointer (some ⟨bl, 0, none⟩)), (1, .pointer (some ⟨bq, off, none⟩)), (4, .pointer (some ⟨b2, 0, none⟩)), (5, .pointer (some ⟨b14, 0, none⟩)), (6, .int .i64 good), (7, .slice (some ⟨b72, (j * 2), none⟩) (lg.mks.length - j) (mc - j)), (8, .slice (winA (some ⟨bq, 0, none⟩) sc i 15) (lg.sns.length - i) (sc - i)), (9, .int .i64 x.idx), (81, .pointer (some ⟨bl, 0, none⟩)), (82, .pointer (some ⟨bl, 0, none⟩))]) (φ := True) (rest := [2, 3]) h384 (by kernel_rfl) rfl trivial fun a387 h388 => ?_
            clear h384
            refine nd_op ?_
            refine op_call h388 rfl rfl rfl (callOk Tryf.func41 (by decide) rfl) (args := [.pointer (some ⟨bl, 0, none⟩)]) rfl (end_ok bl lg.base eo lg.evs.length ec (.slice (some ⟨b72, 0, none⟩) lg.mks.length mc) (.slice (some ⟨bq, 0, none⟩) lg.sns.length sc) true _ (h388.kn (k := 0) rfl) hb0 (by omega) (by omega)) ?_
            rintro _ w389 ⟨rfl, hf391⟩
            refine ⟨_, rfl, ?_⟩
            have h390 := (h388.grow hf391).put (d := some 83) (v := .int .i64 (lg.base.idx + (lg.evs.length : Int))) (T' := [(83, .int .i64 (lg.base.idx + (lg.evs.length : Int))), (0, .pointer (some ⟨bl, 0, none⟩)), (1, .pointer (some ⟨bq, off, none⟩)), (4, .pointer (some ⟨b2, 0, none⟩)), (5, .pointer (some ⟨b14, 0, none⟩)), (6, .int .i64 good), (7, .slice (some ⟨b72, (j * 2), none⟩) (lg.mks.length - j) (mc - j)), (8, .slice (winA (some ⟨bq, 0, none⟩) sc i 15) (lg.sns.length - i) (sc - i)), (9, .int .i64 x.idx), (81, .pointer (some ⟨bl, 0, none⟩)), (82, .pointer (some ⟨bl, 0, none⟩))]) rfl
            clear h388
            refine nd_op ?_
            refine op_call h390 rfl rfl rfl (callOk Tryf.func44 (by decide) rfl) (args := [.pointer (some ⟨b14, 0, none⟩), .pointer (some ⟨bl, 0, none⟩), .int .i64 (lg.base.idx + (lg.evs.length : Int))]) rfl (run_ok b14 bl ⟨eo, ec, eF, (some ⟨b72, 0, none⟩), mc, [b72], (some ⟨bq, 0, none⟩), sc, [bq]⟩ lg _ (LogAt.of (d := ⟨eo, ec, eF, (some ⟨b72, 0, none⟩), mc, [b72], (some ⟨bq, 0, none⟩), sc, [bq]⟩) (h390.kn (k := 0) rfl) h390.inv hsep) m' o' pos' (lg.base.idx + (lg.evs.length : Int)) q ((lg.base.idx + (lg.evs.length : Int)) - pos').toNat (h390.kn (k := 3) rfl) (h390.ne 3 0 rfl rfl rfl) (h390.dj (k := 3) rfl rfl) hev hmok hq (by omega) (by omega) (by omega) hb0 (by omega)) ?_
            rintro _ w392 ⟨rfl, hbs, hf394⟩
            refine ⟨_, rfl, ?_⟩
            have h393 := (h390.setBlk (k := 3) rfl rfl hf394 hbs (L' := [(bl, ⟨logC lg.base (.slice eo lg.evs.length ec) (.slice (some ⟨b72, 0, none⟩) lg.mks.length mc) (.slice (some ⟨bq, 0, none⟩) lg.sns.length sc), 89, true⟩), (bq, ⟨cs', 84, true⟩), (b2, ⟨[.int .i64 0, .int .i64 0, .int .i64 0], 114, false⟩), (b14, ⟨curC ((runF (seg lg.evs q ((lg.base.idx + (lg.evs.length : Int)) - pos').toNat) (m', o')).1) ((runF (seg lg.evs q ((lg.base.idx + (lg.evs.length : Int)) - pos').toNat) (m', o')).2) (lg.base.idx + (lg.evs.length : Int)), 105, false⟩), (b72, ⟨cs73, 93, true⟩)]) rfl).put (d := some 84) (v := .tuple #[]) (T' := [(84, .tuple #[]), (83, .int .i64 (lg.base.idx + (lg.evs.length : Int))), (0, .pointer (some ⟨bl, 0, none⟩)), (1, .pointer (some ⟨bq, off, none⟩)), (4, .pointer (some ⟨b2, 0, none⟩)), (5, .pointer (some ⟨b14, 0, none⟩)), (6, .int .i64 good), (7, .slice (some ⟨b72, (j * 2), none⟩) (lg.mks.length - j) (mc - j)), (8, .slice (winA (some ⟨bq, 0, none⟩) sc i 15) (lg.sns.length - i) (sc - i)), (9, .int .i64 x.idx), (81, .pointer (some ⟨bl, 0, none⟩)), (82, .pointer (some ⟨bl, 0, none⟩))]) rfl
            clear h390
            refine nd_done ?_
            refine hK386 _ _ ?_
            clear hK386
            refine wp_seq_k fun K395 hK395 => ?_
            refine dr_start (KB := [bl, bq, b2, b14, b72]) (Bi := [[0, 1, 2, 3, 4], [0, 1, 2, 3, 4], [0, 1, 2, 3, 4], [0, 1, 2, 3, 4], [0, 1, 2, 3, 4], [0, 1, 2, 3, 4], [0, 1, 2, 3, 4], [0, 1, 2, 3, 4], [0, 1, 2, 3, 4], []]) mixed h393 fun w396 h397 => ?_
            clear h393
            refine dr_batch tabOk tabZ_ok (by repeat (first | exact PF.body | with_reducible apply PF.inB | with_reducible apply PF.next)) [(0, {}), (1, {}), (2, {k := 3, p := 3}), (3, {}), (4, {}), (5, {}), (6, {k := 1, m := 1, vs := [.int .i64 p.idx], p := 1}), (7, {}), (8, {})] [0, 1, 4, 5, 6, 7, 8, 9, 93] (T' := [(0, .pointer (some ⟨bl, 0, none⟩)), (1, .pointer (some ⟨bq, off, none⟩)), (4, .pointer (some ⟨b2, 0, none⟩)), (5, .pointer (some ⟨b14, 0, none⟩)), (6, .int .i64 good), (7, .slice (some ⟨b72, (j * 2), none⟩) (lg.mks.length - j) (mc - j)), (8, .slice (winA (some ⟨bq, 0, none⟩) sc i 15) (lg.sns.length - i) (sc - i)), (9, .int .i64 x.idx), (93, .agg #[.int .i64 (-1), .int .i64 good, .int .i64 ((lg.base.idx + (lg.evs.length : Int)) - p.idx)])]) (φ := (b14 = b14 ∧ Nat.ble (14 + 1) 15 = true) ∧ (bq = bq ∧ cellsAre cs' off [.int .i64 p.idx]) ∧ inR .i64 ((lg.base.idx + (lg.evs.length : Int)) - p.idx) ∧ True) (fuel := 1) h397 (by kernel_rfl) rfl (by kernel_rfl) (by kernel_rfl) ⟨trivial, trivial, rfl, trivial, trivial, trivial, rfl, trivial, trivial, trivial⟩ ⟨⟨rfl, rfl⟩, ⟨rfl, (pt_idx hp)⟩, ⟨by omega, by omega⟩, trivial⟩ fun a399 h400 => ?_
            clear h397
            refine wpAnyK_one (i := 9) (fuel := 0) (by kernel_rfl) ?_
            refine op_store tabOk {k := 2} (L' := [(bl, ⟨logC lg.base (.slice eo lg.evs.length ec) (.slice (some ⟨b72, 0, none⟩) lg.mks.length mc) (.slice (some ⟨bq, 0, none⟩) lg.sns.length sc), 89, true⟩), (bq, ⟨cs', 84, true⟩), (b2, ⟨[.int .i64 (-1), .int .i64 good, .int .i64 ((lg.base.idx + (lg.evs.length : Int)) - p.idx)], 114, false⟩), (b14, ⟨curC ((runF (seg lg.evs q ((lg.base.idx + (lg.evs.length : Int)) - pos').toNat) (m', o')).1) ((runF (seg lg.evs q ((lg.base.idx + (lg.evs.length : Int)) - pos').toNat) (m', o')).2) (lg.base.idx + (lg.evs.length : Int)), 105, false⟩), (b72, ⟨cs73, 93, true⟩)]) (φ := b2 = b2 ∧ Nat.ble (0 + 3) 3 = true) h400 rfl rfl rfl (by kernel_rfl) ⟨rfl, rfl⟩ fun w401 h402 => ?_
            have hkh402 := h400.known
            refine ⟨keepNil, ?_⟩
            clear h400
            refine wpAnyK_done (by kernel_rfl) ?_ _
            refine hK395 _ _ ?_
            clear hK395
            refine wp_ret ?_
            have hres := hv.symm.trans (vloop_end hnx hfin)
            try simp only [Exit.then, Exit.inBlock]
            try rw [if_pos trivial]
            exact s_ret tabOk tabZ_ok h402 [(.cell 4 114, {k := 2})] (vs := [.agg #[.int .i64 (-1), .int .i64 good, .int .i64 ((lg.base.idx + (lg.evs.length : Int)) - p.idx)]]) (φ := (b2 = b2 ∧ Nat.ble (0 + 3) 3 = true) ∧ True) rfl (by kernel_rfl) ⟨⟨rfl, rfl⟩, trivial⟩ ⟨by rw [hres]; rfl, h402.frame⟩
          ·
            have hc385f : ¬ x.idx > (lg.base.idx + (lg.evs.length : Int)) := by simpa using hc385
            have hnx : nextOf lg.fin (lg.mks.drop j) (lg.sns.drop i) = x.idx := next_m (fin := lg.fin) hx (by omega)
            have hfin : ¬ lg.fin < x.idx := hc385f
            have hnp : pos' ≤ x.idx := by omega
            have hmok2 := runF_ok (seg lg.evs q (x.idx - pos').toNat) (m', o') hmok (seg_ok hev _ _)
            have hs2 : runF (seg lg.evs (pos' - lg.base.idx).toNat (x.idx - pos').toNat) (m', o') = runF (seg lg.evs q (x.idx - pos').toNat) (m', o') := by rw [show (pos' - lg.base.idx).toNat = q by omega]
            simp only [Lg.fin] at hfin
            refine wp_skip ?_
            refine hK376 _ _ ?_
            clear hK376
            refine wp_seq_k fun K403 hK403 => ?_
            refine nd_start (l := [0, 1, 2]) rfl ?_
            refine nd_batch tabOk tabZ_ok [(0, {}), (1, {})] [0, 1, 4, 5, 6, 7, 8, 9, 94, 95] (T' := [(0, .pointer (some ⟨bl, 0, none⟩)), (1, .pointer (some ⟨bq, off, none⟩)), (4, .pointer (some ⟨b2, 0, none⟩)), (5, .pointer (some ⟨b14, 0, none⟩)), (6, .int .i64 good), (7, .slice (some ⟨b72, (j * 2), none⟩) (lg.mks.length - j) (mc - j)), (8, .slice (winA (some ⟨bq, 0, none⟩) sc i 15) (lg.sns.length - i) (sc - i)), (9, .int .i64 x.idx), (94, .pointer (some ⟨bl, 0, none⟩)), (95, .int .i64 x.idx)]) (φ := True) (rest := [2]) h384 (by kernel_rfl) rfl trivial fun a404 h405 => ?_
            clear h384
            refine nd_op ?_
            refine op_call h405 rfl rfl rfl (callOk Tryf.func44 (by decide) rfl) (args := [.pointer (some ⟨b14, 0, none⟩), .pointer (some ⟨bl, 0, none⟩), .int .i64 x.idx]) rfl (run_ok b14 bl ⟨eo, ec, eF, (some ⟨b72, 0, none⟩), mc, [b72], (some ⟨bq, 0, none⟩), sc, [bq]⟩ lg _ (LogAt.of (d := ⟨eo, ec, eF, (some ⟨b72, 0, none⟩), mc, [b72], (some ⟨bq, 0, none⟩), sc, [bq]⟩) (h405.kn (k := 0) rfl) h405.inv hsep) m' o' pos' x.idx q (x.idx - pos').toNat (h405.kn (k := 3) rfl) (h405.ne 3 0 rfl rfl rfl) (h405.dj (k := 3) rfl rfl) hev hmok hq (by omega) (by omega) (by omega) hb0 (by omega)) ?_
            rintro _ w406 ⟨rfl, hbs, hf408⟩
            refine ⟨_, rfl, ?_⟩
            have h407 := (h405.setBlk (k := 3) rfl rfl hf408 hbs (L' := [(bl, ⟨logC lg.base (.slice eo lg.evs.length ec) (.slice (some ⟨b72, 0, none⟩) lg.mks.length mc) (.slice (some ⟨bq, 0, none⟩) lg.sns.length sc), 89, true⟩), (bq, ⟨cs', 84, true⟩), (b2, ⟨[.int .i64 0, .int .i64 0, .int .i64 0], 114, false⟩), (b14, ⟨curC ((runF (seg lg.evs q (x.idx - pos').toNat) (m', o')).1) ((runF (seg lg.evs q (x.idx - pos').toNat) (m', o')).2) x.idx, 105, false⟩), (b72, ⟨cs73, 93, true⟩)]) rfl).put (d := some 96) (v := .tuple #[]) (T' := [(96, .tuple #[]), (0, .pointer (some ⟨bl, 0, none⟩)), (1, .pointer (some ⟨bq, off, none⟩)), (4, .pointer (some ⟨b2, 0, none⟩)), (5, .pointer (some ⟨b14, 0, none⟩)), (6, .int .i64 good), (7, .slice (some ⟨b72, (j * 2), none⟩) (lg.mks.length - j) (mc - j)), (8, .slice (winA (some ⟨bq, 0, none⟩) sc i 15) (lg.sns.length - i) (sc - i)), (9, .int .i64 x.idx), (94, .pointer (some ⟨bl, 0, none⟩)), (95, .int .i64 x.idx)]) rfl
            clear h405
            refine nd_done ?_
            refine hK403 _ _ ?_
            clear hK403
            refine wp_seq_k fun K409 hK409 => ?_
            refine wp_block ?_
            rw [← winA_some b72 2 hlt81] at h407
            have hm410 : ∀ (j' : Nat) (ca : Act) (cw : World), (j' ≤ lg.mks.length) → (j ≤ j') → (vm x.idx (dig (runF (seg lg.evs q (x.idx - pos').toNat) (m', o')).1) (lg.mks.drop j) = some (lg.mks.drop j')) → (∀ z, lg.mks[j']? = some z → z.idx ≠ x.idx) → St ⟨165, [], w, Rws [rl evC 31 3 lg.evs eo ec eF, rl mkC 93 2 lg.mks (some ⟨b72, 0, none⟩) mc ([b72]), rl ptC 84 15 lg.sns (some ⟨bq, 0, none⟩) sc ([bq])], Ff [rl evC 31 3 lg.evs eo ec eF, rl mkC 93 2 lg.mks (some ⟨b72, 0, none⟩) mc ([b72]), rl ptC 84 15 lg.sns (some ⟨bq, 0, none⟩) sc ([bq])]⟩ [(0, .pointer (some ⟨bl, 0, none⟩)), (1, .pointer (some ⟨bq, off, none⟩)), (4, .pointer (some ⟨b2, 0, none⟩)), (5, .pointer (some ⟨b14, 0, none⟩)), (6, .int .i64 good), (9, .int .i64 x.idx), (7, .slice (winA (some ⟨b72, 0, none⟩) mc j' 2) (lg.mks.length - j') (mc - j')), (8, .slice (winA (some ⟨bq, 0, none⟩) sc i 15) (lg.sns.length - i) (sc - i))] [(bl, ⟨logC lg.base (.slice eo lg.evs.length ec) (.slice (some ⟨b72, 0, none⟩) lg.mks.length mc) (.slice (some ⟨bq, 0, none⟩) lg.sns.length sc), 89, true⟩), (bq, ⟨cs', 84, true⟩), (b2, ⟨[.int .i64 0, .int .i64 0, .int .i64 0], 114, false⟩), (b14, ⟨curC ((runF (seg lg.evs q (x.idx - pos').toNat) (m', o')).1) ((runF (seg lg.evs q (x.idx - pos').toNat) (m', o')).2) x.idx, 105, false⟩), (b72, ⟨cs73, 93, true⟩)] ca cw → K409 ca cw := by
              intro j' a411 w412 hi414 hi415 hi416 hi417 h413
              have hj' := hi414
              have hle1 := hi415
              have hvm := hi416
              have hstop1 := hi417
              refine hK409 _ _ ?_
              clear hK409
              refine wp_seq_k fun K418 hK418 => ?_
              refine wp_block ?_
              have hm419 : ∀ (i' : Nat) (ca : Act) (cw : World), (i' ≤ lg.sns.length) → (i ≤ i') → (vs x.idx (runF (seg lg.evs q (x.idx - pos').toNat) (m', o')) (lg.sns.drop i) = some (lg.sns.drop i')) → (∀ z, lg.sns[i']? = some z → z.idx ≠ x.idx) → St ⟨165, [], w, Rws [rl evC 31 3 lg.evs eo ec eF, rl mkC 93 2 lg.mks (some ⟨b72, 0, none⟩) mc ([b72]), rl ptC 84 15 lg.sns (some ⟨bq, 0, none⟩) sc ([bq])], Ff [rl evC 31 3 lg.evs eo ec eF, rl mkC 93 2 lg.mks (some ⟨b72, 0, none⟩) mc ([b72]), rl ptC 84 15 lg.sns (some ⟨bq, 0, none⟩) sc ([bq])]⟩ [(0, .pointer (some ⟨bl, 0, none⟩)), (1, .pointer (some ⟨bq, off, none⟩)), (4, .pointer (some ⟨b2, 0, none⟩)), (5, .pointer (some ⟨b14, 0, none⟩)), (6, .int .i64 good), (9, .int .i64 x.idx), (8, .slice (winA (some ⟨bq, 0, none⟩) sc i' 15) (lg.sns.length - i') (sc - i')), (7, .slice (winA (some ⟨b72, 0, none⟩) mc j' 2) (lg.mks.length - j') (mc - j'))] [(bl, ⟨logC lg.base (.slice eo lg.evs.length ec) (.slice (some ⟨b72, 0, none⟩) lg.mks.length mc) (.slice (some ⟨bq, 0, none⟩) lg.sns.length sc), 89, true⟩), (bq, ⟨cs', 84, true⟩), (b2, ⟨[.int .i64 0, .int .i64 0, .int .i64 0], 114, false⟩), (b14, ⟨curC ((runF (seg lg.evs q (x.idx - pos').toNat) (m', o')).1) ((runF (seg lg.evs q (x.idx - pos').toNat) (m', o')).2) x.idx, 105, false⟩), (b72, ⟨cs73, 93, true⟩)] ca cw → K418 ca cw := by
                intro i' a420 w421 hi423 hi424 hi425 hi426 h422
                have hi' := hi423
                have hle2 := hi424
                have hvs := hi425
                have hstop2 := hi426
                have hprog : lg.mks.length - j' + (lg.sns.length - i') < lg.mks.length - j + (lg.sns.length - i) := by
                  have : j ≠ j' := by intro hjj; subst hjj; exact hstop1 x hx rfl
                  have := (List.getElem?_eq_some_iff.1 hx).1; omega
                have hall : (∀ z, lg.mks[j]? = some z → x.idx ≤ z.idx) ∧ (∀ z, lg.sns[i]? = some z → x.idx ≤ z.idx) := by
                  refine ⟨fun z hz => ?_, fun z hz => ?_⟩
                  · rw [hx] at hz; cases hz; omega
                  · have := (List.getElem?_eq_some_iff.1 hz).1; omega
                have hgm' : ∀ z ∈ lg.mks.drop j', x.idx ≤ z.idx := fun z hz => mk_ge hms hall.1 z ((List.drop_sublist_drop_left lg.mks hle1).mem hz)
                have hgs' : ∀ z ∈ lg.sns.drop i', x.idx ≤ z.idx := fun z hz => pt_ge hsort hall.2 z ((List.drop_sublist_drop_left lg.sns hle2).mem hz)
                refine hK418 _ _ ?_
                clear hK418
                refine nd_start (l := [0, 1]) rfl ?_
                refine nd_batch tabOk tabZ_ok [(0, {}), (1, {})] [0, 1, 4, 5, 9, 8, 7, 6] (T' := [(0, .pointer (some ⟨bl, 0, none⟩)), (1, .pointer (some ⟨bq, off, none⟩)), (4, .pointer (some ⟨b2, 0, none⟩)), (5, .pointer (some ⟨b14, 0, none⟩)), (9, .int .i64 x.idx), (8, .slice (winA (some ⟨bq, 0, none⟩) sc i' 15) (lg.sns.length - i') (sc - i')), (7, .slice (winA (some ⟨b72, 0, none⟩) mc j' 2) (lg.mks.length - j') (mc - j')), (6, .int .i64 x.idx)]) (φ := True) (rest := []) h422 (by kernel_rfl) rfl trivial fun a427 h428 => ?_
                clear h422
                refine nd_done ?_
                have h429 := h428.memMono (L' := [(bl, ⟨logC lg.base (.slice eo lg.evs.length ec) (.slice (some ⟨b72, 0, none⟩) lg.mks.length mc) (.slice (some ⟨bq, 0, none⟩) lg.sns.length sc), 89, true⟩), (bq, ⟨cs', 84, true⟩), (b2, ⟨[.int .i64 0, .int .i64 0, .int .i64 0], 114, false⟩), (b14, ⟨curC ((runF (seg lg.evs q (x.idx - pos').toNat) (m', o')).1) ((runF (seg lg.evs q (x.idx - pos').toNat) (m', o')).2) x.idx, 105, false⟩)]) (List.Sublist.cons_cons _ (List.Sublist.cons_cons _ (List.Sublist.cons_cons _ (List.Sublist.cons_cons _ (List.Sublist.cons _ List.Sublist.slnil)))))
                clear h428
                exact ⟨g, by omega, j', i', (runF (seg lg.evs q (x.idx - pos').toNat) (m', o')).1, (runF (seg lg.evs q (x.idx - pos').toNat) (m', o')).2, x.idx, x.idx, (x.idx - lg.base.idx).toNat, hj', hi', by omega, by omega, by omega, hmok2, hgm', hgs', by rw [← hv]; exact (vloop_next hnx hfin hs2 hvm hvs).symm, (h429.slotsMono (restr_spec (keep := [0, 1, 4, 5, 6, 7, 8]) rfl))⟩
              clear hK418
              refine wp_loop_ghost (fun gg ga gw => ∃ (i' : Nat), (i' ≤ lg.sns.length) ∧ (i ≤ i') ∧ (gg = lg.sns.length - i') ∧ (vs x.idx (runF (seg lg.evs q (x.idx - pos').toNat) (m', o')) (lg.sns.drop i) = vs x.idx (runF (seg lg.evs q (x.idx - pos').toNat) (m', o')) (lg.sns.drop i')) ∧ St ⟨165, [], w, Rws [rl evC 31 3 lg.evs eo ec eF, rl mkC 93 2 lg.mks (some ⟨b72, 0, none⟩) mc ([b72]), rl ptC 84 15 lg.sns (some ⟨bq, 0, none⟩) sc ([bq])], Ff [rl evC 31 3 lg.evs eo ec eF, rl mkC 93 2 lg.mks (some ⟨b72, 0, none⟩) mc ([b72]), rl ptC 84 15 lg.sns (some ⟨bq, 0, none⟩) sc ([bq])]⟩ [(0, .pointer (some ⟨bl, 0, none⟩)), (1, .pointer (some ⟨bq, off, none⟩)), (4, .pointer (some ⟨b2, 0, none⟩)), (5, .pointer (some ⟨b14, 0, none⟩)), (6, .int .i64 good), (9, .int .i64 x.idx), (8, .slice (winA (some ⟨bq, 0, none⟩) sc i' 15) (lg.sns.length - i') (sc - i')), (7, .slice (winA (some ⟨b72, 0, none⟩) mc j' 2) (lg.mks.length - j') (mc - j'))] [(bl, ⟨logC lg.base (.slice eo lg.evs.length ec) (.slice (some ⟨b72, 0, none⟩) lg.mks.length mc) (.slice (some ⟨bq, 0, none⟩) lg.sns.length sc), 89, true⟩), (bq, ⟨cs', 84, true⟩), (b2, ⟨[.int .i64 0, .int .i64 0, .int .i64 0], 114, false⟩), (b14, ⟨curC ((runF (seg lg.evs q (x.idx - pos').toNat) (m', o')).1) ((runF (seg lg.evs q (x.idx - pos').toNat) (m', o')).2) x.idx, 105, false⟩), (b72, ⟨cs73, 93, true⟩)] ga gw) (lg.sns.length - i) ⟨i, by omega, Nat.le_refl _, rfl, rfl, (h413.slotsMono (restr_spec (keep := [0, 1, 4, 5, 6, 9, 8, 7]) rfl))⟩ ?_
              clear h413
              rintro gg a430 w431 ⟨i', hi433, hi434, hi435, hi436, h432⟩
              refine wp_seq_k fun K437 hK437 => ?_
              refine wp_seq_k fun K438 hK438 => ?_
              rcases Bool.eq_false_or_eq_true (decide ((((lg.sns.length - i') : Nat) : Int) > 0)) with hb439 | hb439
              ·
                have hb439f : (((lg.sns.length - i') : Nat) : Int) > 0 := by simpa using hb439
                obtain ⟨y', hy'⟩ := Sx.get_some (xs := lg.sns) (i := i') (by omega)
                have hc440 := rl_at (h432.inv.get (j := 2) rfl) (h432.kn (k := 1) rfl) ptC_len hy'
                have hlt441 : i' < sc := by have h1 : lg.sns.length ≤ sc := rl_cap (h432.inv.get (j := 2) rfl); have h2 := (List.getElem?_eq_some_iff.1 hy').1; omega
                rw [winA_some bq 15 hlt441] at h432
                refine nd_start (l := [0, 1, 2, 3, 4, 5, 6, 7, 8, 9, 10]) rfl ?_
                refine nd_batch tabOk tabZ_ok [(0, {}), (1, {}), (2, {f := 2}), (3, {}), (4, {}), (5, {}), (6, {}), (7, {k := 1, m := 1, vs := [.int .i64 y'.idx]}), (8, {}), (9, {}), (10, {})] [0, 1, 4, 5, 6, 9, 8, 7, 136] (T' := [(0, .pointer (some ⟨bl, 0, none⟩)), (1, .pointer (some ⟨bq, off, none⟩)), (4, .pointer (some ⟨b2, 0, none⟩)), (5, .pointer (some ⟨b14, 0, none⟩)), (6, .int .i64 good), (9, .int .i64 x.idx), (8, .slice (some ⟨bq, (i' * 15), none⟩) (lg.sns.length - i') (sc - i')), (7, .slice (winA (some ⟨b72, 0, none⟩) mc j' 2) (lg.mks.length - j') (mc - j')), (136, .bool (y'.idx == x.idx))]) (φ := (decide ((((lg.sns.length - i') : Nat) : Int) > 0)) = true ∧ (0 ≤ (0 : Int) ∧ (0 : Int) < (((lg.sns.length - i') : Nat) : Int)) ∧ (bq = bq ∧ cellsAre cs' (i' * 15) [.int .i64 y'.idx]) ∧ True) (rest := []) h432 (by kernel_rfl) rfl ⟨hb439, ⟨by omega, by omega⟩, ⟨rfl, (pt_idx hc440)⟩, trivial⟩ fun a442 h443 => ?_
                clear h432
                refine nd_done ?_
                refine hK438 _ _ ?_
                clear hK438
                refine c_split h443 (b := (y'.idx == x.idx)) rfl (fun hc444 => ?_) (fun hc444 => ?_)
                ·
                  have hc444f : y'.idx = x.idx := by simpa using hc444
                  have hxn : y'.idx = x.idx := hc444f
                  refine wp_skip ?_
                  refine hK437 _ _ ?_
                  clear hK437
                  refine wp_seq_k fun K445 hK445 => ?_
                  refine wp_block ?_
                  refine wp_seq_k fun K446 hK446 => ?_
                  rcases Bool.eq_false_or_eq_true ((Bool.xor true (machEq y'.st (runF (seg lg.evs q (x.idx - pos').toNat) (m', o')).1))) with hb447 | hb447
                  ·
                    have hme : machEq y'.st (runF (seg lg.evs q (x.idx - pos').toNat) (m', o')).1 = false := by simpa using hb447
                    have hvs := hi436.trans (vs_bad1 hy' hxn hme)
                    refine dr_start (KB := [bl, bq, b2, b14, b72]) (Bi := [[0, 1, 2, 3, 4], [0, 1, 2, 3, 4], [0, 1, 2, 3, 4], [0, 1, 2, 3, 4], [0, 1, 2, 3, 4], [0, 1, 2, 3, 4], [0, 1, 2, 3, 4], [0, 1, 2, 3, 4], [0, 1, 2, 3, 4], [0, 1, 2, 3, 4], [0, 1, 2, 3, 4], [0, 1, 2, 3, 4], [0, 1, 2, 3, 4], [0, 1, 2, 3, 4], [0, 1, 2, 3, 4], [0, 1, 2, 3, 4]]) mixed h443 fun w448 h449 => ?_
                    clear h443
                    refine dr_batch tabOk tabZ_ok (by repeat (first | exact PF.body | with_reducible apply PF.inB | with_reducible apply PF.next)) [(0, {}), (1, {}), (2, {}), (3, {k := 1, m := 1, vs := [.int .u64 y'.st.now, .int .i8 y'.st.cur, .int .u8 y'.st.s0, .int .u8 y'.st.s1, .int .u8 y'.st.s2, .int .u8 y'.st.s3, .int .u64 y'.st.r0, .int .u64 y'.st.r1, .int .u64 y'.st.r2, .int .u64 y'.st.r3, .int .u64 y'.st.word], p := 1}), (4, {}), (5, {k := 3, p := 3}), (6, {f := 2}), (7, {}), (8, {}), (9, {}), (10, {}), (11, {k := 0, p := 0}), (12, {}), (13, {k := 0, p := 0}), (14, {}), (15, {})] [0, 1, 4, 5, 6, 9, 8, 7, 154] (T' := [(0, .pointer (some ⟨bl, 0, none⟩)), (1, .pointer (some ⟨bq, off, none⟩)), (4, .pointer (some ⟨b2, 0, none⟩)), (5, .pointer (some ⟨b14, 0, none⟩)), (6, .int .i64 good), (9, .int .i64 x.idx), (8, .slice (some ⟨bq, (i' * 15), none⟩) (lg.sns.length - i') (sc - i')), (7, .slice (winA (some ⟨b72, 0, none⟩) mc j' 2) (lg.mks.length - j') (mc - j')), (154, .bool true)]) (φ := (0 ≤ (0 : Int) ∧ (0 : Int) < (((lg.sns.length - i') : Nat) : Int)) ∧ (bq = bq ∧ cellsAre cs' ((i' * 15) + 1) [.int .u64 y'.st.now, .int .i8 y'.st.cur, .int .u8 y'.st.s0, .int .u8 y'.st.s1, .int .u8 y'.st.s2, .int .u8 y'.st.s3, .int .u64 y'.st.r0, .int .u64 y'.st.r1, .int .u64 y'.st.r2, .int .u64 y'.st.r3, .int .u64 y'.st.word]) ∧ (b14 = b14 ∧ Nat.ble (0 + 11) 15 = true) ∧ EqRun Tryf.prog 58 (.agg #[.int .u64 y'.st.now, .int .i8 y'.st.cur, .int .u8 y'.st.s0, .int .u8 y'.st.s1, .int .u8 y'.st.s2, .int .u8 y'.st.s3, .int .u64 y'.st.r0, .int .u64 y'.st.r1, .int .u64 y'.st.r2, .int .u64 y'.st.r3, .int .u64 y'.st.word]) (.agg #[.int .u64 ((runF (seg lg.evs q (x.idx - pos').toNat) (m', o')).1.now), .int .i8 ((runF (seg lg.evs q (x.idx - pos').toNat) (m', o')).1.cur), .int .u8 ((runF (seg lg.evs q (x.idx - pos').toNat) (m', o')).1.s0), .int .u8 ((runF (seg lg.evs q (x.idx - pos').toNat) (m', o')).1.s1), .int .u8 ((runF (seg lg.evs q (x.idx - pos').toNat) (m', o')).1.s2), .int .u8 ((runF (seg lg.evs q (x.idx - pos').toNat) (m', o')).1.s3), .int .u64 ((runF (seg lg.evs q (x.idx - pos').toNat) (m', o')).1.r0), .int .u64 ((runF (seg lg.evs q (x.idx - pos').toNat) (m', o')).1.r1), .int .u64 ((runF (seg lg.evs q (x.idx - pos').toNat) (m', o')).1.r2), .int .u64 ((runF (seg lg.evs q (x.idx - pos').toNat) (m', o')).1.r3), .int .u64 ((runF (seg lg.evs q (x.idx - pos').toNat) (m', o')).1.word)]) false ∧ True) (fuel := 0) h449 (by kernel_rfl) rfl (by kernel_rfl) (by kernel_rfl) ⟨trivial, trivial, trivial, rfl, trivial, rfl, trivial, trivial, trivial, trivial, trivial, rfl, trivial, rfl, trivial, trivial, trivial⟩ ⟨⟨by omega, by omega⟩, ⟨rfl, (pt_st hc440)⟩, ⟨rfl, rfl⟩, (by have hq := run46 y'.st (runF (seg lg.evs q (x.idx - pos').toNat) (m', o')).1; rw [show machEq y'.st (runF (seg lg.evs q (x.idx - pos').toNat) (m', o')).1 = false by simpa using hb447] at hq; exact hq), trivial⟩ fun a451 h452 => ?_
                    clear h449
                    refine wpAnyK_done (by kernel_rfl) ?_ _
                    refine hK446 _ _ ?_
                    clear hK446
                    refine c_true h452 rfl ?_
                    refine wp_seq_k fun K453 hK453 => ?_
                    refine nd_start (l := [0, 1, 2, 3, 4, 5, 6, 7, 8, 9]) rfl ?_
                    refine nd_batch tabOk tabZ_ok [(0, {}), (1, {}), (2, {}), (3, {}), (4, {}), (5, {}), (6, {k := 1, m := 1, vs := [.int .i64 p.idx]}), (7, {}), (8, {})] [0, 1, 4, 5, 6, 9, 8, 7, 163] (T' := [(0, .pointer (some ⟨bl, 0, none⟩)), (1, .pointer (some ⟨bq, off, none⟩)), (4, .pointer (some ⟨b2, 0, none⟩)), (5, .pointer (some ⟨b14, 0, none⟩)), (6, .int .i64 good), (9, .int .i64 x.idx), (8, .slice (some ⟨bq, (i' * 15), none⟩) (lg.sns.length - i') (sc - i')), (7, .slice (winA (some ⟨b72, 0, none⟩) mc j' 2) (lg.mks.length - j') (mc - j')), (163, .agg #[.int .i64 x.idx, .int .i64 good, .int .i64 (x.idx - p.idx)])]) (φ := (bq = bq ∧ cellsAre cs' off [.int .i64 p.idx]) ∧ inR .i64 (x.idx - p.idx) ∧ True) (rest := [9]) h452 (by kernel_rfl) rfl ⟨⟨rfl, (pt_idx hp)⟩, ⟨by omega, by omega⟩, trivial⟩ fun a454 h455 => ?_
                    clear h452
                    refine nd_op ?_
                    refine op_store tabOk {k := 2} (L' := [(bl, ⟨logC lg.base (.slice eo lg.evs.length ec) (.slice (some ⟨b72, 0, none⟩) lg.mks.length mc) (.slice (some ⟨bq, 0, none⟩) lg.sns.length sc), 89, true⟩), (bq, ⟨cs', 84, true⟩), (b2, ⟨[.int .i64 x.idx, .int .i64 good, .int .i64 (x.idx - p.idx)], 114, false⟩), (b14, ⟨curC ((runF (seg lg.evs q (x.idx - pos').toNat) (m', o')).1) ((runF (seg lg.evs q (x.idx - pos').toNat) (m', o')).2) x.idx, 105, false⟩), (b72, ⟨cs73, 93, true⟩)]) (φ := b2 = b2 ∧ Nat.ble (0 + 3) 3 = true) h455 rfl rfl rfl (by kernel_rfl) ⟨rfl, rfl⟩ fun w456 h457 => ?_
                    clear h455
                    refine nd_done ?_
                    refine hK453 _ _ ?_
                    clear hK453
                    refine wp_ret ?_
                    have hres := hv.symm.trans (vloop_snap hnx hfin hs2 hvm hvs)
                    try simp only [Exit.then, Exit.inBlock]
                    try rw [if_pos trivial]
                    exact s_ret tabOk tabZ_ok h457 [(.cell 4 114, {k := 2})] (vs := [.agg #[.int .i64 x.idx, .int .i64 good, .int .i64 (x.idx - p.idx)]]) (φ := (b2 = b2 ∧ Nat.ble (0 + 3) 3 = true) ∧ True) rfl (by kernel_rfl) ⟨⟨rfl, rfl⟩, trivial⟩ ⟨by rw [hres]; rfl, h457.frame⟩
                  ·
                    have hme : machEq y'.st (runF (seg lg.evs q (x.idx - pos').toNat) (m', o')).1 = true := by simpa using hb447
                    refine dr_start (KB := [bl, bq, b2, b14, b72]) (Bi := [[0, 1, 2, 3, 4], [0, 1, 2, 3, 4], [0, 1, 2, 3, 4], [0, 1, 2, 3, 4], [0, 1, 2, 3, 4], [0, 1, 2, 3, 4], [0, 1, 2, 3, 4], [0, 1, 2, 3, 4], [0, 1, 2, 3, 4], [0, 1, 2, 3, 4], [0, 1, 2, 3, 4], [0, 1, 2, 3, 4], [0, 1, 2, 3, 4], [0, 1, 2, 3, 4], [0, 1, 2, 3, 4], [0, 1, 2, 3, 4]]) mixed h443 fun w458 h459 => ?_
                    clear h443
                    refine dr_batch tabOk tabZ_ok (by repeat (first | exact PF.body | with_reducible apply PF.inB | with_reducible apply PF.next)) [(0, {}), (1, {}), (2, {}), (3, {k := 1, m := 1, vs := [.int .u64 y'.st.now, .int .i8 y'.st.cur, .int .u8 y'.st.s0, .int .u8 y'.st.s1, .int .u8 y'.st.s2, .int .u8 y'.st.s3, .int .u64 y'.st.r0, .int .u64 y'.st.r1, .int .u64 y'.st.r2, .int .u64 y'.st.r3, .int .u64 y'.st.word], p := 1}), (4, {}), (5, {k := 3, p := 3}), (6, {f := 1}), (7, {}), (8, {}), (9, {}), (10, {}), (11, {k := 1, m := 1, vs := [.bool y'.out.refused, .int .i8 y'.out.running, .int .u64 y'.out.value], p := 1}), (12, {}), (13, {k := 3, p := 3}), (14, {vs := [.bool (otEq y'.out (runF (seg lg.evs q (x.idx - pos').toNat) (m', o')).2)]}), (15, {})] [0, 1, 4, 5, 6, 9, 8, 7, 154] (T' := [(0, .pointer (some ⟨bl, 0, none⟩)), (1, .pointer (some ⟨bq, off, none⟩)), (4, .pointer (some ⟨b2, 0, none⟩)), (5, .pointer (some ⟨b14, 0, none⟩)), (6, .int .i64 good), (9, .int .i64 x.idx), (8, .slice (some ⟨bq, (i' * 15), none⟩) (lg.sns.length - i') (sc - i')), (7, .slice (winA (some ⟨b72, 0, none⟩) mc j' 2) (lg.mks.length - j') (mc - j')), (154, .bool (Bool.xor true (otEq y'.out (runF (seg lg.evs q (x.idx - pos').toNat) (m', o')).2)))]) (φ := (0 ≤ (0 : Int) ∧ (0 : Int) < (((lg.sns.length - i') : Nat) : Int)) ∧ (bq = bq ∧ cellsAre cs' ((i' * 15) + 1) [.int .u64 y'.st.now, .int .i8 y'.st.cur, .int .u8 y'.st.s0, .int .u8 y'.st.s1, .int .u8 y'.st.s2, .int .u8 y'.st.s3, .int .u64 y'.st.r0, .int .u64 y'.st.r1, .int .u64 y'.st.r2, .int .u64 y'.st.r3, .int .u64 y'.st.word]) ∧ (b14 = b14 ∧ Nat.ble (0 + 11) 15 = true) ∧ EqRun Tryf.prog 58 (.agg #[.int .u64 y'.st.now, .int .i8 y'.st.cur, .int .u8 y'.st.s0, .int .u8 y'.st.s1, .int .u8 y'.st.s2, .int .u8 y'.st.s3, .int .u64 y'.st.r0, .int .u64 y'.st.r1, .int .u64 y'.st.r2, .int .u64 y'.st.r3, .int .u64 y'.st.word]) (.agg #[.int .u64 ((runF (seg lg.evs q (x.idx - pos').toNat) (m', o')).1.now), .int .i8 ((runF (seg lg.evs q (x.idx - pos').toNat) (m', o')).1.cur), .int .u8 ((runF (seg lg.evs q (x.idx - pos').toNat) (m', o')).1.s0), .int .u8 ((runF (seg lg.evs q (x.idx - pos').toNat) (m', o')).1.s1), .int .u8 ((runF (seg lg.evs q (x.idx - pos').toNat) (m', o')).1.s2), .int .u8 ((runF (seg lg.evs q (x.idx - pos').toNat) (m', o')).1.s3), .int .u64 ((runF (seg lg.evs q (x.idx - pos').toNat) (m', o')).1.r0), .int .u64 ((runF (seg lg.evs q (x.idx - pos').toNat) (m', o')).1.r1), .int .u64 ((runF (seg lg.evs q (x.idx - pos').toNat) (m', o')).1.r2), .int .u64 ((runF (seg lg.evs q (x.idx - pos').toNat) (m', o')).1.r3), .int .u64 ((runF (seg lg.evs q (x.idx - pos').toNat) (m', o')).1.word)]) true ∧ (0 ≤ (0 : Int) ∧ (0 : Int) < (((lg.sns.length - i') : Nat) : Int)) ∧ (bq = bq ∧ cellsAre cs' ((i' * 15) + 12) [.bool y'.out.refused, .int .i8 y'.out.running, .int .u64 y'.out.value]) ∧ (b14 = b14 ∧ Nat.ble (11 + 3) 15 = true) ∧ EqRun Tryf.prog 44 (.agg #[.bool y'.out.refused, .int .i8 y'.out.running, .int .u64 y'.out.value]) (.agg #[.bool ((runF (seg lg.evs q (x.idx - pos').toNat) (m', o')).2.refused), .int .i8 ((runF (seg lg.evs q (x.idx - pos').toNat) (m', o')).2.running), .int .u64 ((runF (seg lg.evs q (x.idx - pos').toNat) (m', o')).2.value)]) (otEq y'.out (runF (seg lg.evs q (x.idx - pos').toNat) (m', o')).2) ∧ True) (fuel := 0) h459 (by kernel_rfl) rfl (by kernel_rfl) (by kernel_rfl) ⟨trivial, trivial, trivial, rfl, trivial, rfl, trivial, trivial, trivial, trivial, trivial, rfl, trivial, rfl, trivial, trivial, trivial⟩ ⟨⟨by omega, by omega⟩, ⟨rfl, (pt_st hc440)⟩, ⟨rfl, rfl⟩, (by have hq := run46 y'.st (runF (seg lg.evs q (x.idx - pos').toNat) (m', o')).1; rw [show machEq y'.st (runF (seg lg.evs q (x.idx - pos').toNat) (m', o')).1 = true by simpa using hb447] at hq; exact hq), ⟨by omega, by omega⟩, ⟨rfl, (pt_out hc440)⟩, ⟨rfl, rfl⟩, run39 y'.out (runF (seg lg.evs q (x.idx - pos').toNat) (m', o')).2, trivial⟩ fun a461 h462 => ?_
                    clear h459
                    refine wpAnyK_done (by kernel_rfl) ?_ _
                    refine hK446 _ _ ?_
                    clear hK446
                    refine c_split h462 (b := (Bool.xor true (otEq y'.out (runF (seg lg.evs q (x.idx - pos').toNat) (m', o')).2))) rfl (fun hc463 => ?_) (fun hc463 => ?_)
                    ·
                      have hoe : otEq y'.out (runF (seg lg.evs q (x.idx - pos').toNat) (m', o')).2 = false := by simpa using hc463
                      have hvs := hi436.trans (vs_bad2 hy' hxn hoe)
                      refine wp_seq_k fun K464 hK464 => ?_
                      refine nd_start (l := [0, 1, 2, 3, 4, 5, 6, 7, 8, 9]) rfl ?_
                      refine nd_batch tabOk tabZ_ok [(0, {}), (1, {}), (2, {}), (3, {}), (4, {}), (5, {}), (6, {k := 1, m := 1, vs := [.int .i64 p.idx]}), (7, {}), (8, {})] [0, 1, 4, 5, 6, 9, 8, 7, 163] (T' := [(0, .pointer (some ⟨bl, 0, none⟩)), (1, .pointer (some ⟨bq, off, none⟩)), (4, .pointer (some ⟨b2, 0, none⟩)), (5, .pointer (some ⟨b14, 0, none⟩)), (6, .int .i64 good), (9, .int .i64 x.idx), (8, .slice (some ⟨bq, (i' * 15), none⟩) (lg.sns.length - i') (sc - i')), (7, .slice (winA (some ⟨b72, 0, none⟩) mc j' 2) (lg.mks.length - j') (mc - j')), (163, .agg #[.int .i64 x.idx, .int .i64 good, .int .i64 (x.idx - p.idx)])]) (φ := (bq = bq ∧ cellsAre cs' off [.int .i64 p.idx]) ∧ inR .i64 (x.idx - p.idx) ∧ True) (rest := [9]) h462 (by kernel_rfl) rfl ⟨⟨rfl, (pt_idx hp)⟩, ⟨by omega, by omega⟩, trivial⟩ fun a465 h466 => ?_
                      clear h462
                      refine nd_op ?_
                      refine op_store tabOk {k := 2} (L' := [(bl, ⟨logC lg.base (.slice eo lg.evs.length ec) (.slice (some ⟨b72, 0, none⟩) lg.mks.length mc) (.slice (some ⟨bq, 0, none⟩) lg.sns.length sc), 89, true⟩), (bq, ⟨cs', 84, true⟩), (b2, ⟨[.int .i64 x.idx, .int .i64 good, .int .i64 (x.idx - p.idx)], 114, false⟩), (b14, ⟨curC ((runF (seg lg.evs q (x.idx - pos').toNat) (m', o')).1) ((runF (seg lg.evs q (x.idx - pos').toNat) (m', o')).2) x.idx, 105, false⟩), (b72, ⟨cs73, 93, true⟩)]) (φ := b2 = b2 ∧ Nat.ble (0 + 3) 3 = true) h466 rfl rfl rfl (by kernel_rfl) ⟨rfl, rfl⟩ fun w467 h468 => ?_
                      clear h466
                      refine nd_done ?_
                      refine hK464 _ _ ?_
                      clear hK464
                      refine wp_ret ?_
                      have hres := hv.symm.trans (vloop_snap hnx hfin hs2 hvm hvs)
                      try simp only [Exit.then, Exit.inBlock]
                      try rw [if_pos trivial]
                      exact s_ret tabOk tabZ_ok h468 [(.cell 4 114, {k := 2})] (vs := [.agg #[.int .i64 x.idx, .int .i64 good, .int .i64 (x.idx - p.idx)]]) (φ := (b2 = b2 ∧ Nat.ble (0 + 3) 3 = true) ∧ True) rfl (by kernel_rfl) ⟨⟨rfl, rfl⟩, trivial⟩ ⟨by rw [hres]; rfl, h468.frame⟩
                    ·
                      have hoe : otEq y'.out (runF (seg lg.evs q (x.idx - pos').toNat) (m', o')).2 = true := by simpa using hc463
                      have hsame := hi436.trans (vs_same hy' hxn hme hoe)
                      refine wp_skip ?_
                      refine hK445 _ _ ?_
                      clear hK445
                      refine nd_start (l := [0, 1, 2]) rfl ?_
                      refine nd_batch tabOk tabZ_ok [(0, {}), (1, {}), (2, {})] [0, 1, 4, 5, 6, 9, 7, 8] (T' := [(0, .pointer (some ⟨bl, 0, none⟩)), (1, .pointer (some ⟨bq, off, none⟩)), (4, .pointer (some ⟨b2, 0, none⟩)), (5, .pointer (some ⟨b14, 0, none⟩)), (6, .int .i64 good), (9, .int .i64 x.idx), (7, .slice (winA (some ⟨b72, 0, none⟩) mc j' 2) (lg.mks.length - j') (mc - j')), (8, .slice (sliceBase (some ⟨bq, (i' * 15), none⟩) (sc - i') 1 15) ((lg.sns.length - i') - 1) ((sc - i') - 1))]) (φ := (0 ≤ (1 : Int) ∧ (1 : Int) ≤ (((lg.sns.length - i') : Nat) : Int)) ∧ True) (rest := []) h462 (by kernel_rfl) rfl ⟨⟨by omega, by omega⟩, trivial⟩ fun a469 h470 => ?_
                      clear h462
                      refine nd_done ?_
                      have e471 : sliceBase (some ⟨bq, (i' * 15), none⟩) (sc - i') 1 15 = winA (some ⟨bq, 0, none⟩) sc (i' + 1) 15 := by rw [← winA_some bq 15 hlt441]; exact winA_succ 15 (.inr ⟨bq, rfl⟩) hlt441
                      have e472 : lg.sns.length - i' - 1 = lg.sns.length - (i' + 1) := by omega
                      have e473 : sc - i' - 1 = sc - (i' + 1) := by omega
                      rw [e471, e472, e473] at h470
                      exact ⟨(gg - 1), by omega, (i' + 1), by omega, by omega, by omega, hsame, (h470.slotsMono (restr_spec (keep := [0, 1, 4, 5, 6, 9, 8, 7]) rfl))⟩
                ·
                  have hc444f : y'.idx ≠ x.idx := by simpa using hc444
                  refine wp_exit ?_
                  rw [← winA_some bq 15 hlt441] at h443
                  have hstop : ∀ z, lg.sns[i']? = some z → z.idx ≠ x.idx := (by intro z hz; rw [hy'] at hz; cases hz; exact hc444f)
                  exact hm419 i' _ _ hi433 hi434 (hi436.trans (vs_stop hstop)) hstop (h443.slotsMono (restr_spec (keep := [0, 1, 4, 5, 6, 9, 8, 7]) rfl))
              ·
                have hb439f : ¬ (((lg.sns.length - i') : Nat) : Int) > 0 := by simpa using hb439
                refine nd_start (l := [0, 1, 2, 3, 4, 5, 6, 7, 8, 9, 10]) rfl ?_
                refine nd_batch tabOk tabZ_ok [(0, {}), (1, {}), (2, {f := 1}), (3, {}), (4, {}), (5, {}), (6, {}), (7, {}), (8, {}), (9, {}), (10, {})] [0, 1, 4, 5, 6, 9, 8, 7, 136] (T' := [(0, .pointer (some ⟨bl, 0, none⟩)), (1, .pointer (some ⟨bq, off, none⟩)), (4, .pointer (some ⟨b2, 0, none⟩)), (5, .pointer (some ⟨b14, 0, none⟩)), (6, .int .i64 good), (9, .int .i64 x.idx), (8, .slice (winA (some ⟨bq, 0, none⟩) sc i' 15) (lg.sns.length - i') (sc - i')), (7, .slice (winA (some ⟨b72, 0, none⟩) mc j' 2) (lg.mks.length - j') (mc - j')), (136, .bool false)]) (φ := (decide ((((lg.sns.length - i') : Nat) : Int) > 0)) = false ∧ True) (rest := []) h432 (by kernel_rfl) rfl ⟨hb439, trivial⟩ fun a474 h475 => ?_
                clear h432
                refine nd_done ?_
                refine hK438 _ _ ?_
                clear hK438
                refine c_false h475 rfl ?_
                refine wp_exit ?_
                have hstop : ∀ z, lg.sns[i']? = some z → z.idx ≠ x.idx := (by intro z hz; have := (List.getElem?_eq_some_iff.1 hz).1; omega)
                exact hm419 i' _ _ hi433 hi434 (hi436.trans (vs_stop hstop)) hstop (h475.slotsMono (restr_spec (keep := [0, 1, 4, 5, 6, 9, 8, 7]) rfl))
            clear hK409
            refine wp_loop_ghost (fun gg ga gw => ∃ (j' : Nat), (j' ≤ lg.mks.length) ∧ (j ≤ j') ∧ (gg = lg.mks.length - j') ∧ (vm x.idx (dig (runF (seg lg.evs q (x.idx - pos').toNat) (m', o')).1) (lg.mks.drop j) = vm x.idx (dig (runF (seg lg.evs q (x.idx - pos').toNat) (m', o')).1) (lg.mks.drop j')) ∧ St ⟨165, [], w, Rws [rl evC 31 3 lg.evs eo ec eF, rl mkC 93 2 lg.mks (some ⟨b72, 0, none⟩) mc ([b72]), rl ptC 84 15 lg.sns (some ⟨bq, 0, none⟩) sc ([bq])], Ff [rl evC 31 3 lg.evs eo ec eF, rl mkC 93 2 lg.mks (some ⟨b72, 0, none⟩) mc ([b72]), rl ptC 84 15 lg.sns (some ⟨bq, 0, none⟩) sc ([bq])]⟩ [(0, .pointer (some ⟨bl, 0, none⟩)), (1, .pointer (some ⟨bq, off, none⟩)), (4, .pointer (some ⟨b2, 0, none⟩)), (5, .pointer (some ⟨b14, 0, none⟩)), (6, .int .i64 good), (9, .int .i64 x.idx), (7, .slice (winA (some ⟨b72, 0, none⟩) mc j' 2) (lg.mks.length - j') (mc - j')), (8, .slice (winA (some ⟨bq, 0, none⟩) sc i 15) (lg.sns.length - i) (sc - i))] [(bl, ⟨logC lg.base (.slice eo lg.evs.length ec) (.slice (some ⟨b72, 0, none⟩) lg.mks.length mc) (.slice (some ⟨bq, 0, none⟩) lg.sns.length sc), 89, true⟩), (bq, ⟨cs', 84, true⟩), (b2, ⟨[.int .i64 0, .int .i64 0, .int .i64 0], 114, false⟩), (b14, ⟨curC ((runF (seg lg.evs q (x.idx - pos').toNat) (m', o')).1) ((runF (seg lg.evs q (x.idx - pos').toNat) (m', o')).2) x.idx, 105, false⟩), (b72, ⟨cs73, 93, true⟩)] ga gw) (lg.mks.length - j) ⟨j, by omega, Nat.le_refl _, rfl, rfl, (h407.slotsMono (restr_spec (keep := [0, 1, 4, 5, 6, 9, 7, 8]) rfl))⟩ ?_
            clear h407
            rintro gg a476 w477 ⟨j', hi479, hi480, hi481, hi482, h478⟩
            refine wp_seq_k fun K483 hK483 => ?_
            refine wp_seq_k fun K484 hK484 => ?_
            rcases Bool.eq_false_or_eq_true (decide ((((lg.mks.length - j') : Nat) : Int) > 0)) with hb485 | hb485
            ·
              have hb485f : (((lg.mks.length - j') : Nat) : Int) > 0 := by simpa using hb485
              obtain ⟨x', hx'⟩ := Sx.get_some (xs := lg.mks) (i := j') (by omega)
              have hc486 := rl_at (h478.inv.get (j := 1) rfl) (h478.kn (k := 4) rfl) mkC_len hx'
              have hlt487 : j' < mc := by have h1 : lg.mks.length ≤ mc := rl_cap (h478.inv.get (j := 1) rfl); have h2 := (List.getElem?_eq_some_iff.1 hx').1; omega
              rw [winA_some b72 2 hlt487] at h478
              refine nd_start (l := [0, 1, 2, 3, 4, 5, 6, 7, 8, 9, 10]) rfl ?_
              refine nd_batch tabOk tabZ_ok [(0, {}), (1, {}), (2, {f := 2}), (3, {}), (4, {}), (5, {}), (6, {}), (7, {k := 4, m := 1, vs := [.int .i64 x'.idx]}), (8, {}), (9, {}), (10, {})] [0, 1, 4, 5, 6, 9, 7, 8, 107] (T' := [(0, .pointer (some ⟨bl, 0, none⟩)), (1, .pointer (some ⟨bq, off, none⟩)), (4, .pointer (some ⟨b2, 0, none⟩)), (5, .pointer (some ⟨b14, 0, none⟩)), (6, .int .i64 good), (9, .int .i64 x.idx), (7, .slice (some ⟨b72, (j' * 2), none⟩) (lg.mks.length - j') (mc - j')), (8, .slice (winA (some ⟨bq, 0, none⟩) sc i 15) (lg.sns.length - i) (sc - i)), (107, .bool (x'.idx == x.idx))]) (φ := (decide ((((lg.mks.length - j') : Nat) : Int) > 0)) = true ∧ (0 ≤ (0 : Int) ∧ (0 : Int) < (((lg.mks.length - j') : Nat) : Int)) ∧ (b72 = b72 ∧ cellsAre cs73 (j' * 2) [.int .i64 x'.idx]) ∧ True) (rest := []) h478 (by kernel_rfl) rfl ⟨hb485, ⟨by omega, by omega⟩, ⟨rfl, ⟨(hc486).1, trivial⟩⟩, trivial⟩ fun a488 h489 => ?_
              clear h478
              refine nd_done ?_
              refine hK484 _ _ ?_
              clear hK484
              refine c_split h489 (b := (x'.idx == x.idx)) rfl (fun hc490 => ?_) (fun hc490 => ?_)
              ·
                have hc490f : x'.idx = x.idx := by simpa using hc490
                have hxn : x'.idx = x.idx := hc490f
                refine wp_skip ?_
                refine hK483 _ _ ?_
                clear hK483
                refine wp_seq_k fun K491 hK491 => ?_
                refine wp_block ?_
                refine wp_seq_k fun K492 hK492 => ?_
                refine dr_start (KB := [bl, bq, b2, b14, b72]) (Bi := [[0, 1, 2, 3, 4], [0, 1, 2, 3, 4], [0, 1, 2, 3, 4], [0, 1, 2, 3, 4], [0, 1, 2, 3, 4], [4], [0, 1, 2, 3, 4]]) mixed h489 fun w493 h494 => ?_
                clear h489
                refine dr_batch tabOk tabZ_ok (by repeat (first | exact PF.body | with_reducible apply PF.inB | with_reducible apply PF.next)) [(0, {}), (1, {}), (2, {}), (3, {k := 4, m := 1, vs := [.int .u64 x'.sum], p := 4}), (4, {})] [0, 1, 4, 5, 6, 9, 7, 8, 113, 114] (T' := [(0, .pointer (some ⟨bl, 0, none⟩)), (1, .pointer (some ⟨bq, off, none⟩)), (4, .pointer (some ⟨b2, 0, none⟩)), (5, .pointer (some ⟨b14, 0, none⟩)), (6, .int .i64 good), (9, .int .i64 x.idx), (7, .slice (some ⟨b72, (j' * 2), none⟩) (lg.mks.length - j') (mc - j')), (8, .slice (winA (some ⟨bq, 0, none⟩) sc i 15) (lg.sns.length - i) (sc - i)), (113, .int .u64 x'.sum), (114, .pointer (some ⟨b14, 0, none⟩))]) (φ := (0 ≤ (0 : Int) ∧ (0 : Int) < (((lg.mks.length - j') : Nat) : Int)) ∧ (b72 = b72 ∧ cellsAre cs73 ((j' * 2) + 1) [.int .u64 x'.sum]) ∧ True) (fuel := 2) h494 (by kernel_rfl) rfl (by kernel_rfl) (by kernel_rfl) ⟨trivial, trivial, trivial, rfl, trivial, trivial⟩ ⟨⟨by omega, by omega⟩, ⟨rfl, ⟨(hc486).2.1, trivial⟩⟩, trivial⟩ fun a496 h497 => ?_
                clear h494
                refine wpAnyK_one (i := 5) (fuel := 1) (by kernel_rfl) ?_
                refine op_call h497 rfl rfl rfl (callOk Tryf.func51 (by decide) rfl) (args := [.pointer (some ⟨b14, 0, none⟩)]) rfl (digest_ok [] (outC (runF (seg lg.evs q (x.idx - pos').toNat) (m', o')).2 ++ [.int .i64 x.idx]) (runF (seg lg.evs q (x.idx - pos').toNat) (m', o')).1 hmok2 b14 105 false _ (h497.kn (k := 3) rfl)) ?_
                rintro _ w498 ⟨rfl, hf500⟩
                refine ⟨_, rfl, ?_⟩
                have h499 := (h497.grow hf500).put (d := some 115) (v := .int .u64 (dig (runF (seg lg.evs q (x.idx - pos').toNat) (m', o')).1)) (T' := [(115, .int .u64 (dig (runF (seg lg.evs q (x.idx - pos').toNat) (m', o')).1)), (0, .pointer (some ⟨bl, 0, none⟩)), (1, .pointer (some ⟨bq, off, none⟩)), (4, .pointer (some ⟨b2, 0, none⟩)), (5, .pointer (some ⟨b14, 0, none⟩)), (6, .int .i64 good), (9, .int .i64 x.idx), (7, .slice (some ⟨b72, (j' * 2), none⟩) (lg.mks.length - j') (mc - j')), (8, .slice (winA (some ⟨bq, 0, none⟩) sc i 15) (lg.sns.length - i) (sc - i)), (113, .int .u64 x'.sum), (114, .pointer (some ⟨b14, 0, none⟩))]) rfl
                refine ⟨(h497.keepFr hf500 (kcons (by simp) knil)), ?_⟩
                clear h497
                refine dr_batch tabOk tabZ_ok (by repeat (first | exact PF.body | with_reducible apply PF.inB | with_reducible apply PF.next)) [(6, {})] [0, 1, 4, 5, 6, 9, 7, 8, 116] (T' := [(0, .pointer (some ⟨bl, 0, none⟩)), (1, .pointer (some ⟨bq, off, none⟩)), (4, .pointer (some ⟨b2, 0, none⟩)), (5, .pointer (some ⟨b14, 0, none⟩)), (6, .int .i64 good), (9, .int .i64 x.idx), (7, .slice (some ⟨b72, (j' * 2), none⟩) (lg.mks.length - j') (mc - j')), (8, .slice (winA (some ⟨bq, 0, none⟩) sc i 15) (lg.sns.length - i) (sc - i)), (116, .bool (x'.sum != (dig (runF (seg lg.evs q (x.idx - pos').toNat) (m', o')).1)))]) (φ := True) (fuel := 0) h499 (by kernel_rfl) rfl (by kernel_rfl) (by kernel_rfl) ⟨trivial, trivial⟩ trivial fun a501 h502 => ?_
                clear h499
                refine wpAnyK_done (by kernel_rfl) ?_ _
                refine hK492 _ _ ?_
                clear hK492
                refine c_split h502 (b := (x'.sum != (dig (runF (seg lg.evs q (x.idx - pos').toNat) (m', o')).1))) rfl (fun hc503 => ?_) (fun hc503 => ?_)
                ·
                  have hc503f : x'.sum ≠ (dig (runF (seg lg.evs q (x.idx - pos').toNat) (m', o')).1) := by simpa using hc503
                  have hvm := hi482.trans (vm_bad hx' hxn hc503f)
                  refine wp_seq_k fun K504 hK504 => ?_
                  refine nd_start (l := [0, 1, 2, 3, 4, 5, 6, 7, 8, 9]) rfl ?_
                  refine nd_batch tabOk tabZ_ok [(0, {}), (1, {}), (2, {}), (3, {}), (4, {}), (5, {}), (6, {k := 1, m := 1, vs := [.int .i64 p.idx]}), (7, {}), (8, {})] [0, 1, 4, 5, 6, 9, 7, 8, 125] (T' := [(0, .pointer (some ⟨bl, 0, none⟩)), (1, .pointer (some ⟨bq, off, none⟩)), (4, .pointer (some ⟨b2, 0, none⟩)), (5, .pointer (some ⟨b14, 0, none⟩)), (6, .int .i64 good), (9, .int .i64 x.idx), (7, .slice (some ⟨b72, (j' * 2), none⟩) (lg.mks.length - j') (mc - j')), (8, .slice (winA (some ⟨bq, 0, none⟩) sc i 15) (lg.sns.length - i) (sc - i)), (125, .agg #[.int .i64 x.idx, .int .i64 good, .int .i64 (x.idx - p.idx)])]) (φ := (bq = bq ∧ cellsAre cs' off [.int .i64 p.idx]) ∧ inR .i64 (x.idx - p.idx) ∧ True) (rest := [9]) h502 (by kernel_rfl) rfl ⟨⟨rfl, (pt_idx hp)⟩, ⟨by omega, by omega⟩, trivial⟩ fun a505 h506 => ?_
                  clear h502
                  refine nd_op ?_
                  refine op_store tabOk {k := 2} (L' := [(bl, ⟨logC lg.base (.slice eo lg.evs.length ec) (.slice (some ⟨b72, 0, none⟩) lg.mks.length mc) (.slice (some ⟨bq, 0, none⟩) lg.sns.length sc), 89, true⟩), (bq, ⟨cs', 84, true⟩), (b2, ⟨[.int .i64 x.idx, .int .i64 good, .int .i64 (x.idx - p.idx)], 114, false⟩), (b14, ⟨curC ((runF (seg lg.evs q (x.idx - pos').toNat) (m', o')).1) ((runF (seg lg.evs q (x.idx - pos').toNat) (m', o')).2) x.idx, 105, false⟩), (b72, ⟨cs73, 93, true⟩)]) (φ := b2 = b2 ∧ Nat.ble (0 + 3) 3 = true) h506 rfl rfl rfl (by kernel_rfl) ⟨rfl, rfl⟩ fun w507 h508 => ?_
                  clear h506
                  refine nd_done ?_
                  refine hK504 _ _ ?_
                  clear hK504
                  refine wp_ret ?_
                  have hres := hv.symm.trans (vloop_mark hnx hfin hs2 hvm)
                  try simp only [Exit.then, Exit.inBlock]
                  try rw [if_pos trivial]
                  exact s_ret tabOk tabZ_ok h508 [(.cell 4 114, {k := 2})] (vs := [.agg #[.int .i64 x.idx, .int .i64 good, .int .i64 (x.idx - p.idx)]]) (φ := (b2 = b2 ∧ Nat.ble (0 + 3) 3 = true) ∧ True) rfl (by kernel_rfl) ⟨⟨rfl, rfl⟩, trivial⟩ ⟨by rw [hres]; rfl, h508.frame⟩
                ·
                  have hc503f : x'.sum = (dig (runF (seg lg.evs q (x.idx - pos').toNat) (m', o')).1) := by simpa using hc503
                  have hsame := hi482.trans (vm_same hx' hxn hc503f)
                  refine wp_skip ?_
                  refine hK491 _ _ ?_
                  clear hK491
                  refine nd_start (l := [0, 1, 2]) rfl ?_
                  refine nd_batch tabOk tabZ_ok [(0, {}), (1, {}), (2, {})] [0, 1, 4, 5, 6, 9, 8, 7] (T' := [(0, .pointer (some ⟨bl, 0, none⟩)), (1, .pointer (some ⟨bq, off, none⟩)), (4, .pointer (some ⟨b2, 0, none⟩)), (5, .pointer (some ⟨b14, 0, none⟩)), (6, .int .i64 good), (9, .int .i64 x.idx), (8, .slice (winA (some ⟨bq, 0, none⟩) sc i 15) (lg.sns.length - i) (sc - i)), (7, .slice (sliceBase (some ⟨b72, (j' * 2), none⟩) (mc - j') 1 2) ((lg.mks.length - j') - 1) ((mc - j') - 1))]) (φ := (0 ≤ (1 : Int) ∧ (1 : Int) ≤ (((lg.mks.length - j') : Nat) : Int)) ∧ True) (rest := []) h502 (by kernel_rfl) rfl ⟨⟨by omega, by omega⟩, trivial⟩ fun a509 h510 => ?_
                  clear h502
                  refine nd_done ?_
                  have e511 : sliceBase (some ⟨b72, (j' * 2), none⟩) (mc - j') 1 2 = winA (some ⟨b72, 0, none⟩) mc (j' + 1) 2 := by rw [← winA_some b72 2 hlt487]; exact winA_succ 2 (.inr ⟨b72, rfl⟩) hlt487
                  have e512 : lg.mks.length - j' - 1 = lg.mks.length - (j' + 1) := by omega
                  have e513 : mc - j' - 1 = mc - (j' + 1) := by omega
                  rw [e511, e512, e513] at h510
                  exact ⟨(gg - 1), by omega, (j' + 1), by omega, by omega, by omega, hsame, (h510.slotsMono (restr_spec (keep := [0, 1, 4, 5, 6, 9, 7, 8]) rfl))⟩
              ·
                have hc490f : x'.idx ≠ x.idx := by simpa using hc490
                refine wp_exit ?_
                rw [← winA_some b72 2 hlt487] at h489
                have hstop : ∀ z, lg.mks[j']? = some z → z.idx ≠ x.idx := (by intro z hz; rw [hx'] at hz; cases hz; exact hc490f)
                exact hm410 j' _ _ hi479 hi480 (hi482.trans (vm_stop hstop)) hstop (h489.slotsMono (restr_spec (keep := [0, 1, 4, 5, 6, 9, 7, 8]) rfl))
            ·
              have hb485f : ¬ (((lg.mks.length - j') : Nat) : Int) > 0 := by simpa using hb485
              refine nd_start (l := [0, 1, 2, 3, 4, 5, 6, 7, 8, 9, 10]) rfl ?_
              refine nd_batch tabOk tabZ_ok [(0, {}), (1, {}), (2, {f := 1}), (3, {}), (4, {}), (5, {}), (6, {}), (7, {}), (8, {}), (9, {}), (10, {})] [0, 1, 4, 5, 6, 9, 7, 8, 107] (T' := [(0, .pointer (some ⟨bl, 0, none⟩)), (1, .pointer (some ⟨bq, off, none⟩)), (4, .pointer (some ⟨b2, 0, none⟩)), (5, .pointer (some ⟨b14, 0, none⟩)), (6, .int .i64 good), (9, .int .i64 x.idx), (7, .slice (winA (some ⟨b72, 0, none⟩) mc j' 2) (lg.mks.length - j') (mc - j')), (8, .slice (winA (some ⟨bq, 0, none⟩) sc i 15) (lg.sns.length - i) (sc - i)), (107, .bool false)]) (φ := (decide ((((lg.mks.length - j') : Nat) : Int) > 0)) = false ∧ True) (rest := []) h478 (by kernel_rfl) rfl ⟨hb485, trivial⟩ fun a514 h515 => ?_
              clear h478
              refine nd_done ?_
              refine hK484 _ _ ?_
              clear hK484
              refine c_false h515 rfl ?_
              refine wp_exit ?_
              have hstop : ∀ z, lg.mks[j']? = some z → z.idx ≠ x.idx := (by intro z hz; have := (List.getElem?_eq_some_iff.1 hz).1; omega)
              exact hm410 j' _ _ hi479 hi480 (hi482.trans (vm_stop hstop)) hstop (h515.slotsMono (restr_spec (keep := [0, 1, 4, 5, 6, 9, 7, 8]) rfl))
      ·
        have hc71f : ¬ (((lg.mks.length - j) : Nat) : Int) > 0 := by simpa using hc71
        refine wp_skip ?_
        refine hK67 _ _ ?_
        clear hK67
        refine wp_seq_k fun K516 hK516 => ?_
        refine wp_seq_k fun K517 hK517 => ?_
        rcases Bool.eq_false_or_eq_true (decide ((((lg.sns.length - i) : Nat) : Int) > 0)) with hb518 | hb518
        ·
          have hb518f : (((lg.sns.length - i) : Nat) : Int) > 0 := by simpa using hb518
          obtain ⟨y, hy⟩ := Sx.get_some (xs := lg.sns) (i := i) (by omega)
          have hyw := hin y (List.mem_of_getElem? hy)
          have hyg := hgs y (by rw [drop_at hy]; simp)
          have hc519 := rl_at (h70.inv.get (j := 2) rfl) (h70.kn (k := 1) rfl) ptC_len hy
          have hlt520 : i < sc := by have h1 : lg.sns.length ≤ sc := rl_cap (h70.inv.get (j := 2) rfl); have h2 := (List.getElem?_eq_some_iff.1 hy).1; omega
          rw [winA_some bq 15 hlt520] at h70
          refine nd_start (l := [0, 1, 2, 3, 4, 5, 6, 7, 8, 9, 10]) rfl ?_
          refine nd_batch tabOk tabZ_ok [(0, {}), (1, {}), (2, {f := 2}), (3, {}), (4, {}), (5, {}), (6, {}), (7, {k := 1, m := 1, vs := [.int .i64 y.idx]}), (8, {}), (9, {}), (10, {})] [0, 1, 4, 5, 6, 7, 8, 9, 72] (T' := [(0, .pointer (some ⟨bl, 0, none⟩)), (1, .pointer (some ⟨bq, off, none⟩)), (4, .pointer (some ⟨b2, 0, none⟩)), (5, .pointer (some ⟨b14, 0, none⟩)), (6, .int .i64 good), (7, .slice (winA mo mc j 2) (lg.mks.length - j) (mc - j)), (8, .slice (some ⟨bq, (i * 15), none⟩) (lg.sns.length - i) (sc - i)), (9, .int .i64 ((lg.base.idx + (lg.evs.length : Int)) + 1)), (72, .bool (decide (y.idx < ((lg.base.idx + (lg.evs.length : Int)) + 1))))]) (φ := (decide ((((lg.sns.length - i) : Nat) : Int) > 0)) = true ∧ (0 ≤ (0 : Int) ∧ (0 : Int) < (((lg.sns.length - i) : Nat) : Int)) ∧ (bq = bq ∧ cellsAre cs' (i * 15) [.int .i64 y.idx]) ∧ True) (rest := []) h70 (by kernel_rfl) rfl ⟨hb518, ⟨by omega, by omega⟩, ⟨rfl, (pt_idx hc519)⟩, trivial⟩ fun a521 h522 => ?_
          clear h70
          refine nd_done ?_
          refine hK517 _ _ ?_
          clear hK517
          refine c_split h522 (b := decide (y.idx < ((lg.base.idx + (lg.evs.length : Int)) + 1))) rfl (fun hc523 => ?_) (fun hc523 => ?_)
          ·
            have hc523f : y.idx < ((lg.base.idx + (lg.evs.length : Int)) + 1) := by simpa using hc523
            refine nd_start (l := [0, 1, 2, 3, 4]) rfl ?_
            refine nd_batch tabOk tabZ_ok [(0, {}), (1, {}), (2, {}), (3, {k := 1, m := 1, vs := [.int .i64 y.idx]}), (4, {})] [0, 1, 4, 5, 6, 7, 8, 9] (T' := [(0, .pointer (some ⟨bl, 0, none⟩)), (1, .pointer (some ⟨bq, off, none⟩)), (4, .pointer (some ⟨b2, 0, none⟩)), (5, .pointer (some ⟨b14, 0, none⟩)), (6, .int .i64 good), (7, .slice (winA mo mc j 2) (lg.mks.length - j) (mc - j)), (8, .slice (some ⟨bq, (i * 15), none⟩) (lg.sns.length - i) (sc - i)), (9, .int .i64 y.idx)]) (φ := (0 ≤ (0 : Int) ∧ (0 : Int) < (((lg.sns.length - i) : Nat) : Int)) ∧ (bq = bq ∧ cellsAre cs' (i * 15) [.int .i64 y.idx]) ∧ True) (rest := []) h522 (by kernel_rfl) rfl ⟨⟨by omega, by omega⟩, ⟨rfl, (pt_idx hc519)⟩, trivial⟩ fun a524 h525 => ?_
            clear h522
            refine nd_done ?_
            refine hK516 _ _ ?_
            clear hK516
            refine wp_seq_k fun K526 hK526 => ?_
            refine wp_seq_k fun K527 hK527 => ?_
            refine nd_start (l := [0, 1, 2, 3]) rfl ?_
            refine nd_batch tabOk tabZ_ok [(0, {}), (1, {})] [0, 1, 4, 5, 6, 7, 8, 9, 77, 78] (T' := [(0, .pointer (some ⟨bl, 0, none⟩)), (1, .pointer (some ⟨bq, off, none⟩)), (4, .pointer (some ⟨b2, 0, none⟩)), (5, .pointer (some ⟨b14, 0, none⟩)), (6, .int .i64 good), (7, .slice (winA mo mc j 2) (lg.mks.length - j) (mc - j)), (8, .slice (some ⟨bq, (i * 15), none⟩) (lg.sns.length - i) (sc - i)), (9, .int .i64 y.idx), (77, .int .i64 y.idx), (78, .pointer (some ⟨bl, 0, none⟩))]) (φ := True) (rest := [2, 3]) h525 (by kernel_rfl) rfl trivial fun a528 h529 => ?_
            clear h525
            refine nd_op ?_
            refine op_call h529 rfl rfl rfl (callOk Tryf.func41 (by decide) rfl) (args := [.pointer (some ⟨bl, 0, none⟩)]) rfl (end_ok bl lg.base eo lg.evs.length ec (.slice mo lg.mks.length mc) (.slice (some ⟨bq, 0, none⟩) lg.sns.length sc) true _ (h529.kn (k := 0) rfl) hb0 (by omega) (by omega)) ?_
            rintro _ w530 ⟨rfl, hf532⟩
            refine ⟨_, rfl, ?_⟩
            have h531 := (h529.grow hf532).put (d := some 79) (v := .int .i64 (lg.base.idx + (lg.evs.length : Int))) (T' := [(79, .int .i64 (lg.base.idx + (lg.evs.length : Int))), (0, .pointer (some ⟨bl, 0, none⟩)), (1, .pointer (some ⟨bq, off, none⟩)), (4, .pointer (some ⟨b2, 0, none⟩)), (5, .pointer (some ⟨b14, 0, none⟩)), (6, .int .i64 good), (7, .slice (winA mo mc j 2) (lg.mks.length - j) (mc - j)), (8, .slice (some ⟨bq, (i * 15), none⟩) (lg.sns.length - i) (sc - i)), (9, .int .i64 y.idx), (77, .int .i64 y.idx), (78, .pointer (some ⟨bl, 0, none⟩))]) rfl
            clear h529
            refine nd_batch tabOk tabZ_ok [(3, {})] [0, 1, 4, 5, 6, 7, 8, 9, 80] (T' := [(0, .pointer (some ⟨bl, 0, none⟩)), (1, .pointer (some ⟨bq, off, none⟩)), (4, .pointer (some ⟨b2, 0, none⟩)), (5, .pointer (some ⟨b14, 0, none⟩)), (6, .int .i64 good), (7, .slice (winA mo mc j 2) (lg.mks.length - j) (mc - j)), (8, .slice (some ⟨bq, (i * 15), none⟩) (lg.sns.length - i) (sc - i)), (9, .int .i64 y.idx), (80, .bool (decide (y.idx > (lg.base.idx + (lg.evs.length : Int)))))]) (φ := True) (rest := []) h531 (by kernel_rfl) rfl trivial fun a533 h534 => ?_
            clear h531
            refine nd_done ?_
            refine hK527 _ _ ?_
            clear hK527
            refine c_split h534 (b := decide (y.idx > (lg.base.idx + (lg.evs.length : Int)))) rfl (fun hc535 => ?_) (fun hc535 => ?_)
            ·
              have hc535f : y.idx > (lg.base.idx + (lg.evs.length : Int)) := by simpa using hc535
              have hnx : nextOf lg.fin (lg.mks.drop j) (lg.sns.drop i) = y.idx := by rw [next_s (fin := lg.fin) (by omega) hy, if_pos (by omega)]
              have hfin : lg.fin < y.idx := hc535f
              refine wp_seq_k fun K536 hK536 => ?_
              refine nd_start (l := [0, 1, 2, 3]) rfl ?_
              refine nd_batch tabOk tabZ_ok [(0, {}), (1, {})] [0, 1, 4, 5, 6, 7, 8, 9, 81, 82] (T' := [(0, .pointer (some ⟨bl, 0, none⟩)), (1, .pointer (some ⟨bq, off, none⟩)), (4, .pointer (some ⟨b2, 0, none⟩)), (5, .pointer (some ⟨b14, 0, none⟩)), (6, .int .i64 good), (7, .slice (winA mo mc j 2) (lg.mks.length - j) (mc - j)), (8, .slice (some ⟨bq, (i * 15), none⟩) (lg.sns.length - i) (sc - i)), (9, .int .i64 y.idx), (81, .pointer (some ⟨bl, 0, none⟩)), (82, .pointer (some ⟨bl, 0, none⟩))]) (φ := True) (rest := [2, 3]) h534 (by kernel_rfl) rfl trivial fun a537 h538 => ?_
              clear h534
              refine nd_op ?_
              refine op_call h538 rfl rfl rfl (callOk Tryf.func41 (by decide) rfl) (args := [.pointer (some ⟨bl, 0, none⟩)]) rfl (end_ok bl lg.base eo lg.evs.length ec (.slice mo lg.mks.length mc) (.slice (some ⟨bq, 0, none⟩) lg.sns.length sc) true _ (h538.kn (k := 0) rfl) hb0 (by omega) (by omega)) ?_
              rintro _ w539 ⟨rfl, hf541⟩
              refine ⟨_, rfl, ?_⟩
              have h540 := (h538.grow hf541).put (d := some 83) (v := .int .i64 (lg.base.idx + (lg.evs.length : Int))) (T' := [(83, .int .i64 (lg.base.idx + (lg.evs.length : Int))), (0, .pointer (some ⟨bl, 0, none⟩)), (1, .pointer (some ⟨bq, off, none⟩)), (4, .pointer (some ⟨b2, 0, none⟩)), (5, .pointer (some ⟨b14, 0, none⟩)), (6, .int .i64 good), (7, .slice (winA mo mc j 2) (lg.mks.length - j) (mc - j)), (8, .slice (some ⟨bq, (i * 15), none⟩) (lg.sns.length - i) (sc - i)), (9, .int .i64 y.idx), (81, .pointer (some ⟨bl, 0, none⟩)), (82, .pointer (some ⟨bl, 0, none⟩))]) rfl
              clear h538
              refine nd_op ?_
              refine op_call h540 rfl rfl rfl (callOk Tryf.func44 (by decide) rfl) (args := [.pointer (some ⟨b14, 0, none⟩), .pointer (some ⟨bl, 0, none⟩), .int .i64 (lg.base.idx + (lg.evs.length : Int))]) rfl (run_ok b14 bl ⟨eo, ec, eF, mo, mc, mF, (some ⟨bq, 0, none⟩), sc, [bq]⟩ lg _ (LogAt.of (d := ⟨eo, ec, eF, mo, mc, mF, (some ⟨bq, 0, none⟩), sc, [bq]⟩) (h540.kn (k := 0) rfl) h540.inv hsep) m' o' pos' (lg.base.idx + (lg.evs.length : Int)) q ((lg.base.idx + (lg.evs.length : Int)) - pos').toNat (h540.kn (k := 3) rfl) (h540.ne 3 0 rfl rfl rfl) (h540.dj (k := 3) rfl rfl) hev hmok hq (by omega) (by omega) (by omega) hb0 (by omega)) ?_
              rintro _ w542 ⟨rfl, hbs, hf544⟩
              refine ⟨_, rfl, ?_⟩
              have h543 := (h540.setBlk (k := 3) rfl rfl hf544 hbs (L' := [(bl, ⟨logC lg.base (.slice eo lg.evs.length ec) (.slice mo lg.mks.length mc) (.slice (some ⟨bq, 0, none⟩) lg.sns.length sc), 89, true⟩), (bq, ⟨cs', 84, true⟩), (b2, ⟨[.int .i64 0, .int .i64 0, .int .i64 0], 114, false⟩), (b14, ⟨curC ((runF (seg lg.evs q ((lg.base.idx + (lg.evs.length : Int)) - pos').toNat) (m', o')).1) ((runF (seg lg.evs q ((lg.base.idx + (lg.evs.length : Int)) - pos').toNat) (m', o')).2) (lg.base.idx + (lg.evs.length : Int)), 105, false⟩)]) rfl).put (d := some 84) (v := .tuple #[]) (T' := [(84, .tuple #[]), (83, .int .i64 (lg.base.idx + (lg.evs.length : Int))), (0, .pointer (some ⟨bl, 0, none⟩)), (1, .pointer (some ⟨bq, off, none⟩)), (4, .pointer (some ⟨b2, 0, none⟩)), (5, .pointer (some ⟨b14, 0, none⟩)), (6, .int .i64 good), (7, .slice (winA mo mc j 2) (lg.mks.length - j) (mc - j)), (8, .slice (some ⟨bq, (i * 15), none⟩) (lg.sns.length - i) (sc - i)), (9, .int .i64 y.idx), (81, .pointer (some ⟨bl, 0, none⟩)), (82, .pointer (some ⟨bl, 0, none⟩))]) rfl
              clear h540
              refine nd_done ?_
              refine hK536 _ _ ?_
              clear hK536
              refine wp_seq_k fun K545 hK545 => ?_
              refine dr_start (KB := [bl, bq, b2, b14]) (Bi := [[0, 1, 2, 3], [0, 1, 2, 3], [0, 1, 2, 3], [0, 1, 2, 3], [0, 1, 2, 3], [0, 1, 2, 3], [0, 1, 2, 3], [0, 1, 2, 3], [0, 1, 2, 3], []]) mixed h543 fun w546 h547 => ?_
              clear h543
              refine dr_batch tabOk tabZ_ok (by repeat (first | exact PF.body | with_reducible apply PF.inB | with_reducible apply PF.next)) [(0, {}), (1, {}), (2, {k := 3, p := 3}), (3, {}), (4, {}), (5, {}), (6, {k := 1, m := 1, vs := [.int .i64 p.idx], p := 1}), (7, {}), (8, {})] [0, 1, 4, 5, 6, 7, 8, 9, 93] (T' := [(0, .pointer (some ⟨bl, 0, none⟩)), (1, .pointer (some ⟨bq, off, none⟩)), (4, .pointer (some ⟨b2, 0, none⟩)), (5, .pointer (some ⟨b14, 0, none⟩)), (6, .int .i64 good), (7, .slice (winA mo mc j 2) (lg.mks.length - j) (mc - j)), (8, .slice (some ⟨bq, (i * 15), none⟩) (lg.sns.length - i) (sc - i)), (9, .int .i64 y.idx), (93, .agg #[.int .i64 (-1), .int .i64 good, .int .i64 ((lg.base.idx + (lg.evs.length : Int)) - p.idx)])]) (φ := (b14 = b14 ∧ Nat.ble (14 + 1) 15 = true) ∧ (bq = bq ∧ cellsAre cs' off [.int .i64 p.idx]) ∧ inR .i64 ((lg.base.idx + (lg.evs.length : Int)) - p.idx) ∧ True) (fuel := 1) h547 (by kernel_rfl) rfl (by kernel_rfl) (by kernel_rfl) ⟨trivial, trivial, rfl, trivial, trivial, trivial, rfl, trivial, trivial, trivial⟩ ⟨⟨rfl, rfl⟩, ⟨rfl, (pt_idx hp)⟩, ⟨by omega, by omega⟩, trivial⟩ fun a549 h550 => ?_
              clear h547
              refine wpAnyK_one (i := 9) (fuel := 0) (by kernel_rfl) ?_
              refine op_store tabOk {k := 2} (L' := [(bl, ⟨logC lg.base (.slice eo lg.evs.length ec) (.slice mo lg.mks.length mc) (.slice (some ⟨bq, 0, none⟩) lg.sns.length sc), 89, true⟩), (bq, ⟨cs', 84, true⟩), (b2, ⟨[.int .i64 (-1), .int .i64 good, .int .i64 ((lg.base.idx + (lg.evs.length : Int)) - p.idx)], 114, false⟩), (b14, ⟨curC ((runF (seg lg.evs q ((lg.base.idx + (lg.evs.length : Int)) - pos').toNat) (m', o')).1) ((runF (seg lg.evs q ((lg.base.idx + (lg.evs.length : Int)) - pos').toNat) (m', o')).2) (lg.base.idx + (lg.evs.length : Int)), 105, false⟩)]) (φ := b2 = b2 ∧ Nat.ble (0 + 3) 3 = true) h550 rfl rfl rfl (by kernel_rfl) ⟨rfl, rfl⟩ fun w551 h552 => ?_
              have hkh552 := h550.known
              refine ⟨keepNil, ?_⟩
              clear h550
              refine wpAnyK_done (by kernel_rfl) ?_ _
              refine hK545 _ _ ?_
              clear hK545
              refine wp_ret ?_
              have hres := hv.symm.trans (vloop_end hnx hfin)
              try simp only [Exit.then, Exit.inBlock]
              try rw [if_pos trivial]
              exact s_ret tabOk tabZ_ok h552 [(.cell 4 114, {k := 2})] (vs := [.agg #[.int .i64 (-1), .int .i64 good, .int .i64 ((lg.base.idx + (lg.evs.length : Int)) - p.idx)]]) (φ := (b2 = b2 ∧ Nat.ble (0 + 3) 3 = true) ∧ True) rfl (by kernel_rfl) ⟨⟨rfl, rfl⟩, trivial⟩ ⟨by rw [hres]; rfl, h552.frame⟩
            ·
              have hc535f : ¬ y.idx > (lg.base.idx + (lg.evs.length : Int)) := by simpa using hc535
              have hnx : nextOf lg.fin (lg.mks.drop j) (lg.sns.drop i) = y.idx := by rw [next_s (fin := lg.fin) (by omega) hy, if_pos (by omega)]
              have hfin : ¬ lg.fin < y.idx := hc535f
              have hnp : pos' ≤ y.idx := by omega
              have hmok2 := runF_ok (seg lg.evs q (y.idx - pos').toNat) (m', o') hmok (seg_ok hev _ _)
              have hs2 : runF (seg lg.evs (pos' - lg.base.idx).toNat (y.idx - pos').toNat) (m', o') = runF (seg lg.evs q (y.idx - pos').toNat) (m', o') := by rw [show (pos' - lg.base.idx).toNat = q by omega]
              simp only [Lg.fin] at hfin
              refine wp_skip ?_
              refine hK526 _ _ ?_
              clear hK526
              refine wp_seq_k fun K553 hK553 => ?_
              refine nd_start (l := [0, 1, 2]) rfl ?_
              refine nd_batch tabOk tabZ_ok [(0, {}), (1, {})] [0, 1, 4, 5, 6, 7, 8, 9, 94, 95] (T' := [(0, .pointer (some ⟨bl, 0, none⟩)), (1, .pointer (some ⟨bq, off, none⟩)), (4, .pointer (some ⟨b2, 0, none⟩)), (5, .pointer (some ⟨b14, 0, none⟩)), (6, .int .i64 good), (7, .slice (winA mo mc j 2) (lg.mks.length - j) (mc - j)), (8, .slice (some ⟨bq, (i * 15), none⟩) (lg.sns.length - i) (sc - i)), (9, .int .i64 y.idx), (94, .pointer (some ⟨bl, 0, none⟩)), (95, .int .i64 y.idx)]) (φ := True) (rest := [2]) h534 (by kernel_rfl) rfl trivial fun a554 h555 => ?_
              clear h534
              refine nd_op ?_
              refine op_call h555 rfl rfl rfl (callOk Tryf.func44 (by decide) rfl) (args := [.pointer (some ⟨b14, 0, none⟩), .pointer (some ⟨bl, 0, none⟩), .int .i64 y.idx]) rfl (run_ok b14 bl ⟨eo, ec, eF, mo, mc, mF, (some ⟨bq, 0, none⟩), sc, [bq]⟩ lg _ (LogAt.of (d := ⟨eo, ec, eF, mo, mc, mF, (some ⟨bq, 0, none⟩), sc, [bq]⟩) (h555.kn (k := 0) rfl) h555.inv hsep) m' o' pos' y.idx q (y.idx - pos').toNat (h555.kn (k := 3) rfl) (h555.ne 3 0 rfl rfl rfl) (h555.dj (k := 3) rfl rfl) hev hmok hq (by omega) (by omega) (by omega) hb0 (by omega)) ?_
              rintro _ w556 ⟨rfl, hbs, hf558⟩
              refine ⟨_, rfl, ?_⟩
              have h557 := (h555.setBlk (k := 3) rfl rfl hf558 hbs (L' := [(bl, ⟨logC lg.base (.slice eo lg.evs.length ec) (.slice mo lg.mks.length mc) (.slice (some ⟨bq, 0, none⟩) lg.sns.length sc), 89, true⟩), (bq, ⟨cs', 84, true⟩), (b2, ⟨[.int .i64 0, .int .i64 0, .int .i64 0], 114, false⟩), (b14, ⟨curC ((runF (seg lg.evs q (y.idx - pos').toNat) (m', o')).1) ((runF (seg lg.evs q (y.idx - pos').toNat) (m', o')).2) y.idx, 105, false⟩)]) rfl).put (d := some 96) (v := .tuple #[]) (T' := [(96, .tuple #[]), (0, .pointer (some ⟨bl, 0, none⟩)), (1, .pointer (some ⟨bq, off, none⟩)), (4, .pointer (some ⟨b2, 0, none⟩)), (5, .pointer (some ⟨b14, 0, none⟩)), (6, .int .i64 good), (7, .slice (winA mo mc j 2) (lg.mks.length - j) (mc - j)), (8, .slice (some ⟨bq, (i * 15), none⟩) (lg.sns.length - i) (sc - i)), (9, .int .i64 y.idx), (94, .pointer (some ⟨bl, 0, none⟩)), (95, .int .i64 y.idx)]) rfl
              clear h555
              refine nd_done ?_
              refine hK553 _ _ ?_
              clear hK553
              refine wp_seq_k fun K559 hK559 => ?_
              refine wp_block ?_
              rw [← winA_some bq 15 hlt520] at h557
              have hm560 : ∀ (j' : Nat) (ca : Act) (cw : World), (j' ≤ lg.mks.length) → (j ≤ j') → (vm y.idx (dig (runF (seg lg.evs q (y.idx - pos').toNat) (m', o')).1) (lg.mks.drop j) = some (lg.mks.drop j')) → (∀ z, lg.mks[j']? = some z → z.idx ≠ y.idx) → St ⟨165, [], w, Rws [rl evC 31 3 lg.evs eo ec eF, rl mkC 93 2 lg.mks mo mc mF, rl ptC 84 15 lg.sns (some ⟨bq, 0, none⟩) sc ([bq])], Ff [rl evC 31 3 lg.evs eo ec eF, rl mkC 93 2 lg.mks mo mc mF, rl ptC 84 15 lg.sns (some ⟨bq, 0, none⟩) sc ([bq])]⟩ [(0, .pointer (some ⟨bl, 0, none⟩)), (1, .pointer (some ⟨bq, off, none⟩)), (4, .pointer (some ⟨b2, 0, none⟩)), (5, .pointer (some ⟨b14, 0, none⟩)), (6, .int .i64 good), (9, .int .i64 y.idx), (7, .slice (winA mo mc j' 2) (lg.mks.length - j') (mc - j')), (8, .slice (winA (some ⟨bq, 0, none⟩) sc i 15) (lg.sns.length - i) (sc - i))] [(bl, ⟨logC lg.base (.slice eo lg.evs.length ec) (.slice mo lg.mks.length mc) (.slice (some ⟨bq, 0, none⟩) lg.sns.length sc), 89, true⟩), (bq, ⟨cs', 84, true⟩), (b2, ⟨[.int .i64 0, .int .i64 0, .int .i64 0], 114, false⟩), (b14, ⟨curC ((runF (seg lg.evs q (y.idx - pos').toNat) (m', o')).1) ((runF (seg lg.evs q (y.idx - pos').toNat) (m', o')).2) y.idx, 105, false⟩)] ca cw → K559 ca cw := by
                intro j' a561 w562 hi564 hi565 hi566 hi567 h563
                have hj' := hi564
                have hle1 := hi565
                have hvm := hi566
                have hstop1 := hi567
                refine hK559 _ _ ?_
                clear hK559
                refine wp_seq_k fun K568 hK568 => ?_
                refine wp_block ?_
                have hm569 : ∀ (i' : Nat) (ca : Act) (cw : World), (i' ≤ lg.sns.length) → (i ≤ i') → (vs y.idx (runF (seg lg.evs q (y.idx - pos').toNat) (m', o')) (lg.sns.drop i) = some (lg.sns.drop i')) → (∀ z, lg.sns[i']? = some z → z.idx ≠ y.idx) → St ⟨165, [], w, Rws [rl evC 31 3 lg.evs eo ec eF, rl mkC 93 2 lg.mks mo mc mF, rl ptC 84 15 lg.sns (some ⟨bq, 0, none⟩) sc ([bq])], Ff [rl evC 31 3 lg.evs eo ec eF, rl mkC 93 2 lg.mks mo mc mF, rl ptC 84 15 lg.sns (some ⟨bq, 0, none⟩) sc ([bq])]⟩ [(0, .pointer (some ⟨bl, 0, none⟩)), (1, .pointer (some ⟨bq, off, none⟩)), (4, .pointer (some ⟨b2, 0, none⟩)), (5, .pointer (some ⟨b14, 0, none⟩)), (6, .int .i64 good), (9, .int .i64 y.idx), (8, .slice (winA (some ⟨bq, 0, none⟩) sc i' 15) (lg.sns.length - i') (sc - i')), (7, .slice (winA mo mc j' 2) (lg.mks.length - j') (mc - j'))] [(bl, ⟨logC lg.base (.slice eo lg.evs.length ec) (.slice mo lg.mks.length mc) (.slice (some ⟨bq, 0, none⟩) lg.sns.length sc), 89, true⟩), (bq, ⟨cs', 84, true⟩), (b2, ⟨[.int .i64 0, .int .i64 0, .int .i64 0], 114, false⟩), (b14, ⟨curC ((runF (seg lg.evs q (y.idx - pos').toNat) (m', o')).1) ((runF (seg lg.evs q (y.idx - pos').toNat) (m', o')).2) y.idx, 105, false⟩)] ca cw → K568 ca cw := by
                  intro i' a570 w571 hi573 hi574 hi575 hi576 h572
                  have hi' := hi573
                  have hle2 := hi574
                  have hvs := hi575
                  have hstop2 := hi576
                  have hprog : lg.mks.length - j' + (lg.sns.length - i') < lg.mks.length - j + (lg.sns.length - i) := by
                    have : i ≠ i' := by intro hjj; subst hjj; exact hstop2 y hy rfl
                    have := (List.getElem?_eq_some_iff.1 hy).1; omega
                  have hall : (∀ z, lg.mks[j]? = some z → y.idx ≤ z.idx) ∧ (∀ z, lg.sns[i]? = some z → y.idx ≤ z.idx) := by
                    refine ⟨fun z hz => ?_, fun z hz => ?_⟩
                    · have := (List.getElem?_eq_some_iff.1 hz).1; omega
                    · rw [hy] at hz; cases hz; omega
                  have hgm' : ∀ z ∈ lg.mks.drop j', y.idx ≤ z.idx := fun z hz => mk_ge hms hall.1 z ((List.drop_sublist_drop_left lg.mks hle1).mem hz)
                  have hgs' : ∀ z ∈ lg.sns.drop i', y.idx ≤ z.idx := fun z hz => pt_ge hsort hall.2 z ((List.drop_sublist_drop_left lg.sns hle2).mem hz)
                  refine hK568 _ _ ?_
                  clear hK568
                  refine nd_start (l := [0, 1]) rfl ?_
                  refine nd_batch tabOk tabZ_ok [(0, {}), (1, {})] [0, 1, 4, 5, 9, 8, 7, 6] (T' := [(0, .pointer (some ⟨bl, 0, none⟩)), (1, .pointer (some ⟨bq, off, none⟩)), (4, .pointer (some ⟨b2, 0, none⟩)), (5, .pointer (some ⟨b14, 0, none⟩)), (9, .int .i64 y.idx), (8, .slice (winA (some ⟨bq, 0, none⟩) sc i' 15) (lg.sns.length - i') (sc - i')), (7, .slice (winA mo mc j' 2) (lg.mks.length - j') (mc - j')), (6, .int .i64 y.idx)]) (φ := True) (rest := []) h572 (by kernel_rfl) rfl trivial fun a577 h578 => ?_
                  clear h572
                  refine nd_done ?_
                  exact ⟨g, by omega, j', i', (runF (seg lg.evs q (y.idx - pos').toNat) (m', o')).1, (runF (seg lg.evs q (y.idx - pos').toNat) (m', o')).2, y.idx, y.idx, (y.idx - lg.base.idx).toNat, hj', hi', by omega, by omega, by omega, hmok2, hgm', hgs', by rw [← hv]; exact (vloop_next hnx hfin hs2 hvm hvs).symm, (h578.slotsMono (restr_spec (keep := [0, 1, 4, 5, 6, 7, 8]) rfl))⟩
                clear hK568
                refine wp_loop_ghost (fun gg ga gw => ∃ (i' : Nat), (i' ≤ lg.sns.length) ∧ (i ≤ i') ∧ (gg = lg.sns.length - i') ∧ (vs y.idx (runF (seg lg.evs q (y.idx - pos').toNat) (m', o')) (lg.sns.drop i) = vs y.idx (runF (seg lg.evs q (y.idx - pos').toNat) (m', o')) (lg.sns.drop i')) ∧ St ⟨165, [], w, Rws [rl evC 31 3 lg.evs eo ec eF, rl mkC 93 2 lg.mks mo mc mF, rl ptC 84 15 lg.sns (some ⟨bq, 0, none⟩) sc ([bq])], Ff [rl evC 31 3 lg.evs eo ec eF, rl mkC 93 2 lg.mks mo mc mF, rl ptC 84 15 lg.sns (some ⟨bq, 0, none⟩) sc ([bq])]⟩ [(0, .pointer (some ⟨bl, 0, none⟩)), (1, .pointer (some ⟨bq, off, none⟩)), (4, .pointer (some ⟨b2, 0, none⟩)), (5, .pointer (some ⟨b14, 0, none⟩)), (6, .int .i64 good), (9, .int .i64 y.idx), (8, .slice (winA (some ⟨bq, 0, none⟩) sc i' 15) (lg.sns.length - i') (sc - i')), (7, .slice (winA mo mc j' 2) (lg.mks.length - j') (mc - j'))] [(bl, ⟨logC lg.base (.slice eo lg.evs.length ec) (.slice mo lg.mks.length mc) (.slice (some ⟨bq, 0, none⟩) lg.sns.length sc), 89, true⟩), (bq, ⟨cs', 84, true⟩), (b2, ⟨[.int .i64 0, .int .i64 0, .int .i64 0], 114, false⟩), (b14, ⟨curC ((runF (seg lg.evs q (y.idx - pos').toNat) (m', o')).1) ((runF (seg lg.evs q (y.idx - pos').toNat) (m', o')).2) y.idx, 105, false⟩)] ga gw) (lg.sns.length - i) ⟨i, by omega, Nat.le_refl _, rfl, rfl, (h563.slotsMono (restr_spec (keep := [0, 1, 4, 5, 6, 9, 8, 7]) rfl))⟩ ?_
                clear h563
                rintro gg a579 w580 ⟨i', hi582, hi583, hi584, hi585, h581⟩
                refine wp_seq_k fun K586 hK586 => ?_
                refine wp_seq_k fun K587 hK587 => ?_
                rcases Bool.eq_false_or_eq_true (decide ((((lg.sns.length - i') : Nat) : Int) > 0)) with hb588 | hb588
                ·
                  have hb588f : (((lg.sns.length - i') : Nat) : Int) > 0 := by simpa using hb588
                  obtain ⟨y', hy'⟩ := Sx.get_some (xs := lg.sns) (i := i') (by omega)
                  have hc589 := rl_at (h581.inv.get (j := 2) rfl) (h581.kn (k := 1) rfl) ptC_len hy'
                  have hlt590 : i' < sc := by have h1 : lg.sns.length ≤ sc := rl_cap (h581.inv.get (j := 2) rfl); have h2 := (List.getElem?_eq_some_iff.1 hy').1; omega
                  rw [winA_some bq 15 hlt590] at h581
                  refine nd_start (l := [0, 1, 2, 3, 4, 5, 6, 7, 8, 9, 10]) rfl ?_
                  refine nd_batch tabOk tabZ_ok [(0, {}), (1, {}), (2, {f := 2}), (3, {}), (4, {}), (5, {}), (6, {}), (7, {k := 1, m := 1, vs := [.int .i64 y'.idx]}), (8, {}), (9, {}), (10, {})] [0, 1, 4, 5, 6, 9, 8, 7, 136] (T' := [(0, .pointer (some ⟨bl, 0, none⟩)), (1, .pointer (some ⟨bq, off, none⟩)), (4, .pointer (some ⟨b2, 0, none⟩)), (5, .pointer (some ⟨b14, 0, none⟩)), (6, .int .i64 good), (9, .int .i64 y.idx), (8, .slice (some ⟨bq, (i' * 15), none⟩) (lg.sns.length - i') (sc - i')), (7, .slice (winA mo mc j' 2) (lg.mks.length - j') (mc - j')), (136, .bool (y'.idx == y.idx))]) (φ := (decide ((((lg.sns.length - i') : Nat) : Int) > 0)) = true ∧ (0 ≤ (0 : Int) ∧ (0 : Int) < (((lg.sns.length - i') : Nat) : Int)) ∧ (bq = bq ∧ cellsAre cs' (i' * 15) [.int .i64 y'.idx]) ∧ True) (rest := []) h581 (by kernel_rfl) rfl ⟨hb588, ⟨by omega, by omega⟩, ⟨rfl, (pt_idx hc589)⟩, trivial⟩ fun a591 h592 => ?_
                  clear h581
                  refine nd_done ?_
                  refine hK587 _ _ ?_
                  clear hK587
                  refine c_split h592 (b := (y'.idx == y.idx)) rfl (fun hc593 => ?_) (fun hc593 => ?_)
                  ·
                    have hc593f : y'.idx = y.idx := by simpa using hc593
                    have hxn : y'.idx = y.idx := hc593f
                    refine wp_skip ?_
                    refine hK586 _ _ ?_
                    clear hK586
                    refine wp_seq_k fun K594 hK594 => ?_
                    refine wp_block ?_
                    refine wp_seq_k fun K595 hK595 => ?_
                    rcases Bool.eq_false_or_eq_true ((Bool.xor true (machEq y'.st (runF (seg lg.evs q (y.idx - pos').toNat) (m', o')).1))) with hb596 | hb596
                    ·
                      have hme : machEq y'.st (runF (seg lg.evs q (y.idx - pos').toNat) (m', o')).1 = false := by simpa using hb596
                      have hvs := hi585.trans (vs_bad1 hy' hxn hme)
                      refine dr_start (KB := [bl, bq, b2, b14]) (Bi := [[0, 1, 2, 3], [0, 1, 2, 3], [0, 1, 2, 3], [0, 1, 2, 3], [0, 1, 2, 3], [0, 1, 2, 3], [0, 1, 2, 3], [0, 1, 2, 3], [0, 1, 2, 3], [0, 1, 2, 3], [0, 1, 2, 3], [0, 1, 2, 3], [0, 1, 2, 3], [0, 1, 2, 3], [0, 1, 2, 3], [0, 1, 2, 3]]) mixed h592 fun w597 h598 => ?_
                      clear h592
                      refine dr_batch tabOk tabZ_ok (by repeat (first | exact PF.body | with_reducible apply PF.inB | with_reducible apply PF.next)) [(0, {}), (1, {}), (2, {}), (3, {k := 1, m := 1, vs := [.int .u64 y'.st.now, .int .i8 y'.st.cur, .int .u8 y'.st.s0, .int .u8 y'.st.s1, .int .u8 y'.st.s2, .int .u8 y'.st.s3, .int .u64 y'.st.r0, .int .u64 y'.st.r1, .int .u64 y'.st.r2, .int .u64 y'.st.r3, .int .u64 y'.st.word], p := 1}), (4, {}), (5, {k := 3, p := 3}), (6, {f := 2}), (7, {}), (8, {}), (9, {}), (10, {}), (11, {k := 0, p := 0}), (12, {}), (13, {k := 0, p := 0}), (14, {}), (15, {})] [0, 1, 4, 5, 6, 9, 8, 7, 154] (T' := [(0, .pointer (some ⟨bl, 0, none⟩)), (1, .pointer (some ⟨bq, off, none⟩)), (4, .pointer (some ⟨b2, 0, none⟩)), (5, .pointer (some ⟨b14, 0, none⟩)), (6, .int .i64 good), (9, .int .i64 y.idx), (8, .slice (some ⟨bq, (i' * 15), none⟩) (lg.sns.length - i') (sc - i')), (7, .slice (winA mo mc j' 2) (lg.mks.length - j') (mc - j')), (154, .bool true)]) (φ := (0 ≤ (0 : Int) ∧ (0 : Int) < (((lg.sns.length - i') : Nat) : Int)) ∧ (bq = bq ∧ cellsAre cs' ((i' * 15) + 1) [.int .u64 y'.st.now, .int .i8 y'.st.cur, .int .u8 y'.st.s0, .int .u8 y'.st.s1, .int .u8 y'.st.s2, .int .u8 y'.st.s3, .int .u64 y'.st.r0, .int .u64 y'.st.r1, .int .u64 y'.st.r2, .int .u64 y'.st.r3, .int .u64 y'.st.word]) ∧ (b14 = b14 ∧ Nat.ble (0 + 11) 15 = true) ∧ EqRun Tryf.prog 58 (.agg #[.int .u64 y'.st.now, .int .i8 y'.st.cur, .int .u8 y'.st.s0, .int .u8 y'.st.s1, .int .u8 y'.st.s2, .int .u8 y'.st.s3, .int .u64 y'.st.r0, .int .u64 y'.st.r1, .int .u64 y'.st.r2, .int .u64 y'.st.r3, .int .u64 y'.st.word]) (.agg #[.int .u64 ((runF (seg lg.evs q (y.idx - pos').toNat) (m', o')).1.now), .int .i8 ((runF (seg lg.evs q (y.idx - pos').toNat) (m', o')).1.cur), .int .u8 ((runF (seg lg.evs q (y.idx - pos').toNat) (m', o')).1.s0), .int .u8 ((runF (seg lg.evs q (y.idx - pos').toNat) (m', o')).1.s1), .int .u8 ((runF (seg lg.evs q (y.idx - pos').toNat) (m', o')).1.s2), .int .u8 ((runF (seg lg.evs q (y.idx - pos').toNat) (m', o')).1.s3), .int .u64 ((runF (seg lg.evs q (y.idx - pos').toNat) (m', o')).1.r0), .int .u64 ((runF (seg lg.evs q (y.idx - pos').toNat) (m', o')).1.r1), .int .u64 ((runF (seg lg.evs q (y.idx - pos').toNat) (m', o')).1.r2), .int .u64 ((runF (seg lg.evs q (y.idx - pos').toNat) (m', o')).1.r3), .int .u64 ((runF (seg lg.evs q (y.idx - pos').toNat) (m', o')).1.word)]) false ∧ True) (fuel := 0) h598 (by kernel_rfl) rfl (by kernel_rfl) (by kernel_rfl) ⟨trivial, trivial, trivial, rfl, trivial, rfl, trivial, trivial, trivial, trivial, trivial, rfl, trivial, rfl, trivial, trivial, trivial⟩ ⟨⟨by omega, by omega⟩, ⟨rfl, (pt_st hc589)⟩, ⟨rfl, rfl⟩, (by have hq := run46 y'.st (runF (seg lg.evs q (y.idx - pos').toNat) (m', o')).1; rw [show machEq y'.st (runF (seg lg.evs q (y.idx - pos').toNat) (m', o')).1 = false by simpa using hb596] at hq; exact hq), trivial⟩ fun a600 h601 => ?_
                      clear h598
                      refine wpAnyK_done (by kernel_rfl) ?_ _
                      refine hK595 _ _ ?_
                      clear hK595
                      refine c_true h601 rfl ?_
                      refine wp_seq_k fun K602 hK602 => ?_
                      refine nd_start (l := [0, 1, 2, 3, 4, 5, 6, 7, 8, 9]) rfl ?_
                      refine nd_batch tabOk tabZ_ok [(0, {}), (1, {}), (2, {}), (3, {}), (4, {}), (5, {}), (6, {k := 1, m := 1, vs := [.int .i64 p.idx]}), (7, {}), (8, {})] [0, 1, 4, 5, 6, 9, 8, 7, 163] (T' := [(0, .pointer (some ⟨bl, 0, none⟩)), (1, .pointer (some ⟨bq, off, none⟩)), (4, .pointer (some ⟨b2, 0, none⟩)), (5, .pointer (some ⟨b14, 0, none⟩)), (6, .int .i64 good), (9, .int .i64 y.idx), (8, .slice (some ⟨bq, (i' * 15), none⟩) (lg.sns.length - i') (sc - i')), (7, .slice (winA mo mc j' 2) (lg.mks.length - j') (mc - j')), (163, .agg #[.int .i64 y.idx, .int .i64 good, .int .i64 (y.idx - p.idx)])]) (φ := (bq = bq ∧ cellsAre cs' off [.int .i64 p.idx]) ∧ inR .i64 (y.idx - p.idx) ∧ True) (rest := [9]) h601 (by kernel_rfl) rfl ⟨⟨rfl, (pt_idx hp)⟩, ⟨by omega, by omega⟩, trivial⟩ fun a603 h604 => ?_
                      clear h601
                      refine nd_op ?_
                      refine op_store tabOk {k := 2} (L' := [(bl, ⟨logC lg.base (.slice eo lg.evs.length ec) (.slice mo lg.mks.length mc) (.slice (some ⟨bq, 0, none⟩) lg.sns.length sc), 89, true⟩), (bq, ⟨cs', 84, true⟩), (b2, ⟨[.int .i64 y.idx, .int .i64 good, .int .i64 (y.idx - p.idx)], 114, false⟩), (b14, ⟨curC ((runF (seg lg.evs q (y.idx - pos').toNat) (m', o')).1) ((runF (seg lg.evs q (y.idx - pos').toNat) (m', o')).2) y.idx, 105, false⟩)]) (φ := b2 = b2 ∧ Nat.ble (0 + 3) 3 = true) h604 rfl rfl rfl (by kernel_rfl) ⟨rfl, rfl⟩ fun w605 h606 => ?_
                      clear h604
                      refine nd_done ?_
                      refine hK602 _ _ ?_
                      clear hK602
                      refine wp_ret ?_
                      have hres := hv.symm.trans (vloop_snap hnx hfin hs2 hvm hvs)
                      try simp only [Exit.then, Exit.inBlock]
                      try rw [if_pos trivial]
                      exact s_ret tabOk tabZ_ok h606 [(.cell 4 114, {k := 2})] (vs := [.agg #[.int .i64 y.idx, .int .i64 good, .int .i64 (y.idx - p.idx)]]) (φ := (b2 = b2 ∧ Nat.ble (0 + 3) 3 = true) ∧ True) rfl (by kernel_rfl) ⟨⟨rfl, rfl⟩, trivial⟩ ⟨by rw [hres]; rfl, h606.frame⟩
                    ·
                      have hme : machEq y'.st (runF (seg lg.evs q (y.idx - pos').toNat) (m', o')).1 = true := by simpa using hb596
                      refine dr_start (KB := [bl, bq, b2, b14]) (Bi := [[0, 1, 2, 3], [0, 1, 2, 3], [0, 1, 2, 3], [0, 1, 2, 3], [0, 1, 2, 3], [0, 1, 2, 3], [0, 1, 2, 3], [0, 1, 2, 3], [0, 1, 2, 3], [0, 1, 2, 3], [0, 1, 2, 3], [0, 1, 2, 3], [0, 1, 2, 3], [0, 1, 2, 3], [0, 1, 2, 3], [0, 1, 2, 3]]) mixed h592 fun w607 h608 => ?_
                      clear h592
                      refine dr_batch tabOk tabZ_ok (by repeat (first | exact PF.body | with_reducible apply PF.inB | with_reducible apply PF.next)) [(0, {}), (1, {}), (2, {}), (3, {k := 1, m := 1, vs := [.int .u64 y'.st.now, .int .i8 y'.st.cur, .int .u8 y'.st.s0, .int .u8 y'.st.s1, .int .u8 y'.st.s2, .int .u8 y'.st.s3, .int .u64 y'.st.r0, .int .u64 y'.st.r1, .int .u64 y'.st.r2, .int .u64 y'.st.r3, .int .u64 y'.st.word], p := 1}), (4, {}), (5, {k := 3, p := 3}), (6, {f := 1}), (7, {}), (8, {}), (9, {}), (10, {}), (11, {k := 1, m := 1, vs := [.bool y'.out.refused, .int .i8 y'.out.running, .int .u64 y'.out.value], p := 1}), (12, {}), (13, {k := 3, p := 3}), (14, {vs := [.bool (otEq y'.out (runF (seg lg.evs q (y.idx - pos').toNat) (m', o')).2)]}), (15, {})] [0, 1, 4, 5, 6, 9, 8, 7, 154] (T' := [(0, .pointer (some ⟨bl, 0, none⟩)), (1, .pointer (some ⟨bq, off, none⟩)), (4, .pointer (some ⟨b2, 0, none⟩)), (5, .pointer (some ⟨b14, 0, none⟩)), (6, .int .i64 good), (9, .int .i64 y.idx), (8, .slice (some ⟨bq, (i' * 15), none⟩) (lg.sns.length - i') (sc - i')), (7, .slice (winA mo mc j' 2) (lg.mks.length - j') (mc - j')), (154, .bool (Bool.xor true (otEq y'.out (runF (seg lg.evs q (y.idx - pos').toNat) (m', o')).2)))]) (φ := (0 ≤ (0 : Int) ∧ (0 : Int) < (((lg.sns.length - i') : Nat) : Int)) ∧ (bq = bq ∧ cellsAre cs' ((i' * 15) + 1) [.int .u64 y'.st.now, .int .i8 y'.st.cur, .int .u8 y'.st.s0, .int .u8 y'.st.s1, .int .u8 y'.st.s2, .int .u8 y'.st.s3, .int .u64 y'.st.r0, .int .u64 y'.st.r1, .int .u64 y'.st.r2, .int .u64 y'.st.r3, .int .u64 y'.st.word]) ∧ (b14 = b14 ∧ Nat.ble (0 + 11) 15 = true) ∧ EqRun Tryf.prog 58 (.agg #[.int .u64 y'.st.now, .int .i8 y'.st.cur, .int .u8 y'.st.s0, .int .u8 y'.st.s1, .int .u8 y'.st.s2, .int .u8 y'.st.s3, .int .u64 y'.st.r0, .int .u64 y'.st.r1, .int .u64 y'.st.r2, .int .u64 y'.st.r3, .int .u64 y'.st.word]) (.agg #[.int .u64 ((runF (seg lg.evs q (y.idx - pos').toNat) (m', o')).1.now), .int .i8 ((runF (seg lg.evs q (y.idx - pos').toNat) (m', o')).1.cur), .int .u8 ((runF (seg lg.evs q (y.idx - pos').toNat) (m', o')).1.s0), .int .u8 ((runF (seg lg.evs q (y.idx - pos').toNat) (m', o')).1.s1), .int .u8 ((runF (seg lg.evs q (y.idx - pos').toNat) (m', o')).1.s2), .int .u8 ((runF (seg lg.evs q (y.idx - pos').toNat) (m', o')).1.s3), .int .u64 ((runF (seg lg.evs q (y.idx - pos').toNat) (m', o')).1.r0), .int .u64 ((runF (seg lg.evs q (y.idx - pos').toNat) (m', o')).1.r1), .int .u64 ((runF (seg lg.evs q (y.idx - pos').toNat) (m', o')).1.r2), .int .u64 ((runF (seg lg.evs q (y.idx - pos').toNat) (m', o')).1.r3), .int .u64 ((runF (seg lg.evs q (y.idx - pos').toNat) (m', o')).1.word)]) true ∧ (0 ≤ (0 : Int) ∧ (0 : Int) < (((lg.sns.length - i') : Nat) : Int)) ∧ (bq = bq ∧ cellsAre cs' ((i' * 15) + 12) [.bool y'.out.refused, .int .i8 y'.out.running, .int .u64 y'.out.value]) ∧ (b14 = b14 ∧ Nat.ble (11 + 3) 15 = true) ∧ EqRun Tryf.prog 44 (.agg #[.bool y'.out.refused, .int .i8 y'.out.running, .int .u64 y'.out.value]) (.agg #[.bool ((runF (seg lg.evs q (y.idx - pos').toNat) (m', o')).2.refused), .int .i8 ((runF (seg lg.evs q (y.idx - pos').toNat) (m', o')).2.running), .int .u64 ((runF (seg lg.evs q (y.idx - pos').toNat) (m', o')).2.value)]) (otEq y'.out (runF (seg lg.evs q (y.idx - pos').toNat) (m', o')).2) ∧ True) (fuel := 0) h608 (by kernel_rfl) rfl (by kernel_rfl) (by kernel_rfl) ⟨trivial, trivial, trivial, rfl, trivial, rfl, trivial, trivial, trivial, trivial, trivial, rfl, trivial, rfl, trivial, trivial, trivial⟩ ⟨⟨by omega, by omega⟩, ⟨rfl, (pt_st hc589)⟩, ⟨rfl, rfl⟩, (by have hq := run46 y'.st (runF (seg lg.evs q (y.idx - pos').toNat) (m', o')).1; rw [show machEq y'.st (runF (seg lg.evs q (y.idx - pos').toNat) (m', o')).1 = true by simpa using hb596] at hq; exact hq), ⟨by omega, by omega⟩, ⟨rfl, (pt_out hc589)⟩, ⟨rfl, rfl⟩, run39 y'.out (runF (seg lg.evs q (y.idx - pos').toNat) (m', o')).2, trivial⟩ fun a610 h611 => ?_
                      clear h608
                      refine wpAnyK_done (by kernel_rfl) ?_ _
                      refine hK595 _ _ ?_
                      clear hK595
                      refine c_split h611 (b := (Bool.xor true (otEq y'.out (runF (seg lg.evs q (y.idx - pos').toNat) (m', o')).2))) rfl (fun hc612 => ?_) (fun hc612 => ?_)
                      ·
                        have hoe : otEq y'.out (runF (seg lg.evs q (y.idx - pos').toNat) (m', o')).2 = false := by simpa using hc612
                        have hvs := hi585.trans (vs_bad2 hy' hxn hoe)
                        refine wp_seq_k fun K613 hK613 => ?_
                        refine nd_start (l := [0, 1, 2, 3, 4, 5, 6, 7, 8, 9]) rfl ?_
                        refine nd_batch tabOk tabZ_ok [(0, {}), (1, {}), (2, {}), (3, {}), (4, {}), (5, {}), (6, {k := 1, m := 1, vs := [.int .i64 p.idx]}), (7, {}), (8, {})] [0, 1, 4, 5, 6, 9, 8, 7, 163] (T' := [(0, .pointer (some ⟨bl, 0, none⟩)), (1, .pointer (some ⟨bq, off, none⟩)), (4, .pointer (some ⟨b2, 0, none⟩)), (5, .pointer (some ⟨b14, 0, none⟩)), (6, .int .i64 good), (9, .int .i64 y.idx), (8, .slice (some ⟨bq, (i' * 15), none⟩) (lg.sns.length - i') (sc - i')), (7, .slice (winA mo mc j' 2) (lg.mks.length - j') (mc - j')), (163, .agg #[.int .i64 y.idx, .int .i64 good, .int .i64 (y.idx - p.idx)])]) (φ := (bq = bq ∧ cellsAre cs' off [.int .i64 p.idx]) ∧ inR .i64 (y.idx - p.idx) ∧ True) (rest := [9]) h611 (by kernel_rfl) rfl ⟨⟨rfl, (pt_idx hp)⟩, ⟨by omega, by omega⟩, trivial⟩ fun a614 h615 => ?_
                        clear h611
                        refine nd_op ?_
                        refine op_store tabOk {k := 2} (L' := [(bl, ⟨logC lg.base (.slice eo lg.evs.length ec) (.slice mo lg.mks.length mc) (.slice (some ⟨bq, 0, none⟩) lg.sns.length sc), 89, true⟩), (bq, ⟨cs', 84, true⟩), (b2, ⟨[.int .i64 y.idx, .int .i64 good, .int .i64 (y.idx - p.idx)], 114, false⟩), (b14, ⟨curC ((runF (seg lg.evs q (y.idx - pos').toNat) (m', o')).1) ((runF (seg lg.evs q (y.idx - pos').toNat) (m', o')).2) y.idx, 105, false⟩)]) (φ := b2 = b2 ∧ Nat.ble (0 + 3) 3 = true) h615 rfl rfl rfl (by kernel_rfl) ⟨rfl, rfl⟩ fun w616 h617 => ?_
                        clear h615
                        refine nd_done ?_
                        refine hK613 _ _ ?_
                        clear hK613
                        refine wp_ret ?_
                        have hres := hv.symm.trans (vloop_snap hnx hfin hs2 hvm hvs)
                        try simp only [Exit.then, Exit.inBlock]
                        try rw [if_pos trivial]
                        exact s_ret tabOk tabZ_ok h617 [(.cell 4 114, {k := 2})] (vs := [.agg #[.int .i64 y.idx, .int .i64 good, .int .i64 (y.idx - p.idx)]]) (φ := (b2 = b2 ∧ Nat.ble (0 + 3) 3 = true) ∧ True) rfl (by kernel_rfl) ⟨⟨rfl, rfl⟩, trivial⟩ ⟨by rw [hres]; rfl, h617.frame⟩
                      ·
                        have hoe : otEq y'.out (runF (seg lg.evs q (y.idx - pos').toNat) (m', o')).2 = true := by simpa using hc612
                        have hsame := hi585.trans (vs_same hy' hxn hme hoe)
                        refine wp_skip ?_
                        refine hK594 _ _ ?_
                        clear hK594
                        refine nd_start (l := [0, 1, 2]) rfl ?_
                        refine nd_batch tabOk tabZ_ok [(0, {}), (1, {}), (2, {})] [0, 1, 4, 5, 6, 9, 7, 8] (T' := [(0, .pointer (some ⟨bl, 0, none⟩)), (1, .pointer (some ⟨bq, off, none⟩)), (4, .pointer (some ⟨b2, 0, none⟩)), (5, .pointer (some ⟨b14, 0, none⟩)), (6, .int .i64 good), (9, .int .i64 y.idx), (7, .slice (winA mo mc j' 2) (lg.mks.length - j') (mc - j')), (8, .slice (sliceBase (some ⟨bq, (i' * 15), none⟩) (sc - i') 1 15) ((lg.sns.length - i') - 1) ((sc - i') - 1))]) (φ := (0 ≤ (1 : Int) ∧ (1 : Int) ≤ (((lg.sns.length - i') : Nat) : Int)) ∧ True) (rest := []) h611 (by kernel_rfl) rfl ⟨⟨by omega, by omega⟩, trivial⟩ fun a618 h619 => ?_
                        clear h611
                        refine nd_done ?_
                        have e620 : sliceBase (some ⟨bq, (i' * 15), none⟩) (sc - i') 1 15 = winA (some ⟨bq, 0, none⟩) sc (i' + 1) 15 := by rw [← winA_some bq 15 hlt590]; exact winA_succ 15 (.inr ⟨bq, rfl⟩) hlt590
                        have e621 : lg.sns.length - i' - 1 = lg.sns.length - (i' + 1) := by omega
                        have e622 : sc - i' - 1 = sc - (i' + 1) := by omega
                        rw [e620, e621, e622] at h619
                        exact ⟨(gg - 1), by omega, (i' + 1), by omega, by omega, by omega, hsame, (h619.slotsMono (restr_spec (keep := [0, 1, 4, 5, 6, 9, 8, 7]) rfl))⟩
                  ·
                    have hc593f : y'.idx ≠ y.idx := by simpa using hc593
                    refine wp_exit ?_
                    rw [← winA_some bq 15 hlt590] at h592
                    have hstop : ∀ z, lg.sns[i']? = some z → z.idx ≠ y.idx := (by intro z hz; rw [hy'] at hz; cases hz; exact hc593f)
                    exact hm569 i' _ _ hi582 hi583 (hi585.trans (vs_stop hstop)) hstop (h592.slotsMono (restr_spec (keep := [0, 1, 4, 5, 6, 9, 8, 7]) rfl))
                ·
                  have hb588f : ¬ (((lg.sns.length - i') : Nat) : Int) > 0 := by simpa using hb588
                  refine nd_start (l := [0, 1, 2, 3, 4, 5, 6, 7, 8, 9, 10]) rfl ?_
                  refine nd_batch tabOk tabZ_ok [(0, {}), (1, {}), (2, {f := 1}), (3, {}), (4, {}), (5, {}), (6, {}), (7, {}), (8, {}), (9, {}), (10, {})] [0, 1, 4, 5, 6, 9, 8, 7, 136] (T' := [(0, .pointer (some ⟨bl, 0, none⟩)), (1, .pointer (some ⟨bq, off, none⟩)), (4, .pointer (some ⟨b2, 0, none⟩)), (5, .pointer (some ⟨b14, 0, none⟩)), (6, .int .i64 good), (9, .int .i64 y.idx), (8, .slice (winA (some ⟨bq, 0, none⟩) sc i' 15) (lg.sns.length - i') (sc - i')), (7, .slice (winA mo mc j' 2) (lg.mks.length - j') (mc - j')), (136, .bool false)]) (φ := (decide ((((lg.sns.length - i') : Nat) : Int) > 0)) = false ∧ True) (rest := []) h581 (by kernel_rfl) rfl ⟨hb588, trivial⟩ fun a623 h624 => ?_
                  clear h581
                  refine nd_done ?_
                  refine hK587 _ _ ?_
                  clear hK587
                  refine c_false h624 rfl ?_
                  refine wp_exit ?_
                  have hstop : ∀ z, lg.sns[i']? = some z → z.idx ≠ y.idx := (by intro z hz; have := (List.getElem?_eq_some_iff.1 hz).1; omega)
                  exact hm569 i' _ _ hi582 hi583 (hi585.trans (vs_stop hstop)) hstop (h624.slotsMono (restr_spec (keep := [0, 1, 4, 5, 6, 9, 8, 7]) rfl))
              clear hK559
              refine wp_loop_ghost (fun gg ga gw => ∃ (j' : Nat), (j' ≤ lg.mks.length) ∧ (j ≤ j') ∧ (gg = lg.mks.length - j') ∧ (vm y.idx (dig (runF (seg lg.evs q (y.idx - pos').toNat) (m', o')).1) (lg.mks.drop j) = vm y.idx (dig (runF (seg lg.evs q (y.idx - pos').toNat) (m', o')).1) (lg.mks.drop j')) ∧ St ⟨165, [], w, Rws [rl evC 31 3 lg.evs eo ec eF, rl mkC 93 2 lg.mks mo mc mF, rl ptC 84 15 lg.sns (some ⟨bq, 0, none⟩) sc ([bq])], Ff [rl evC 31 3 lg.evs eo ec eF, rl mkC 93 2 lg.mks mo mc mF, rl ptC 84 15 lg.sns (some ⟨bq, 0, none⟩) sc ([bq])]⟩ [(0, .pointer (some ⟨bl, 0, none⟩)), (1, .pointer (some ⟨bq, off, none⟩)), (4, .pointer (some ⟨b2, 0, none⟩)), (5, .pointer (some ⟨b14, 0, none⟩)), (6, .int .i64 good), (9, .int .i64 y.idx), (7, .slice (winA mo mc j' 2) (lg.mks.length - j') (mc - j')), (8, .slice (winA (some ⟨bq, 0, none⟩) sc i 15) (lg.sns.length - i) (sc - i))] [(bl, ⟨logC lg.base (.slice eo lg.evs.length ec) (.slice mo lg.mks.length mc) (.slice (some ⟨bq, 0, none⟩) lg.sns.length sc), 89, true⟩), (bq, ⟨cs', 84, true⟩), (b2, ⟨[.int .i64 0, .int .i64 0, .int .i64 0], 114, false⟩), (b14, ⟨curC ((runF (seg lg.evs q (y.idx - pos').toNat) (m', o')).1) ((runF (seg lg.evs q (y.idx - pos').toNat) (m', o')).2) y.idx, 105, false⟩)] ga gw) (lg.mks.length - j) ⟨j, by omega, Nat.le_refl _, rfl, rfl, (h557.slotsMono (restr_spec (keep := [0, 1, 4, 5, 6, 9, 7, 8]) rfl))⟩ ?_
              clear h557
              rintro gg a625 w626 ⟨j', hi628, hi629, hi630, hi631, h627⟩
              refine wp_seq_k fun K632 hK632 => ?_
              refine wp_seq_k fun K633 hK633 => ?_
              rcases Bool.eq_false_or_eq_true (decide ((((lg.mks.length - j') : Nat) : Int) > 0)) with hb634 | hb634
              ·
                have hb634f : (((lg.mks.length - j') : Nat) : Int) > 0 := by simpa using hb634
                obtain ⟨x', hx'⟩ := Sx.get_some (xs := lg.mks) (i := j') (by omega)
                obtain ⟨b635, cs636, ho637, hb638, hc639, hF640, hq642, hl643⟩ := rl_open (h627.inv.get (j := 1) rfl) mkC_len hx'
                subst ho637 hF640
                have h641 := h627.open_ hb638 (h627.notinL (by simp [Ff]) (kcons (fun _ => (fun hq => hsep (by have hq2 : bl = b635 := hq; rw [hq2]; simp [Hd.F]))) (kcons (fun _ => (fun hq => Ff_nodup h627.inv.1 (i := 2) (j := 1) rfl rfl (by decide) bq (by simp) (by have hq2 : bq = b635 := hq; rw [hq2]; simp))) (kcons (by intro hq; cases hq) (kcons (by intro hq; cases hq) knil)))))
                clear h627
                have hlt644 : j' < mc := by have h1 : lg.mks.length ≤ mc := rl_cap (h641.inv.get (j := 1) rfl); have h2 := (List.getElem?_eq_some_iff.1 hx').1; omega
                rw [winA_some b635 2 hlt644] at h641
                refine nd_start (l := [0, 1, 2, 3, 4, 5, 6, 7, 8, 9, 10]) rfl ?_
                refine nd_batch tabOk tabZ_ok [(0, {}), (1, {}), (2, {f := 2}), (3, {}), (4, {}), (5, {}), (6, {}), (7, {k := 4, m := 1, vs := [.int .i64 x'.idx]}), (8, {}), (9, {}), (10, {})] [0, 1, 4, 5, 6, 9, 7, 8, 107] (T' := [(0, .pointer (some ⟨bl, 0, none⟩)), (1, .pointer (some ⟨bq, off, none⟩)), (4, .pointer (some ⟨b2, 0, none⟩)), (5, .pointer (some ⟨b14, 0, none⟩)), (6, .int .i64 good), (9, .int .i64 y.idx), (7, .slice (some ⟨b635, (j' * 2), none⟩) (lg.mks.length - j') (mc - j')), (8, .slice (winA (some ⟨bq, 0, none⟩) sc i 15) (lg.sns.length - i) (sc - i)), (107, .bool (x'.idx == y.idx))]) (φ := (decide ((((lg.mks.length - j') : Nat) : Int) > 0)) = true ∧ (0 ≤ (0 : Int) ∧ (0 : Int) < (((lg.mks.length - j') : Nat) : Int)) ∧ (b635 = b635 ∧ cellsAre cs636 (j' * 2) [.int .i64 x'.idx]) ∧ True) (rest := []) h641 (by kernel_rfl) rfl ⟨hb634, ⟨by omega, by omega⟩, ⟨rfl, ⟨(hc639).1, trivial⟩⟩, trivial⟩ fun a645 h646 => ?_
                clear h641
                refine nd_done ?_
                refine hK633 _ _ ?_
                clear hK633
                refine c_split h646 (b := (x'.idx == y.idx)) rfl (fun hc647 => ?_) (fun hc647 => ?_)
                ·
                  have hc647f : x'.idx = y.idx := by simpa using hc647
                  have hxn : x'.idx = y.idx := hc647f
                  refine wp_skip ?_
                  refine hK632 _ _ ?_
                  clear hK632
                  refine wp_seq_k fun K648 hK648 => ?_
                  refine wp_block ?_
                  refine wp_seq_k fun K649 hK649 => ?_
                  refine dr_start (KB := [bl, bq, b2, b14, b635]) (Bi := [[0, 1, 2, 3, 4], [0, 1, 2, 3, 4], [0, 1, 2, 3, 4], [0, 1, 2, 3, 4], [0, 1, 2, 3, 4], [4], [0, 1, 2, 3, 4]]) mixed h646 fun w650 h651 => ?_
                  clear h646
                  refine dr_batch tabOk tabZ_ok (by repeat (first | exact PF.body | with_reducible apply PF.inB | with_reducible apply PF.next)) [(0, {}), (1, {}), (2, {}), (3, {k := 4, m := 1, vs := [.int .u64 x'.sum], p := 4}), (4, {})] [0, 1, 4, 5, 6, 9, 7, 8, 113, 114] (T' := [(0, .pointer (some ⟨bl, 0, none⟩)), (1, .pointer (some ⟨bq, off, none⟩)), (4, .pointer (some ⟨b2, 0, none⟩)), (5, .pointer (some ⟨b14, 0, none⟩)), (6, .int .i64 good), (9, .int .i64 y.idx), (7, .slice (some ⟨b635, (j' * 2), none⟩) (lg.mks.length - j') (mc - j')), (8, .slice (winA (some ⟨bq, 0, none⟩) sc i 15) (lg.sns.length - i) (sc - i)), (113, .int .u64 x'.sum), (114, .pointer (some ⟨b14, 0, none⟩))]) (φ := (0 ≤ (0 : Int) ∧ (0 : Int) < (((lg.mks.length - j') : Nat) : Int)) ∧ (b635 = b635 ∧ cellsAre cs636 ((j' * 2) + 1) [.int .u64 x'.sum]) ∧ True) (fuel := 2) h651 (by kernel_rfl) rfl (by kernel_rfl) (by kernel_rfl) ⟨trivial, trivial, trivial, rfl, trivial, trivial⟩ ⟨⟨by omega, by omega⟩, ⟨rfl, ⟨(hc639).2.1, trivial⟩⟩, trivial⟩ fun a653 h654 => ?_
                  clear h651
                  refine wpAnyK_one (i := 5) (fuel := 1) (by kernel_rfl) ?_
                  refine op_call h654 rfl rfl rfl (callOk Tryf.func51 (by decide) rfl) (args := [.pointer (some ⟨b14, 0, none⟩)]) rfl (digest_ok [] (outC (runF (seg lg.evs q (y.idx - pos').toNat) (m', o')).2 ++ [.int .i64 y.idx]) (runF (seg lg.evs q (y.idx - pos').toNat) (m', o')).1 hmok2 b14 105 false _ (h654.kn (k := 3) rfl)) ?_
                  rintro _ w655 ⟨rfl, hf657⟩
                  refine ⟨_, rfl, ?_⟩
                  have h656 := (h654.grow hf657).put (d := some 115) (v := .int .u64 (dig (runF (seg lg.evs q (y.idx - pos').toNat) (m', o')).1)) (T' := [(115, .int .u64 (dig (runF (seg lg.evs q (y.idx - pos').toNat) (m', o')).1)), (0, .pointer (some ⟨bl, 0, none⟩)), (1, .pointer (some ⟨bq, off, none⟩)), (4, .pointer (some ⟨b2, 0, none⟩)), (5, .pointer (some ⟨b14, 0, none⟩)), (6, .int .i64 good), (9, .int .i64 y.idx), (7, .slice (some ⟨b635, (j' * 2), none⟩) (lg.mks.length - j') (mc - j')), (8, .slice (winA (some ⟨bq, 0, none⟩) sc i 15) (lg.sns.length - i) (sc - i)), (113, .int .u64 x'.sum), (114, .pointer (some ⟨b14, 0, none⟩))]) rfl
                  refine ⟨(h654.keepFr hf657 (kcons (by simp) knil)), ?_⟩
                  clear h654
                  refine dr_batch tabOk tabZ_ok (by repeat (first | exact PF.body | with_reducible apply PF.inB | with_reducible apply PF.next)) [(6, {})] [0, 1, 4, 5, 6, 9, 7, 8, 116] (T' := [(0, .pointer (some ⟨bl, 0, none⟩)), (1, .pointer (some ⟨bq, off, none⟩)), (4, .pointer (some ⟨b2, 0, none⟩)), (5, .pointer (some ⟨b14, 0, none⟩)), (6, .int .i64 good), (9, .int .i64 y.idx), (7, .slice (some ⟨b635, (j' * 2), none⟩) (lg.mks.length - j') (mc - j')), (8, .slice (winA (some ⟨bq, 0, none⟩) sc i 15) (lg.sns.length - i) (sc - i)), (116, .bool (x'.sum != (dig (runF (seg lg.evs q (y.idx - pos').toNat) (m', o')).1)))]) (φ := True) (fuel := 0) h656 (by kernel_rfl) rfl (by kernel_rfl) (by kernel_rfl) ⟨trivial, trivial⟩ trivial fun a658 h659 => ?_
                  clear h656
                  refine wpAnyK_done (by kernel_rfl) ?_ _
                  refine hK649 _ _ ?_
                  clear hK649
                  refine c_split h659 (b := (x'.sum != (dig (runF (seg lg.evs q (y.idx - pos').toNat) (m', o')).1))) rfl (fun hc660 => ?_) (fun hc660 => ?_)
                  ·
                    have hc660f : x'.sum ≠ (dig (runF (seg lg.evs q (y.idx - pos').toNat) (m', o')).1) := by simpa using hc660
                    have hvm := hi631.trans (vm_bad hx' hxn hc660f)
                    refine wp_seq_k fun K661 hK661 => ?_
                    refine nd_start (l := [0, 1, 2, 3, 4, 5, 6, 7, 8, 9]) rfl ?_
                    refine nd_batch tabOk tabZ_ok [(0, {}), (1, {}), (2, {}), (3, {}), (4, {}), (5, {}), (6, {k := 1, m := 1, vs := [.int .i64 p.idx]}), (7, {}), (8, {})] [0, 1, 4, 5, 6, 9, 7, 8, 125] (T' := [(0, .pointer (some ⟨bl, 0, none⟩)), (1, .pointer (some ⟨bq, off, none⟩)), (4, .pointer (some ⟨b2, 0, none⟩)), (5, .pointer (some ⟨b14, 0, none⟩)), (6, .int .i64 good), (9, .int .i64 y.idx), (7, .slice (some ⟨b635, (j' * 2), none⟩) (lg.mks.length - j') (mc - j')), (8, .slice (winA (some ⟨bq, 0, none⟩) sc i 15) (lg.sns.length - i) (sc - i)), (125, .agg #[.int .i64 y.idx, .int .i64 good, .int .i64 (y.idx - p.idx)])]) (φ := (bq = bq ∧ cellsAre cs' off [.int .i64 p.idx]) ∧ inR .i64 (y.idx - p.idx) ∧ True) (rest := [9]) h659 (by kernel_rfl) rfl ⟨⟨rfl, (pt_idx hp)⟩, ⟨by omega, by omega⟩, trivial⟩ fun a662 h663 => ?_
                    clear h659
                    refine nd_op ?_
                    refine op_store tabOk {k := 2} (L' := [(bl, ⟨logC lg.base (.slice eo lg.evs.length ec) (.slice (some ⟨b635, 0, none⟩) lg.mks.length mc) (.slice (some ⟨bq, 0, none⟩) lg.sns.length sc), 89, true⟩), (bq, ⟨cs', 84, true⟩), (b2, ⟨[.int .i64 y.idx, .int .i64 good, .int .i64 (y.idx - p.idx)], 114, false⟩), (b14, ⟨curC ((runF (seg lg.evs q (y.idx - pos').toNat) (m', o')).1) ((runF (seg lg.evs q (y.idx - pos').toNat) (m', o')).2) y.idx, 105, false⟩), (b635, ⟨cs636, 93, true⟩)]) (φ := b2 = b2 ∧ Nat.ble (0 + 3) 3 = true) h663 rfl rfl rfl (by kernel_rfl) ⟨rfl, rfl⟩ fun w664 h665 => ?_
                    clear h663
                    refine nd_done ?_
                    refine hK661 _ _ ?_
                    clear hK661
                    refine wp_ret ?_
                    have hres := hv.symm.trans (vloop_mark hnx hfin hs2 hvm)
                    try simp only [Exit.then, Exit.inBlock]
                    try rw [if_pos trivial]
                    exact s_ret tabOk tabZ_ok h665 [(.cell 4 114, {k := 2})] (vs := [.agg #[.int .i64 y.idx, .int .i64 good, .int .i64 (y.idx - p.idx)]]) (φ := (b2 = b2 ∧ Nat.ble (0 + 3) 3 = true) ∧ True) rfl (by kernel_rfl) ⟨⟨rfl, rfl⟩, trivial⟩ ⟨by rw [hres]; rfl, h665.frame⟩
                  ·
                    have hc660f : x'.sum = (dig (runF (seg lg.evs q (y.idx - pos').toNat) (m', o')).1) := by simpa using hc660
                    have hsame := hi631.trans (vm_same hx' hxn hc660f)
                    refine wp_skip ?_
                    refine hK648 _ _ ?_
                    clear hK648
                    refine nd_start (l := [0, 1, 2]) rfl ?_
                    refine nd_batch tabOk tabZ_ok [(0, {}), (1, {}), (2, {})] [0, 1, 4, 5, 6, 9, 8, 7] (T' := [(0, .pointer (some ⟨bl, 0, none⟩)), (1, .pointer (some ⟨bq, off, none⟩)), (4, .pointer (some ⟨b2, 0, none⟩)), (5, .pointer (some ⟨b14, 0, none⟩)), (6, .int .i64 good), (9, .int .i64 y.idx), (8, .slice (winA (some ⟨bq, 0, none⟩) sc i 15) (lg.sns.length - i) (sc - i)), (7, .slice (sliceBase (some ⟨b635, (j' * 2), none⟩) (mc - j') 1 2) ((lg.mks.length - j') - 1) ((mc - j') - 1))]) (φ := (0 ≤ (1 : Int) ∧ (1 : Int) ≤ (((lg.mks.length - j') : Nat) : Int)) ∧ True) (rest := []) h659 (by kernel_rfl) rfl ⟨⟨by omega, by omega⟩, trivial⟩ fun a666 h667 => ?_
                    clear h659
                    refine nd_done ?_
                    have h668 := h667.memMono (L' := [(bl, ⟨logC lg.base (.slice eo lg.evs.length ec) (.slice (some ⟨b635, 0, none⟩) lg.mks.length mc) (.slice (some ⟨bq, 0, none⟩) lg.sns.length sc), 89, true⟩), (bq, ⟨cs', 84, true⟩), (b2, ⟨[.int .i64 0, .int .i64 0, .int .i64 0], 114, false⟩), (b14, ⟨curC ((runF (seg lg.evs q (y.idx - pos').toNat) (m', o')).1) ((runF (seg lg.evs q (y.idx - pos').toNat) (m', o')).2) y.idx, 105, false⟩)]) (List.Sublist.cons_cons _ (List.Sublist.cons_cons _ (List.Sublist.cons_cons _ (List.Sublist.cons_cons _ (List.Sublist.cons _ List.Sublist.slnil)))))
                    clear h667
                    have e669 : sliceBase (some ⟨b635, (j' * 2), none⟩) (mc - j') 1 2 = winA (some ⟨b635, 0, none⟩) mc (j' + 1) 2 := by rw [← winA_some b635 2 hlt644]; exact winA_succ 2 (.inr ⟨b635, rfl⟩) hlt644
                    have e670 : lg.mks.length - j' - 1 = lg.mks.length - (j' + 1) := by omega
                    have e671 : mc - j' - 1 = mc - (j' + 1) := by omega
                    rw [e669, e670, e671] at h668
                    exact ⟨(gg - 1), by omega, (j' + 1), by omega, by omega, by omega, hsame, (h668.slotsMono (restr_spec (keep := [0, 1, 4, 5, 6, 9, 7, 8]) rfl))⟩
                ·
                  have hc647f : x'.idx ≠ y.idx := by simpa using hc647
                  refine wp_exit ?_
                  rw [← winA_some b635 2 hlt644] at h646
                  have hstop : ∀ z, lg.mks[j']? = some z → z.idx ≠ y.idx := (by intro z hz; rw [hx'] at hz; cases hz; exact hc647f)
                  exact hm560 j' _ _ hi628 hi629 (hi631.trans (vm_stop hstop)) hstop ((h646.memMono (List.Sublist.cons_cons _ (List.Sublist.cons_cons _ (List.Sublist.cons_cons _ (List.Sublist.cons_cons _ (List.Sublist.cons _ List.Sublist.slnil)))))).slotsMono (restr_spec (keep := [0, 1, 4, 5, 6, 9, 7, 8]) rfl))
              ·
                have hb634f : ¬ (((lg.mks.length - j') : Nat) : Int) > 0 := by simpa using hb634
                refine nd_start (l := [0, 1, 2, 3, 4, 5, 6, 7, 8, 9, 10]) rfl ?_
                refine nd_batch tabOk tabZ_ok [(0, {}), (1, {}), (2, {f := 1}), (3, {}), (4, {}), (5, {}), (6, {}), (7, {}), (8, {}), (9, {}), (10, {})] [0, 1, 4, 5, 6, 9, 7, 8, 107] (T' := [(0, .pointer (some ⟨bl, 0, none⟩)), (1, .pointer (some ⟨bq, off, none⟩)), (4, .pointer (some ⟨b2, 0, none⟩)), (5, .pointer (some ⟨b14, 0, none⟩)), (6, .int .i64 good), (9, .int .i64 y.idx), (7, .slice (winA mo mc j' 2) (lg.mks.length - j') (mc - j')), (8, .slice (winA (some ⟨bq, 0, none⟩) sc i 15) (lg.sns.length - i) (sc - i)), (107, .bool false)]) (φ := (decide ((((lg.mks.length - j') : Nat) : Int) > 0)) = false ∧ True) (rest := []) h627 (by kernel_rfl) rfl ⟨hb634, trivial⟩ fun a672 h673 => ?_
                clear h627
                refine nd_done ?_
                refine hK633 _ _ ?_
                clear hK633
                refine c_false h673 rfl ?_
                refine wp_exit ?_
                have hstop : ∀ z, lg.mks[j']? = some z → z.idx ≠ y.idx := (by intro z hz; have := (List.getElem?_eq_some_iff.1 hz).1; omega)
                exact hm560 j' _ _ hi628 hi629 (hi631.trans (vm_stop hstop)) hstop (h673.slotsMono (restr_spec (keep := [0, 1, 4, 5, 6, 9, 7, 8]) rfl))
          ·
            have hc523f : ¬ y.idx < ((lg.base.idx + (lg.evs.length : Int)) + 1) := by simpa using hc523
            refine wp_skip ?_
            refine hK516 _ _ ?_
            clear hK516
            refine wp_seq_k fun K674 hK674 => ?_
            refine wp_seq_k fun K675 hK675 => ?_
            refine nd_start (l := [0, 1, 2, 3]) rfl ?_
            refine nd_batch tabOk tabZ_ok [(0, {}), (1, {})] [0, 1, 4, 5, 6, 7, 8, 9, 77, 78] (T' := [(0, .pointer (some ⟨bl, 0, none⟩)), (1, .pointer (some ⟨bq, off, none⟩)), (4, .pointer (some ⟨b2, 0, none⟩)), (5, .pointer (some ⟨b14, 0, none⟩)), (6, .int .i64 good), (7, .slice (winA mo mc j 2) (lg.mks.length - j) (mc - j)), (8, .slice (some ⟨bq, (i * 15), none⟩) (lg.sns.length - i) (sc - i)), (9, .int .i64 ((lg.base.idx + (lg.evs.length : Int)) + 1)), (77, .int .i64 ((lg.base.idx + (lg.evs.length : Int)) + 1)), (78, .pointer (some ⟨bl, 0, none⟩))]) (φ := True) (rest := [2, 3]) h522 (by kernel_rfl) rfl trivial fun a676 h677 => ?_
            clear h522
            refine nd_op ?_
            refine op_call h677 rfl rfl rfl (callOk Tryf.func41 (by decide) rfl) (args := [.pointer (some ⟨bl, 0, none⟩)]) rfl (end_ok bl lg.base eo lg.evs.length ec (.slice mo lg.mks.length mc) (.slice (some ⟨bq, 0, none⟩) lg.sns.length sc) true _ (h677.kn (k := 0) rfl) hb0 (by omega) (by omega)) ?_
            rintro _ w678 ⟨rfl, hf680⟩
            refine ⟨_, rfl, ?_⟩
            have h679 := (h677.grow hf680).put (d := some 79) (v := .int .i64 (lg.base.idx + (lg.evs.length : Int))) (T' := [(79, .int .i64 (lg.base.idx + (lg.evs.length : Int))), (0, .pointer (some ⟨bl, 0, none⟩)), (1, .pointer (some ⟨bq, off, none⟩)), (4, .pointer (some ⟨b2, 0, none⟩)), (5, .pointer (some ⟨b14, 0, none⟩)), (6, .int .i64 good), (7, .slice (winA mo mc j 2) (lg.mks.length - j) (mc - j)), (8, .slice (some ⟨bq, (i * 15), none⟩) (lg.sns.length - i) (sc - i)), (9, .int .i64 ((lg.base.idx + (lg.evs.length : Int)) + 1)), (77, .int .i64 ((lg.base.idx + (lg.evs.length : Int)) + 1)), (78, .pointer (some ⟨bl, 0, none⟩))]) rfl
            clear h677
            refine nd_batch tabOk tabZ_ok [(3, {})] [0, 1, 4, 5, 6, 7, 8, 9, 80] (T' := [(0, .pointer (some ⟨bl, 0, none⟩)), (1, .pointer (some ⟨bq, off, none⟩)), (4, .pointer (some ⟨b2, 0, none⟩)), (5, .pointer (some ⟨b14, 0, none⟩)), (6, .int .i64 good), (7, .slice (winA mo mc j 2) (lg.mks.length - j) (mc - j)), (8, .slice (some ⟨bq, (i * 15), none⟩) (lg.sns.length - i) (sc - i)), (9, .int .i64 ((lg.base.idx + (lg.evs.length : Int)) + 1)), (80, .bool (decide (((lg.base.idx + (lg.evs.length : Int)) + 1) > (lg.base.idx + (lg.evs.length : Int)))))]) (φ := True) (rest := []) h679 (by kernel_rfl) rfl trivial fun a681 h682 => ?_
            clear h679
            refine nd_done ?_
            refine hK675 _ _ ?_
            clear hK675
            refine c_split h682 (b := decide (((lg.base.idx + (lg.evs.length : Int)) + 1) > (lg.base.idx + (lg.evs.length : Int)))) rfl (fun hc683 => ?_) (fun hc683 => ?_)
            ·
              have hc683f : ((lg.base.idx + (lg.evs.length : Int)) + 1) > (lg.base.idx + (lg.evs.length : Int)) := by simpa using hc683
              have hnx : nextOf lg.fin (lg.mks.drop j) (lg.sns.drop i) = ((lg.base.idx + (lg.evs.length : Int)) + 1) := by rw [next_s (fin := lg.fin) (by omega) hy, if_neg (by omega)]; rfl
              have hfin : lg.fin < ((lg.base.idx + (lg.evs.length : Int)) + 1) := hc683f
              refine wp_seq_k fun K684 hK684 => ?_
              refine nd_start (l := [0, 1, 2, 3]) rfl ?_
              refine nd_batch tabOk tabZ_ok [(0, {}), (1, {})] [0, 1, 4, 5, 6, 7, 8, 9, 81, 82] (T' := [(0, .pointer (some ⟨bl, 0, none⟩)), (1, .pointer (some ⟨bq, off, none⟩)), (4, .pointer (some ⟨b2, 0, none⟩)), (5, .pointer (some ⟨b14, 0, none⟩)), (6, .int .i64 good), (7, .slice (winA mo mc j 2) (lg.mks.length - j) (mc - j)), (8, .slice (some ⟨bq, (i * 15), none⟩) (lg.sns.length - i) (sc - i)), (9, .int .i64 ((lg.base.idx + (lg.evs.length : Int)) + 1)), (81, .pointer (some ⟨bl, 0, none⟩)), (82, .pointer (some ⟨bl, 0, none⟩))]) (φ := True) (rest := [2, 3]) h682 (by kernel_rfl) rfl trivial fun a685 h686 => ?_
              clear h682
              refine nd_op ?_
              refine op_call h686 rfl rfl rfl (callOk Tryf.func41 (by decide) rfl) (args := [.pointer (some ⟨bl, 0, none⟩)]) rfl (end_ok bl lg.base eo lg.evs.length ec (.slice mo lg.mks.length mc) (.slice (some ⟨bq, 0, none⟩) lg.sns.length sc) true _ (h686.kn (k := 0) rfl) hb0 (by omega) (by omega)) ?_
              rintro _ w687 ⟨rfl, hf689⟩
              refine ⟨_, rfl, ?_⟩
              have h688 := (h686.grow hf689).put (d := some 83) (v := .int .i64 (lg.base.idx + (lg.evs.length : Int))) (T' := [(83, .int .i64 (lg.base.idx + (lg.evs.length : Int))), (0, .pointer (some ⟨bl, 0, none⟩)), (1, .pointer (some ⟨bq, off, none⟩)), (4, .pointer (some ⟨b2, 0, none⟩)), (5, .pointer (some ⟨b14, 0, none⟩)), (6, .int .i64 good), (7, .slice (winA mo mc j 2) (lg.mks.length - j) (mc - j)), (8, .slice (some ⟨bq, (i * 15), none⟩) (lg.sns.length - i) (sc - i)), (9, .int .i64 ((lg.base.idx + (lg.evs.length : Int)) + 1)), (81, .pointer (some ⟨bl, 0, none⟩)), (82, .pointer (some ⟨bl, 0, none⟩))]) rfl
              clear h686
              refine nd_op ?_
              refine op_call h688 rfl rfl rfl (callOk Tryf.func44 (by decide) rfl) (args := [.pointer (some ⟨b14, 0, none⟩), .pointer (some ⟨bl, 0, none⟩), .int .i64 (lg.base.idx + (lg.evs.length : Int))]) rfl (run_ok b14 bl ⟨eo, ec, eF, mo, mc, mF, (some ⟨bq, 0, none⟩), sc, [bq]⟩ lg _ (LogAt.of (d := ⟨eo, ec, eF, mo, mc, mF, (some ⟨bq, 0, none⟩), sc, [bq]⟩) (h688.kn (k := 0) rfl) h688.inv hsep) m' o' pos' (lg.base.idx + (lg.evs.length : Int)) q ((lg.base.idx + (lg.evs.length : Int)) - pos').toNat (h688.kn (k := 3) rfl) (h688.ne 3 0 rfl rfl rfl) (h688.dj (k := 3) rfl rfl) hev hmok hq (by omega) (by omega) (by omega) hb0 (by omega)) ?_
              rintro _ w690 ⟨rfl, hbs, hf692⟩
              refine ⟨_, rfl, ?_⟩
              have h691 := (h688.setBlk (k := 3) rfl rfl hf692 hbs (L' := [(bl, ⟨logC lg.base (.slice eo lg.evs.length ec) (.slice mo lg.mks.length mc) (.slice (some ⟨bq, 0, none⟩) lg.sns.length sc), 89, true⟩), (bq, ⟨cs', 84, true⟩), (b2, ⟨[.int .i64 0, .int .i64 0, .int .i64 0], 114, false⟩), (b14, ⟨curC ((runF (seg lg.evs q ((lg.base.idx + (lg.evs.length : Int)) - pos').toNat) (m', o')).1) ((runF (seg lg.evs q ((lg.base.idx + (lg.evs.length : Int)) - pos').toNat) (m', o')).2) (lg.base.idx + (lg.evs.length : Int)), 105, false⟩)]) rfl).put (d := some 84) (v := .tuple #[]) (T' := [(84, .tuple #[]), (83, .int .i64 (lg.base.idx + (lg.evs.length : Int))), (0, .pointer (some ⟨bl, 0, none⟩)), (1, .pointer (some ⟨bq, off, none⟩)), (4, .pointer (some ⟨b2, 0, none⟩)), (5, .pointer (some ⟨b14, 0, none⟩)), (6, .int .i64 good), (7, .slice (winA mo mc j 2) (lg.mks.length - j) (mc - j)), (8, .slice (some ⟨bq, (i * 15), none⟩) (lg.sns.length - i) (sc - i)), (9, .int .i64 ((lg.base.idx + (lg.evs.length : Int)) + 1)), (81, .pointer (some ⟨bl, 0, none⟩)), (82, .pointer (some ⟨bl, 0, none⟩))]) rfl
              clear h688
              refine nd_done ?_
              refine hK684 _ _ ?_
              clear hK684
              refine wp_seq_k fun K693 hK693 => ?_
              refine dr_start (KB := [bl, bq, b2, b14]) (Bi := [[0, 1, 2, 3], [0, 1, 2, 3], [0, 1, 2, 3], [0, 1, 2, 3], [0, 1, 2, 3], [0, 1, 2, 3], [0, 1, 2, 3], [0, 1, 2, 3], [0, 1, 2, 3], []]) mixed h691 fun w694 h695 => ?_
              clear h691
              refine dr_batch tabOk tabZ_ok (by repeat (first | exact PF.body | with_reducible apply PF.inB | with_reducible apply PF.next)) [(0, {}), (1, {}), (2, {k := 3, p := 3}), (3, {}), (4, {}), (5, {}), (6, {k := 1, m := 1, vs := [.int .i64 p.idx], p := 1}), (7, {}), (8, {})] [0, 1, 4, 5, 6, 7, 8, 9, 93] (T' := [(0, .pointer (some ⟨bl, 0, none⟩)), (1, .pointer (some ⟨bq, off, none⟩)), (4, .pointer (some ⟨b2, 0, none⟩)), (5, .pointer (some ⟨b14, 0, none⟩)), (6, .int .i64 good), (7, .slice (winA mo mc j 2) (lg.mks.length - j) (mc - j)), (8, .slice (some ⟨bq, (i * 15), none⟩) (lg.sns.length - i) (sc - i)), (9, .int .i64 ((lg.base.idx + (lg.evs.length : Int)) + 1)), (93, .agg #[.int .i64 (-1), .int .i64 good, .int .i64 ((lg.base.idx + (lg.evs.length : Int)) - p.idx)])]) (φ := (b14 = b14 ∧ Nat.ble (14 + 1) 15 = true) ∧ (bq = bq ∧ cellsAre cs' off [.int .i64 p.idx]) ∧ inR .i64 ((lg.base.idx + (lg.evs.length : Int)) - p.idx) ∧ True) (fuel := 1) h695 (by kernel_rfl) rfl (by kernel_rfl) (by kernel_rfl) ⟨trivial, trivial, rfl, trivial, trivial, trivial, rfl, trivial, trivial, trivial⟩ ⟨⟨rfl, rfl⟩, ⟨rfl, (pt_idx hp)⟩, ⟨by omega, by omega⟩, trivial⟩ fun a697 h698 => ?_
              clear h695
              refine wpAnyK_one (i := 9) (fuel := 0) (by kernel_rfl) ?_
              refine op_store tabOk {k := 2} (L' := [(bl, ⟨logC lg.base (.slice eo lg.evs.length ec) (.slice mo lg.mks.length mc) (.slice (some ⟨bq, 0, none⟩) lg.sns.length sc), 89, true⟩), (bq, ⟨cs', 84, true⟩), (b2, ⟨[.int .i64 (-1), .int .i64 good, .int .i64 ((lg.base.idx + (lg.evs.length : Int)) - p.idx)], 114, false⟩), (b14, ⟨curC ((runF (seg lg.evs q ((lg.base.idx + (lg.evs.length : Int)) - pos').toNat) (m', o')).1) ((runF (seg lg.evs q ((lg.base.idx + (lg.evs.length : Int)) - pos').toNat) (m', o')).2) (lg.base.idx + (lg.evs.length : Int)), 105, false⟩)]) (φ := b2 = b2 ∧ Nat.ble (0 + 3) 3 = true) h698 rfl rfl rfl (by kernel_rfl) ⟨rfl, rfl⟩ fun w699 h700 => ?_
              have hkh700 := h698.known
              refine ⟨keepNil, ?_⟩
              clear h698
              refine wpAnyK_done (by kernel_rfl) ?_ _
              refine hK693 _ _ ?_
              clear hK693
              refine wp_ret ?_
              have hres := hv.symm.trans (vloop_end hnx hfin)
              try simp only [Exit.then, Exit.inBlock]
              try rw [if_pos trivial]
              exact s_ret tabOk tabZ_ok h700 [(.cell 4 114, {k := 2})] (vs := [.agg #[.int .i64 (-1), .int .i64 good, .int .i64 ((lg.base.idx + (lg.evs.length : Int)) - p.idx)]]) (φ := (b2 = b2 ∧ Nat.ble (0 + 3) 3 = true) ∧ True) rfl (by kernel_rfl) ⟨⟨rfl, rfl⟩, trivial⟩ ⟨by rw [hres]; rfl, h700.frame⟩
            ·
              have hc683f : ¬ ((lg.base.idx + (lg.evs.length : Int)) + 1) > (lg.base.idx + (lg.evs.length : Int)) := by simpa using hc683
              have hnx : nextOf lg.fin (lg.mks.drop j) (lg.sns.drop i) = ((lg.base.idx + (lg.evs.length : Int)) + 1) := by rw [next_s (fin := lg.fin) (by omega) hy, if_neg (by omega)]; rfl
              have hfin : ¬ lg.fin < ((lg.base.idx + (lg.evs.length : Int)) + 1) := hc683f
              have hnp : pos' ≤ ((lg.base.idx + (lg.evs.length : Int)) + 1) := by omega
              have hmok2 := runF_ok (seg lg.evs q (((lg.base.idx + (lg.evs.length : Int)) + 1) - pos').toNat) (m', o') hmok (seg_ok hev _ _)
              have hs2 : runF (seg lg.evs (pos' - lg.base.idx).toNat (((lg.base.idx + (lg.evs.length : Int)) + 1) - pos').toNat) (m', o') = runF (seg lg.evs q (((lg.base.idx + (lg.evs.length : Int)) + 1) - pos').toNat) (m', o') := by rw [show (pos' - lg.base.idx).toNat = q by omega]
              simp only [Lg.fin] at hfin
              refine wp_skip ?_
              refine hK674 _ _ ?_
              clear hK674
              refine wp_seq_k fun K701 hK701 => ?_
              refine nd_start (l := [0, 1, 2]) rfl ?_
              refine nd_batch tabOk tabZ_ok [(0, {}), (1, {})] [0, 1, 4, 5, 6, 7, 8, 9, 94, 95] (T' := [(0, .pointer (some ⟨bl, 0, none⟩)), (1, .pointer (some ⟨bq, off, none⟩)), (4, .pointer (some ⟨b2, 0, none⟩)), (5, .pointer (some ⟨b14, 0, none⟩)), (6, .int .i64 good), (7, .slice (winA mo mc j 2) (lg.mks.length - j) (mc - j)), (8, .slice (some ⟨bq, (i * 15), none⟩) (lg.sns.length - i) (sc - i)), (9, .int .i64 ((lg.base.idx + (lg.evs.length : Int)) + 1)), (94, .pointer (some ⟨bl, 0, none⟩)), (95, .int .i64 ((lg.base.idx + (lg.evs.length : Int)) + 1))]) (φ := True) (rest := [2]) h682 (by kernel_rfl) rfl trivial fun a702 h703 => ?_
              clear h682
              refine nd_op ?_
              refine op_call h703 rfl rfl rfl (callOk Tryf.func44 (by decide) rfl) (args := [.pointer (some ⟨b14, 0, none⟩), .pointer (some ⟨bl, 0, none⟩), .int .i64 ((lg.base.idx + (lg.evs.length : Int)) + 1)]) rfl (run_ok b14 bl ⟨eo, ec, eF, mo, mc, mF, (some ⟨bq, 0, none⟩), sc, [bq]⟩ lg _ (LogAt.of (d := ⟨eo, ec, eF, mo, mc, mF, (some ⟨bq, 0, none⟩), sc, [bq]⟩) (h703.kn (k := 0) rfl) h703.inv hsep) m' o' pos' ((lg.base.idx + (lg.evs.length : Int)) + 1) q (((lg.base.idx + (lg.evs.length : Int)) + 1) - pos').toNat (h703.kn (k := 3) rfl) (h703.ne 3 0 rfl rfl rfl) (h703.dj (k := 3) rfl rfl) hev hmok hq (by omega) (by omega) (by omega) hb0 (by omega)) ?_
              rintro _ w704 ⟨rfl, hbs, hf706⟩
              refine ⟨_, rfl, ?_⟩
              have h705 := (h703.setBlk (k := 3) rfl rfl hf706 hbs (L' := [(bl, ⟨logC lg.base (.slice eo lg.evs.length ec) (.slice mo lg.mks.length mc) (.slice (some ⟨bq, 0, none⟩) lg.sns.length sc), 89, true⟩), (bq, ⟨cs', 84, true⟩), (b2, ⟨[.int .i64 0, .int .i64 0, .int .i64 0], 114, false⟩), (b14, ⟨curC ((runF (seg lg.evs q (((lg.base.idx + (lg.evs.length : Int)) + 1) - pos').toNat) (m', o')).1) ((runF (seg lg.evs q (((lg.base.idx + (lg.evs.length : Int)) + 1) - pos').toNat) (m', o')).2) ((lg.base.idx + (lg.evs.length : Int)) + 1), 105, false⟩)]) rfl).put (d := some 96) (v := .tuple #[]) (T' := [(96, .tuple #[]), (0, .pointer (some ⟨bl, 0, none⟩)), (1, .pointer (some ⟨bq, off, none⟩)), (4, .pointer (some ⟨b2, 0, none⟩)), (5, .pointer (some ⟨b14, 0, none⟩)), (6, .int .i64 good), (7, .slice (winA mo mc j 2) (lg.mks.length - j) (mc - j)), (8, .slice (some ⟨bq, (i * 15), none⟩) (lg.sns.length - i) (sc - i)), (9, .int .i64 ((lg.base.idx + (lg.evs.length : Int)) + 1)), (94, .pointer (some ⟨bl, 0, none⟩)), (95, .int .i64 ((lg.base.idx + (lg.evs.length : Int)) + 1))]) rfl
              clear h703
              refine nd_done ?_
              refine hK701 _ _ ?_
              clear hK701
              refine wp_seq_k fun K707 hK707 => ?_
              refine wp_block ?_
              rw [← winA_some bq 15 hlt520] at h705
              have hm708 : ∀ (j' : Nat) (ca : Act) (cw : World), (j' ≤ lg.mks.length) → (j ≤ j') → (vm ((lg.base.idx + (lg.evs.length : Int)) + 1) (dig (runF (seg lg.evs q (((lg.base.idx + (lg.evs.length : Int)) + 1) - pos').toNat) (m', o')).1) (lg.mks.drop j) = some (lg.mks.drop j')) → (∀ z, lg.mks[j']? = some z → z.idx ≠ ((lg.base.idx + (lg.evs.length : Int)) + 1)) → St ⟨165, [], w, Rws [rl evC 31 3 lg.evs eo ec eF, rl mkC 93 2 lg.mks mo mc mF, rl ptC 84 15 lg.sns (some ⟨bq, 0, none⟩) sc ([bq])], Ff [rl evC 31 3 lg.evs eo ec eF, rl mkC 93 2 lg.mks mo mc mF, rl ptC 84 15 lg.sns (some ⟨bq, 0, none⟩) sc ([bq])]⟩ [(0, .pointer (some ⟨bl, 0, none⟩)), (1, .pointer (some ⟨bq, off, none⟩)), (4, .pointer (some ⟨b2, 0, none⟩)), (5, .pointer (some ⟨b14, 0, none⟩)), (6, .int .i64 good), (9, .int .i64 ((lg.base.idx + (lg.evs.length : Int)) + 1)), (7, .slice (winA mo mc j' 2) (lg.mks.length - j') (mc - j')), (8, .slice (winA (some ⟨bq, 0, none⟩) sc i 15) (lg.sns.length - i) (sc - i))] [(bl, ⟨logC lg.base (.slice eo lg.evs.length ec) (.slice mo lg.mks.length mc) (.slice (some ⟨bq, 0, none⟩) lg.sns.length sc), 89, true⟩), (bq, ⟨cs', 84, true⟩), (b2, ⟨[.int .i64 0, .int .i64 0, .int .i64 0], 114, false⟩), (b14, ⟨curC ((runF (seg lg.evs q (((lg.base.idx + (lg.evs.length : Int)) + 1) - pos').toNat) (m', o')).1) ((runF (seg lg.evs q (((lg.base.idx + (lg.evs.length : Int)) + 1) - pos').toNat) (m', o')).2) ((lg.base.idx + (lg.evs.length : Int)) + 1), 105, false⟩)] ca cw → K707 ca cw := by
                intro j' a709 w710 hi712 hi713 hi714 hi715 h711
                have hj' := hi712
                have hle1 := hi713
                have hvm := hi714
                have hstop1 := hi715
                refine hK707 _ _ ?_
                clear hK707
                refine wp_seq_k fun K716 hK716 => ?_
                refine wp_block ?_
                have hm717 : ∀ (i' : Nat) (ca : Act) (cw : World), (i' ≤ lg.sns.length) → (i ≤ i') → (vs ((lg.base.idx + (lg.evs.length : Int)) + 1) (runF (seg lg.evs q (((lg.base.idx + (lg.evs.length : Int)) + 1) - pos').toNat) (m', o')) (lg.sns.drop i) = some (lg.sns.drop i')) → (∀ z, lg.sns[i']? = some z → z.idx ≠ ((lg.base.idx + (lg.evs.length : Int)) + 1)) → St ⟨165, [], w, Rws [rl evC 31 3 lg.evs eo ec eF, rl mkC 93 2 lg.mks mo mc mF, rl ptC 84 15 lg.sns (some ⟨bq, 0, none⟩) sc ([bq])], Ff [rl evC 31 3 lg.evs eo ec eF, rl mkC 93 2 lg.mks mo mc mF, rl ptC 84 15 lg.sns (some ⟨bq, 0, none⟩) sc ([bq])]⟩ [(0, .pointer (some ⟨bl, 0, none⟩)), (1, .pointer (some ⟨bq, off, none⟩)), (4, .pointer (some ⟨b2, 0, none⟩)), (5, .pointer (some ⟨b14, 0, none⟩)), (6, .int .i64 good), (9, .int .i64 ((lg.base.idx + (lg.evs.length : Int)) + 1)), (8, .slice (winA (some ⟨bq, 0, none⟩) sc i' 15) (lg.sns.length - i') (sc - i')), (7, .slice (winA mo mc j' 2) (lg.mks.length - j') (mc - j'))] [(bl, ⟨logC lg.base (.slice eo lg.evs.length ec) (.slice mo lg.mks.length mc) (.slice (some ⟨bq, 0, none⟩) lg.sns.length sc), 89, true⟩), (bq, ⟨cs', 84, true⟩), (b2, ⟨[.int .i64 0, .int .i64 0, .int .i64 0], 114, false⟩), (b14, ⟨curC ((runF (seg lg.evs q (((lg.base.idx + (lg.evs.length : Int)) + 1) - pos').toNat) (m', o')).1) ((runF (seg lg.evs q (((lg.base.idx + (lg.evs.length : Int)) + 1) - pos').toNat) (m', o')).2) ((lg.base.idx + (lg.evs.length : Int)) + 1), 105, false⟩)] ca cw → K716 ca cw := by
                  intro i' a718 w719 hi721 hi722 hi723 hi724 h720
                  have hi' := hi721
                  have hle2 := hi722
                  have hvs := hi723
                  have hstop2 := hi724
                  have hprog : lg.mks.length - j' + (lg.sns.length - i') < lg.mks.length - j + (lg.sns.length - i) := by
                    exfalso; omega
                  have hall : (∀ z, lg.mks[j]? = some z → ((lg.base.idx + (lg.evs.length : Int)) + 1) ≤ z.idx) ∧ (∀ z, lg.sns[i]? = some z → ((lg.base.idx + (lg.evs.length : Int)) + 1) ≤ z.idx) := by
                    refine ⟨fun z hz => ?_, fun z hz => ?_⟩
                    · have := (List.getElem?_eq_some_iff.1 hz).1; omega
                    · rw [hy] at hz; cases hz; omega
                  have hgm' : ∀ z ∈ lg.mks.drop j', ((lg.base.idx + (lg.evs.length : Int)) + 1) ≤ z.idx := fun z hz => mk_ge hms hall.1 z ((List.drop_sublist_drop_left lg.mks hle1).mem hz)
                  have hgs' : ∀ z ∈ lg.sns.drop i', ((lg.base.idx + (lg.evs.length : Int)) + 1) ≤ z.idx := fun z hz => pt_ge hsort hall.2 z ((List.drop_sublist_drop_left lg.sns hle2).mem hz)
                  refine hK716 _ _ ?_
                  clear hK716
                  refine nd_start (l := [0, 1]) rfl ?_
                  refine nd_batch tabOk tabZ_ok [(0, {}), (1, {})] [0, 1, 4, 5, 9, 8, 7, 6] (T' := [(0, .pointer (some ⟨bl, 0, none⟩)), (1, .pointer (some ⟨bq, off, none⟩)), (4, .pointer (some ⟨b2, 0, none⟩)), (5, .pointer (some ⟨b14, 0, none⟩)), (9, .int .i64 ((lg.base.idx + (lg.evs.length : Int)) + 1)), (8, .slice (winA (some ⟨bq, 0, none⟩) sc i' 15) (lg.sns.length - i') (sc - i')), (7, .slice (winA mo mc j' 2) (lg.mks.length - j') (mc - j')), (6, .int .i64 ((lg.base.idx + (lg.evs.length : Int)) + 1))]) (φ := True) (rest := []) h720 (by kernel_rfl) rfl trivial fun a725 h726 => ?_
                  clear h720
                  refine nd_done ?_
                  exact ⟨g, by omega, j', i', (runF (seg lg.evs q (((lg.base.idx + (lg.evs.length : Int)) + 1) - pos').toNat) (m', o')).1, (runF (seg lg.evs q (((lg.base.idx + (lg.evs.length : Int)) + 1) - pos').toNat) (m', o')).2, ((lg.base.idx + (lg.evs.length : Int)) + 1), ((lg.base.idx + (lg.evs.length : Int)) + 1), (((lg.base.idx + (lg.evs.length : Int)) + 1) - lg.base.idx).toNat, hj', hi', by omega, by omega, by omega, hmok2, hgm', hgs', by rw [← hv]; exact (vloop_next hnx hfin hs2 hvm hvs).symm, (h726.slotsMono (restr_spec (keep := [0, 1, 4, 5, 6, 7, 8]) rfl))⟩
                clear hK716
                refine wp_loop_ghost (fun gg ga gw => ∃ (i' : Nat), (i' ≤ lg.sns.length) ∧ (i ≤ i') ∧ (gg = lg.sns.length - i') ∧ (vs ((lg.base.idx + (lg.evs.length : Int)) + 1) (runF (seg lg.evs q (((lg.base.idx + (lg.evs.length : Int)) + 1) - pos').toNat) (m', o')) (lg.sns.drop i) = vs ((lg.base.idx + (lg.evs.length : Int)) + 1) (runF (seg lg.evs q (((lg.base.idx + (lg.evs.length : Int)) + 1) - pos').toNat) (m', o')) (lg.sns.drop i')) ∧ St ⟨165, [], w, Rws [rl evC 31 3 lg.evs eo ec eF, rl mkC 93 2 lg.mks mo mc mF, rl ptC 84 15 lg.sns (some ⟨bq, 0, none⟩) sc ([bq])], Ff [rl evC 31 3 lg.evs eo ec eF, rl mkC 93 2 lg.mks mo mc mF, rl ptC 84 15 lg.sns (some ⟨bq, 0, none⟩) sc ([bq])]⟩ [(0, .pointer (some ⟨bl, 0, none⟩)), (1, .pointer (some ⟨bq, off, none⟩)), (4, .pointer (some ⟨b2, 0, none⟩)), (5, .pointer (some ⟨b14, 0, none⟩)), (6, .int .i64 good), (9, .int .i64 ((lg.base.idx + (lg.evs.length : Int)) + 1)), (8, .slice (winA (some ⟨bq, 0, none⟩) sc i' 15) (lg.sns.length - i') (sc - i')), (7, .slice (winA mo mc j' 2) (lg.mks.length - j') (mc - j'))] [(bl, ⟨logC lg.base (.slice eo lg.evs.length ec) (.slice mo lg.mks.length mc) (.slice (some ⟨bq, 0, none⟩) lg.sns.length sc), 89, true⟩), (bq, ⟨cs', 84, true⟩), (b2, ⟨[.int .i64 0, .int .i64 0, .int .i64 0], 114, false⟩), (b14, ⟨curC ((runF (seg lg.evs q (((lg.base.idx + (lg.evs.length : Int)) + 1) - pos').toNat) (m', o')).1) ((runF (seg lg.evs q (((lg.base.idx + (lg.evs.length : Int)) + 1) - pos').toNat) (m', o')).2) ((lg.base.idx + (lg.evs.length : Int)) + 1), 105, false⟩)] ga gw) (lg.sns.length - i) ⟨i, by omega, Nat.le_refl _, rfl, rfl, (h711.slotsMono (restr_spec (keep := [0, 1, 4, 5, 6, 9, 8, 7]) rfl))⟩ ?_
                clear h711
                rintro gg a727 w728 ⟨i', hi730, hi731, hi732, hi733, h729⟩
                refine wp_seq_k fun K734 hK734 => ?_
                refine wp_seq_k fun K735 hK735 => ?_
                rcases Bool.eq_false_or_eq_true (decide ((((lg.sns.length - i') : Nat) : Int) > 0)) with hb736 | hb736
                ·
                  have hb736f : (((lg.sns.length - i') : Nat) : Int) > 0 := by simpa using hb736
                  obtain ⟨y', hy'⟩ := Sx.get_some (xs := lg.sns) (i := i') (by omega)
                  have hc737 := rl_at (h729.inv.get (j := 2) rfl) (h729.kn (k := 1) rfl) ptC_len hy'
                  have hlt738 : i' < sc := by have h1 : lg.sns.length ≤ sc := rl_cap (h729.inv.get (j := 2) rfl); have h2 := (List.getElem?_eq_some_iff.1 hy').1; omega
                  rw [winA_some bq 15 hlt738] at h729
                  refine nd_start (l := [0, 1, 2, 3, 4, 5, 6, 7, 8, 9, 10]) rfl ?_
                  refine nd_batch tabOk tabZ_ok [(0, {}), (1, {}), (2, {f := 2}), (3, {}), (4, {}), (5, {}), (6, {}), (7, {k := 1, m := 1, vs := [.int .i64 y'.idx]}), (8, {}), (9, {}), (10, {})] [0, 1, 4, 5, 6, 9, 8, 7, 136] (T' := [(0, .pointer (some ⟨bl, 0, none⟩)), (1, .pointer (some ⟨bq, off, none⟩)), (4, .pointer (some ⟨b2, 0, none⟩)), (5, .pointer (some ⟨b14, 0, none⟩)), (6, .int .i64 good), (9, .int .i64 ((lg.base.idx + (lg.evs.length : Int)) + 1)), (8, .slice (some ⟨bq, (i' * 15), none⟩) (lg.sns.length - i') (sc - i')), (7, .slice (winA mo mc j' 2) (lg.mks.length - j') (mc - j')), (136, .bool (y'.idx == ((lg.base.idx + (lg.evs.length : Int)) + 1)))]) (φ := (decide ((((lg.sns.length - i') : Nat) : Int) > 0)) = true ∧ (0 ≤ (0 : Int) ∧ (0 : Int) < (((lg.sns.length - i') : Nat) : Int)) ∧ (bq = bq ∧ cellsAre cs' (i' * 15) [.int .i64 y'.idx]) ∧ True) (rest := []) h729 (by kernel_rfl) rfl ⟨hb736, ⟨by omega, by omega⟩, ⟨rfl, (pt_idx hc737)⟩, trivial⟩ fun a739 h740 => ?_
                  clear h729
                  refine nd_done ?_
                  refine hK735 _ _ ?_
                  clear hK735
                  refine c_split h740 (b := (y'.idx == ((lg.base.idx + (lg.evs.length : Int)) + 1))) rfl (fun hc741 => ?_) (fun hc741 => ?_)
                  ·
                    have hc741f : y'.idx = ((lg.base.idx + (lg.evs.length : Int)) + 1) := by simpa using hc741
                    have hxn : y'.idx = ((lg.base.idx + (lg.evs.length : Int)) + 1) := hc741f
                    refine wp_skip ?_
                    refine hK734 _ _ ?_
                    clear hK734
                    refine wp_seq_k fun K742 hK742 => ?_
                    refine wp_block ?_
                    refine wp_seq_k fun K743 hK743 => ?_
                    rcases Bool.eq_false_or_eq_true ((Bool.xor true (machEq y'.st (runF (seg lg.evs q (((lg.base.idx + (lg.evs.length : Int)) + 1) - pos').toNat) (m', o')).1))) with hb744 | hb744
                    ·
                      have hme : machEq y'.st (runF (seg lg.evs q (((lg.base.idx + (lg.evs.length : Int)) + 1) - pos').toNat) (m', o')).1 = false := by simpa using hb744
                      have hvs := hi733.trans (vs_bad1 hy' hxn hme)
                      refine dr_start (KB := [bl, bq, b2, b14]) (Bi := [[0, 1, 2, 3], [0, 1, 2, 3], [0, 1, 2, 3], [0, 1, 2, 3], [0, 1, 2, 3], [0, 1, 2, 3], [0, 1, 2, 3], [0, 1, 2, 3], [0, 1, 2, 3], [0, 1, 2, 3], [0, 1, 2, 3], [0, 1, 2, 3], [0, 1, 2, 3], [0, 1, 2, 3], [0, 1, 2, 3], [0, 1, 2, 3]]) mixed h740 fun w745 h746 => ?_
                      clear h740
                      refine dr_batch tabOk tabZ_ok (by repeat (first | exact PF.body | with_reducible apply PF.inB | with_reducible apply PF.next)) [(0, {}), (1, {}), (2, {}), (3, {k := 1, m := 1, vs := [.int .u64 y'.st.now, .int .i8 y'.st.cur, .int .u8 y'.st.s0, .int .u8 y'.st.s1, .int .u8 y'.st.s2, .int .u8 y'.st.s3, .int .u64 y'.st.r0, .int .u64 y'.st.r1, .int .u64 y'.st.r2, .int .u64 y'.st.r3, .int .u64 y'.st.word], p := 1}), (4, {}), (5, {k := 3, p := 3}), (6, {f := 2}), (7, {}), (8, {}), (9, {}), (10, {}), (11, {k := 0, p := 0}), (12, {}), (13, {k := 0, p := 0}), (14, {}), (15, {})] [0, 1, 4, 5, 6, 9, 8, 7, 154] (T' := [(0, .pointer (some ⟨bl, 0, none⟩)), (1, .pointer (some ⟨bq, off, none⟩)), (4, .pointer (some ⟨b2, 0, none⟩)), (5, .pointer (some ⟨b14, 0, none⟩)), (6, .int .i64 good), (9, .int .i64 ((lg.base.idx + (lg.evs.length : Int)) + 1)), (8, .slice (some ⟨bq, (i' * 15), none⟩) (lg.sns.length - i') (sc - i')), (7, .slice (winA mo mc j' 2) (lg.mks.length - j') (mc - j')), (154, .bool true)]) (φ := (0 ≤ (0 : Int) ∧ (0 : Int) < (((lg.sns.length - i') : Nat) : Int)) ∧ (bq = bq ∧ cellsAre cs' ((i' * 15) + 1) [.int .u64 y'.st.now, .int .i8 y'.st.cur, .int .u8 y'.st.s0, .int .u8 y'.st.s1, .int .u8 y'.st.s2, .int .u8 y'.st.s3, .int .u64 y'.st.r0, .int .u64 y'.st.r1, .int .u64 y'.st.r2, .int .u64 y'.st.r3, .int .u64 y'.st.word]) ∧ (b14 = b14 ∧ Nat.ble (0 + 11) 15 = true) ∧ EqRun Tryf.prog 58 (.agg #[.int .u64 y'.st.now, .int .i8 y'.st.cur, .int .u8 y'.st.s0, .int .u8 y'.st.s1, .int .u8 y'.st.s2, .int .u8 y'.st.s3, .int .u64 y'.st.r0, .int .u64 y'.st.r1, .int .u64 y'.st.r2, .int .u64 y'.st.r3, .int .u64 y'.st.word]) (.agg #[.int .u64 ((runF (seg lg.evs q (((lg.base.idx + (lg.evs.length : Int)) + 1) - pos').toNat) (m', o')).1.now), .int .i8 ((runF (seg lg.evs q (((lg.base.idx + (lg.evs.length : Int)) + 1) - pos').toNat) (m', o')).1.cur), .int .u8 ((runF (seg lg.evs q (((lg.base.idx + (lg.evs.length : Int)) + 1) - pos').toNat) (m', o')).1.s0), .int .u8 ((runF (seg lg.evs q (((lg.base.idx + (lg.evs.length : Int)) + 1) - pos').toNat) (m', o')).1.s1), .int .u8 ((runF (seg lg.evs q (((lg.base.idx + (lg.evs.length : Int)) + 1) - pos').toNat) (m', o')).1.s2), .int .u8 ((runF (seg lg.evs q (((lg.base.idx + (lg.evs.length : Int)) + 1) - pos').toNat) (m', o')).1.s3), .int .u64 ((runF (seg lg.evs q (((lg.base.idx + (lg.evs.length : Int)) + 1) - pos').toNat) (m', o')).1.r0), .int .u64 ((runF (seg lg.evs q (((lg.base.idx + (lg.evs.length : Int)) + 1) - pos').toNat) (m', o')).1.r1), .int .u64 ((runF (seg lg.evs q (((lg.base.idx + (lg.evs.length : Int)) + 1) - pos').toNat) (m', o')).1.r2), .int .u64 ((runF (seg lg.evs q (((lg.base.idx + (lg.evs.length : Int)) + 1) - pos').toNat) (m', o')).1.r3), .int .u64 ((runF (seg lg.evs q (((lg.base.idx + (lg.evs.length : Int)) + 1) - pos').toNat) (m', o')).1.word)]) false ∧ True) (fuel := 0) h746 (by kernel_rfl) rfl (by kernel_rfl) (by kernel_rfl) ⟨trivial, trivial, trivial, rfl, trivial, rfl, trivial, trivial, trivial, trivial, trivial, rfl, trivial, rfl, trivial, trivial, trivial⟩ ⟨⟨by omega, by omega⟩, ⟨rfl, (pt_st hc737)⟩, ⟨rfl, rfl⟩, (by have hq := run46 y'.st (runF (seg lg.evs q (((lg.base.idx + (lg.evs.length : Int)) + 1) - pos').toNat) (m', o')).1; rw [show machEq y'.st (runF (seg lg.evs q (((lg.base.idx + (lg.evs.length : Int)) + 1) - pos').toNat) (m', o')).1 = false by simpa using hb744] at hq; exact hq), trivial⟩ fun a748 h749 => ?_
                      clear h746
                      refine wpAnyK_done (by kernel_rfl) ?_ _
                      refine hK743 _ _ ?_
                      clear hK743
                      refine c_true h749 rfl ?_
                      refine wp_seq_k fun K750 hK750 => ?_
                      refine nd_start (l := [0, 1, 2, 3, 4, 5, 6, 7, 8, 9]) rfl ?_
                      refine nd_batch tabOk tabZ_ok [(0, {}), (1, {}), (2, {}), (3, {}), (4, {}), (5, {}), (6, {k := 1, m := 1, vs := [.int .i64 p.idx]}), (7, {}), (8, {})] [0, 1, 4, 5, 6, 9, 8, 7, 163] (T' := [(0, .pointer (some ⟨bl, 0, none⟩)), (1, .pointer (some ⟨bq, off, none⟩)), (4, .pointer (some ⟨b2, 0, none⟩)), (5, .pointer (some ⟨b14, 0, none⟩)), (6, .int .i64 good), (9, .int .i64 ((lg.base.idx + (lg.evs.length : Int)) + 1)), (8, .slice (some ⟨bq, (i' * 15), none⟩) (lg.sns.length - i') (sc - i')), (7, .slice (winA mo mc j' 2) (lg.mks.length - j') (mc - j')), (163, .agg #[.int .i64 ((lg.base.idx + (lg.evs.length : Int)) + 1), .int .i64 good, .int .i64 (((lg.base.idx + (lg.evs.length : Int)) + 1) - p.idx)])]) (φ := (bq = bq ∧ cellsAre cs' off [.int .i64 p.idx]) ∧ inR .i64 (((lg.base.idx + (lg.evs.length : Int)) + 1) - p.idx) ∧ True) (rest := [9]) h749 (by kernel_rfl) rfl ⟨⟨rfl, (pt_idx hp)⟩, ⟨by omega, by omega⟩, trivial⟩ fun a751 h752 => ?_
                      clear h749
                      refine nd_op ?_
                      refine op_store tabOk {k := 2} (L' := [(bl, ⟨logC lg.base (.slice eo lg.evs.length ec) (.slice mo lg.mks.length mc) (.slice (some ⟨bq, 0, none⟩) lg.sns.length sc), 89, true⟩), (bq, ⟨cs', 84, true⟩), (b2, ⟨[.int .i64 ((lg.base.idx + (lg.evs.length : Int)) + 1), .int .i64 good, .int .i64 (((lg.base.idx + (lg.evs.length : Int)) + 1) - p.idx)], 114, false⟩), (b14, ⟨curC ((runF (seg lg.evs q (((lg.base.idx + (lg.evs.length : Int)) + 1) - pos').toNat) (m', o')).1) ((runF (seg lg.evs q (((lg.base.idx + (lg.evs.length : Int)) + 1) - pos').toNat) (m', o')).2) ((lg.base.idx + (lg.evs.length : Int)) + 1), 105, false⟩)]) (φ := b2 = b2 ∧ Nat.ble (0 + 3) 3 = true) h752 rfl rfl rfl (by kernel_rfl) ⟨rfl, rfl⟩ fun w753 h754 => ?_
                      clear h752
                      refine nd_done ?_
                      refine hK750 _ _ ?_
                      clear hK750
                      refine wp_ret ?_
                      have hres := hv.symm.trans (vloop_snap hnx hfin hs2 hvm hvs)
                      try simp only [Exit.then, Exit.inBlock]
                      try rw [if_pos trivial]
                      exact s_ret tabOk tabZ_ok h754 [(.cell 4 114, {k := 2})] (vs := [.agg #[.int .i64 ((lg.base.idx + (lg.evs.length : Int)) + 1), .int .i64 good, .int .i64 (((lg.base.idx + (lg.evs.length : Int)) + 1) - p.idx)]]) (φ := (b2 = b2 ∧ Nat.ble (0 + 3) 3 = true) ∧ True) rfl (by kernel_rfl) ⟨⟨rfl, rfl⟩, trivial⟩ ⟨by rw [hres]; rfl, h754.frame⟩
                    ·
                      have hme : machEq y'.st (runF (seg lg.evs q (((lg.base.idx + (lg.evs.length : Int)) + 1) - pos').toNat) (m', o')).1 = true := by simpa using hb744
                      refine dr_start (KB := [bl, bq, b2, b14]) (Bi := [[0, 1, 2, 3], [0, 1, 2, 3], [0, 1, 2, 3], [0, 1, 2, 3], [0, 1, 2, 3], [0, 1, 2, 3], [0, 1, 2, 3], [0, 1, 2, 3], [0, 1, 2, 3], [0, 1, 2, 3], [0, 1, 2, 3], [0, 1, 2, 3], [0, 1, 2, 3], [0, 1, 2, 3], [0, 1, 2, 3], [0, 1, 2, 3]]) mixed h740 fun w755 h756 => ?_
                      clear h740
                      refine dr_batch tabOk tabZ_ok (by repeat (first | exact PF.body | with_reducible apply PF.inB | with_reducible apply PF.next)) [(0, {}), (1, {}), (2, {}), (3, {k := 1, m := 1, vs := [.int .u64 y'.st.now, .int .i8 y'.st.cur, .int .u8 y'.st.s0, .int .u8 y'.st.s1, .int .u8 y'.st.s2, .int .u8 y'.st.s3, .int .u64 y'.st.r0, .int .u64 y'.st.r1, .int .u64 y'.st.r2, .int .u64 y'.st.r3, .int .u64 y'.st.word], p := 1}), (4, {}), (5, {k := 3, p := 3}), (6, {f := 1}), (7, {}), (8, {}), (9, {}), (10, {}), (11, {k := 1, m := 1, vs := [.bool y'.out.refused, .int .i8 y'.out.running, .int .u64 y'.out.value], p := 1}), (12, {}), (13, {k := 3, p := 3}), (14, {vs := [.bool (otEq y'.out (runF (seg lg.evs q (((lg.base.idx + (lg.evs.length : Int)) + 1) - pos').toNat) (m', o')).2)]}), (15, {})] [0, 1, 4, 5, 6, 9, 8, 7, 154] (T' := [(0, .pointer (some ⟨bl, 0, none⟩)), (1, .pointer (some ⟨bq, off, none⟩)), (4, .pointer (some ⟨b2, 0, none⟩)), (5, .pointer (some ⟨b14, 0, none⟩)), (6, .int .i64 good), (9, .int .i64 ((lg.base.idx + (lg.evs.length : Int)) + 1)), (8, .slice (some ⟨bq, (i' * 15), none⟩) (lg.sns.length - i') (sc - i')), (7, .slice (winA mo mc j' 2) (lg.mks.length - j') (mc - j')), (154, .bool (Bool.xor true (otEq y'.out (runF (seg lg.evs q (((lg.base.idx + (lg.evs.length : Int)) + 1) - pos').toNat) (m', o')).2)))]) (φ := (0 ≤ (0 : Int) ∧ (0 : Int) < (((lg.sns.length - i') : Nat) : Int)) ∧ (bq = bq ∧ cellsAre cs' ((i' * 15) + 1) [.int .u64 y'.st.now, .int .i8 y'.st.cur, .int .u8 y'.st.s0, .int .u8 y'.st.s1, .int .u8 y'.st.s2, .int .u8 y'.st.s3, .int .u64 y'.st.r0, .int .u64 y'.st.r1, .int .u64 y'.st.r2, .int .u64 y'.st.r3, .int .u64 y'.st.word]) ∧ (b14 = b14 ∧ Nat.ble (0 + 11) 15 = true) ∧ EqRun Tryf.prog 58 (.agg #[.int .u64 y'.st.now, .int .i8 y'.st.cur, .int .u8 y'.st.s0, .int .u8 y'.st.s1, .int .u8 y'.st.s2, .int .u8 y'.st.s3, .int .u64 y'.st.r0, .int .u64 y'.st.r1, .int .u64 y'.st.r2, .int .u64 y'.st.r3, .int .u64 y'.st.word]) (.agg #[.int .u64 ((runF (seg lg.evs q (((lg.base.idx + (lg.evs.length : Int)) + 1) - pos').toNat) (m', o')).1.now), .int .i8 ((runF (seg lg.evs q (((lg.base.idx + (lg.evs.length : Int)) + 1) - pos').toNat) (m', o')).1.cur), .int .u8 ((runF (seg lg.evs q (((lg.base.idx + (lg.evs.length : Int)) + 1) - pos').toNat) (m', o')).1.s0), .int .u8 ((runF (seg lg.evs q (((lg.base.idx + (lg.evs.length : Int)) + 1) - pos').toNat) (m', o')).1.s1), .int .u8 ((runF (seg lg.evs q (((lg.base.idx + (lg.evs.length : Int)) + 1) - pos').toNat) (m', o')).1.s2), .int .u8 ((runF (seg lg.evs q (((lg.base.idx + (lg.evs.length : Int)) + 1) - pos').toNat) (m', o')).1.s3), .int .u64 ((runF (seg lg.evs q (((lg.base.idx + (lg.evs.length : Int)) + 1) - pos').toNat) (m', o')).1.r0), .int .u64 ((runF (seg lg.evs q (((lg.base.idx + (lg.evs.length : Int)) + 1) - pos').toNat) (m', o')).1.r1), .int .u64 ((runF (seg lg.evs q (((lg.base.idx + (lg.evs.length : Int)) + 1) - pos').toNat) (m', o')).1.r2), .int .u64 ((runF (seg lg.evs q (((lg.base.idx + (lg.evs.length : Int)) + 1) - pos').toNat) (m', o')).1.r3), .int .u64 ((runF (seg lg.evs q (((lg.base.idx + (lg.evs.length : Int)) + 1) - pos').toNat) (m', o')).1.word)]) true ∧ (0 ≤ (0 : Int) ∧ (0 : Int) < (((lg.sns.length - i') : Nat) : Int)) ∧ (bq = bq ∧ cellsAre cs' ((i' * 15) + 12) [.bool y'.out.refused, .int .i8 y'.out.running, .int .u64 y'.out.value]) ∧ (b14 = b14 ∧ Nat.ble (11 + 3) 15 = true) ∧ EqRun Tryf.prog 44 (.agg #[.bool y'.out.refused, .int .i8 y'.out.running, .int .u64 y'.out.value]) (.agg #[.bool ((runF (seg lg.evs q (((lg.base.idx + (lg.evs.length : Int)) + 1) - pos').toNat) (m', o')).2.refused), .int .i8 ((runF (seg lg.evs q (((lg.base.idx + (lg.evs.length : Int)) + 1) - pos').toNat) (m', o')).2.running), .int .u64 ((runF (seg lg.evs q (((lg.base.idx + (lg.evs.length : Int)) + 1) - pos').toNat) (m', o')).2.value)]) (otEq y'.out (runF (seg lg.evs q (((lg.base.idx + (lg.evs.length : Int)) + 1) - pos').toNat) (m', o')).2) ∧ True) (fuel := 0) h756 (by kernel_rfl) rfl (by kernel_rfl) (by kernel_rfl) ⟨trivial, trivial, trivial, rfl, trivial, rfl, trivial, trivial, trivial, trivial, trivial, rfl, trivial, rfl, trivial, trivial, trivial⟩ ⟨⟨by omega, by omega⟩, ⟨rfl, (pt_st hc737)⟩, ⟨rfl, rfl⟩, (by have hq := run46 y'.st (runF (seg lg.evs q (((lg.base.idx + (lg.evs.length : Int)) + 1) - pos').toNat) (m', o')).1; rw [show machEq y'.st (runF (seg lg.evs q (((lg.base.idx + (lg.evs.length : Int)) + 1) - pos').toNat) (m', o')).1 = true by simpa using hb744] at hq; exact hq), ⟨by omega, by omega⟩, ⟨rfl, (pt_out hc737)⟩, ⟨rfl, rfl⟩, run39 y'.out (runF (seg lg.evs q (((lg.base.idx + (lg.evs.length : Int)) + 1) - pos').toNat) (m', o')).2, trivial⟩ fun a758 h759 => ?_
                      clear h756
                      refine wpAnyK_done (by kernel_rfl) ?_ _
                      refine hK743 _ _ ?_
                      clear hK743
                      refine c_split h759 (b := (Bool.xor true (otEq y'.out (runF (seg lg.evs q (((lg.base.idx + (lg.evs.length : Int)) + 1) - pos').toNat) (m', o')).2))) rfl (fun hc760 => ?_) (fun hc760 => ?_)
                      ·
                        have hoe : otEq y'.out (runF (seg lg.evs q (((lg.base.idx + (lg.evs.length : Int)) + 1) - pos').toNat) (m', o')).2 = false := by simpa using hc760
                        have hvs := hi733.trans (vs_bad2 hy' hxn hoe)
                        refine wp_seq_k fun K761 hK761 => ?_
                        refine nd_start (l := [0, 1, 2, 3, 4, 5, 6, 7, 8, 9]) rfl ?_
                        refine nd_batch tabOk tabZ_ok [(0, {}), (1, {}), (2, {}), (3, {}), (4, {}), (5, {}), (6, {k := 1, m := 1, vs := [.int .i64 p.idx]}), (7, {}), (8, {})] [0, 1, 4, 5, 6, 9, 8, 7, 163] (T' := [(0, .pointer (some ⟨bl, 0, none⟩)), (1, .pointer (some ⟨bq, off, none⟩)), (4, .pointer (some ⟨b2, 0, none⟩)), (5, .pointer (some ⟨b14, 0, none⟩)), (6, .int .i64 good), (9, .int .i64 ((lg.base.idx + (lg.evs.length : Int)) + 1)), (8, .slice (some ⟨bq, (i' * 15), none⟩) (lg.sns.length - i') (sc - i')), (7, .slice (winA mo mc j' 2) (lg.mks.length - j') (mc - j')), (163, .agg #[.int .i64 ((lg.base.idx + (lg.evs.length : Int)) + 1), .int .i64 good, .int .i64 (((lg.base.idx + (lg.evs.length : Int)) + 1) - p.idx)])]) (φ := (bq = bq ∧ cellsAre cs' off [.int .i64 p.idx]) ∧ inR .i64 (((lg.base.idx + (lg.evs.length : Int)) + 1) - p.idx) ∧ True) (rest := [9]) h759 (by kernel_rfl) rfl ⟨⟨rfl, (pt_idx hp)⟩, ⟨by omega, by omega⟩, trivial⟩ fun a762 h763 => ?_
                        clear h759
                        refine nd_op ?_
                        refine op_store tabOk {k := 2} (L' := [(bl, ⟨logC lg.base (.slice eo lg.evs.length ec) (.slice mo lg.mks.length mc) (.slice (some ⟨bq, 0, none⟩) lg.sns.length sc), 89, true⟩), (bq, ⟨cs', 84, true⟩), (b2, ⟨[.int .i64 ((lg.base.idx + (lg.evs.length : Int)) + 1), .int .i64 good, .int .i64 (((lg.base.idx + (lg.evs.length : Int)) + 1) - p.idx)], 114, false⟩), (b14, ⟨curC ((runF (seg lg.evs q (((lg.base.idx + (lg.evs.length : Int)) + 1) - pos').toNat) (m', o')).1) ((runF (seg lg.evs q (((lg.base.idx + (lg.evs.length : Int)) + 1) - pos').toNat) (m', o')).2) ((lg.base.idx + (lg.evs.length : Int)) + 1), 105, false⟩)]) (φ := b2 = b2 ∧ Nat.ble (0 + 3) 3 = true) h763 rfl rfl rfl (by kernel_rfl) ⟨rfl, rfl⟩ fun w764 h765 => ?_
                        clear h763
                        refine nd_done ?_
                        refine hK761 _ _ ?_
                        clear hK761
                        refine wp_ret ?_
                        have hres := hv.symm.trans (vloop_snap hnx hfin hs2 hvm hvs)
                        try simp only [Exit.then, Exit.inBlock]
                        try rw [if_pos trivial]
                        exact s_ret tabOk tabZ_ok h765 [(.cell 4 114, {k := 2})] (vs := [.agg #[.int .i64 ((lg.base.idx + (lg.evs.length : Int)) + 1), .int .i64 good, .int .i64 (((lg.base.idx + (lg.evs.length : Int)) + 1) - p.idx)]]) (φ := (b2 = b2 ∧ Nat.ble (0 + 3) 3 = true) ∧ True) rfl (by kernel_rfl) ⟨⟨rfl, rfl⟩, trivial⟩ ⟨by rw [hres]; rfl, h765.frame⟩
                      ·
                        have hoe : otEq y'.out (runF (seg lg.evs q (((lg.base.idx + (lg.evs.length : Int)) + 1) - pos').toNat) (m', o')).2 = true := by simpa using hc760
                        have hsame := hi733.trans (vs_same hy' hxn hme hoe)
                        refine wp_skip ?_
                        refine hK742 _ _ ?_
                        clear hK742
                        refine nd_start (l := [0, 1, 2]) rfl ?_
                        refine nd_batch tabOk tabZ_ok [(0, {}), (1, {}), (2, {})] [0, 1, 4, 5, 6, 9, 7, 8] (T' := [(0, .pointer (some ⟨bl, 0, none⟩)), (1, .pointer (some ⟨bq, off, none⟩)), (4, .pointer (some ⟨b2, 0, none⟩)), (5, .pointer (some ⟨b14, 0, none⟩)), (6, .int .i64 good), (9, .int .i64 ((lg.base.idx + (lg.evs.length : Int)) + 1)), (7, .slice (winA mo mc j' 2) (lg.mks.length - j') (mc - j')), (8, .slice (sliceBase (some ⟨bq, (i' * 15), none⟩) (sc - i') 1 15) ((lg.sns.length - i') - 1) ((sc - i') - 1))]) (φ := (0 ≤ (1 : Int) ∧ (1 : Int) ≤ (((lg.sns.length - i') : Nat) : Int)) ∧ True) (rest := []) h759 (by kernel_rfl) rfl ⟨⟨by omega, by omega⟩, trivial⟩ fun a766 h767 => ?_
                        clear h759
                        refine nd_done ?_
                        have e768 : sliceBase (some ⟨bq, (i' * 15), none⟩) (sc - i') 1 15 = winA (some ⟨bq, 0, none⟩) sc (i' + 1) 15 := by rw [← winA_some bq 15 hlt738]; exact winA_succ 15 (.inr ⟨bq, rfl⟩) hlt738
                        have e769 : lg.sns.length - i' - 1 = lg.sns.length - (i' + 1) := by omega
                        have e770 : sc - i' - 1 = sc - (i' + 1) := by omega
                        rw [e768, e769, e770] at h767
                        exact ⟨(gg - 1), by omega, (i' + 1), by omega, by omega, by omega, hsame, (h767.slotsMono (restr_spec (keep := [0, 1, 4, 5, 6, 9, 8, 7]) rfl))⟩
                  ·
                    have hc741f : y'.idx ≠ ((lg.base.idx + (lg.evs.length : Int)) + 1) := by simpa using hc741
                    refine wp_exit ?_
                    rw [← winA_some bq 15 hlt738] at h740
                    have hstop : ∀ z, lg.sns[i']? = some z → z.idx ≠ ((lg.base.idx + (lg.evs.length : Int)) + 1) := (by intro z hz; rw [hy'] at hz; cases hz; exact hc741f)
                    exact hm717 i' _ _ hi730 hi731 (hi733.trans (vs_stop hstop)) hstop (h740.slotsMono (restr_spec (keep := [0, 1, 4, 5, 6, 9, 8, 7]) rfl))
                ·
                  have hb736f : ¬ (((lg.sns.length - i') : Nat) : Int) > 0 := by simpa using hb736
                  refine nd_start (l := [0, 1, 2, 3, 4, 5, 6, 7, 8, 9, 10]) rfl ?_
                  refine nd_batch tabOk tabZ_ok [(0, {}), (1, {}), (2, {f := 1}), (3, {}), (4, {}), (5, {}), (6, {}), (7, {}), (8, {}), (9, {}), (10, {})] [0, 1, 4, 5, 6, 9, 8, 7, 136] (T' := [(0, .pointer (some ⟨bl, 0, none⟩)), (1, .pointer (some ⟨bq, off, none⟩)), (4, .pointer (some ⟨b2, 0, none⟩)), (5, .pointer (some ⟨b14, 0, none⟩)), (6, .int .i64 good), (9, .int .i64 ((lg.base.idx + (lg.evs.length : Int)) + 1)), (8, .slice (winA (some ⟨bq, 0, none⟩) sc i' 15) (lg.sns.length - i') (sc - i')), (7, .slice (winA mo mc j' 2) (lg.mks.length - j') (mc - j')), (136, .bool false)]) (φ := (decide ((((lg.sns.length - i') : Nat) : Int) > 0)) = false ∧ True) (rest := []) h729 (by kernel_rfl) rfl ⟨hb736, trivial⟩ fun a771 h772 => ?_
                  clear h729
                  refine nd_done ?_
                  refine hK735 _ _ ?_
                  clear hK735
                  refine c_false h772 rfl ?_
                  refine wp_exit ?_
                  have hstop : ∀ z, lg.sns[i']? = some z → z.idx ≠ ((lg.base.idx + (lg.evs.length : Int)) + 1) := (by intro z hz; have := (List.getElem?_eq_some_iff.1 hz).1; omega)
                  exact hm717 i' _ _ hi730 hi731 (hi733.trans (vs_stop hstop)) hstop (h772.slotsMono (restr_spec (keep := [0, 1, 4, 5, 6, 9, 8, 7]) rfl))
              clear hK707
              refine wp_loop_ghost (fun gg ga gw => ∃ (j' : Nat), (j' ≤ lg.mks.length) ∧ (j ≤ j') ∧ (gg = lg.mks.length - j') ∧ (vm ((lg.base.idx + (lg.evs.length : Int)) + 1) (dig (runF (seg lg.evs q (((lg.base.idx + (lg.evs.length : Int)) + 1) - pos').toNat) (m', o')).1) (lg.mks.drop j) = vm ((lg.base.idx + (lg.evs.length : Int)) + 1) (dig (runF (seg lg.evs q (((lg.base.idx + (lg.evs.length : Int)) + 1) - pos').toNat) (m', o')).1) (lg.mks.drop j')) ∧ St ⟨165, [], w, Rws [rl evC 31 3 lg.evs eo ec eF, rl mkC 93 2 lg.mks mo mc mF, rl ptC 84 15 lg.sns (some ⟨bq, 0, none⟩) sc ([bq])], Ff [rl evC 31 3 lg.evs eo ec eF, rl mkC 93 2 lg.mks mo mc mF, rl ptC 84 15 lg.sns (some ⟨bq, 0, none⟩) sc ([bq])]⟩ [(0, .pointer (some ⟨bl, 0, none⟩)), (1, .pointer (some ⟨bq, off, none⟩)), (4, .pointer (some ⟨b2, 0, none⟩)), (5, .pointer (some ⟨b14, 0, none⟩)), (6, .int .i64 good), (9, .int .i64 ((lg.base.idx + (lg.evs.length : Int)) + 1)), (7, .slice (winA mo mc j' 2) (lg.mks.length - j') (mc - j')), (8, .slice (winA (some ⟨bq, 0, none⟩) sc i 15) (lg.sns.length - i) (sc - i))] [(bl, ⟨logC lg.base (.slice eo lg.evs.length ec) (.slice mo lg.mks.length mc) (.slice (some ⟨bq, 0, none⟩) lg.sns.length sc), 89, true⟩), (bq, ⟨cs', 84, true⟩), (b2, ⟨[.int .i64 0, .int .i64 0, .int .i64 0], 114, false⟩), (b14, ⟨curC ((runF (seg lg.evs q (((lg.base.idx + (lg.evs.length : Int)) + 1) - pos').toNat) (m', o')).1) ((runF (seg lg.evs q (((lg.base.idx + (lg.evs.length : Int)) + 1) - pos').toNat) (m', o')).2) ((lg.base.idx + (lg.evs.length : Int)) + 1), 105, false⟩)] ga gw) (lg.mks.length - j) ⟨j, by omega, Nat.le_refl _, rfl, rfl, (h705.slotsMono (restr_spec (keep := [0, 1, 4, 5, 6, 9, 7, 8]) rfl))⟩ ?_
              clear h705
              rintro gg a773 w774 ⟨j', hi776, hi777, hi778, hi779, h775⟩
              refine wp_seq_k fun K780 hK780 => ?_
              refine wp_seq_k fun K781 hK781 => ?_
              rcases Bool.eq_false_or_eq_true (decide ((((lg.mks.length - j') : Nat) : Int) > 0)) with hb782 | hb782
              ·
                have hb782f : (((lg.mks.length - j') : Nat) : Int) > 0 := by simpa using hb782
                obtain ⟨x', hx'⟩ := Sx.get_some (xs := lg.mks) (i := j') (by omega)
                obtain ⟨b783, cs784, ho785, hb786, hc787, hF788, hq790, hl791⟩ := rl_open (h775.inv.get (j := 1) rfl) mkC_len hx'
                subst ho785 hF788
                have h789 := h775.open_ hb786 (h775.notinL (by simp [Ff]) (kcons (fun _ => (fun hq => hsep (by have hq2 : bl = b783 := hq; rw [hq2]; simp [Hd.F]))) (kcons (fun _ => (fun hq => Ff_nodup h775.inv.1 (i := 2) (j := 1) rfl rfl (by decide) bq (by simp) (by have hq2 : bq = b783 := hq; rw [hq2]; simp))) (kcons (by intro hq; cases hq) (kcons (by intro hq; cases hq) knil)))))
                clear h775
                have hlt792 : j' < mc := by have h1 : lg.mks.length ≤ mc := rl_cap (h789.inv.get (j := 1) rfl); have h2 := (List.getElem?_eq_some_iff.1 hx').1; omega
                rw [winA_some b783 2 hlt792] at h789
                refine nd_start (l := [0, 1, 2, 3, 4, 5, 6, 7, 8, 9, 10]) rfl ?_
                refine nd_batch tabOk tabZ_ok [(0, {}), (1, {}), (2, {f := 2}), (3, {}), (4, {}), (5, {}), (6, {}), (7, {k := 4, m := 1, vs := [.int .i64 x'.idx]}), (8, {}), (9, {}), (10, {})] [0, 1, 4, 5, 6, 9, 7, 8, 107] (T' := [(0, .pointer (some ⟨bl, 0, none⟩)), (1, .pointer (some ⟨bq, off, none⟩)), (4, .pointer (some ⟨b2, 0, none⟩)), (5, .pointer (some ⟨b14, 0, none⟩)), (6, .int .i64 good), (9, .int .i64 ((lg.base.idx + (lg.evs.length : Int)) + 1)), (7, .slice (some ⟨b783, (j' * 2), none⟩) (lg.mks.length - j') (mc - j')), (8, .slice (winA (some ⟨bq, 0, none⟩) sc i 15) (lg.sns.length - i) (sc - i)), (107, .bool (x'.idx == ((lg.base.idx + (lg.evs.length : Int)) + 1)))]) (φ := (decide ((((lg.mks.length - j') : Nat) : Int) > 0)) = true ∧ (0 ≤ (0 : Int) ∧ (0 : Int) < (((lg.mks.length - j') : Nat) : Int)) ∧ (b783 = b783 ∧ cellsAre cs784 (j' * 2) [.int .i64 x'.idx]) ∧ True) (rest := []) h789 (by kernel_rfl) rfl ⟨hb782, ⟨by omega, by omega⟩, ⟨rfl, ⟨(hc787).1, trivial⟩⟩, trivial⟩ fun a793 h794 => ?_
                clear h789
                refine nd_done ?_
                refine hK781 _ _ ?_
                clear hK781
                refine c_split h794 (b := (x'.idx == ((lg.base.idx + (lg.evs.length : Int)) + 1))) rfl (fun hc795 => ?_) (fun hc795 => ?_)
                ·
                  have hc795f : x'.idx = ((lg.base.idx + (lg.evs.length : Int)) + 1) := by simpa using hc795
                  have hxn : x'.idx = ((lg.base.idx + (lg.evs.length : Int)) + 1) := hc795f
                  refine wp_skip ?_
                  refine hK780 _ _ ?_
                  clear hK780
                  refine wp_seq_k fun K796 hK796 => ?_
                  refine wp_block ?_
                  refine wp_seq_k fun K797 hK797 => ?_
                  refine dr_start (KB := [bl, bq, b2, b14, b783]) (Bi := [[0, 1, 2, 3, 4], [0, 1, 2, 3, 4], [0, 1, 2, 3, 4], [0, 1, 2, 3, 4], [0, 1, 2, 3, 4], [4], [0, 1, 2, 3, 4]]) mixed h794 fun w798 h799 => ?_
                  clear h794
                  refine dr_batch tabOk tabZ_ok (by repeat (first | exact PF.body | with_reducible apply PF.inB | with_reducible apply PF.next)) [(0, {}), (1, {}), (2, {}), (3, {k := 4, m := 1, vs := [.int .u64 x'.sum], p := 4}), (4, {})] [0, 1, 4, 5, 6, 9, 7, 8, 113, 114] (T' := [(0, .pointer (some ⟨bl, 0, none⟩)), (1, .pointer (some ⟨bq, off, none⟩)), (4, .pointer (some ⟨b2, 0, none⟩)), (5, .pointer (some ⟨b14, 0, none⟩)), (6, .int .i64 good), (9, .int .i64 ((lg.base.idx + (lg.evs.length : Int)) + 1)), (7, .slice (some ⟨b783, (j' * 2), none⟩) (lg.mks.length - j') (mc - j')), (8, .slice (winA (some ⟨bq, 0, none⟩) sc i 15) (lg.sns.length - i) (sc - i)), (113, .int .u64 x'.sum), (114, .pointer (some ⟨b14, 0, none⟩))]) (φ := (0 ≤ (0 : Int) ∧ (0 : Int) < (((lg.mks.length - j') : Nat) : Int)) ∧ (b783 = b783 ∧ cellsAre cs784 ((j' * 2) + 1) [.int .u64 x'.sum]) ∧ True) (fuel := 2) h799 (by kernel_rfl) rfl (by kernel_rfl) (by kernel_rfl) ⟨trivial, trivial, trivial, rfl, trivial, trivial⟩ ⟨⟨by omega, by omega⟩, ⟨rfl, ⟨(hc787).2.1, trivial⟩⟩, trivial⟩ fun a801 h802 => ?_
                  clear h799
                  refine wpAnyK_one (i := 5) (fuel := 1) (by kernel_rfl) ?_
                  refine op_call h802 rfl rfl rfl (callOk Tryf.func51 (by decide) rfl) (args := [.pointer (some ⟨b14, 0, none⟩)]) rfl (digest_ok [] (outC (runF (seg lg.evs q (((lg.base.idx + (lg.evs.length : Int)) + 1) - pos').toNat) (m', o')).2 ++ [.int .i64 ((lg.base.idx + (lg.evs.length : Int)) + 1)]) (runF (seg lg.evs q (((lg.base.idx + (lg.evs.length : Int)) + 1) - pos').toNat) (m', o')).1 hmok2 b14 105 false _ (h802.kn (k := 3) rfl)) ?_
                  rintro _ w803 ⟨rfl, hf805⟩
                  refine ⟨_, rfl, ?_⟩
                  have h804 := (h802.grow hf805).put (d := some 115) (v := .int .u64 (dig (runF (seg lg.evs q (((lg.base.idx + (lg.evs.length : Int)) + 1) - pos').toNat) (m', o')).1)) (T' := [(115, .int .u64 (dig (runF (seg lg.evs q (((lg.base.idx + (lg.evs.length : Int)) + 1) - pos').toNat) (m', o')).1)), (0, .pointer (some ⟨bl, 0, none⟩)), (1, .pointer (some ⟨bq, off, none⟩)), (4, .pointer (some ⟨b2, 0, none⟩)), (5, .pointer (some ⟨b14, 0, none⟩)), (6, .int .i64 good), (9, .int .i64 ((lg.base.idx + (lg.evs.length : Int)) + 1)), (7, .slice (some ⟨b783, (j' * 2), none⟩) (lg.mks.length - j') (mc - j')), (8, .slice (winA (some ⟨bq, 0, none⟩) sc i 15) (lg.sns.length - i) (sc - i)), (113, .int .u64 x'.sum), (114, .pointer (some ⟨b14, 0, none⟩))]) rfl
                  refine ⟨(h802.keepFr hf805 (kcons (by simp) knil)), ?_⟩
                  clear h802
                  refine dr_batch tabOk tabZ_ok (by repeat (first | exact PF.body | with_reducible apply PF.inB | with_reducible apply PF.next)) [(6, {})] [0, 1, 4, 5, 6, 9, 7, 8, 116] (T' := [(0, .pointer (some ⟨bl, 0, none⟩)), (1, .pointer (some ⟨bq, off, none⟩)), (4, .pointer (some ⟨b2, 0, none⟩)), (5, .pointer (some ⟨b14, 0, none⟩)), (6, .int .i64 good), (9, .int .i64 ((lg.base.idx + (lg.evs.length : Int)) + 1)), (7, .slice (some ⟨b783, (j' * 2), none⟩) (lg.mks.length - j') (mc - j')), (8, .slice (winA (some ⟨bq, 0, none⟩) sc i 15) (lg.sns.length - i) (sc - i)), (116, .bool (x'.sum != (dig (runF (seg lg.evs q (((lg.base.idx + (lg.evs.length : Int)) + 1) - pos').toNat) (m', o')).1)))]) (φ := True) (fuel := 0) h804 (by kernel_rfl) rfl (by kernel_rfl) (by kernel_rfl) ⟨trivial, trivial⟩ trivial fun a806 h807 => ?_
                  clear h804
                  refine wpAnyK_done (by kernel_rfl) ?_ _
                  refine hK797 _ _ ?_
                  clear hK797
                  refine c_split h807 (b := (x'.sum != (dig (runF (seg lg.evs q (((lg.base.idx + (lg.evs.length : Int)) + 1) - pos').toNat) (m', o')).1))) rfl (fun hc808 => ?_) (fun hc808 => ?_)
                  ·
                    have hc808f : x'.sum ≠ (dig (runF (seg lg.evs q (((lg.base.idx + (lg.evs.length : Int)) + 1) - pos').toNat) (m', o')).1) := by simpa using hc808
                    have hvm := hi779.trans (vm_bad hx' hxn hc808f)
                    refine wp_seq_k fun K809 hK809 => ?_
                    refine nd_start (l := [0, 1, 2, 3, 4, 5, 6, 7, 8, 9]) rfl ?_
                    refine nd_batch tabOk tabZ_ok [(0, {}), (1, {}), (2, {}), (3, {}), (4, {}), (5, {}), (6, {k := 1, m := 1, vs := [.int .i64 p.idx]}), (7, {}), (8, {})] [0, 1, 4, 5, 6, 9, 7, 8, 125] (T' := [(0, .pointer (some ⟨bl, 0, none⟩)), (1, .pointer (some ⟨bq, off, none⟩)), (4, .pointer (some ⟨b2, 0, none⟩)), (5, .pointer (some ⟨b14, 0, none⟩)), (6, .int .i64 good), (9, .int .i64 ((lg.base.idx + (lg.evs.length : Int)) + 1)), (7, .slice (some ⟨b783, (j' * 2), none⟩) (lg.mks.length - j') (mc - j')), (8, .slice (winA (some ⟨bq, 0, none⟩) sc i 15) (lg.sns.length - i) (sc - i)), (125, .agg #[.int .i64 ((lg.base.idx + (lg.evs.length : Int)) + 1), .int .i64 good, .int .i64 (((lg.base.idx + (lg.evs.length : Int)) + 1) - p.idx)])]) (φ := (bq = bq ∧ cellsAre cs' off [.int .i64 p.idx]) ∧ inR .i64 (((lg.base.idx + (lg.evs.length : Int)) + 1) - p.idx) ∧ True) (rest := [9]) h807 (by kernel_rfl) rfl ⟨⟨rfl, (pt_idx hp)⟩, ⟨by omega, by omega⟩, trivial⟩ fun a810 h811 => ?_
                    clear h807
                    refine nd_op ?_
                    refine op_store tabOk {k := 2} (L' := [(bl, ⟨logC lg.base (.slice eo lg.evs.length ec) (.slice (some ⟨b783, 0, none⟩) lg.mks.length mc) (.slice (some ⟨bq, 0, none⟩) lg.sns.length sc), 89, true⟩), (bq, ⟨cs', 84, true⟩), (b2, ⟨[.int .i64 ((lg.base.idx + (lg.evs.length : Int)) + 1), .int .i64 good, .int .i64 (((lg.base.idx + (lg.evs.length : Int)) + 1) - p.idx)], 114, false⟩), (b14, ⟨curC ((runF (seg lg.evs q (((lg.base.idx + (lg.evs.length : Int)) + 1) - pos').toNat) (m', o')).1) ((runF (seg lg.evs q (((lg.base.idx + (lg.evs.length : Int)) + 1) - pos').toNat) (m', o')).2) ((lg.base.idx + (lg.evs.length : Int)) + 1), 105, false⟩), (b783, ⟨cs784, 93, true⟩)]) (φ := b2 = b2 ∧ Nat.ble (0 + 3) 3 = true) h811 rfl rfl rfl (by kernel_rfl) ⟨rfl, rfl⟩ fun w812 h813 => ?_
                    clear h811
                    refine nd_done ?_
                    refine hK809 _ _ ?_
                    clear hK809
                    refine wp_ret ?_
                    have hres := hv.symm.trans (vloop_mark hnx hfin hs2 hvm)
                    try simp only [Exit.then, Exit.inBlock]
                    try rw [if_pos trivial]
                    exact s_ret tabOk tabZ_ok h813 [(.cell 4 114, {k := 2})] (vs := [.agg #[.int .i64 ((lg.base.idx + (lg.evs.length : Int)) + 1), .int .i64 good, .int .i64 (((lg.base.idx + (lg.evs.length : Int)) + 1) - p.idx)]]) (φ := (b2 = b2 ∧ Nat.ble (0 + 3) 3 = true) ∧ True) rfl (by kernel_rfl) ⟨⟨rfl, rfl⟩, trivial⟩ ⟨by rw [hres]; rfl, h813.frame⟩
                  ·
                    have hc808f : x'.sum = (dig (runF (seg lg.evs q (((lg.base.idx + (lg.evs.length : Int)) + 1) - pos').toNat) (m', o')).1) := by simpa using hc808
                    have hsame := hi779.trans (vm_same hx' hxn hc808f)
                    refine wp_skip ?_
                    refine hK796 _ _ ?_
                    clear hK796
                    refine nd_start (l := [0, 1, 2]) rfl ?_
                    refine nd_batch tabOk tabZ_ok [(0, {}), (1, {}), (2, {})] [0, 1, 4, 5, 6, 9, 8, 7] (T' := [(0, .pointer (some ⟨bl, 0, none⟩)), (1, .pointer (some ⟨bq, off, none⟩)), (4, .pointer (some ⟨b2, 0, none⟩)), (5, .pointer (some ⟨b14, 0, none⟩)), (6, .int .i64 good), (9, .int .i64 ((lg.base.idx + (lg.evs.length : Int)) + 1)), (8, .slice (winA (some ⟨bq, 0, none⟩) sc i 15) (lg.sns.length - i) (sc - i)), (7, .slice (sliceBase (some ⟨b783, (j' * 2), none⟩) (mc - j') 1 2) ((lg.mks.length - j') - 1) ((mc - j') - 1))]) (φ := (0 ≤ (1 : Int) ∧ (1 : Int) ≤ (((lg.mks.length - j') : Nat) : Int)) ∧ True) (rest := []) h807 (by kernel_rfl) rfl ⟨⟨by omega, by omega⟩, trivial⟩ fun a814 h815 => ?_
                    clear h807
                    refine nd_done ?_
                    have h816 := h815.memMono (L' := [(bl, ⟨logC lg.base (.slice eo lg.evs.length ec) (.slice (some ⟨b783, 0, none⟩) lg.mks.length mc) (.slice (some ⟨bq, 0, none⟩) lg.sns.length sc), 89, true⟩), (bq, ⟨cs', 84, true⟩), (b2, ⟨[.int .i64 0, .int .i64 0, .int .i64 0], 114, false⟩), (b14, ⟨curC ((runF (seg lg.evs q (((lg.base.idx + (lg.evs.length : Int)) + 1) - pos').toNat) (m', o')).1) ((runF (seg lg.evs q (((lg.base.idx + (lg.evs.length : Int)) + 1) - pos').toNat) (m', o')).2) ((lg.base.idx + (lg.evs.length : Int)) + 1), 105, false⟩)]) (List.Sublist.cons_cons _ (List.Sublist.cons_cons _ (List.Sublist.cons_cons _ (List.Sublist.cons_cons _ (List.Sublist.cons _ List.Sublist.slnil)))))
                    clear h815
                    have e817 : sliceBase (some ⟨b783, (j' * 2), none⟩) (mc - j') 1 2 = winA (some ⟨b783, 0, none⟩) mc (j' + 1) 2 := by rw [← winA_some b783 2 hlt792]; exact winA_succ 2 (.inr ⟨b783, rfl⟩) hlt792
                    have e818 : lg.mks.length - j' - 1 = lg.mks.length - (j' + 1) := by omega
                    have e819 : mc - j' - 1 = mc - (j' + 1) := by omega
                    rw [e817, e818, e819] at h816
                    exact ⟨(gg - 1), by omega, (j' + 1), by omega, by omega, by omega, hsame, (h816.slotsMono (restr_spec (keep := [0, 1, 4, 5, 6, 9, 7, 8]) rfl))⟩
                ·
                  have hc795f : x'.idx ≠ ((lg.base.idx + (lg.evs.length : Int)) + 1) := by simpa using hc795
                  refine wp_exit ?_
                  rw [← winA_some b783 2 hlt792] at h794
                  have hstop : ∀ z, lg.mks[j']? = some z → z.idx ≠ ((lg.base.idx + (lg.evs.length : Int)) + 1) := (by intro z hz; rw [hx'] at hz; cases hz; exact hc795f)
                  exact hm708 j' _ _ hi776 hi777 (hi779.trans (vm_stop hstop)) hstop ((h794.memMono (List.Sublist.cons_cons _ (List.Sublist.cons_cons _ (List.Sublist.cons_cons _ (List.Sublist.cons_cons _ (List.Sublist.cons _ List.Sublist.slnil)))))).slotsMono (restr_spec (keep := [0, 1, 4, 5, 6, 9, 7, 8]) rfl))
              ·
                have hb782f : ¬ (((lg.mks.length - j') : Nat) : Int) > 0 := by simpa using hb782
                refine nd_start (l := [0, 1, 2, 3, 4, 5, 6, 7, 8, 9, 10]) rfl ?_
                refine nd_batch tabOk tabZ_ok [(0, {}), (1, {}), (2, {f := 1}), (3, {}), (4, {}), (5, {}), (6, {}), (7, {}), (8, {}), (9, {}), (10, {})] [0, 1, 4, 5, 6, 9, 7, 8, 107] (T' := [(0, .pointer (some ⟨bl, 0, none⟩)), (1, .pointer (some ⟨bq, off, none⟩)), (4, .pointer (some ⟨b2, 0, none⟩)), (5, .pointer (some ⟨b14, 0, none⟩)), (6, .int .i64 good), (9, .int .i64 ((lg.base.idx + (lg.evs.length : Int)) + 1)), (7, .slice (winA mo mc j' 2) (lg.mks.length - j') (mc - j')), (8, .slice (winA (some ⟨bq, 0, none⟩) sc i 15) (lg.sns.length - i) (sc - i)), (107, .bool false)]) (φ := (decide ((((lg.mks.length - j') : Nat) : Int) > 0)) = false ∧ True) (rest := []) h775 (by kernel_rfl) rfl ⟨hb782, trivial⟩ fun a820 h821 => ?_
                clear h775
                refine nd_done ?_
                refine hK781 _ _ ?_
                clear hK781
                refine c_false h821 rfl ?_
                refine wp_exit ?_
                have hstop : ∀ z, lg.mks[j']? = some z → z.idx ≠ ((lg.base.idx + (lg.evs.length : Int)) + 1) := (by intro z hz; have := (List.getElem?_eq_some_iff.1 hz).1; omega)
                exact hm708 j' _ _ hi776 hi777 (hi779.trans (vm_stop hstop)) hstop (h821.slotsMono (restr_spec (keep := [0, 1, 4, 5, 6, 9, 7, 8]) rfl))
        ·
          have hb518f : ¬ (((lg.sns.length - i) : Nat) : Int) > 0 := by simpa using hb518
          refine nd_start (l := [0, 1, 2, 3, 4, 5, 6, 7, 8, 9, 10]) rfl ?_
          refine nd_batch tabOk tabZ_ok [(0, {}), (1, {}), (2, {f := 1}), (3, {}), (4, {}), (5, {}), (6, {}), (7, {}), (8, {}), (9, {}), (10, {})] [0, 1, 4, 5, 6, 7, 8, 9, 72] (T' := [(0, .pointer (some ⟨bl, 0, none⟩)), (1, .pointer (some ⟨bq, off, none⟩)), (4, .pointer (some ⟨b2, 0, none⟩)), (5, .pointer (some ⟨b14, 0, none⟩)), (6, .int .i64 good), (7, .slice (winA mo mc j 2) (lg.mks.length - j) (mc - j)), (8, .slice (winA (some ⟨bq, 0, none⟩) sc i 15) (lg.sns.length - i) (sc - i)), (9, .int .i64 ((lg.base.idx + (lg.evs.length : Int)) + 1)), (72, .bool false)]) (φ := (decide ((((lg.sns.length - i) : Nat) : Int) > 0)) = false ∧ True) (rest := []) h70 (by kernel_rfl) rfl ⟨hb518, trivial⟩ fun a822 h823 => ?_
          clear h70
          refine nd_done ?_
          refine hK517 _ _ ?_
          clear hK517
          refine c_false h823 rfl ?_
          refine wp_skip ?_
          refine hK516 _ _ ?_
          clear hK516
          refine wp_seq_k fun K824 hK824 => ?_
          refine wp_seq_k fun K825 hK825 => ?_
          refine nd_start (l := [0, 1, 2, 3]) rfl ?_
          refine nd_batch tabOk tabZ_ok [(0, {}), (1, {})] [0, 1, 4, 5, 6, 7, 8, 9, 77, 78] (T' := [(0, .pointer (some ⟨bl, 0, none⟩)), (1, .pointer (some ⟨bq, off, none⟩)), (4, .pointer (some ⟨b2, 0, none⟩)), (5, .pointer (some ⟨b14, 0, none⟩)), (6, .int .i64 good), (7, .slice (winA mo mc j 2) (lg.mks.length - j) (mc - j)), (8, .slice (winA (some ⟨bq, 0, none⟩) sc i 15) (lg.sns.length - i) (sc - i)), (9, .int .i64 ((lg.base.idx + (lg.evs.length : Int)) + 1)), (77, .int .i64 ((lg.base.idx + (lg.evs.length : Int)) + 1)), (78, .pointer (some ⟨bl, 0, none⟩))]) (φ := True) (rest := [2, 3]) h823 (by kernel_rfl) rfl trivial fun a826 h827 => ?_
          clear h823
          refine nd_op ?_
          refine op_call h827 rfl rfl rfl (callOk Tryf.func41 (by decide) rfl) (args := [.pointer (some ⟨bl, 0, none⟩)]) rfl (end_ok bl lg.base eo lg.evs.length ec (.slice mo lg.mks.length mc) (.slice (some ⟨bq, 0, none⟩) lg.sns.length sc) true _ (h827.kn (k := 0) rfl) hb0 (by omega) (by omega)) ?_
          rintro _ w828 ⟨rfl, hf830⟩
          refine ⟨_, rfl, ?_⟩
          have h829 := (h827.grow hf830).put (d := some 79) (v := .int .i64 (lg.base.idx + (lg.evs.length : Int))) (T' := [(79, .int .i64 (lg.base.idx + (lg.evs.length : Int))), (0, .pointer (some ⟨bl, 0, none⟩)), (1, .pointer (some ⟨bq, off, none⟩)), (4, .pointer (some ⟨b2, 0, none⟩)), (5, .pointer (some ⟨b14, 0, none⟩)), (6, .int .i64 good), (7, .slice (winA mo mc j 2) (lg.mks.length - j) (mc - j)), (8, .slice (winA (some ⟨bq, 0, none⟩) sc i 15) (lg.sns.length - i) (sc - i)), (9, .int .i64 ((lg.base.idx + (lg.evs.length : Int)) + 1)), (77, .int .i64 ((lg.base.idx + (lg.evs.length : Int)) + 1)), (78, .pointer (some ⟨bl, 0, none⟩))]) rfl
          clear h827
          refine nd_batch tabOk tabZ_ok [(3, {})] [0, 1, 4, 5, 6, 7, 8, 9, 80] (T' := [(0, .pointer (some ⟨bl, 0, none⟩)), (1, .pointer (some ⟨bq, off, none⟩)), (4, .pointer (some ⟨b2, 0, none⟩)), (5, .pointer (some ⟨b14, 0, none⟩)), (6, .int .i64 good), (7, .slice (winA mo mc j 2) (lg.mks.length - j) (mc - j)), (8, .slice (winA (some ⟨bq, 0, none⟩) sc i 15) (lg.sns.length - i) (sc - i)), (9, .int .i64 ((lg.base.idx + (lg.evs.length : Int)) + 1)), (80, .bool (decide (((lg.base.idx + (lg.evs.length : Int)) + 1) > (lg.base.idx + (lg.evs.length : Int)))))]) (φ := True) (rest := []) h829 (by kernel_rfl) rfl trivial fun a831 h832 => ?_
          clear h829
          refine nd_done ?_
          refine hK825 _ _ ?_
          clear hK825
          refine c_split h832 (b := decide (((lg.base.idx + (lg.evs.length : Int)) + 1) > (lg.base.idx + (lg.evs.length : Int)))) rfl (fun hc833 => ?_) (fun hc833 => ?_)
          ·
            have hc833f : ((lg.base.idx + (lg.evs.length : Int)) + 1) > (lg.base.idx + (lg.evs.length : Int)) := by simpa using hc833
            have hnx : nextOf lg.fin (lg.mks.drop j) (lg.sns.drop i) = ((lg.base.idx + (lg.evs.length : Int)) + 1) := next_nil (fin := lg.fin) (by omega) (by omega)
            have hfin : lg.fin < ((lg.base.idx + (lg.evs.length : Int)) + 1) := hc833f
            refine wp_seq_k fun K834 hK834 => ?_
            refine nd_start (l := [0, 1, 2, 3]) rfl ?_
            refine nd_batch tabOk tabZ_ok [(0, {}), (1, {})] [0, 1, 4, 5, 6, 7, 8, 9, 81, 82] (T' := [(0, .pointer (some ⟨bl, 0, none⟩)), (1, .pointer (some ⟨bq, off, none⟩)), (4, .pointer (some ⟨b2, 0, none⟩)), (5, .pointer (some ⟨b14, 0, none⟩)), (6, .int .i64 good), (7, .slice (winA mo mc j 2) (lg.mks.length - j) (mc - j)), (8, .slice (winA (some ⟨bq, 0, none⟩) sc i 15) (lg.sns.length - i) (sc - i)), (9, .int .i64 ((lg.base.idx + (lg.evs.length : Int)) + 1)), (81, .pointer (some ⟨bl, 0, none⟩)), (82, .pointer (some ⟨bl, 0, none⟩))]) (φ := True) (rest := [2, 3]) h832 (by kernel_rfl) rfl trivial fun a835 h836 => ?_
            clear h832
            refine nd_op ?_
            refine op_call h836 rfl rfl rfl (callOk Tryf.func41 (by decide) rfl) (args := [.pointer (some ⟨bl, 0, none⟩)]) rfl (end_ok bl lg.base eo lg.evs.length ec (.slice mo lg.mks.length mc) (.slice (some ⟨bq, 0, none⟩) lg.sns.length sc) true _ (h836.kn (k := 0) rfl) hb0 (by omega) (by omega)) ?_
            rintro _ w837 ⟨rfl, hf839⟩
            refine ⟨_, rfl, ?_⟩
            have h838 := (h836.grow hf839).put (d := some 83) (v := .int .i64 (lg.base.idx + (lg.evs.length : Int))) (T' := [(83, .int .i64 (lg.base.idx + (lg.evs.length : Int))), (0, .pointer (some ⟨bl, 0, none⟩)), (1, .pointer (some ⟨bq, off, none⟩)), (4, .pointer (some ⟨b2, 0, none⟩)), (5, .pointer (some ⟨b14, 0, none⟩)), (6, .int .i64 good), (7, .slice (winA mo mc j 2) (lg.mks.length - j) (mc - j)), (8, .slice (winA (some ⟨bq, 0, none⟩) sc i 15) (lg.sns.length - i) (sc - i)), (9, .int .i64 ((lg.base.idx + (lg.evs.length : Int)) + 1)), (81, .pointer (some ⟨bl, 0, none⟩)), (82, .pointer (some ⟨bl, 0, none⟩))]) rfl
            clear h836
            refine nd_op ?_
            refine op_call h838 rfl rfl rfl (callOk Tryf.func44 (by decide) rfl) (args := [.pointer (some ⟨b14, 0, none⟩), .pointer (some ⟨bl, 0, none⟩), .int .i64 (lg.base.idx + (lg.evs.length : Int))]) rfl (run_ok b14 bl ⟨eo, ec, eF, mo, mc, mF, (some ⟨bq, 0, none⟩), sc, [bq]⟩ lg _ (LogAt.of (d := ⟨eo, ec, eF, mo, mc, mF, (some ⟨bq, 0, none⟩), sc, [bq]⟩) (h838.kn (k := 0) rfl) h838.inv hsep) m' o' pos' (lg.base.idx + (lg.evs.length : Int)) q ((lg.base.idx + (lg.evs.length : Int)) - pos').toNat (h838.kn (k := 3) rfl) (h838.ne 3 0 rfl rfl rfl) (h838.dj (k := 3) rfl rfl) hev hmok hq (by omega) (by omega) (by omega) hb0 (by omega)) ?_
            rintro _ w840 ⟨rfl, hbs, hf842⟩
            refine ⟨_, rfl, ?_⟩
            have h841 := (h838.setBlk (k := 3) rfl rfl hf842 hbs (L' := [(bl, ⟨logC lg.base (.slice eo lg.evs.length ec) (.slice mo lg.mks.length mc) (.slice (some ⟨bq, 0, none⟩) lg.sns.length sc), 89, true⟩), (bq, ⟨cs', 84, true⟩), (b2, ⟨[.int .i64 0, .int .i64 0, .int .i64 0], 114, false⟩), (b14, ⟨curC ((runF (seg lg.evs q ((lg.base.idx + (lg.evs.length : Int)) - pos').toNat) (m', o')).1) ((runF (seg lg.evs q ((lg.base.idx + (lg.evs.length : Int)) - pos').toNat) (m', o')).2) (lg.base.idx + (lg.evs.length : Int)), 105, false⟩)]) rfl).put (d := some 84) (v := .tuple #[]) (T' := [(84, .tuple #[]), (83, .int .i64 (lg.base.idx + (lg.evs.length : Int))), (0, .pointer (some ⟨bl, 0, none⟩)), (1, .pointer (some ⟨bq, off, none⟩)), (4, .pointer (some ⟨b2, 0, none⟩)), (5, .pointer (some ⟨b14, 0, none⟩)), (6, .int .i64 good), (7, .slice (winA mo mc j 2) (lg.mks.length - j) (mc - j)), (8, .slice (winA (some ⟨bq, 0, none⟩) sc i 15) (lg.sns.length - i) (sc - i)), (9, .int .i64 ((lg.base.idx + (lg.evs.length : Int)) + 1)), (81, .pointer (some ⟨bl, 0, none⟩)), (82, .pointer (some ⟨bl, 0, none⟩))]) rfl
            clear h838
            refine nd_done ?_
            refine hK834 _ _ ?_
            clear hK834
            refine wp_seq_k fun K843 hK843 => ?_
            refine dr_start (KB := [bl, bq, b2, b14]) (Bi := [[0, 1, 2, 3], [0, 1, 2, 3], [0, 1, 2, 3], [0, 1, 2, 3], [0, 1, 2, 3], [0, 1, 2, 3], [0, 1, 2, 3], [0, 1, 2, 3], [0, 1, 2, 3], []]) mixed h841 fun w844 h845 => ?_
            clear h841
            refine dr_batch tabOk tabZ_ok (by repeat (first | exact PF.body | with_reducible apply PF.inB | with_reducible apply PF.next)) [(0, {}), (1, {}), (2, {k := 3, p := 3}), (3, {}), (4, {}), (5, {}), (6, {k := 1, m := 1, vs := [.int .i64 p.idx], p := 1}), (7, {}), (8, {})] [0, 1, 4, 5, 6, 7, 8, 9, 93] (T' := [(0, .pointer (some ⟨bl, 0, none⟩)), (1, .pointer (some ⟨bq, off, none⟩)), (4, .pointer (some ⟨b2, 0, none⟩)), (5, .pointer (some ⟨b14, 0, none⟩)), (6, .int .i64 good), (7, .slice (winA mo mc j 2) (lg.mks.length - j) (mc - j)), (8, .slice (winA (some ⟨bq, 0, none⟩) sc i 15) (lg.sns.length - i) (sc - i)), (9, .int .i64 ((lg.base.idx + (lg.evs.length : Int)) + 1)), (93, .agg #[.int .i64 (-1), .int .i64 good, .int .i64 ((lg.base.idx + (lg.evs.length : Int)) - p.idx)])]) (φ := (b14 = b14 ∧ Nat.ble (14 + 1) 15 = true) ∧ (bq = bq ∧ cellsAre cs' off [.int .i64 p.idx]) ∧ inR .i64 ((lg.base.idx + (lg.evs.length : Int)) - p.idx) ∧ True) (fuel := 1) h845 (by kernel_rfl) rfl (by kernel_rfl) (by kernel_rfl) ⟨trivial, trivial, rfl, trivial, trivial, trivial, rfl, trivial, trivial, trivial⟩ ⟨⟨rfl, rfl⟩, ⟨rfl, (pt_idx hp)⟩, ⟨by omega, by omega⟩, trivial⟩ fun a847 h848 => ?_
            clear h845
            refine wpAnyK_one (i := 9) (fuel := 0) (by kernel_rfl) ?_
            refine op_store tabOk {k := 2} (L' := [(bl, ⟨logC lg.base (.slice eo lg.evs.length ec) (.slice mo lg.mks.length mc) (.slice (some ⟨bq, 0, none⟩) lg.sns.length sc), 89, true⟩), (bq, ⟨cs', 84, true⟩), (b2, ⟨[.int .i64 (-1), .int .i64 good, .int .i64 ((lg.base.idx + (lg.evs.length : Int)) - p.idx)], 114, false⟩), (b14, ⟨curC ((runF (seg lg.evs q ((lg.base.idx + (lg.evs.length : Int)) - pos').toNat) (m', o')).1) ((runF (seg lg.evs q ((lg.base.idx + (lg.evs.length : Int)) - pos').toNat) (m', o')).2) (lg.base.idx + (lg.evs.length : Int)), 105, false⟩)]) (φ := b2 = b2 ∧ Nat.ble (0 + 3) 3 = true) h848 rfl rfl rfl (by kernel_rfl) ⟨rfl, rfl⟩ fun w849 h850 => ?_
            have hkh850 := h848.known
            refine ⟨keepNil, ?_⟩
            clear h848
            refine wpAnyK_done (by kernel_rfl) ?_ _
            refine hK843 _ _ ?_
            clear hK843
            refine wp_ret ?_
            have hres := hv.symm.trans (vloop_end hnx hfin)
            try simp only [Exit.then, Exit.inBlock]
            try rw [if_pos trivial]
            exact s_ret tabOk tabZ_ok h850 [(.cell 4 114, {k := 2})] (vs := [.agg #[.int .i64 (-1), .int .i64 good, .int .i64 ((lg.base.idx + (lg.evs.length : Int)) - p.idx)]]) (φ := (b2 = b2 ∧ Nat.ble (0 + 3) 3 = true) ∧ True) rfl (by kernel_rfl) ⟨⟨rfl, rfl⟩, trivial⟩ ⟨by rw [hres]; rfl, h850.frame⟩
          ·
            have hc833f : ¬ ((lg.base.idx + (lg.evs.length : Int)) + 1) > (lg.base.idx + (lg.evs.length : Int)) := by simpa using hc833
            have hnx : nextOf lg.fin (lg.mks.drop j) (lg.sns.drop i) = ((lg.base.idx + (lg.evs.length : Int)) + 1) := next_nil (fin := lg.fin) (by omega) (by omega)
            have hfin : ¬ lg.fin < ((lg.base.idx + (lg.evs.length : Int)) + 1) := hc833f
            have hnp : pos' ≤ ((lg.base.idx + (lg.evs.length : Int)) + 1) := by omega
            have hmok2 := runF_ok (seg lg.evs q (((lg.base.idx + (lg.evs.length : Int)) + 1) - pos').toNat) (m', o') hmok (seg_ok hev _ _)
            have hs2 : runF (seg lg.evs (pos' - lg.base.idx).toNat (((lg.base.idx + (lg.evs.length : Int)) + 1) - pos').toNat) (m', o') = runF (seg lg.evs q (((lg.base.idx + (lg.evs.length : Int)) + 1) - pos').toNat) (m', o') := by rw [show (pos' - lg.base.idx).toNat = q by omega]
            simp only [Lg.fin] at hfin
            refine wp_skip ?_
            refine hK824 _ _ ?_
            clear hK824
            refine wp_seq_k fun K851 hK851 => ?_
            refine nd_start (l := [0, 1, 2]) rfl ?_
            refine nd_batch tabOk tabZ_ok [(0, {}), (1, {})] [0, 1, 4, 5, 6, 7, 8, 9, 94, 95] (T' := [(0, .pointer (some ⟨bl, 0, none⟩)), (1, .pointer (some ⟨bq, off, none⟩)), (4, .pointer (some ⟨b2, 0, none⟩)), (5, .pointer (some ⟨b14, 0, none⟩)), (6, .int .i64 good), (7, .slice (winA mo mc j 2) (lg.mks.length - j) (mc - j)), (8, .slice (winA (some ⟨bq, 0, none⟩) sc i 15) (lg.sns.length - i) (sc - i)), (9, .int .i64 ((lg.base.idx + (lg.evs.length : Int)) + 1)), (94, .pointer (some ⟨bl, 0, none⟩)), (95, .int .i64 ((lg.base.idx + (lg.evs.length : Int)) + 1))]) (φ := True) (rest := [2]) h832 (by kernel_rfl) rfl trivial fun a852 h853 => ?_
            clear h832
            refine nd_op ?_
            refine op_call h853 rfl rfl rfl (callOk Tryf.func44 (by decide) rfl) (args := [.pointer (some ⟨b14, 0, none⟩), .pointer (some ⟨bl, 0, none⟩), .int .i64 ((lg.base.idx + (lg.evs.length : Int)) + 1)]) rfl (run_ok b14 bl ⟨eo, ec, eF, mo, mc, mF, (some ⟨bq, 0, none⟩), sc, [bq]⟩ lg _ (LogAt.of (d := ⟨eo, ec, eF, mo, mc, mF, (some ⟨bq, 0, none⟩), sc, [bq]⟩) (h853.kn (k := 0) rfl) h853.inv hsep) m' o' pos' ((lg.base.idx + (lg.evs.length : Int)) + 1) q (((lg.base.idx + (lg.evs.length : Int)) + 1) - pos').toNat (h853.kn (k := 3) rfl) (h853.ne 3 0 rfl rfl rfl) (h853.dj (k := 3) rfl rfl) hev hmok hq (by omega) (by omega) (by omega) hb0 (by omega)) ?_
            rintro _ w854 ⟨rfl, hbs, hf856⟩
            refine ⟨_, rfl, ?_⟩
            have h855 := (h853.setBlk (k := 3) rfl rfl hf856 hbs (L' := [(bl, ⟨logC lg.base (.slice eo lg.evs.length ec) (.slice mo lg.mks.length mc) (.slice (some ⟨bq, 0, none⟩) lg.sns.length sc), 89, true⟩), (bq, ⟨cs', 84, true⟩), (b2, ⟨[.int .i64 0, .int .i64 0, .int .i64 0], 114, false⟩), (b14, ⟨curC ((runF (seg lg.evs q (((lg.base.idx + (lg.evs.length : Int)) + 1) - pos').toNat) (m', o')).1) ((runF (seg lg.evs q (((lg.base.idx + (lg.evs.length : Int)) + 1) - pos').toNat) (m', o')).2) ((lg.base.idx + (lg.evs.length : Int)) + 1), 105, false⟩)]) rfl).put (d := some 96) (v := .tuple #[]) (T' := [(96, .tuple #[]), (0, .pointer (some ⟨bl, 0, none⟩)), (1, .pointer (some ⟨bq, off, none⟩)), (4, .pointer (some ⟨b2, 0, none⟩)), (5, .pointer (some ⟨b14, 0, none⟩)), (6, .int .i64 good), (7, .slice (winA mo mc j 2) (lg.mks.length - j) (mc - j)), (8, .slice (winA (some ⟨bq, 0, none⟩) sc i 15) (lg.sns.length - i) (sc - i)), (9, .int .i64 ((lg.base.idx + (lg.evs.length : Int)) + 1)), (94, .pointer (some ⟨bl, 0, none⟩)), (95, .int .i64 ((lg.base.idx + (lg.evs.length : Int)) + 1))]) rfl
            clear h853
            refine nd_done ?_
            refine hK851 _ _ ?_
            clear hK851
            refine wp_seq_k fun K857 hK857 => ?_
            refine wp_block ?_
            have hm858 : ∀ (j' : Nat) (ca : Act) (cw : World), (j' ≤ lg.mks.length) → (j ≤ j') → (vm ((lg.base.idx + (lg.evs.length : Int)) + 1) (dig (runF (seg lg.evs q (((lg.base.idx + (lg.evs.length : Int)) + 1) - pos').toNat) (m', o')).1) (lg.mks.drop j) = some (lg.mks.drop j')) → (∀ z, lg.mks[j']? = some z → z.idx ≠ ((lg.base.idx + (lg.evs.length : Int)) + 1)) → St ⟨165, [], w, Rws [rl evC 31 3 lg.evs eo ec eF, rl mkC 93 2 lg.mks mo mc mF, rl ptC 84 15 lg.sns (some ⟨bq, 0, none⟩) sc ([bq])], Ff [rl evC 31 3 lg.evs eo ec eF, rl mkC 93 2 lg.mks mo mc mF, rl ptC 84 15 lg.sns (some ⟨bq, 0, none⟩) sc ([bq])]⟩ [(0, .pointer (some ⟨bl, 0, none⟩)), (1, .pointer (some ⟨bq, off, none⟩)), (4, .pointer (some ⟨b2, 0, none⟩)), (5, .pointer (some ⟨b14, 0, none⟩)), (6, .int .i64 good), (9, .int .i64 ((lg.base.idx + (lg.evs.length : Int)) + 1)), (7, .slice (winA mo mc j' 2) (lg.mks.length - j') (mc - j')), (8, .slice (winA (some ⟨bq, 0, none⟩) sc i 15) (lg.sns.length - i) (sc - i))] [(bl, ⟨logC lg.base (.slice eo lg.evs.length ec) (.slice mo lg.mks.length mc) (.slice (some ⟨bq, 0, none⟩) lg.sns.length sc), 89, true⟩), (bq, ⟨cs', 84, true⟩), (b2, ⟨[.int .i64 0, .int .i64 0, .int .i64 0], 114, false⟩), (b14, ⟨curC ((runF (seg lg.evs q (((lg.base.idx + (lg.evs.length : Int)) + 1) - pos').toNat) (m', o')).1) ((runF (seg lg.evs q (((lg.base.idx + (lg.evs.length : Int)) + 1) - pos').toNat) (m', o')).2) ((lg.base.idx + (lg.evs.length : Int)) + 1), 105, false⟩)] ca cw → K857 ca cw := by
              intro j' a859 w860 hi862 hi863 hi864 hi865 h861
              have hj' := hi862
              have hle1 := hi863
              have hvm := hi864
              have hstop1 := hi865
              refine hK857 _ _ ?_
              clear hK857
              refine wp_seq_k fun K866 hK866 => ?_
              refine wp_block ?_
              have hm867 : ∀ (i' : Nat) (ca : Act) (cw : World), (i' ≤ lg.sns.length) → (i ≤ i') → (vs ((lg.base.idx + (lg.evs.length : Int)) + 1) (runF (seg lg.evs q (((lg.base.idx + (lg.evs.length : Int)) + 1) - pos').toNat) (m', o')) (lg.sns.drop i) = some (lg.sns.drop i')) → (∀ z, lg.sns[i']? = some z → z.idx ≠ ((lg.base.idx + (lg.evs.length : Int)) + 1)) → St ⟨165, [], w, Rws [rl evC 31 3 lg.evs eo ec eF, rl mkC 93 2 lg.mks mo mc mF, rl ptC 84 15 lg.sns (some ⟨bq, 0, none⟩) sc ([bq])], Ff [rl evC 31 3 lg.evs eo ec eF, rl mkC 93 2 lg.mks mo mc mF, rl ptC 84 15 lg.sns (some ⟨bq, 0, none⟩) sc ([bq])]⟩ [(0, .pointer (some ⟨bl, 0, none⟩)), (1, .pointer (some ⟨bq, off, none⟩)), (4, .pointer (some ⟨b2, 0, none⟩)), (5, .pointer (some ⟨b14, 0, none⟩)), (6, .int .i64 good), (9, .int .i64 ((lg.base.idx + (lg.evs.length : Int)) + 1)), (8, .slice (winA (some ⟨bq, 0, none⟩) sc i' 15) (lg.sns.length - i') (sc - i')), (7, .slice (winA mo mc j' 2) (lg.mks.length - j') (mc - j'))] [(bl, ⟨logC lg.base (.slice eo lg.evs.length ec) (.slice mo lg.mks.length mc) (.slice (some ⟨bq, 0, none⟩) lg.sns.length sc), 89, true⟩), (bq, ⟨cs', 84, true⟩), (b2, ⟨[.int .i64 0, .int .i64 0, .int .i64 0], 114, false⟩), (b14, ⟨curC ((runF (seg lg.evs q (((lg.base.idx + (lg.evs.length : Int)) + 1) - pos').toNat) (m', o')).1) ((runF (seg lg.evs q (((lg.base.idx + (lg.evs.length : Int)) + 1) - pos').toNat) (m', o')).2) ((lg.base.idx + (lg.evs.length : Int)) + 1), 105, false⟩)] ca cw → K866 ca cw := by
                intro i' a868 w869 hi871 hi872 hi873 hi874 h870
                have hi' := hi871
                have hle2 := hi872
                have hvs := hi873
                have hstop2 := hi874
                have hprog : lg.mks.length - j' + (lg.sns.length - i') < lg.mks.length - j + (lg.sns.length - i) := by
                  exfalso; omega
                have hall : (∀ z, lg.mks[j]? = some z → ((lg.base.idx + (lg.evs.length : Int)) + 1) ≤ z.idx) ∧ (∀ z, lg.sns[i]? = some z → ((lg.base.idx + (lg.evs.length : Int)) + 1) ≤ z.idx) := by
                  refine ⟨fun z hz => ?_, fun z hz => ?_⟩
                  · have := (List.getElem?_eq_some_iff.1 hz).1; omega
                  · have := (List.getElem?_eq_some_iff.1 hz).1; omega
                have hgm' : ∀ z ∈ lg.mks.drop j', ((lg.base.idx + (lg.evs.length : Int)) + 1) ≤ z.idx := fun z hz => mk_ge hms hall.1 z ((List.drop_sublist_drop_left lg.mks hle1).mem hz)
                have hgs' : ∀ z ∈ lg.sns.drop i', ((lg.base.idx + (lg.evs.length : Int)) + 1) ≤ z.idx := fun z hz => pt_ge hsort hall.2 z ((List.drop_sublist_drop_left lg.sns hle2).mem hz)
                refine hK866 _ _ ?_
                clear hK866
                refine nd_start (l := [0, 1]) rfl ?_
                refine nd_batch tabOk tabZ_ok [(0, {}), (1, {})] [0, 1, 4, 5, 9, 8, 7, 6] (T' := [(0, .pointer (some ⟨bl, 0, none⟩)), (1, .pointer (some ⟨bq, off, none⟩)), (4, .pointer (some ⟨b2, 0, none⟩)), (5, .pointer (some ⟨b14, 0, none⟩)), (9, .int .i64 ((lg.base.idx + (lg.evs.length : Int)) + 1)), (8, .slice (winA (some ⟨bq, 0, none⟩) sc i' 15) (lg.sns.length - i') (sc - i')), (7, .slice (winA mo mc j' 2) (lg.mks.length - j') (mc - j')), (6, .int .i64 ((lg.base.idx + (lg.evs.length : Int)) + 1))]) (φ := True) (rest := []) h870 (by kernel_rfl) rfl trivial fun a875 h876 => ?_
                clear h870
                refine nd_done ?_
                exact ⟨g, by omega, j', i', (runF (seg lg.evs q (((lg.base.idx + (lg.evs.length : Int)) + 1) - pos').toNat) (m', o')).1, (runF (seg lg.evs q (((lg.base.idx + (lg.evs.length : Int)) + 1) - pos').toNat) (m', o')).2, ((lg.base.idx + (lg.evs.length : Int)) + 1), ((lg.base.idx + (lg.evs.length : Int)) + 1), (((lg.base.idx + (lg.evs.length : Int)) + 1) - lg.base.idx).toNat, hj', hi', by omega, by omega, by omega, hmok2, hgm', hgs', by rw [← hv]; exact (vloop_next hnx hfin hs2 hvm hvs).symm, (h876.slotsMono (restr_spec (keep := [0, 1, 4, 5, 6, 7, 8]) rfl))⟩
              clear hK866
              refine wp_loop_ghost (fun gg ga gw => ∃ (i' : Nat), (i' ≤ lg.sns.length) ∧ (i ≤ i') ∧ (gg = lg.sns.length - i') ∧ (vs ((lg.base.idx + (lg.evs.length : Int)) + 1) (runF (seg lg.evs q (((lg.base.idx + (lg.evs.length : Int)) + 1) - pos').toNat) (m', o')) (lg.sns.drop i) = vs ((lg.base.idx + (lg.evs.length : Int)) + 1) (runF (seg lg.evs q (((lg.base.idx + (lg.evs.length : Int)) + 1) - pos').toNat) (m', o')) (lg.sns.drop i')) ∧ St ⟨165, [], w, Rws [rl evC 31 3 lg.evs eo ec eF, rl mkC 93 2 lg.mks mo mc mF, rl ptC 84 15 lg.sns (some ⟨bq, 0, none⟩) sc ([bq])], Ff [rl evC 31 3 lg.evs eo ec eF, rl mkC 93 2 lg.mks mo mc mF, rl ptC 84 15 lg.sns (some ⟨bq, 0, none⟩) sc ([bq])]⟩ [(0, .pointer (some ⟨bl, 0, none⟩)), (1, .pointer (some ⟨bq, off, none⟩)), (4, .pointer (some ⟨b2, 0, none⟩)), (5, .pointer (some ⟨b14, 0, none⟩)), (6, .int .i64 good), (9, .int .i64 ((lg.base.idx + (lg.evs.length : Int)) + 1)), (8, .slice (winA (some ⟨bq, 0, none⟩) sc i' 15) (lg.sns.length - i') (sc - i')), (7, .slice (winA mo mc j' 2) (lg.mks.length - j') (mc - j'))] [(bl, ⟨logC lg.base (.slice eo lg.evs.length ec) (.slice mo lg.mks.length mc) (.slice (some ⟨bq, 0, none⟩) lg.sns.length sc), 89, true⟩), (bq, ⟨cs', 84, true⟩), (b2, ⟨[.int .i64 0, .int .i64 0, .int .i64 0], 114, false⟩), (b14, ⟨curC ((runF (seg lg.evs q (((lg.base.idx + (lg.evs.length : Int)) + 1) - pos').toNat) (m', o')).1) ((runF (seg lg.evs q (((lg.base.idx + (lg.evs.length : Int)) + 1) - pos').toNat) (m', o')).2) ((lg.base.idx + (lg.evs.length : Int)) + 1), 105, false⟩)] ga gw) (lg.sns.length - i) ⟨i, by omega, Nat.le_refl _, rfl, rfl, (h861.slotsMono (restr_spec (keep := [0, 1, 4, 5, 6, 9, 8, 7]) rfl))⟩ ?_
              clear h861
              rintro gg a877 w878 ⟨i', hi880, hi881, hi882, hi883, h879⟩
              refine wp_seq_k fun K884 hK884 => ?_
              refine wp_seq_k fun K885 hK885 => ?_
              rcases Bool.eq_false_or_eq_true (decide ((((lg.sns.length - i') : Nat) : Int) > 0)) with hb886 | hb886
              ·
                have hb886f : (((lg.sns.length - i') : Nat) : Int) > 0 := by simpa using hb886
                obtain ⟨y', hy'⟩ := Sx.get_some (xs := lg.sns) (i := i') (by omega)
                have hc887 := rl_at (h879.inv.get (j := 2) rfl) (h879.kn (k := 1) rfl) ptC_len hy'
                have hlt888 : i' < sc := by have h1 : lg.sns.length ≤ sc := rl_cap (h879.inv.get (j := 2) rfl); have h2 := (List.getElem?_eq_some_iff.1 hy').1; omega
                rw [winA_some bq 15 hlt888] at h879
                refine nd_start (l := [0, 1, 2, 3, 4, 5, 6, 7, 8, 9, 10]) rfl ?_
                refine nd_batch tabOk tabZ_ok [(0, {}), (1, {}), (2, {f := 2}), (3, {}), (4, {}), (5, {}), (6, {}), (7, {k := 1, m := 1, vs := [.int .i64 y'.idx]}), (8, {}), (9, {}), (10, {})] [0, 1, 4, 5, 6, 9, 8, 7, 136] (T' := [(0, .pointer (some ⟨bl, 0, none⟩)), (1, .pointer (some ⟨bq, off, none⟩)), (4, .pointer (some ⟨b2, 0, none⟩)), (5, .pointer (some ⟨b14, 0, none⟩)), (6, .int .i64 good), (9, .int .i64 ((lg.base.idx + (lg.evs.length : Int)) + 1)), (8, .slice (some ⟨bq, (i' * 15), none⟩) (lg.sns.length - i') (sc - i')), (7, .slice (winA mo mc j' 2) (lg.mks.length - j') (mc - j')), (136, .bool (y'.idx == ((lg.base.idx + (lg.evs.length : Int)) + 1)))]) (φ := (decide ((((lg.sns.length - i') : Nat) : Int) > 0)) = true ∧ (0 ≤ (0 : Int) ∧ (0 : Int) < (((lg.sns.length - i') : Nat) : Int)) ∧ (bq = bq ∧ cellsAre cs' (i' * 15) [.int .i64 y'.idx]) ∧ True) (rest := []) h879 (by kernel_rfl) rfl ⟨hb886, ⟨by omega, by omega⟩, ⟨rfl, (pt_idx hc887)⟩, trivial⟩ fun a889 h890 => ?_
                clear h879
                refine nd_done ?_
                refine hK885 _ _ ?_
                clear hK885
                refine c_split h890 (b := (y'.idx == ((lg.base.idx + (lg.evs.length : Int)) + 1))) rfl (fun hc891 => ?_) (fun hc891 => ?_)
                ·
                  have hc891f : y'.idx = ((lg.base.idx + (lg.evs.length : Int)) + 1) := by simpa using hc891
                  have hxn : y'.idx = ((lg.base.idx + (lg.evs.length : Int)) + 1) := hc891f
                  refine wp_skip ?_
                  refine hK884 _ _ ?_
                  clear hK884
                  refine wp_seq_k fun K892 hK892 => ?_
                  refine wp_block ?_
                  refine wp_seq_k fun K893 hK893 => ?_
                  rcases Bool.eq_false_or_eq_true ((Bool.xor true (machEq y'.st (runF (seg lg.evs q (((lg.base.idx + (lg.evs.length : Int)) + 1) - pos').toNat) (m', o')).1))) with hb894 | hb894
                  ·
                    have hme : machEq y'.st (runF (seg lg.evs q (((lg.base.idx + (lg.evs.length : Int)) + 1) - pos').toNat) (m', o')).1 = false := by simpa using hb894
                    have hvs := hi883.trans (vs_bad1 hy' hxn hme)
                    refine dr_start (KB := [bl, bq, b2, b14]) (Bi := [[0, 1, 2, 3], [0, 1, 2, 3], [0, 1, 2, 3], [0, 1, 2, 3], [0, 1, 2, 3], [0, 1, 2, 3], [0, 1, 2, 3], [0, 1, 2, 3], [0, 1, 2, 3], [0, 1, 2, 3], [0, 1, 2, 3], [0, 1, 2, 3], [0, 1, 2, 3], [0, 1, 2, 3], [0, 1, 2, 3], [0, 1, 2, 3]]) mixed h890 fun w895 h896 => ?_
                    clear h890
                    refine dr_batch tabOk tabZ_ok (by repeat (first | exact PF.body | with_reducible apply PF.inB | with_reducible apply PF.next)) [(0, {}), (1, {}), (2, {}), (3, {k := 1, m := 1, vs := [.int .u64 y'.st.now, .int .i8 y'.st.cur, .int .u8 y'.st.s0, .int .u8 y'.st.s1, .int .u8 y'.st.s2, .int .u8 y'.st.s3, .int .u64 y'.st.r0, .int .u64 y'.st.r1, .int .u64 y'.st.r2, .int .u64 y'.st.r3, .int .u64 y'.st.word], p := 1}), (4, {}), (5, {k := 3, p := 3}), (6, {f := 2}), (7, {}), (8, {}), (9, {}), (10, {}), (11, {k := 0, p := 0}), (12, {}), (13, {k := 0, p := 0}), (14, {}), (15, {})] [0, 1, 4, 5, 6, 9, 8, 7, 154] (T' := [(0, .pointer (some ⟨bl, 0, none⟩)), (1, .pointer (some ⟨bq, off, none⟩)), (4, .pointer (some ⟨b2, 0, none⟩)), (5, .pointer (some ⟨b14, 0, none⟩)), (6, .int .i64 good), (9, .int .i64 ((lg.base.idx + (lg.evs.length : Int)) + 1)), (8, .slice (some ⟨bq, (i' * 15), none⟩) (lg.sns.length - i') (sc - i')), (7, .slice (winA mo mc j' 2) (lg.mks.length - j') (mc - j')), (154, .bool true)]) (φ := (0 ≤ (0 : Int) ∧ (0 : Int) < (((lg.sns.length - i') : Nat) : Int)) ∧ (bq = bq ∧ cellsAre cs' ((i' * 15) + 1) [.int .u64 y'.st.now, .int .i8 y'.st.cur, .int .u8 y'.st.s0, .int .u8 y'.st.s1, .int .u8 y'.st.s2, .int .u8 y'.st.s3, .int .u64 y'.st.r0, .int .u64 y'.st.r1, .int .u64 y'.st.r2, .int .u64 y'.st.r3, .int .u64 y'.st.word]) ∧ (b14 = b14 ∧ Nat.ble (0 + 11) 15 = true) ∧ EqRun Tryf.prog 58 (.agg #[.int .u64 y'.st.now, .int .i8 y'.st.cur, .int .u8 y'.st.s0, .int .u8 y'.st.s1, .int .u8 y'.st.s2, .int .u8 y'.st.s3, .int .u64 y'.st.r0, .int .u64 y'.st.r1, .int .u64 y'.st.r2, .int .u64 y'.st.r3, .int .u64 y'.st.word]) (.agg #[.int .u64 ((runF (seg lg.evs q (((lg.base.idx + (lg.evs.length : Int)) + 1) - pos').toNat) (m', o')).1.now), .int .i8 ((runF (seg lg.evs q (((lg.base.idx + (lg.evs.length : Int)) + 1) - pos').toNat) (m', o')).1.cur), .int .u8 ((runF (seg lg.evs q (((lg.base.idx + (lg.evs.length : Int)) + 1) - pos').toNat) (m', o')).1.s0), .int .u8 ((runF (seg lg.evs q (((lg.base.idx + (lg.evs.length : Int)) + 1) - pos').toNat) (m', o')).1.s1), .int .u8 ((runF (seg lg.evs q (((lg.base.idx + (lg.evs.length : Int)) + 1) - pos').toNat) (m', o')).1.s2), .int .u8 ((runF (seg lg.evs q (((lg.base.idx + (lg.evs.length : Int)) + 1) - pos').toNat) (m', o')).1.s3), .int .u64 ((runF (seg lg.evs q (((lg.base.idx + (lg.evs.length : Int)) + 1) - pos').toNat) (m', o')).1.r0), .int .u64 ((runF (seg lg.evs q (((lg.base.idx + (lg.evs.length : Int)) + 1) - pos').toNat) (m', o')).1.r1), .int .u64 ((runF (seg lg.evs q (((lg.base.idx + (lg.evs.length : Int)) + 1) - pos').toNat) (m', o')).1.r2), .int .u64 ((runF (seg lg.evs q (((lg.base.idx + (lg.evs.length : Int)) + 1) - pos').toNat) (m', o')).1.r3), .int .u64 ((runF (seg lg.evs q (((lg.base.idx + (lg.evs.length : Int)) + 1) - pos').toNat) (m', o')).1.word)]) false ∧ True) (fuel := 0) h896 (by kernel_rfl) rfl (by kernel_rfl) (by kernel_rfl) ⟨trivial, trivial, trivial, rfl, trivial, rfl, trivial, trivial, trivial, trivial, trivial, rfl, trivial, rfl, trivial, trivial, trivial⟩ ⟨⟨by omega, by omega⟩, ⟨rfl, (pt_st hc887)⟩, ⟨rfl, rfl⟩, (by have hq := run46 y'.st (runF (seg lg.evs q (((lg.base.idx + (lg.evs.length : Int)) + 1) - pos').toNat) (m', o')).1; rw [show machEq y'.st (runF (seg lg.evs q (((lg.base.idx + (lg.evs.length : Int)) + 1) - pos').toNat) (m', o')).1 = false by simpa using hb894] at hq; exact hq), trivial⟩ fun a898 h899 => ?_
                    clear h896
                    refine wpAnyK_done (by kernel_rfl) ?_ _
                    refine hK893 _ _ ?_
                    clear hK893
                    refine c_true h899 rfl ?_
                    refine wp_seq_k fun K900 hK900 => ?_
                    refine nd_start (l := [0, 1, 2, 3, 4, 5, 6, 7, 8, 9]) rfl ?_
                    refine nd_batch tabOk tabZ_ok [(0, {}), (1, {}), (2, {}), (3, {}), (4, {}), (5, {}), (6, {k := 1, m := 1, vs := [.int .i64 p.idx]}), (7, {}), (8, {})] [0, 1, 4, 5, 6, 9, 8, 7, 163] (T' := [(0, .pointer (some ⟨bl, 0, none⟩)), (1, .pointer (some ⟨bq, off, none⟩)), (4, .pointer (some ⟨b2, 0, none⟩)), (5, .pointer (some ⟨b14, 0, none⟩)), (6, .int .i64 good), (9, .int .i64 ((lg.base.idx + (lg.evs.length : Int)) + 1)), (8, .slice (some ⟨bq, (i' * 15), none⟩) (lg.sns.length - i') (sc - i')), (7, .slice (winA mo mc j' 2) (lg.mks.length - j') (mc - j')), (163, .agg #[.int .i64 ((lg.base.idx + (lg.evs.length : Int)) + 1), .int .i64 good, .int .i64 (((lg.base.idx + (lg.evs.length : Int)) + 1) - p.idx)])]) (φ := (bq = bq ∧ cellsAre cs' off [.int .i64 p.idx]) ∧ inR .i64 (((lg.base.idx + (lg.evs.length : Int)) + 1) - p.idx) ∧ True) (rest := [9]) h899 (by kernel_rfl) rfl ⟨⟨rfl, (pt_idx hp)⟩, ⟨by omega, by omega⟩, trivial⟩ fun a901 h902 => ?_
                    clear h899
                    refine nd_op ?_
                    refine op_store tabOk {k := 2} (L' := [(bl, ⟨logC lg.base (.slice eo lg.evs.length ec) (.slice mo lg.mks.length mc) (.slice (some ⟨bq, 0, none⟩) lg.sns.length sc), 89, true⟩), (bq, ⟨cs', 84, true⟩), (b2, ⟨[.int .i64 ((lg.base.idx + (lg.evs.length : Int)) + 1), .int .i64 good, .int .i64 (((lg.base.idx + (lg.evs.length : Int)) + 1) - p.idx)], 114, false⟩), (b14, ⟨curC ((runF (seg lg.evs q (((lg.base.idx + (lg.evs.length : Int)) + 1) - pos').toNat) (m', o')).1) ((runF (seg lg.evs q (((lg.base.idx + (lg.evs.length : Int)) + 1) - pos').toNat) (m', o')).2) ((lg.base.idx + (lg.evs.length : Int)) + 1), 105, false⟩)]) (φ := b2 = b2 ∧ Nat.ble (0 + 3) 3 = true) h902 rfl rfl rfl (by kernel_rfl) ⟨rfl, rfl⟩ fun w903 h904 => ?_
                    clear h902
                    refine nd_done ?_
                    refine hK900 _ _ ?_
                    clear hK900
                    refine wp_ret ?_
                    have hres := hv.symm.trans (vloop_snap hnx hfin hs2 hvm hvs)
                    try simp only [Exit.then, Exit.inBlock]
                    try rw [if_pos trivial]
                    exact s_ret tabOk tabZ_ok h904 [(.cell 4 114, {k := 2})] (vs := [.agg #[.int .i64 ((lg.base.idx + (lg.evs.length : Int)) + 1), .int .i64 good, .int .i64 (((lg.base.idx + (lg.evs.length : Int)) + 1) - p.idx)]]) (φ := (b2 = b2 ∧ Nat.ble (0 + 3) 3 = true) ∧ True) rfl (by kernel_rfl) ⟨⟨rfl, rfl⟩, trivial⟩ ⟨by rw [hres]; rfl, h904.frame⟩
                  ·
                    have hme : machEq y'.st (runF (seg lg.evs q (((lg.base.idx + (lg.evs.length : Int)) + 1) - pos').toNat) (m', o')).1 = true := by simpa using hb894
                    refine dr_start (KB := [bl, bq, b2, b14]) (Bi := [[0, 1, 2, 3], [0, 1, 2, 3], [0, 1, 2, 3], [0, 1, 2, 3], [0, 1, 2, 3], [0, 1, 2, 3], [0, 1, 2, 3], [0, 1, 2, 3], [0, 1, 2, 3], [0, 1, 2, 3], [0, 1, 2, 3], [0, 1, 2, 3], [0, 1, 2, 3], [0, 1, 2, 3], [0, 1, 2, 3], [0, 1, 2, 3]]) mixed h890 fun w905 h906 => ?_
                    clear h890
                    refine dr_batch tabOk tabZ_ok (by repeat (first | exact PF.body | with_reducible apply PF.inB | with_reducible apply PF.next)) [(0, {}), (1, {}), (2, {}), (3, {k := 1, m := 1, vs := [.int .u64 y'.st.now, .int .i8 y'.st.cur, .int .u8 y'.st.s0, .int .u8 y'.st.s1, .int .u8 y'.st.s2, .int .u8 y'.st.s3, .int .u64 y'.st.r0, .int .u64 y'.st.r1, .int .u64 y'.st.r2, .int .u64 y'.st.r3, .int .u64 y'.st.word], p := 1}), (4, {}), (5, {k := 3, p := 3}), (6, {f := 1}), (7, {}), (8, {}), (9, {}), (10, {}), (11, {k := 1, m := 1, vs := [.bool y'.out.refused, .int .i8 y'.out.running, .int .u64 y'.out.value], p := 1}), (12, {}), (13, {k := 3, p := 3}), (14, {vs := [.bool (otEq y'.out (runF (seg lg.evs q (((lg.base.idx + (lg.evs.length : Int)) + 1) - pos').toNat) (m', o')).2)]}), (15, {})] [0, 1, 4, 5, 6, 9, 8, 7, 154] (T' := [(0, .pointer (some ⟨bl, 0, none⟩)), (1, .pointer (some ⟨bq, off, none⟩)), (4, .pointer (some ⟨b2, 0, none⟩)), (5, .pointer (some ⟨b14, 0, none⟩)), (6, .int .i64 good), (9, .int .i64 ((lg.base.idx + (lg.evs.length : Int)) + 1)), (8, .slice (some ⟨bq, (i' * 15), none⟩) (lg.sns.length - i') (sc - i')), (7, .slice (winA mo mc j' 2) (lg.mks.length - j') (mc - j')), (154, .bool (Bool.xor true (otEq y'.out (runF (seg lg.evs q (((lg.base.idx + (lg.evs.length : Int)) + 1) - pos').toNat) (m', o')).2)))]) (φ := (0 ≤ (0 : Int) ∧ (0 : Int) < (((lg.sns.length - i') : Nat) : Int)) ∧ (bq = bq ∧ cellsAre cs' ((i' * 15) + 1) [.int .u64 y'.st.now, .int .i8 y'.st.cur, .int .u8 y'.st.s0, .int .u8 y'.st.s1, .int .u8 y'.st.s2, .int .u8 y'.st.s3, .int .u64 y'.st.r0, .int .u64 y'.st.r1, .int .u64 y'.st.r2, .int .u64 y'.st.r3, .int .u64 y'.st.word]) ∧ (b14 = b14 ∧ Nat.ble (0 + 11) 15 = true) ∧ EqRun Tryf.prog 58 (.agg #[.int .u64 y'.st.now, .int .i8 y'.st.cur, .int .u8 y'.st.s0, .int .u8 y'.st.s1, .int .u8 y'.st.s2, .int .u8 y'.st.s3, .int .u64 y'.st.r0, .int .u64 y'.st.r1, .int .u64 y'.st.r2, .int .u64 y'.st.r3, .int .u64 y'.st.word]) (.agg #[.int .u64 ((runF (seg lg.evs q (((lg.base.idx + (lg.evs.length : Int)) + 1) - pos').toNat) (m', o')).1.now), .int .i8 ((runF (seg lg.evs q (((lg.base.idx + (lg.evs.length : Int)) + 1) - pos').toNat) (m', o')).1.cur), .int .u8 ((runF (seg lg.evs q (((lg.base.idx + (lg.evs.length : Int)) + 1) - pos').toNat) (m', o')).1.s0), .int .u8 ((runF (seg lg.evs q (((lg.base.idx + (lg.evs.length : Int)) + 1) - pos').toNat) (m', o')).1.s1), .int .u8 ((runF (seg lg.evs q (((lg.base.idx + (lg.evs.length : Int)) + 1) - pos').toNat) (m', o')).1.s2), .int .u8 ((runF (seg lg.evs q (((lg.base.idx + (lg.evs.length : Int)) + 1) - pos').toNat) (m', o')).1.s3), .int .u64 ((runF (seg lg.evs q (((lg.base.idx + (lg.evs.length : Int)) + 1) - pos').toNat) (m', o')).1.r0), .int .u64 ((runF (seg lg.evs q (((lg.base.idx + (lg.evs.length : Int)) + 1) - pos').toNat) (m', o')).1.r1), .int .u64 ((runF (seg lg.evs q (((lg.base.idx + (lg.evs.length : Int)) + 1) - pos').toNat) (m', o')).1.r2), .int .u64 ((runF (seg lg.evs q (((lg.base.idx + (lg.evs.length : Int)) + 1) - pos').toNat) (m', o')).1.r3), .int .u64 ((runF (seg lg.evs q (((lg.base.idx + (lg.evs.length : Int)) + 1) - pos').toNat) (m', o')).1.word)]) true ∧ (0 ≤ (0 : Int) ∧ (0 : Int) < (((lg.sns.length - i') : Nat) : Int)) ∧ (bq = bq ∧ cellsAre cs' ((i' * 15) + 12) [.bool y'.out.refused, .int .i8 y'.out.running, .int .u64 y'.out.value]) ∧ (b14 = b14 ∧ Nat.ble (11 + 3) 15 = true) ∧ EqRun Tryf.prog 44 (.agg #[.bool y'.out.refused, .int .i8 y'.out.running, .int .u64 y'.out.value]) (.agg #[.bool ((runF (seg lg.evs q (((lg.base.idx + (lg.evs.length : Int)) + 1) - pos').toNat) (m', o')).2.refused), .int .i8 ((runF (seg lg.evs q (((lg.base.idx + (lg.evs.length : Int)) + 1) - pos').toNat) (m', o')).2.running), .int .u64 ((runF (seg lg.evs q (((lg.base.idx + (lg.evs.length : Int)) + 1) - pos').toNat) (m', o')).2.value)]) (otEq y'.out (runF (seg lg.evs q (((lg.base.idx + (lg.evs.length : Int)) + 1) - pos').toNat) (m', o')).2) ∧ True) (fuel := 0) h906 (by kernel_rfl) rfl (by kernel_rfl) (by kernel_rfl) ⟨trivial, trivial, trivial, rfl, trivial, rfl, trivial, trivial, trivial, trivial, trivial, rfl, trivial, rfl, trivial, trivial, trivial⟩ ⟨⟨by omega, by omega⟩, ⟨rfl, (pt_st hc887)⟩, ⟨rfl, rfl⟩, (by have hq := run46 y'.st (runF (seg lg.evs q (((lg.base.idx + (lg.evs.length : Int)) + 1) - pos').toNat) (m', o')).1; rw [show machEq y'.st (runF (seg lg.evs q (((lg.base.idx + (lg.evs.length : Int)) + 1) - pos').toNat) (m', o')).1 = true by simpa using hb894] at hq; exact hq), ⟨by omega, by omega⟩, ⟨rfl, (pt_out hc887)⟩, ⟨rfl, rfl⟩, run39 y'.out (runF (seg lg.evs q (((lg.base.idx + (lg.evs.length : Int)) + 1) - pos').toNat) (m', o')).2, trivial⟩ fun a908 h909 => ?_
                    clear h906
                    refine wpAnyK_done (by kernel_rfl) ?_ _
                    refine hK893 _ _ ?_
                    clear hK893
                    refine c_split h909 (b := (Bool.xor true (otEq y'.out (runF (seg lg.evs q (((lg.base.idx + (lg.evs.length : Int)) + 1) - pos').toNat) (m', o')).2))) rfl (fun hc910 => ?_) (fun hc910 => ?_)
                    ·
                      have hoe : otEq y'.out (runF (seg lg.evs q (((lg.base.idx + (lg.evs.length : Int)) + 1) - pos').toNat) (m', o')).2 = false := by simpa using hc910
                      have hvs := hi883.trans (vs_bad2 hy' hxn hoe)
                      refine wp_seq_k fun K911 hK911 => ?_
                      refine nd_start (l := [0, 1, 2, 3, 4, 5, 6, 7, 8, 9]) rfl ?_
                      refine nd_batch tabOk tabZ_ok [(0, {}), (1, {}), (2, {}), (3, {}), (4, {}), (5, {}), (6, {k := 1, m := 1, vs := [.int .i64 p.idx]}), (7, {}), (8, {})] [0, 1, 4, 5, 6, 9, 8, 7, 163] (T' := [(0, .pointer (some ⟨bl, 0, none⟩)), (1, .pointer (some ⟨bq, off, none⟩)), (4, .pointer (some ⟨b2, 0, none⟩)), (5, .pointer (some ⟨b14, 0, none⟩)), (6, .int .i64 good), (9, .int .i64 ((lg.base.idx + (lg.evs.length : Int)) + 1)), (8, .slice (some ⟨bq, (i' * 15), none⟩) (lg.sns.length - i') (sc - i')), (7, .slice (winA mo mc j' 2) (lg.mks.length - j') (mc - j')), (163, .agg #[.int .i64 ((lg.base.idx + (lg.evs.length : Int)) + 1), .int .i64 good, .int .i64 (((lg.base.idx + (lg.evs.length : Int)) + 1) - p.idx)])]) (φ := (bq = bq ∧ cellsAre cs' off [.int .i64 p.idx]) ∧ inR .i64 (((lg.base.idx + (lg.evs.length : Int)) + 1) - p.idx) ∧ True) (rest := [9]) h909 (by kernel_rfl) rfl ⟨⟨rfl, (pt_idx hp)⟩, ⟨by omega, by omega⟩, trivial⟩ fun a912 h913 => ?_
                      clear h909
                      refine nd_op ?_
                      refine op_store tabOk {k := 2} (L' := [(bl, ⟨logC lg.base (.slice eo lg.evs.length ec) (.slice mo lg.mks.length mc) (.slice (some ⟨bq, 0, none⟩) lg.sns.length sc), 89, true⟩), (bq, ⟨cs', 84, true⟩), (b2, ⟨[.int .i64 ((lg.base.idx + (lg.evs.length : Int)) + 1), .int .i64 good, .int .i64 (((lg.base.idx + (lg.evs.length : Int)) + 1) - p.idx)], 114, false⟩), (b14, ⟨curC ((runF (seg lg.evs q (((lg.base.idx + (lg.evs.length : Int)) + 1) - pos').toNat) (m', o')).1) ((runF (seg lg.evs q (((lg.base.idx + (lg.evs.length : Int)) + 1) - pos').toNat) (m', o')).2) ((lg.base.idx + (lg.evs.length : Int)) + 1), 105, false⟩)]) (φ := b2 = b2 ∧ Nat.ble (0 + 3) 3 = true) h913 rfl rfl rfl (by kernel_rfl) ⟨rfl, rfl⟩ fun w914 h915 => ?_
                      clear h913
                      refine nd_done ?_
                      refine hK911 _ _ ?_
                      clear hK911
                      refine wp_ret ?_
                      have hres := hv.symm.trans (vloop_snap hnx hfin hs2 hvm hvs)
                      try simp only [Exit.then, Exit.inBlock]
                      try rw [if_pos trivial]
                      exact s_ret tabOk tabZ_ok h915 [(.cell 4 114, {k := 2})] (vs := [.agg #[.int .i64 ((lg.base.idx + (lg.evs.length : Int)) + 1), .int .i64 good, .int .i64 (((lg.base.idx + (lg.evs.length : Int)) + 1) - p.idx)]]) (φ := (b2 = b2 ∧ Nat.ble (0 + 3) 3 = true) ∧ True) rfl (by kernel_rfl) ⟨⟨rfl, rfl⟩, trivial⟩ ⟨by rw [hres]; rfl, h915.frame⟩
                    ·
                      have hoe : otEq y'.out (runF (seg lg.evs q (((lg.base.idx + (lg.evs.length : Int)) + 1) - pos').toNat) (m', o')).2 = true := by simpa using hc910
                      have hsame := hi883.trans (vs_same hy' hxn hme hoe)
                      refine wp_skip ?_
                      refine hK892 _ _ ?_
                      clear hK892
                      refine nd_start (l := [0, 1, 2]) rfl ?_
                      refine nd_batch tabOk tabZ_ok [(0, {}), (1, {}), (2, {})] [0, 1, 4, 5, 6, 9, 7, 8] (T' := [(0, .pointer (some ⟨bl, 0, none⟩)), (1, .pointer (some ⟨bq, off, none⟩)), (4, .pointer (some ⟨b2, 0, none⟩)), (5, .pointer (some ⟨b14, 0, none⟩)), (6, .int .i64 good), (9, .int .i64 ((lg.base.idx + (lg.evs.length : Int)) + 1)), (7, .slice (winA mo mc j' 2) (lg.mks.length - j') (mc - j')), (8, .slice (sliceBase (some ⟨bq, (i' * 15), none⟩) (sc - i') 1 15) ((lg.sns.length - i') - 1) ((sc - i') - 1))]) (φ := (0 ≤ (1 : Int) ∧ (1 : Int) ≤ (((lg.sns.length - i') : Nat) : Int)) ∧ True) (rest := []) h909 (by kernel_rfl) rfl ⟨⟨by omega, by omega⟩, trivial⟩ fun a916 h917 => ?_
                      clear h909
                      refine nd_done ?_
                      have e918 : sliceBase (some ⟨bq, (i' * 15), none⟩) (sc - i') 1 15 = winA (some ⟨bq, 0, none⟩) sc (i' + 1) 15 := by rw [← winA_some bq 15 hlt888]; exact winA_succ 15 (.inr ⟨bq, rfl⟩) hlt888
                      have e919 : lg.sns.length - i' - 1 = lg.sns.length - (i' + 1) := by omega
                      have e920 : sc - i' - 1 = sc - (i' + 1) := by omega
                      rw [e918, e919, e920] at h917
                      exact ⟨(gg - 1), by omega, (i' + 1), by omega, by omega, by omega, hsame, (h917.slotsMono (restr_spec (keep := [0, 1, 4, 5, 6, 9, 8, 7]) rfl))⟩
                ·
                  have hc891f : y'.idx ≠ ((lg.base.idx + (lg.evs.length : Int)) + 1) := by simpa using hc891
                  refine wp_exit ?_
                  rw [← winA_some bq 15 hlt888] at h890
                  have hstop : ∀ z, lg.sns[i']? = some z → z.idx ≠ ((lg.base.idx + (lg.evs.length : Int)) + 1) := (by intro z hz; rw [hy'] at hz; cases hz; exact hc891f)
                  exact hm867 i' _ _ hi880 hi881 (hi883.trans (vs_stop hstop)) hstop (h890.slotsMono (restr_spec (keep := [0, 1, 4, 5, 6, 9, 8, 7]) rfl))
              ·
                have hb886f : ¬ (((lg.sns.length - i') : Nat) : Int) > 0 := by simpa using hb886
                refine nd_start (l := [0, 1, 2, 3, 4, 5, 6, 7, 8, 9, 10]) rfl ?_
                refine nd_batch tabOk tabZ_ok [(0, {}), (1, {}), (2, {f := 1}), (3, {}), (4, {}), (5, {}), (6, {}), (7, {}), (8, {}), (9, {}), (10, {})] [0, 1, 4, 5, 6, 9, 8, 7, 136] (T' := [(0, .pointer (some ⟨bl, 0, none⟩)), (1, .pointer (some ⟨bq, off, none⟩)), (4, .pointer (some ⟨b2, 0, none⟩)), (5, .pointer (some ⟨b14, 0, none⟩)), (6, .int .i64 good), (9, .int .i64 ((lg.base.idx + (lg.evs.length : Int)) + 1)), (8, .slice (winA (some ⟨bq, 0, none⟩) sc i' 15) (lg.sns.length - i') (sc - i')), (7, .slice (winA mo mc j' 2) (lg.mks.length - j') (mc - j')), (136, .bool false)]) (φ := (decide ((((lg.sns.length - i') : Nat) : Int) > 0)) = false ∧ True) (rest := []) h879 (by kernel_rfl) rfl ⟨hb886, trivial⟩ fun a921 h922 => ?_
                clear h879
                refine nd_done ?_
                refine hK885 _ _ ?_
                clear hK885
                refine c_false h922 rfl ?_
                refine wp_exit ?_
                have hstop : ∀ z, lg.sns[i']? = some z → z.idx ≠ ((lg.base.idx + (lg.evs.length : Int)) + 1) := (by intro z hz; have := (List.getElem?_eq_some_iff.1 hz).1; omega)
                exact hm867 i' _ _ hi880 hi881 (hi883.trans (vs_stop hstop)) hstop (h922.slotsMono (restr_spec (keep := [0, 1, 4, 5, 6, 9, 8, 7]) rfl))
            clear hK857
            refine wp_loop_ghost (fun gg ga gw => ∃ (j' : Nat), (j' ≤ lg.mks.length) ∧ (j ≤ j') ∧ (gg = lg.mks.length - j') ∧ (vm ((lg.base.idx + (lg.evs.length : Int)) + 1) (dig (runF (seg lg.evs q (((lg.base.idx + (lg.evs.length : Int)) + 1) - pos').toNat) (m', o')).1) (lg.mks.drop j) = vm ((lg.base.idx + (lg.evs.length : Int)) + 1) (dig (runF (seg lg.evs q (((lg.base.idx + (lg.evs.length : Int)) + 1) - pos').toNat) (m', o')).1) (lg.mks.drop j')) ∧ St ⟨165, [], w, Rws [rl evC 31 3 lg.evs eo ec eF, rl mkC 93 2 lg.mks mo mc mF, rl ptC 84 15 lg.sns (some ⟨bq, 0, none⟩) sc ([bq])], Ff [rl evC 31 3 lg.evs eo ec eF, rl mkC 93 2 lg.mks mo mc mF, rl ptC 84 15 lg.sns (some ⟨bq, 0, none⟩) sc ([bq])]⟩ [(0, .pointer (some ⟨bl, 0, none⟩)), (1, .pointer (some ⟨bq, off, none⟩)), (4, .pointer (some ⟨b2, 0, none⟩)), (5, .pointer (some ⟨b14, 0, none⟩)), (6, .int .i64 good), (9, .int .i64 ((lg.base.idx + (lg.evs.length : Int)) + 1)), (7, .slice (winA mo mc j' 2) (lg.mks.length - j') (mc - j')), (8, .slice (winA (some ⟨bq, 0, none⟩) sc i 15) (lg.sns.length - i) (sc - i))] [(bl, ⟨logC lg.base (.slice eo lg.evs.length ec) (.slice mo lg.mks.length mc) (.slice (some ⟨bq, 0, none⟩) lg.sns.length sc), 89, true⟩), (bq, ⟨cs', 84, true⟩), (b2, ⟨[.int .i64 0, .int .i64 0, .int .i64 0], 114, false⟩), (b14, ⟨curC ((runF (seg lg.evs q (((lg.base.idx + (lg.evs.length : Int)) + 1) - pos').toNat) (m', o')).1) ((runF (seg lg.evs q (((lg.base.idx + (lg.evs.length : Int)) + 1) - pos').toNat) (m', o')).2) ((lg.base.idx + (lg.evs.length : Int)) + 1), 105, false⟩)] ga gw) (lg.mks.length - j) ⟨j, by omega, Nat.le_refl _, rfl, rfl, (h855.slotsMono (restr_spec (keep := [0, 1, 4, 5, 6, 9, 7, 8]) rfl))⟩ ?_
            clear h855
            rintro gg a923 w924 ⟨j', hi926, hi927, hi928, hi929, h925⟩
            refine wp_seq_k fun K930 hK930 => ?_
            refine wp_seq_k fun K931 hK931 => ?_
            rcases Bool.eq_false_or_eq_true (decide ((((lg.mks.length - j') : Nat) : Int) > 0)) with hb932 | hb932
            ·
              have hb932f : (((lg.mks.length - j') : Nat) : Int) > 0 := by simpa using hb932
              obtain ⟨x', hx'⟩ := Sx.get_some (xs := lg.mks) (i := j') (by omega)
              obtain ⟨b933, cs934, ho935, hb936, hc937, hF938, hq940, hl941⟩ := rl_open (h925.inv.get (j := 1) rfl) mkC_len hx'
              subst ho935 hF938
              have h939 := h925.open_ hb936 (h925.notinL (by simp [Ff]) (kcons (fun _ => (fun hq => hsep (by have hq2 : bl = b933 := hq; rw [hq2]; simp [Hd.F]))) (kcons (fun _ => (fun hq => Ff_nodup h925.inv.1 (i := 2) (j := 1) rfl rfl (by decide) bq (by simp) (by have hq2 : bq = b933 := hq; rw [hq2]; simp))) (kcons (by intro hq; cases hq) (kcons (by intro hq; cases hq) knil)))))
              clear h925
              have hlt942 : j' < mc := by have h1 : lg.mks.length ≤ mc := rl_cap (h939.inv.get (j := 1) rfl); have h2 := (List.getElem?_eq_some_iff.1 hx').1; omega
              rw [winA_some b933 2 hlt942] at h939
              refine nd_start (l := [0, 1, 2, 3, 4, 5, 6, 7, 8, 9, 10]) rfl ?_
              refine nd_batch tabOk tabZ_ok [(0, {}), (1, {}), (2, {f := 2}), (3, {}), (4, {}), (5, {}), (6, {}), (7, {k := 4, m := 1, vs := [.int .i64 x'.idx]}), (8, {}), (9, {}), (10, {})] [0, 1, 4, 5, 6, 9, 7, 8, 107] (T' := [(0, .pointer (some ⟨bl, 0, none⟩)), (1, .pointer (some ⟨bq, off, none⟩)), (4, .pointer (some ⟨b2, 0, none⟩)), (5, .pointer (some ⟨b14, 0, none⟩)), (6, .int .i64 good), (9, .int .i64 ((lg.base.idx + (lg.evs.length : Int)) + 1)), (7, .slice (some ⟨b933, (j' * 2), none⟩) (lg.mks.length - j') (mc - j')), (8, .slice (winA (some ⟨bq, 0, none⟩) sc i 15) (lg.sns.length - i) (sc - i)), (107, .bool (x'.idx == ((lg.base.idx + (lg.evs.length : Int)) + 1)))]) (φ := (decide ((((lg.mks.length - j') : Nat) : Int) > 0)) = true ∧ (0 ≤ (0 : Int) ∧ (0 : Int) < (((lg.mks.length - j') : Nat) : Int)) ∧ (b933 = b933 ∧ cellsAre cs934 (j' * 2) [.int .i64 x'.idx]) ∧ True) (rest := []) h939 (by kernel_rfl) rfl ⟨hb932, ⟨by omega, by omega⟩, ⟨rfl, ⟨(hc937).1, trivial⟩⟩, trivial⟩ fun a943 h944 => ?_
              clear h939
              refine nd_done ?_
              refine hK931 _ _ ?_
              clear hK931
              refine c_split h944 (b := (x'.idx == ((lg.base.idx + (lg.evs.length : Int)) + 1))) rfl (fun hc945 => ?_) (fun hc945 => ?_)
              ·
                have hc945f : x'.idx = ((lg.base.idx + (lg.evs.length : Int)) + 1) := by simpa using hc945
                have hxn : x'.idx = ((lg.base.idx + (lg.evs.length : Int)) + 1) := hc945f
                refine wp_skip ?_
                refine hK930 _ _ ?_
                clear hK930
                refine wp_seq_k fun K946 hK946 => ?_
                refine wp_block ?_
                refine wp_seq_k fun K947 hK947 => ?_
                refine dr_start (KB := [bl, bq, b2, b14, b933]) (Bi := [[0, 1, 2, 3, 4], [0, 1, 2, 3, 4], [0, 1, 2, 3, 4], [0, 1, 2, 3, 4], [0, 1, 2, 3, 4], [4], [0, 1, 2, 3, 4]]) mixed h944 fun w948 h949 => ?_
                clear h944
                refine dr_batch tabOk tabZ_ok (by repeat (first | exact PF.body | with_reducible apply PF.inB | with_reducible apply PF.next)) [(0, {}), (1, {}), (2, {}), (3, {k := 4, m := 1, vs := [.int .u64 x'.sum], p := 4}), (4, {})] [0, 1, 4, 5, 6, 9, 7, 8, 113, 114] (T' := [(0, .pointer (some ⟨bl, 0, none⟩)), (1, .pointer (some ⟨bq, off, none⟩)), (4, .pointer (some ⟨b2, 0, none⟩)), (5, .pointer (some ⟨b14, 0, none⟩)), (6, .int .i64 good), (9, .int .i64 ((lg.base.idx + (lg.evs.length : Int)) + 1)), (7, .slice (some ⟨b933, (j' * 2), none⟩) (lg.mks.length - j') (mc - j')), (8, .slice (winA (some ⟨bq, 0, none⟩) sc i 15) (lg.sns.length - i) (sc - i)), (113, .int .u64 x'.sum), (114, .pointer (some ⟨b14, 0, none⟩))]) (φ := (0 ≤ (0 : Int) ∧ (0 : Int) < (((lg.mks.length - j') : Nat) : Int)) ∧ (b933 = b933 ∧ cellsAre cs934 ((j' * 2) + 1) [.int .u64 x'.sum]) ∧ True) (fuel := 2) h949 (by kernel_rfl) rfl (by kernel_rfl) (by kernel_rfl) ⟨trivial, trivial, trivial, rfl, trivial, trivial⟩ ⟨⟨by omega, by omega⟩, ⟨rfl, ⟨(hc937).2.1, trivial⟩⟩, trivial⟩ fun a951 h952 => ?_
                clear h949
                refine wpAnyK_one (i := 5) (fuel := 1) (by kernel_rfl) ?_
                refine op_call h952 rfl rfl rfl (callOk Tryf.func51 (by decide) rfl) (args := [.pointer (some ⟨b14, 0, none⟩)]) rfl (digest_ok [] (outC (runF (seg lg.evs q (((lg.base.idx + (lg.evs.length : Int)) + 1) - pos').toNat) (m', o')).2 ++ [.int .i64 ((lg.base.idx + (lg.evs.length : Int)) + 1)]) (runF (seg lg.evs q (((lg.base.idx + (lg.evs.length : Int)) + 1) - pos').toNat) (m', o')).1 hmok2 b14 105 false _ (h952.kn (k := 3) rfl)) ?_
                rintro _ w953 ⟨rfl, hf955⟩
                refine ⟨_, rfl, ?_⟩
                have h954 := (h952.grow hf955).put (d := some 115) (v := .int .u64 (dig (runF (seg lg.evs q (((lg.base.idx + (lg.evs.length : Int)) + 1) - pos').toNat) (m', o')).1)) (T' := [(115, .int .u64 (dig (runF (seg lg.evs q (((lg.base.idx + (lg.evs.length : Int)) + 1) - pos').toNat) (m', o')).1)), (0, .pointer (some ⟨bl, 0, none⟩)), (1, .pointer (some ⟨bq, off, none⟩)), (4, .pointer (some ⟨b2, 0, none⟩)), (5, .pointer (some ⟨b14, 0, none⟩)), (6, .int .i64 good), (9, .int .i64 ((lg.base.idx + (lg.evs.length : Int)) + 1)), (7, .slice (some ⟨b933, (j' * 2), none⟩) (lg.mks.length - j') (mc - j')), (8, .slice (winA (some ⟨bq, 0, none⟩) sc i 15) (lg.sns.length - i) (sc - i)), (113, .int .u64 x'.sum), (114, .pointer (some ⟨b14, 0, none⟩))]) rfl
                refine ⟨(h952.keepFr hf955 (kcons (by simp) knil)), ?_⟩
                clear h952
                refine dr_batch tabOk tabZ_ok (by repeat (first | exact PF.body | with_reducible apply PF.inB | with_reducible apply PF.next)) [(6, {})] [0, 1, 4, 5, 6, 9, 7, 8, 116] (T' := [(0, .pointer (some ⟨bl, 0, none⟩)), (1, .pointer (some ⟨bq, off, none⟩)), (4, .pointer (some ⟨b2, 0, none⟩)), (5, .pointer (some ⟨b14, 0, none⟩)), (6, .int .i64 good), (9, .int .i64 ((lg.base.idx + (lg.evs.length : Int)) + 1)), (7, .slice (some ⟨b933, (j' * 2), none⟩) (lg.mks.length - j') (mc - j')), (8, .slice (winA (some ⟨bq, 0, none⟩) sc i 15) (lg.sns.length - i) (sc - i)), (116, .bool (x'.sum != (dig (runF (seg lg.evs q (((lg.base.idx + (lg.evs.length : Int)) + 1) - pos').toNat) (m', o')).1)))]) (φ := True) (fuel := 0) h954 (by kernel_rfl) rfl (by kernel_rfl) (by kernel_rfl) ⟨trivial, trivial⟩ trivial fun a956 h957 => ?_
                clear h954
                refine wpAnyK_done (by kernel_rfl) ?_ _
                refine hK947 _ _ ?_
                clear hK947
                refine c_split h957 (b := (x'.sum != (dig (runF (seg lg.evs q (((lg.base.idx + (lg.evs.length : Int)) + 1) - pos').toNat) (m', o')).1))) rfl (fun hc958 => ?_) (fun hc958 => ?_)
                ·
                  have hc958f : x'.sum ≠ (dig (runF (seg lg.evs q (((lg.base.idx + (lg.evs.length : Int)) + 1) - pos').toNat) (m', o')).1) := by simpa using hc958
                  have hvm := hi929.trans (vm_bad hx' hxn hc958f)
                  refine wp_seq_k fun K959 hK959 => ?_
                  refine nd_start (l := [0, 1, 2, 3, 4, 5, 6, 7, 8, 9]) rfl ?_
                  refine nd_batch tabOk tabZ_ok [(0, {}), (1, {}), (2, {}), (3, {}), (4, {}), (5, {}), (6, {k := 1, m := 1, vs := [.int .i64 p.idx]}), (7, {}), (8, {})] [0, 1, 4, 5, 6, 9, 7, 8, 125] (T' := [(0, .pointer (some ⟨bl, 0, none⟩)), (1, .pointer (some ⟨bq, off, none⟩)), (4, .pointer (some ⟨b2, 0, none⟩)), (5, .pointer (some ⟨b14, 0, none⟩)), (6, .int .i64 good), (9, .int .i64 ((lg.base.idx + (lg.evs.length : Int)) + 1)), (7, .slice (some ⟨b933, (j' * 2), none⟩) (lg.mks.length - j') (mc - j')), (8, .slice (winA (some ⟨bq, 0, none⟩) sc i 15) (lg.sns.length - i) (sc - i)), (125, .agg #[.int .i64 ((lg.base.idx + (lg.evs.length : Int)) + 1), .int .i64 good, .int .i64 (((lg.base.idx + (lg.evs.length : Int)) + 1) - p.idx)])]) (φ := (bq = bq ∧ cellsAre cs' off [.int .i64 p.idx]) ∧ inR .i64 (((lg.base.idx + (lg.evs.length : Int)) + 1) - p.idx) ∧ True) (rest := [9]) h957 (by kernel_rfl) rfl ⟨⟨rfl, (pt_idx hp)⟩, ⟨by omega, by omega⟩, trivial⟩ fun a960 h961 => ?_
                  clear h957
                  refine nd_op ?_
                  refine op_store tabOk {k := 2} (L' := [(bl, ⟨logC lg.base (.slice eo lg.evs.length ec) (.slice (some ⟨b933, 0, none⟩) lg.mks.length mc) (.slice (some ⟨bq, 0, none⟩) lg.sns.length sc), 89, true⟩), (bq, ⟨cs', 84, true⟩), (b2, ⟨[.int .i64 ((lg.base.idx + (lg.evs.length : Int)) + 1), .int .i64 good, .int .i64 (((lg.base.idx + (lg.evs.length : Int)) + 1) - p.idx)], 114, false⟩), (b14, ⟨curC ((runF (seg lg.evs q (((lg.base.idx + (lg.evs.length : Int)) + 1) - pos').toNat) (m', o')).1) ((runF (seg lg.evs q (((lg.base.idx + (lg.evs.length : Int)) + 1) - pos').toNat) (m', o')).2) ((lg.base.idx + (lg.evs.length : Int)) + 1), 105, false⟩), (b933, ⟨cs934, 93, true⟩)]) (φ := b2 = b2 ∧ Nat.ble (0 + 3) 3 = true) h961 rfl rfl rfl (by kernel_rfl) ⟨rfl, rfl⟩ fun w962 h963 => ?_
                  clear h961
                  refine nd_done ?_
                  refine hK959 _ _ ?_
                  clear hK959
                  refine wp_ret ?_
                  have hres := hv.symm.trans (vloop_mark hnx hfin hs2 hvm)
                  try simp only [Exit.then, Exit.inBlock]
                  try rw [if_pos trivial]
                  exact s_ret tabOk tabZ_ok h963 [(.cell 4 114, {k := 2})] (vs := [.agg #[.int .i64 ((lg.base.idx + (lg.evs.length : Int)) + 1), .int .i64 good, .int .i64 (((lg.base.idx + (lg.evs.length : Int)) + 1) - p.idx)]]) (φ := (b2 = b2 ∧ Nat.ble (0 + 3) 3 = true) ∧ True) rfl (by kernel_rfl) ⟨⟨rfl, rfl⟩, trivial⟩ ⟨by rw [hres]; rfl, h963.frame⟩
                ·
                  have hc958f : x'.sum = (dig (runF (seg lg.evs q (((lg.base.idx + (lg.evs.length : Int)) + 1) - pos').toNat) (m', o')).1) := by simpa using hc958
                  have hsame := hi929.trans (vm_same hx' hxn hc958f)
                  refine wp_skip ?_
                  refine hK946 _ _ ?_
                  clear hK946
                  refine nd_start (l := [0, 1, 2]) rfl ?_
                  refine nd_batch tabOk tabZ_ok [(0, {}), (1, {}), (2, {})] [0, 1, 4, 5, 6, 9, 8, 7] (T' := [(0, .pointer (some ⟨bl, 0, none⟩)), (1, .pointer (some ⟨bq, off, none⟩)), (4, .pointer (some ⟨b2, 0, none⟩)), (5, .pointer (some ⟨b14, 0, none⟩)), (6, .int .i64 good), (9, .int .i64 ((lg.base.idx + (lg.evs.length : Int)) + 1)), (8, .slice (winA (some ⟨bq, 0, none⟩) sc i 15) (lg.sns.length - i) (sc - i)), (7, .slice (sliceBase (some ⟨b933, (j' * 2), none⟩) (mc - j') 1 2) ((lg.mks.length - j') - 1) ((mc - j') - 1))]) (φ := (0 ≤ (1 : Int) ∧ (1 : Int) ≤ (((lg.mks.length - j') : Nat) : Int)) ∧ True) (rest := []) h957 (by kernel_rfl) rfl ⟨⟨by omega, by omega⟩, trivial⟩ fun a964 h965 => ?_
                  clear h957
                  refine nd_done ?_
                  have h966 := h965.memMono (L' := [(bl, ⟨logC lg.base (.slice eo lg.evs.length ec) (.slice (some ⟨b933, 0, none⟩) lg.mks.length mc) (.slice (some ⟨bq, 0, none⟩) lg.sns.length sc), 89, true⟩), (bq, ⟨cs', 84, true⟩), (b2, ⟨[.int .i64 0, .int .i64 0, .int .i64 0], 114, false⟩), (b14, ⟨curC ((runF (seg lg.evs q (((lg.base.idx + (lg.evs.length : Int)) + 1) - pos').toNat) (m', o')).1) ((runF (seg lg.evs q (((lg.base.idx + (lg.evs.length : Int)) + 1) - pos').toNat) (m', o')).2) ((lg.base.idx + (lg.evs.length : Int)) + 1), 105, false⟩)]) (List.Sublist.cons_cons _ (List.Sublist.cons_cons _ (List.Sublist.cons_cons _ (List.Sublist.cons_cons _ (List.Sublist.cons _ List.Sublist.slnil)))))
                  clear h965
                  have e967 : sliceBase (some ⟨b933, (j' * 2), none⟩) (mc - j') 1 2 = winA (some ⟨b933, 0, none⟩) mc (j' + 1) 2 := by rw [← winA_some b933 2 hlt942]; exact winA_succ 2 (.inr ⟨b933, rfl⟩) hlt942
                  have e968 : lg.mks.length - j' - 1 = lg.mks.length - (j' + 1) := by omega
                  have e969 : mc - j' - 1 = mc - (j' + 1) := by omega
                  rw [e967, e968, e969] at h966
                  exact ⟨(gg - 1), by omega, (j' + 1), by omega, by omega, by omega, hsame, (h966.slotsMono (restr_spec (keep := [0, 1, 4, 5, 6, 9, 7, 8]) rfl))⟩
              ·
                have hc945f : x'.idx ≠ ((lg.base.idx + (lg.evs.length : Int)) + 1) := by simpa using hc945
                refine wp_exit ?_
                rw [← winA_some b933 2 hlt942] at h944
                have hstop : ∀ z, lg.mks[j']? = some z → z.idx ≠ ((lg.base.idx + (lg.evs.length : Int)) + 1) := (by intro z hz; rw [hx'] at hz; cases hz; exact hc945f)
                exact hm858 j' _ _ hi926 hi927 (hi929.trans (vm_stop hstop)) hstop ((h944.memMono (List.Sublist.cons_cons _ (List.Sublist.cons_cons _ (List.Sublist.cons_cons _ (List.Sublist.cons_cons _ (List.Sublist.cons _ List.Sublist.slnil)))))).slotsMono (restr_spec (keep := [0, 1, 4, 5, 6, 9, 7, 8]) rfl))
            ·
              have hb932f : ¬ (((lg.mks.length - j') : Nat) : Int) > 0 := by simpa using hb932
              refine nd_start (l := [0, 1, 2, 3, 4, 5, 6, 7, 8, 9, 10]) rfl ?_
              refine nd_batch tabOk tabZ_ok [(0, {}), (1, {}), (2, {f := 1}), (3, {}), (4, {}), (5, {}), (6, {}), (7, {}), (8, {}), (9, {}), (10, {})] [0, 1, 4, 5, 6, 9, 7, 8, 107] (T' := [(0, .pointer (some ⟨bl, 0, none⟩)), (1, .pointer (some ⟨bq, off, none⟩)), (4, .pointer (some ⟨b2, 0, none⟩)), (5, .pointer (some ⟨b14, 0, none⟩)), (6, .int .i64 good), (9, .int .i64 ((lg.base.idx + (lg.evs.length : Int)) + 1)), (7, .slice (winA mo mc j' 2) (lg.mks.length - j') (mc - j')), (8, .slice (winA (some ⟨bq, 0, none⟩) sc i 15) (lg.sns.length - i) (sc - i)), (107, .bool false)]) (φ := (decide ((((lg.mks.length - j') : Nat) : Int) > 0)) = false ∧ True) (rest := []) h925 (by kernel_rfl) rfl ⟨hb932, trivial⟩ fun a970 h971 => ?_
              clear h925
              refine nd_done ?_
              refine hK931 _ _ ?_
              clear hK931
              refine c_false h971 rfl ?_
              refine wp_exit ?_
              have hstop : ∀ z, lg.mks[j']? = some z → z.idx ≠ ((lg.base.idx + (lg.evs.length : Int)) + 1) := (by intro z hz; have := (List.getElem?_eq_some_iff.1 hz).1; omega)
              exact hm858 j' _ _ hi926 hi927 (hi929.trans (vm_stop hstop)) hstop (h971.slotsMono (restr_spec (keep := [0, 1, 4, 5, 6, 9, 7, 8]) rfl))
    clear hK39
    refine wp_loop_ghost (fun g ga gw => ∃ (i : Nat), (i ≤ lg.sns.length) ∧ (g = lg.sns.length - i) ∧ (∀ z ∈ lg.sns.take i, z.idx < p.idx) ∧ St ⟨165, [], w, Rws [rl evC 31 3 lg.evs eo ec eF, rl mkC 93 2 lg.mks mo mc mF, rl ptC 84 15 lg.sns (some ⟨bq, 0, none⟩) sc ([bq])], Ff [rl evC 31 3 lg.evs eo ec eF, rl mkC 93 2 lg.mks mo mc mF, rl ptC 84 15 lg.sns (some ⟨bq, 0, none⟩) sc ([bq])]⟩ [(0, .pointer (some ⟨bl, 0, none⟩)), (1, .pointer (some ⟨bq, off, none⟩)), (4, .pointer (some ⟨b2, 0, none⟩)), (5, .pointer (some ⟨b14, 0, none⟩)), (6, .int .i64 p.idx), (8, .slice (winA (some ⟨bq, 0, none⟩) sc i 15) (lg.sns.length - i) (sc - i)), (7, .slice (winA mo mc j 2) (lg.mks.length - j) (mc - j))] [(bl, ⟨logC lg.base (.slice eo lg.evs.length ec) (.slice mo lg.mks.length mc) (.slice (some ⟨bq, 0, none⟩) lg.sns.length sc), 89, true⟩), (bq, ⟨cs', 84, true⟩), (b2, ⟨[.int .i64 0, .int .i64 0, .int .i64 0], 114, false⟩), (b14, ⟨[.int .u64 p.st.now, .int .i8 p.st.cur, .int .u8 p.st.s0, .int .u8 p.st.s1, .int .u8 p.st.s2, .int .u8 p.st.s3, .int .u64 p.st.r0, .int .u64 p.st.r1, .int .u64 p.st.r2, .int .u64 p.st.r3, .int .u64 p.st.word, .bool p.out.refused, .int .i8 p.out.running, .int .u64 p.out.value, .int .i64 p.idx], 105, false⟩)] ga gw) lg.sns.length ⟨0, Nat.zero_le _, rfl, (by simp), (by have hz : winA (some ⟨bq, 0, none⟩) sc 0 15 = (some ⟨bq, 0, none⟩) := winA_zero _ _ _; rw [hz]; exact (h35.slotsMono (restr_spec (keep := [0, 1, 4, 5, 6, 8, 7]) rfl)))⟩ ?_
    clear h35
    rintro g a972 w973 ⟨i, hi975, hi976, hi977, h974⟩
    refine wp_seq_k fun K978 hK978 => ?_
    refine wp_seq_k fun K979 hK979 => ?_
    rcases Bool.eq_false_or_eq_true (decide ((((lg.sns.length - i) : Nat) : Int) > 0)) with hb980 | hb980
    ·
      have hb980f : (((lg.sns.length - i) : Nat) : Int) > 0 := by simpa using hb980
      obtain ⟨y, hy⟩ := Sx.get_some (xs := lg.sns) (i := i) (by omega)
      have hc981 := rl_at (h974.inv.get (j := 2) rfl) (h974.kn (k := 1) rfl) ptC_len hy
      have hlt982 : i < sc := by have h1 : lg.sns.length ≤ sc := rl_cap (h974.inv.get (j := 2) rfl); have h2 := (List.getElem?_eq_some_iff.1 hy).1; omega
      rw [winA_some bq 15 hlt982] at h974
      refine dr_start (KB := [bl, bq, b2, b14]) (Bi := [[0, 1, 2, 3], [0, 1, 2, 3], [0, 1, 2, 3], [0, 1, 2, 3], [0, 1, 2, 3], [0, 1, 2, 3], [0, 1, 2, 3], [0, 1, 2, 3], [0, 1, 2, 3], [0, 1, 2, 3], [0, 1, 2, 3], [0, 1, 2, 3]]) mixed h974 fun w983 h984 => ?_
      clear h974
      refine dr_batch tabOk tabZ_ok (by repeat (first | exact PF.body | with_reducible apply PF.inB | with_reducible apply PF.next)) [(0, {}), (1, {}), (2, {f := 2}), (3, {}), (4, {}), (5, {}), (6, {}), (7, {k := 1, m := 1, vs := [.int .i64 y.idx], p := 1}), (8, {}), (9, {k := 3, p := 3}), (10, {}), (11, {})] [0, 1, 4, 5, 6, 8, 7, 49] (T' := [(0, .pointer (some ⟨bl, 0, none⟩)), (1, .pointer (some ⟨bq, off, none⟩)), (4, .pointer (some ⟨b2, 0, none⟩)), (5, .pointer (some ⟨b14, 0, none⟩)), (6, .int .i64 p.idx), (8, .slice (some ⟨bq, (i * 15), none⟩) (lg.sns.length - i) (sc - i)), (7, .slice (winA mo mc j 2) (lg.mks.length - j) (mc - j)), (49, .bool (decide (y.idx < p.idx)))]) (φ := (decide ((((lg.sns.length - i) : Nat) : Int) > 0)) = true ∧ (0 ≤ (0 : Int) ∧ (0 : Int) < (((lg.sns.length - i) : Nat) : Int)) ∧ (bq = bq ∧ cellsAre cs' (i * 15) [.int .i64 y.idx]) ∧ (b14 = b14 ∧ Nat.ble (14 + 1) 15 = true) ∧ True) (fuel := 0) h984 (by kernel_rfl) rfl (by kernel_rfl) (by kernel_rfl) ⟨trivial, trivial, trivial, trivial, trivial, trivial, trivial, rfl, trivial, rfl, trivial, trivial, trivial⟩ ⟨hb980, ⟨by omega, by omega⟩, ⟨rfl, (pt_idx hc981)⟩, ⟨rfl, rfl⟩, trivial⟩ fun a986 h987 => ?_
      clear h984
      refine wpAnyK_done (by kernel_rfl) ?_ _
      refine hK979 _ _ ?_
      clear hK979
      refine c_split h987 (b := decide (y.idx < p.idx)) rfl (fun hc988 => ?_) (fun hc988 => ?_)
      ·
        have hc988f : y.idx < p.idx := by simpa using hc988
        refine wp_skip ?_
        refine hK978 _ _ ?_
        clear hK978
        refine wp_block ?_
        refine nd_start (l := [0, 1, 2]) rfl ?_
        refine nd_batch tabOk tabZ_ok [(0, {}), (1, {}), (2, {})] [0, 1, 4, 5, 6, 7, 8] (T' := [(0, .pointer (some ⟨bl, 0, none⟩)), (1, .pointer (some ⟨bq, off, none⟩)), (4, .pointer (some ⟨b2, 0, none⟩)), (5, .pointer (some ⟨b14, 0, none⟩)), (6, .int .i64 p.idx), (7, .slice (winA mo mc j 2) (lg.mks.length - j) (mc - j)), (8, .slice (sliceBase (some ⟨bq, (i * 15), none⟩) (sc - i) 1 15) ((lg.sns.length - i) - 1) ((sc - i) - 1))]) (φ := (0 ≤ (1 : Int) ∧ (1 : Int) ≤ (((lg.sns.length - i) : Nat) : Int)) ∧ True) (rest := []) h987 (by kernel_rfl) rfl ⟨⟨by omega, by omega⟩, trivial⟩ fun a989 h990 => ?_
        clear h987
        refine nd_done ?_
        have e991 : sliceBase (some ⟨bq, (i * 15), none⟩) (sc - i) 1 15 = winA (some ⟨bq, 0, none⟩) sc (i + 1) 15 := by rw [← winA_some bq 15 hlt982]; exact winA_succ 15 (.inr ⟨bq, rfl⟩) hlt982
        have e992 : lg.sns.length - i - 1 = lg.sns.length - (i + 1) := by omega
        have e993 : sc - i - 1 = sc - (i + 1) := by omega
        rw [e991, e992, e993] at h990
        exact ⟨(g - 1), by omega, (i + 1), by omega, by omega, by intro z hz; rw [Sx.take_snoc hy] at hz; rcases List.mem_append.1 hz with hz | hz; exact hi977 z hz; simp at hz; subst hz; exact hc988f, (h990.slotsMono (restr_spec (keep := [0, 1, 4, 5, 6, 8, 7]) rfl))⟩
      ·
        have hc988f : ¬ y.idx < p.idx := by simpa using hc988
        refine wp_exit ?_
        rw [← winA_some bq 15 hlt982] at h987
        exact hm40 i _ _ hi975 hi977 (by intro z hz; rw [hy] at hz; cases hz; exact hc988f) (h987.slotsMono (restr_spec (keep := [0, 1, 4, 5, 6, 8, 7]) rfl))
    ·
      have hb980f : ¬ ((((lg.sns.length - i) : Nat) : Int) > 0) := by simpa using hb980
      refine dr_start (KB := [bl, bq, b2, b14]) (Bi := [[0, 1, 2, 3], [0, 1, 2, 3], [0, 1, 2, 3], [0, 1, 2, 3], [0, 1, 2, 3], [0, 1, 2, 3], [0, 1, 2, 3], [0, 1, 2, 3], [0, 1, 2, 3], [0, 1, 2, 3], [0, 1, 2, 3], [0, 1, 2, 3]]) mixed h974 fun w994 h995 => ?_
      clear h974
      refine dr_batch tabOk tabZ_ok (by repeat (first | exact PF.body | with_reducible apply PF.inB | with_reducible apply PF.next)) [(0, {}), (1, {}), (2, {f := 1}), (3, {}), (4, {}), (5, {}), (6, {}), (7, {k := 0, p := 0}), (8, {}), (9, {k := 0, p := 0}), (10, {}), (11, {})] [0, 1, 4, 5, 6, 8, 7, 49] (T' := [(0, .pointer (some ⟨bl, 0, none⟩)), (1, .pointer (some ⟨bq, off, none⟩)), (4, .pointer (some ⟨b2, 0, none⟩)), (5, .pointer (some ⟨b14, 0, none⟩)), (6, .int .i64 p.idx), (8, .slice (winA (some ⟨bq, 0, none⟩) sc i 15) (lg.sns.length - i) (sc - i)), (7, .slice (winA mo mc j 2) (lg.mks.length - j) (mc - j)), (49, .bool false)]) (φ := (decide ((((lg.sns.length - i) : Nat) : Int) > 0)) = false ∧ True) (fuel := 0) h995 (by kernel_rfl) rfl (by kernel_rfl) (by kernel_rfl) ⟨trivial, trivial, trivial, trivial, trivial, trivial, trivial, rfl, trivial, rfl, trivial, trivial, trivial⟩ ⟨hb980, trivial⟩ fun a997 h998 => ?_
      clear h995
      refine wpAnyK_done (by kernel_rfl) ?_ _
      refine hK979 _ _ ?_
      clear hK979
      refine c_false h998 rfl ?_
      refine wp_exit ?_
      exact hm40 i _ _ hi975 hi977 (by intro z hz; have := (List.getElem?_eq_some_iff.1 hz).1; omega) (h998.slotsMono (restr_spec (keep := [0, 1, 4, 5, 6, 8, 7]) rfl))
  clear hK31
  refine wp_loop_ghost (fun g ga gw => ∃ (j : Nat), (j ≤ lg.mks.length) ∧ (g = lg.mks.length - j) ∧ (∀ z ∈ lg.mks.take j, z.idx < p.idx) ∧ St ⟨165, [], w, Rws [rl evC 31 3 lg.evs eo ec eF, rl mkC 93 2 lg.mks mo mc mF, rl ptC 84 15 lg.sns (some ⟨bq, 0, none⟩) sc ([bq])], Ff [rl evC 31 3 lg.evs eo ec eF, rl mkC 93 2 lg.mks mo mc mF, rl ptC 84 15 lg.sns (some ⟨bq, 0, none⟩) sc ([bq])]⟩ [(0, .pointer (some ⟨bl, 0, none⟩)), (1, .pointer (some ⟨bq, off, none⟩)), (4, .pointer (some ⟨b2, 0, none⟩)), (5, .pointer (some ⟨b14, 0, none⟩)), (6, .int .i64 p.idx), (7, .slice (winA mo mc j 2) (lg.mks.length - j) (mc - j)), (8, .slice (some ⟨bq, 0, none⟩) lg.sns.length sc)] [(bl, ⟨logC lg.base (.slice eo lg.evs.length ec) (.slice mo lg.mks.length mc) (.slice (some ⟨bq, 0, none⟩) lg.sns.length sc), 89, true⟩), (bq, ⟨cs', 84, true⟩), (b2, ⟨[.int .i64 0, .int .i64 0, .int .i64 0], 114, false⟩), (b14, ⟨[.int .u64 p.st.now, .int .i8 p.st.cur, .int .u8 p.st.s0, .int .u8 p.st.s1, .int .u8 p.st.s2, .int .u8 p.st.s3, .int .u64 p.st.r0, .int .u64 p.st.r1, .int .u64 p.st.r2, .int .u64 p.st.r3, .int .u64 p.st.word, .bool p.out.refused, .int .i8 p.out.running, .int .u64 p.out.value, .int .i64 p.idx], 105, false⟩)] ga gw) lg.mks.length ⟨0, Nat.zero_le _, rfl, (by simp), (by have hz : winA mo mc 0 2 = mo := winA_zero _ _ _; rw [hz]; exact (h30.slotsMono (restr_spec (keep := [0, 1, 4, 5, 6, 7, 8]) rfl)))⟩ ?_
  clear h30
  rintro g a999 w1000 ⟨j, hi1002, hi1003, hi1004, h1001⟩
  refine wp_seq_k fun K1005 hK1005 => ?_
  refine wp_seq_k fun K1006 hK1006 => ?_
  rcases Bool.eq_false_or_eq_true (decide ((((lg.mks.length - j) : Nat) : Int) > 0)) with hb1007 | hb1007
  ·
    have hb1007f : (((lg.mks.length - j) : Nat) : Int) > 0 := by simpa using hb1007
    obtain ⟨x, hx⟩ := Sx.get_some (xs := lg.mks) (i := j) (by omega)
    obtain ⟨b1008, cs1009, ho1010, hb1011, hc1012, hF1013, hq1015, hl1016⟩ := rl_open (h1001.inv.get (j := 1) rfl) mkC_len hx
    subst ho1010 hF1013
    have h1014 := h1001.open_ hb1011 (h1001.notinL (by simp [Ff]) (kcons (fun _ => (fun hq => hsep (by have hq2 : bl = b1008 := hq; rw [hq2]; simp [Hd.F]))) (kcons (fun _ => (fun hq => Ff_nodup h1001.inv.1 (i := 2) (j := 1) rfl rfl (by decide) bq (by simp) (by have hq2 : bq = b1008 := hq; rw [hq2]; simp))) (kcons (by intro hq; cases hq) (kcons (by intro hq; cases hq) knil)))))
    clear h1001
    have hlt1017 : j < mc := by have h1 : lg.mks.length ≤ mc := rl_cap (h1014.inv.get (j := 1) rfl); have h2 := (List.getElem?_eq_some_iff.1 hx).1; omega
    rw [winA_some b1008 2 hlt1017] at h1014
    refine dr_start (KB := [bl, bq, b2, b14, b1008]) (Bi := [[0, 1, 2, 3, 4], [0, 1, 2, 3, 4], [0, 1, 2, 3, 4], [0, 1, 2, 3, 4], [0, 1, 2, 3, 4], [0, 1, 2, 3, 4], [0, 1, 2, 3, 4], [0, 1, 2, 3, 4], [0, 1, 2, 3, 4], [0, 1, 2, 3, 4], [0, 1, 2, 3, 4], [0, 1, 2, 3, 4]]) mixed h1014 fun w1018 h1019 => ?_
    clear h1014
    refine dr_batch tabOk tabZ_ok (by repeat (first | exact PF.body | with_reducible apply PF.inB | with_reducible apply PF.next)) [(0, {}), (1, {}), (2, {f := 2}), (3, {}), (4, {}), (5, {}), (6, {}), (7, {k := 4, m := 1, vs := [.int .i64 x.idx], p := 4}), (8, {}), (9, {k := 3, p := 3}), (10, {}), (11, {})] [0, 1, 4, 5, 6, 7, 8, 35] (T' := [(0, .pointer (some ⟨bl, 0, none⟩)), (1, .pointer (some ⟨bq, off, none⟩)), (4, .pointer (some ⟨b2, 0, none⟩)), (5, .pointer (some ⟨b14, 0, none⟩)), (6, .int .i64 p.idx), (7, .slice (some ⟨b1008, (j * 2), none⟩) (lg.mks.length - j) (mc - j)), (8, .slice (some ⟨bq, 0, none⟩) lg.sns.length sc), (35, .bool (decide (x.idx < p.idx)))]) (φ := (decide ((((lg.mks.length - j) : Nat) : Int) > 0)) = true ∧ (0 ≤ (0 : Int) ∧ (0 : Int) < (((lg.mks.length - j) : Nat) : Int)) ∧ (b1008 = b1008 ∧ cellsAre cs1009 (j * 2) [.int .i64 x.idx]) ∧ (b14 = b14 ∧ Nat.ble (14 + 1) 15 = true) ∧ True) (fuel := 0) h1019 (by kernel_rfl) rfl (by kernel_rfl) (by kernel_rfl) ⟨trivial, trivial, trivial, trivial, trivial, trivial, trivial, rfl, trivial, rfl, trivial, trivial, trivial⟩ ⟨hb1007, ⟨by omega, by omega⟩, ⟨rfl, ⟨(hc1012).1, trivial⟩⟩, ⟨rfl, rfl⟩, trivial⟩ fun a1021 h1022 => ?_
    clear h1019
    refine wpAnyK_done (by kernel_rfl) ?_ _
    refine hK1006 _ _ ?_
    clear hK1006
    refine c_split h1022 (b := decide (x.idx < p.idx)) rfl (fun hc1023 => ?_) (fun hc1023 => ?_)
    ·
      have hc1023f : x.idx < p.idx := by simpa using hc1023
      refine wp_skip ?_
      refine hK1005 _ _ ?_
      clear hK1005
      refine wp_block ?_
      refine nd_start (l := [0, 1, 2]) rfl ?_
      refine nd_batch tabOk tabZ_ok [(0, {}), (1, {}), (2, {})] [0, 1, 4, 5, 6, 8, 7] (T' := [(0, .pointer (some ⟨bl, 0, none⟩)), (1, .pointer (some ⟨bq, off, none⟩)), (4, .pointer (some ⟨b2, 0, none⟩)), (5, .pointer (some ⟨b14, 0, none⟩)), (6, .int .i64 p.idx), (8, .slice (some ⟨bq, 0, none⟩) lg.sns.length sc), (7, .slice (sliceBase (some ⟨b1008, (j * 2), none⟩) (mc - j) 1 2) ((lg.mks.length - j) - 1) ((mc - j) - 1))]) (φ := (0 ≤ (1 : Int) ∧ (1 : Int) ≤ (((lg.mks.length - j) : Nat) : Int)) ∧ True) (rest := []) h1022 (by kernel_rfl) rfl ⟨⟨by omega, by omega⟩, trivial⟩ fun a1024 h1025 => ?_
      clear h1022
      refine nd_done ?_
      have h1026 := h1025.memMono (L' := [(bl, ⟨logC lg.base (.slice eo lg.evs.length ec) (.slice (some ⟨b1008, 0, none⟩) lg.mks.length mc) (.slice (some ⟨bq, 0, none⟩) lg.sns.length sc), 89, true⟩), (bq, ⟨cs', 84, true⟩), (b2, ⟨[.int .i64 0, .int .i64 0, .int .i64 0], 114, false⟩), (b14, ⟨[.int .u64 p.st.now, .int .i8 p.st.cur, .int .u8 p.st.s0, .int .u8 p.st.s1, .int .u8 p.st.s2, .int .u8 p.st.s3, .int .u64 p.st.r0, .int .u64 p.st.r1, .int .u64 p.st.r2, .int .u64 p.st.r3, .int .u64 p.st.word, .bool p.out.refused, .int .i8 p.out.running, .int .u64 p.out.value, .int .i64 p.idx], 105, false⟩)]) (List.Sublist.cons_cons _ (List.Sublist.cons_cons _ (List.Sublist.cons_cons _ (List.Sublist.cons_cons _ (List.Sublist.cons _ List.Sublist.slnil)))))
      clear h1025
      have e1027 : sliceBase (some ⟨b1008, (j * 2), none⟩) (mc - j) 1 2 = winA (some ⟨b1008, 0, none⟩) mc (j + 1) 2 := by rw [← winA_some b1008 2 hlt1017]; exact winA_succ 2 (.inr ⟨b1008, rfl⟩) hlt1017
      have e1028 : lg.mks.length - j - 1 = lg.mks.length - (j + 1) := by omega
      have e1029 : mc - j - 1 = mc - (j + 1) := by omega
      rw [e1027, e1028, e1029] at h1026
      exact ⟨(g - 1), by omega, (j + 1), by omega, by omega, by intro z hz; rw [Sx.take_snoc hx] at hz; rcases List.mem_append.1 hz with hz | hz; exact hi1004 z hz; simp at hz; subst hz; exact hc1023f, (h1026.slotsMono (restr_spec (keep := [0, 1, 4, 5, 6, 7, 8]) rfl))⟩
    ·
      have hc1023f : ¬ x.idx < p.idx := by simpa using hc1023
      refine wp_exit ?_
      rw [← winA_some b1008 2 hlt1017] at h1022
      exact hm32 j _ _ hi1002 hi1004 (by intro z hz; rw [hx] at hz; cases hz; exact hc1023f) ((h1022.memMono (List.Sublist.cons_cons _ (List.Sublist.cons_cons _ (List.Sublist.cons_cons _ (List.Sublist.cons_cons _ (List.Sublist.cons _ List.Sublist.slnil)))))).slotsMono (restr_spec (keep := [0, 1, 4, 5, 6, 7, 8]) rfl))
  ·
    have hb1007f : ¬ ((((lg.mks.length - j) : Nat) : Int) > 0) := by simpa using hb1007
    refine dr_start (KB := [bl, bq, b2, b14]) (Bi := [[0, 1, 2, 3], [0, 1, 2, 3], [0, 1, 2, 3], [0, 1, 2, 3], [0, 1, 2, 3], [0, 1, 2, 3], [0, 1, 2, 3], [0, 1, 2, 3], [0, 1, 2, 3], [0, 1, 2, 3], [0, 1, 2, 3], [0, 1, 2, 3]]) mixed h1001 fun w1030 h1031 => ?_
    clear h1001
    refine dr_batch tabOk tabZ_ok (by repeat (first | exact PF.body | with_reducible apply PF.inB | with_reducible apply PF.next)) [(0, {}), (1, {}), (2, {f := 1}), (3, {}), (4, {}), (5, {}), (6, {}), (7, {k := 0, p := 0}), (8, {}), (9, {k := 0, p := 0}), (10, {}), (11, {})] [0, 1, 4, 5, 6, 7, 8, 35] (T' := [(0, .pointer (some ⟨bl, 0, none⟩)), (1, .pointer (some ⟨bq, off, none⟩)), (4, .pointer (some ⟨b2, 0, none⟩)), (5, .pointer (some ⟨b14, 0, none⟩)), (6, .int .i64 p.idx), (7, .slice (winA mo mc j 2) (lg.mks.length - j) (mc - j)), (8, .slice (some ⟨bq, 0, none⟩) lg.sns.length sc), (35, .bool false)]) (φ := (decide ((((lg.mks.length - j) : Nat) : Int) > 0)) = false ∧ True) (fuel := 0) h1031 (by kernel_rfl) rfl (by kernel_rfl) (by kernel_rfl) ⟨trivial, trivial, trivial, trivial, trivial, trivial, trivial, rfl, trivial, rfl, trivial, trivial, trivial⟩ ⟨hb1007, trivial⟩ fun a1033 h1034 => ?_
    clear h1031
    refine wpAnyK_done (by kernel_rfl) ?_ _
    refine hK1006 _ _ ?_
    clear hK1006
    refine c_false h1034 rfl ?_
    refine wp_exit ?_
    exact hm32 j _ _ hi1002 hi1004 (by intro z hz; have := (List.getElem?_eq_some_iff.1 hz).1; omega) (h1034.slotsMono (restr_spec (keep := [0, 1, 4, 5, 6, 7, 8]) rfl))

end Go.Proofs.Qxb6500919aFmt
