/-
  The size guard, the points of a log. (Made by program: a symbolic walk that prints its steps.)
-/
import Derived.Test.Qxb6500919aTab
import Derived.Test.Qxb6500919aLw
import Derived.Test.Qxb6500919aW1
import Derived.Test.Qxb6500919aW2
import Derived.Test.Qxb6500919aW3
import Derived.Test.Qxb6500919aW4
namespace Go.Proofs.Qxb6500919a
open Go.Sx Go.Rp
set_option maxRecDepth 100000
set_option maxHeartbeats 4000000
set_option linter.unusedVariables false
set_option linter.unusedSimpArgs false

theorem small_ok (o : Option Addr) (n c : Nat) (w : World) : Calls Try.prog 9 #[.slice o n c] w fun e w' => e = .returned (.bool (decide (n ≤ 65536))) ∧ Fr [] w w' := by
  refine enter0 (n := 8) (K := []) (T := [(0, .slice o n c)]) (L := []) (args := [.slice o n c]) Try.func9 rfl rfl rfl rfl knil (by simp) knil ?_
  intro a h
  refine wp_seq_k fun K1 hK1 => ?_
  refine nd_start (l := [0]) rfl ?_
  refine nd_batch tabOk tabZ_ok [(0, {})] [0, 2] (T' := [(0, .slice o n c), (2, .bool false)]) (φ := True) (rest := []) h (by kernel_rfl) rfl trivial fun a2 h3 => ?_
  clear h
  refine nd_done ?_
  refine hK1 _ _ ?_
  clear hK1
  refine wp_seq_k fun K4 hK4 => ?_
  refine nd_start (l := [0, 1, 2]) rfl ?_
  refine nd_batch tabOk tabZ_ok [(0, {}), (1, {}), (2, {})] [0, 2, 3] (T' := [(0, .slice o n c), (2, .bool false), (3, .int .i64 ((n : Nat) : Int))]) (φ := True) (rest := []) h3 (by kernel_rfl) rfl trivial fun a5 h6 => ?_
  clear h3
  refine nd_done ?_
  refine hK4 _ _ ?_
  clear hK4
  refine wp_seq_k fun K7 hK7 => ?_
  refine wp_seq_k fun K8 hK8 => ?_
  refine nd_start (l := [0, 1]) rfl ?_
  refine nd_batch tabOk tabZ_ok [(0, {}), (1, {})] [0, 2, 3, 7] (T' := [(0, .slice o n c), (2, .bool false), (3, .int .i64 ((n : Nat) : Int)), (7, .bool (decide (((n : Nat) : Int) > 65536)))]) (φ := True) (rest := []) h6 (by kernel_rfl) rfl trivial fun a9 h10 => ?_
  clear h6
  refine nd_done ?_
  refine hK8 _ _ ?_
  clear hK8
  refine c_split h10 (b := decide (((n : Nat) : Int) > 65536)) rfl (fun hc11 => ?_) (fun hc11 => ?_)
  ·
    have hc11f : ((n : Nat) : Int) > 65536 := by simpa using hc11
    refine wp_seq_k fun K12 hK12 => ?_
    refine nd_start (l := [0]) rfl ?_
    refine nd_batch tabOk tabZ_ok [(0, {})] [0, 3, 2] (T' := [(0, .slice o n c), (3, .int .i64 ((n : Nat) : Int)), (2, .bool false)]) (φ := True) (rest := []) h10 (by kernel_rfl) rfl trivial fun a13 h14 => ?_
    clear h10
    refine nd_done ?_
    refine hK12 _ _ ?_
    clear hK12
    refine wp_ret ?_
    try simp only [Exit.then, Exit.inBlock]
    try rw [if_pos trivial]
    exact s_ret tabOk tabZ_ok h14 [(.tmp 2, {})] (vs := [.bool false]) (φ := True) rfl (by kernel_rfl) trivial ⟨by rw [show decide (n ≤ 65536) = false by simp; omega]; rfl, h14.frame⟩
  ·
    have hc11f : ¬ ((n : Nat) : Int) > 65536 := by simpa using hc11
    refine wp_skip ?_
    refine hK7 _ _ ?_
    clear hK7
    refine wp_seq_k fun K15 hK15 => ?_
    refine nd_start (l := [0]) rfl ?_
    refine nd_batch tabOk tabZ_ok [(0, {})] [0, 3, 2] (T' := [(0, .slice o n c), (3, .int .i64 ((n : Nat) : Int)), (2, .bool true)]) (φ := True) (rest := []) h10 (by kernel_rfl) rfl trivial fun a16 h17 => ?_
    clear h10
    refine nd_done ?_
    refine hK15 _ _ ?_
    clear hK15
    refine wp_ret ?_
    try simp only [Exit.then, Exit.inBlock]
    try rw [if_pos trivial]
    exact s_ret tabOk tabZ_ok h17 [(.tmp 2, {})] (vs := [.bool true]) (φ := True) rfl (by kernel_rfl) trivial ⟨by rw [show decide (n ≤ 65536) = true by simp; omega]; rfl, h17.frame⟩

theorem points_ok (bl : Nat) (d : Hd) (lg : Lg) (w : World) (hl : LogAt w bl d lg) (hsl : lg.sns.length ≤ 1000) :
    Calls Try.prog 19 #[.pointer (some ⟨bl, 0, none⟩)] w fun e w' => ∃ o c F, e = .returned (.slice o (ptsOf lg.base.idx lg.sns).length c) ∧ (rl i64C 3 1 (ptsOf lg.base.idx lg.sns) o c F).at w' ∧ Fr [] w w' ∧ ∀ b ∈ F, w.heap.size ≤ b := by
  obtain ⟨eo, ec, eF, mo, mc, mF, so, sc, sF⟩ := d
  obtain ⟨hbl, hA, hsep⟩ := hl
  refine enter (n := 36) (K := []) (A := Rws [rl evC 33 3 lg.evs eo ec eF, rl mkC 78 2 lg.mks mo mc mF, rl ptC 66 15 lg.sns so sc sF]) (F := Ff [rl evC 33 3 lg.evs eo ec eF, rl mkC 78 2 lg.mks mo mc mF, rl ptC 66 15 lg.sns so sc sF]) (T := [(0, .pointer (some ⟨bl, 0, none⟩))]) (L := [(bl, ⟨logC lg.base (.slice eo lg.evs.length ec) (.slice mo lg.mks.length mc) (.slice so lg.sns.length sc), 69, true⟩)]) (args := [.pointer (some ⟨bl, 0, none⟩)]) Try.func19 rfl rfl rfl rfl (kcons hbl knil) (by simp) (kcons (by intro hq; cases hq) knil) hA Rws.stable (hA).low (kcons (by intro hq; cases hq) knil) ?_
  intro a h
  refine wp_seq_k fun K1 hK1 => ?_
  refine nd_start (l := [0]) rfl ?_
  refine nd_batch tabOk tabZ_ok [(0, {})] [0, 2] (T' := [(0, .pointer (some ⟨bl, 0, none⟩)), (2, .slice none 0 0)]) (φ := True) (rest := []) h (by kernel_rfl) rfl trivial fun a2 h3 => ?_
  clear h
  refine nd_done ?_
  refine hK1 _ _ ?_
  clear hK1
  refine wp_seq_k fun K4 hK4 => ?_
  refine nd_start (l := [0, 1, 2, 3, 4, 5, 6]) rfl ?_
  refine nd_batch tabOk tabZ_ok [(0, {}), (1, {}), (2, {}), (3, {}), (4, {k := 0})] [0, 2, 10] (T' := [(0, .pointer (some ⟨bl, 0, none⟩)), (2, .slice none 0 0), (10, .int .i64 lg.base.idx)]) (φ := (bl = bl ∧ Nat.ble (0 + 1) 18 = true) ∧ True) (rest := [5, 6]) h3 (by kernel_rfl) rfl ⟨⟨rfl, rfl⟩, trivial⟩ fun a5 h6 => ?_
  clear h3
  refine nd_op ?_
  refine op_new tabOk (cells := [.int .i64 lg.base.idx]) (ty := 3) (ln := (some 1)) (L1 := fun b7 => [(bl, ⟨logC lg.base (.slice eo lg.evs.length ec) (.slice mo lg.mks.length mc) (.slice so lg.sns.length sc), 69, true⟩), (b7, ⟨[.int .i64 lg.base.idx], 3, false⟩)]) h6 rfl rfl rfl rfl (by kernel_rfl) (fun _ => rfl) fun b7 w8 a9 h10 hf11 hn12 => ?_
  clear h6
  refine nd_batch tabOk tabZ_ok [(6, {})] [0, 2, 3] (T' := [(0, .pointer (some ⟨bl, 0, none⟩)), (2, .slice none 0 0), (3, .slice (some ⟨b7, 0, none⟩) 1 1)]) (φ := True) (rest := []) h10 (by kernel_rfl) rfl trivial fun a13 h14 => ?_
  clear h10
  refine nd_done ?_
  refine hK4 _ _ ?_
  clear hK4
  refine wp_seq_k fun K15 hK15 => ?_
  refine wp_seq_k fun K16 hK16 => ?_
  refine nd_start (l := [0, 1, 2, 3, 4, 5]) rfl ?_
  refine nd_batch tabOk tabZ_ok [(0, {}), (1, {}), (2, {}), (3, {k := 0}), (4, {}), (5, {})] [0, 2, 3, 15, 16, 17] (T' := [(0, .pointer (some ⟨bl, 0, none⟩)), (2, .slice none 0 0), (3, .slice (some ⟨b7, 0, none⟩) 1 1), (15, .slice so lg.sns.length sc), (16, .int .i64 ((lg.sns.length : Nat) : Int)), (17, .int .i64 0)]) (φ := (bl = bl ∧ Nat.ble (17 + 1) 18 = true) ∧ True) (rest := []) h14 (by kernel_rfl) rfl ⟨⟨rfl, rfl⟩, trivial⟩ fun a17 h18 => ?_
  clear h14
  refine nd_done ?_
  refine hK16 _ _ ?_
  clear hK16
  refine wp_block ?_
  have h19 := h18.rowOf (L := [(bl, ⟨logC lg.base (.slice eo lg.evs.length ec) (.slice mo lg.mks.length mc) (.slice so lg.sns.length sc), 69, true⟩)]) (r := rl i64C 3 1 (ptsOf lg.base.idx []) (some ⟨b7, 0, none⟩) 1 ([b7])) rfl ⟨rfl, .inr ⟨b7, [.int .i64 lg.base.idx], rfl, h18.kn (k := 1) (blk := ⟨[.int .i64 lg.base.idx], 3, false⟩) rfl, rfl, Nat.le_refl _, rfl, rfl⟩⟩
  have hfresh : ∀ x ∈ [b7], x ∈ ([] : List Nat) ∨ w.heap.size ≤ x := by intro x hx; simp at hx; subst hx; exact .inr (h18.newer (k := 1) rfl rfl)
  clear h18
  refine wp_loop_ghost (fun g ga gw => ∃ (k : Nat) (o1 : Option Addr) (c1 : Nat) (F1 : List Nat), (k ≤ lg.sns.length) ∧ (g = lg.sns.length - k) ∧ (∀ x ∈ F1, x ∈ ([] : List Nat) ∨ w.heap.size ≤ x) ∧ St ⟨36, [], w, Rws [rl evC 33 3 lg.evs eo ec eF, rl mkC 78 2 lg.mks mo mc mF, rl ptC 66 15 lg.sns so sc sF, rl i64C 3 1 (ptsOf lg.base.idx (lg.sns.take k)) o1 c1 F1], Ff [rl evC 33 3 lg.evs eo ec eF, rl mkC 78 2 lg.mks mo mc mF, rl ptC 66 15 lg.sns so sc sF, rl i64C 3 1 (ptsOf lg.base.idx (lg.sns.take k)) o1 c1 F1]⟩ [(0, .pointer (some ⟨bl, 0, none⟩)), (3, .slice o1 ((ptsOf lg.base.idx (lg.sns.take k)).length) c1), (15, .slice so lg.sns.length sc), (16, .int .i64 ((lg.sns.length : Nat) : Int)), (17, .int .i64 ((k : Nat) : Int))] [(bl, ⟨logC lg.base (.slice eo lg.evs.length ec) (.slice mo lg.mks.length mc) (.slice so lg.sns.length sc), 69, true⟩)] ga gw) lg.sns.length ⟨0, (some ⟨b7, 0, none⟩), 1, [b7], Nat.zero_le _, rfl, hfresh, (by simp only [List.take_zero]; exact (h19.slotsMono (restr_spec (keep := [0, 3, 15, 16, 17]) rfl)))⟩ ?_
  clear h19
  rintro g a20 w21 ⟨k, o1, c1, F1, hi23, hi24, hi25, h22⟩
  have hFK1 := hi25
  have hkl := ptsOf_len lg.base.idx (lg.sns.take k)
  have hkt : (lg.sns.take k).length ≤ k := by rw [List.length_take]; omega
  refine wp_seq_k fun K26 hK26 => ?_
  refine nd_start (l := [0]) rfl ?_
  refine nd_batch tabOk tabZ_ok [(0, {})] [0, 3, 15, 16, 17, 18] (T' := [(0, .pointer (some ⟨bl, 0, none⟩)), (3, .slice o1 ((ptsOf lg.base.idx (lg.sns.take k)).length) c1), (15, .slice so lg.sns.length sc), (16, .int .i64 ((lg.sns.length : Nat) : Int)), (17, .int .i64 ((k : Nat) : Int)), (18, .bool (decide (((k : Nat) : Int) < ((lg.sns.length : Nat) : Int))))]) (φ := True) (rest := []) h22 (by kernel_rfl) rfl trivial fun a27 h28 => ?_
  clear h22
  refine nd_done ?_
  refine hK26 _ _ ?_
  clear hK26
  refine wp_seq_k fun K29 hK29 => ?_
  refine c_split h28 (b := decide (((k : Nat) : Int) < ((lg.sns.length : Nat) : Int))) rfl (fun hc30 => ?_) (fun hc30 => ?_)
  ·
    have hc30f : ((k : Nat) : Int) < ((lg.sns.length : Nat) : Int) := by simpa using hc30
    obtain ⟨x, hx⟩ := Sx.get_some (xs := lg.sns) (i := k) (by omega)
    obtain ⟨b31, cs32, ho33, hb34, hc35, hF36, hq38, hl39⟩ := rl_open (h28.inv.get (j := 2) rfl) ptC_len hx
    subst ho33 hF36
    have h37 := h28.open_ hb34 (h28.notinL (by simp [Ff]) (kcons (fun _ => (fun hq => hsep (by have hq2 : bl = b31 := hq; rw [hq2]; simp [Hd.F]))) knil))
    clear h28
    refine wp_skip ?_
    refine hK29 _ _ ?_
    clear hK29
    refine wp_seq_k fun K40 hK40 => ?_
    refine wp_block ?_
    refine wp_seq_k fun K41 hK41 => ?_
    refine nd_start (l := [0, 1, 2, 3]) rfl ?_
    refine nd_batch tabOk tabZ_ok [(0, {}), (1, {k := 1, m := 1, vs := [.int .i64 x.idx, .int .u64 x.st.now, .int .i8 x.st.cur, .int .u8 x.st.s0, .int .u8 x.st.s1, .int .u8 x.st.s2, .int .u8 x.st.s3, .int .u64 x.st.r0, .int .u64 x.st.r1, .int .u64 x.st.r2, .int .u64 x.st.r3, .int .u64 x.st.word, .bool x.out.refused, .int .i8 x.out.running, .int .u64 x.out.value]})] [0, 3, 15, 16, 17, 20] (T' := [(0, .pointer (some ⟨bl, 0, none⟩)), (3, .slice o1 ((ptsOf lg.base.idx (lg.sns.take k)).length) c1), (15, .slice (some ⟨b31, 0, none⟩) lg.sns.length sc), (16, .int .i64 ((lg.sns.length : Nat) : Int)), (17, .int .i64 ((k : Nat) : Int)), (20, .agg #[.int .i64 x.idx, .int .u64 x.st.now, .int .i8 x.st.cur, .int .u8 x.st.s0, .int .u8 x.st.s1, .int .u8 x.st.s2, .int .u8 x.st.s3, .int .u64 x.st.r0, .int .u64 x.st.r1, .int .u64 x.st.r2, .int .u64 x.st.r3, .int .u64 x.st.word, .bool x.out.refused, .int .i8 x.out.running, .int .u64 x.out.value])]) (φ := (0 ≤ ((k : Nat) : Int) ∧ ((k : Nat) : Int) < ((lg.sns.length : Nat) : Int)) ∧ (b31 = b31 ∧ cellsAre cs32 (0 + (k * 15)) [.int .i64 x.idx, .int .u64 x.st.now, .int .i8 x.st.cur, .int .u8 x.st.s0, .int .u8 x.st.s1, .int .u8 x.st.s2, .int .u8 x.st.s3, .int .u64 x.st.r0, .int .u64 x.st.r1, .int .u64 x.st.r2, .int .u64 x.st.r3, .int .u64 x.st.word, .bool x.out.refused, .int .i8 x.out.running, .int .u64 x.out.value]) ∧ True) (rest := [2, 3]) h37 (by kernel_rfl) rfl ⟨⟨by omega, by omega⟩, ⟨rfl, (by rw [Nat.zero_add]; exact hc35)⟩, trivial⟩ fun a42 h43 => ?_
    clear h37
    refine nd_op ?_
    refine op_new tabOk (cells := [.int .i64 0, .int .u64 0, .int .i8 0, .int .u8 0, .int .u8 0, .int .u8 0, .int .u8 0, .int .u64 0, .int .u64 0, .int .u64 0, .int .u64 0, .int .u64 0, .bool false, .int .i8 0, .int .u64 0]) (ty := 66) (ln := none) (L1 := fun b44 => [(bl, ⟨logC lg.base (.slice eo lg.evs.length ec) (.slice mo lg.mks.length mc) (.slice (some ⟨b31, 0, none⟩) lg.sns.length sc), 69, true⟩), (b31, ⟨cs32, 66, true⟩), (b44, ⟨[.int .i64 0, .int .u64 0, .int .i8 0, .int .u8 0, .int .u8 0, .int .u8 0, .int .u8 0, .int .u64 0, .int .u64 0, .int .u64 0, .int .u64 0, .int .u64 0, .bool false, .int .i8 0, .int .u64 0], 66, false⟩)]) h43 rfl rfl rfl rfl (by kernel_rfl) (fun _ => rfl) fun b44 w45 a46 h47 hf48 hn49 => ?_
    clear h43
    refine nd_op ?_
    refine op_store tabOk {k := 2} (L' := [(bl, ⟨logC lg.base (.slice eo lg.evs.length ec) (.slice mo lg.mks.length mc) (.slice (some ⟨b31, 0, none⟩) lg.sns.length sc), 69, true⟩), (b31, ⟨cs32, 66, true⟩), (b44, ⟨[.int .i64 x.idx, .int .u64 x.st.now, .int .i8 x.st.cur, .int .u8 x.st.s0, .int .u8 x.st.s1, .int .u8 x.st.s2, .int .u8 x.st.s3, .int .u64 x.st.r0, .int .u64 x.st.r1, .int .u64 x.st.r2, .int .u64 x.st.r3, .int .u64 x.st.word, .bool x.out.refused, .int .i8 x.out.running, .int .u64 x.out.value], 66, false⟩)]) (φ := b44 = b44 ∧ Nat.ble (0 + 15) 15 = true) h47 rfl rfl rfl (by kernel_rfl) ⟨rfl, rfl⟩ fun w50 h51 => ?_
    clear h47
    refine nd_done ?_
    refine hK41 _ _ ?_
    clear hK41
    refine wp_seq_k fun K52 hK52 => ?_
    refine dr_start (KB := [bl, b31, b44]) (Bi := [[0, 1, 2], [0, 1, 2], [0, 1, 2], [0, 1, 2], [0, 1, 2], [0, 1, 2], [0, 1, 2], [0, 1, 2]]) mixed h51 fun w53 h54 => ?_
    clear h51
    refine dr_batch tabOk tabZ_ok (by repeat (first | exact PF.body | with_reducible apply PF.inB | with_reducible apply PF.next)) [(0, {}), (1, {k := 2, p := 2}), (2, {}), (3, {}), (4, {}), (5, {}), (6, {k := 0, p := 0}), (7, {})] [5, 0, 3, 15, 16, 17, 28] (T' := [(5, .pointer (some ⟨b44, 0, none⟩)), (0, .pointer (some ⟨bl, 0, none⟩)), (3, .slice o1 ((ptsOf lg.base.idx (lg.sns.take k)).length) c1), (15, .slice (some ⟨b31, 0, none⟩) lg.sns.length sc), (16, .int .i64 ((lg.sns.length : Nat) : Int)), (17, .int .i64 ((k : Nat) : Int)), (28, .bool (x.idx != lg.base.idx))]) (φ := (b44 = b44 ∧ Nat.ble (0 + 1) 15 = true) ∧ (bl = bl ∧ Nat.ble (0 + 1) 18 = true) ∧ True) (fuel := 0) h54 (by kernel_rfl) rfl (by kernel_rfl) (by kernel_rfl) ⟨trivial, rfl, trivial, trivial, trivial, trivial, rfl, trivial, trivial⟩ ⟨⟨rfl, rfl⟩, ⟨rfl, rfl⟩, trivial⟩ fun a56 h57 => ?_
    clear h54
    refine wpAnyK_done (by kernel_rfl) ?_ _
    refine hK52 _ _ ?_
    clear hK52
    refine c_split h57 (b := (x.idx != lg.base.idx)) rfl (fun hc58 => ?_) (fun hc58 => ?_)
    ·
      have hc58f : x.idx ≠ lg.base.idx := by simpa using hc58
      have hxb : x.idx ≠ lg.base.idx := hc58f
      have h59 := h57.memMono (L' := [(bl, ⟨logC lg.base (.slice eo lg.evs.length ec) (.slice mo lg.mks.length mc) (.slice (some ⟨b31, 0, none⟩) lg.sns.length sc), 69, true⟩), (b44, ⟨[.int .i64 x.idx, .int .u64 x.st.now, .int .i8 x.st.cur, .int .u8 x.st.s0, .int .u8 x.st.s1, .int .u8 x.st.s2, .int .u8 x.st.s3, .int .u64 x.st.r0, .int .u64 x.st.r1, .int .u64 x.st.r2, .int .u64 x.st.r3, .int .u64 x.st.word, .bool x.out.refused, .int .i8 x.out.running, .int .u64 x.out.value], 66, false⟩)]) (List.Sublist.cons_cons _ (List.Sublist.cons _ (List.Sublist.cons_cons _ List.Sublist.slnil)))
      clear h57
      refine nd_start (l := [0, 1, 2, 3, 4, 5]) rfl ?_
      refine nd_batch tabOk tabZ_ok [(0, {}), (1, {}), (2, {k := 1})] [5, 0, 3, 15, 16, 17, 29, 31] (T' := [(5, .pointer (some ⟨b44, 0, none⟩)), (0, .pointer (some ⟨bl, 0, none⟩)), (3, .slice o1 ((ptsOf lg.base.idx (lg.sns.take k)).length) c1), (15, .slice (some ⟨b31, 0, none⟩) lg.sns.length sc), (16, .int .i64 ((lg.sns.length : Nat) : Int)), (17, .int .i64 ((k : Nat) : Int)), (29, .slice o1 ((ptsOf lg.base.idx (lg.sns.take k)).length) c1), (31, .int .i64 x.idx)]) (φ := (b44 = b44 ∧ Nat.ble (0 + 1) 15 = true) ∧ True) (rest := [3, 4, 5]) h59 (by kernel_rfl) rfl ⟨⟨rfl, rfl⟩, trivial⟩ fun a60 h61 => ?_
      clear h59
      refine nd_op ?_
      refine op_new tabOk (cells := [.int .i64 x.idx]) (ty := 3) (ln := (some 1)) (L1 := fun b62 => [(bl, ⟨logC lg.base (.slice eo lg.evs.length ec) (.slice mo lg.mks.length mc) (.slice (some ⟨b31, 0, none⟩) lg.sns.length sc), 69, true⟩), (b44, ⟨[.int .i64 x.idx, .int .u64 x.st.now, .int .i8 x.st.cur, .int .u8 x.st.s0, .int .u8 x.st.s1, .int .u8 x.st.s2, .int .u8 x.st.s3, .int .u64 x.st.r0, .int .u64 x.st.r1, .int .u64 x.st.r2, .int .u64 x.st.r3, .int .u64 x.st.word, .bool x.out.refused, .int .i8 x.out.running, .int .u64 x.out.value], 66, false⟩), (b62, ⟨[.int .i64 x.idx], 3, false⟩)]) h61 rfl rfl rfl rfl (by kernel_rfl) (fun _ => rfl) fun b62 w63 a64 h65 hf66 hn67 => ?_
      clear h61
      refine nd_op ?_
      refine op_append tabOk (e := 3) (so := o1) (n := (ptsOf lg.base.idx (lg.sns.take k)).length) (c := c1) (xo := some ⟨b62, 0, none⟩) (m := 1) (cx := 1) (vals := (ptsOf lg.base.idx (lg.sns.take k)).flatMap i64C) (vs := [.int .i64 x.idx]) (F := F1) h65 rfl rfl rfl rfl rfl rfl rfl rfl rfl rfl rfl rfl (h65.inv.get (j := 3) rfl) (src_one (h65.kn (k := 2) rfl) rfl ⟨rfl, trivial⟩) (by omega) rfl ?_
      intro o68 c69 F70 w71 hr72 hf73 hF74
      have hr722 := rl_app1 (enc := i64C) (xs := ptsOf lg.base.idx (lg.sns.take k)) (y := x.idx) hr72
      have hKh75 := row1_keys (K := []) hFK1 h65.frame.size hF74
      rw [show (ptsOf lg.base.idx (lg.sns.take k)).length + 1 = (ptsOf lg.base.idx (lg.sns.take k) ++ [x.idx]).length by simp]
      have h75 := (h65.rowSet (j := 3) (r' := rl i64C 3 1 (ptsOf lg.base.idx (lg.sns.take k) ++ [x.idx]) o68 c69 F70) (R' := [rl evC 33 3 lg.evs eo ec eF, rl mkC 78 2 lg.mks mo mc mF, rl ptC 66 15 lg.sns (some ⟨b31, 0, none⟩) sc ([b31]), rl i64C 3 1 (ptsOf lg.base.idx (lg.sns.take k) ++ [x.idx]) o68 c69 F70]) rfl hr722 hf73 hF74 hFK1 (kcons (fun _ => (notinK hFK1 (by simp) (lt_of_heap hbl))) (kcons (by intro hq; cases hq) (kcons (by intro hq; cases hq) knil))) rfl).put (d := some 33) (v := .slice o68 ((ptsOf lg.base.idx (lg.sns.take k) ++ [x.idx]).length) c69) (T' := [(33, .slice o68 ((ptsOf lg.base.idx (lg.sns.take k) ++ [x.idx]).length) c69), (32, .slice (some ⟨b62, 0, none⟩) 1 1), (5, .pointer (some ⟨b44, 0, none⟩)), (0, .pointer (some ⟨bl, 0, none⟩)), (3, .slice o1 ((ptsOf lg.base.idx (lg.sns.take k)).length) c1), (15, .slice (some ⟨b31, 0, none⟩) lg.sns.length sc), (16, .int .i64 ((lg.sns.length : Nat) : Int)), (17, .int .i64 ((k : Nat) : Int)), (29, .slice o1 ((ptsOf lg.base.idx (lg.sns.take k)).length) c1), (31, .int .i64 x.idx)]) rfl
      clear h65
      refine nd_batch tabOk tabZ_ok [(5, {})] [5, 0, 15, 16, 17, 3] (T' := [(5, .pointer (some ⟨b44, 0, none⟩)), (0, .pointer (some ⟨bl, 0, none⟩)), (15, .slice (some ⟨b31, 0, none⟩) lg.sns.length sc), (16, .int .i64 ((lg.sns.length : Nat) : Int)), (17, .int .i64 ((k : Nat) : Int)), (3, .slice o68 ((ptsOf lg.base.idx (lg.sns.take k) ++ [x.idx]).length) c69)]) (φ := True) (rest := []) h75 (by kernel_rfl) rfl trivial fun a76 h77 => ?_
      clear h75
      refine nd_done ?_
      refine hK40 _ _ ?_
      clear hK40
      refine nd_start (l := [0, 1]) rfl ?_
      refine nd_batch tabOk tabZ_ok [(0, {}), (1, {})] [5, 0, 15, 16, 3, 17] (T' := [(5, .pointer (some ⟨b44, 0, none⟩)), (0, .pointer (some ⟨bl, 0, none⟩)), (15, .slice (some ⟨b31, 0, none⟩) lg.sns.length sc), (16, .int .i64 ((lg.sns.length : Nat) : Int)), (3, .slice o68 ((ptsOf lg.base.idx (lg.sns.take k) ++ [x.idx]).length) c69), (17, .int .i64 (((k : Nat) : Int) + 1))]) (φ := inR .i64 (((k : Nat) : Int) + 1) ∧ True) (rest := []) h77 (by kernel_rfl) rfl ⟨⟨by omega, by omega⟩, trivial⟩ fun a78 h79 => ?_
      clear h77
      refine nd_done ?_
      have h80 := h79.memMono (L' := [(bl, ⟨logC lg.base (.slice eo lg.evs.length ec) (.slice mo lg.mks.length mc) (.slice (some ⟨b31, 0, none⟩) lg.sns.length sc), 69, true⟩)]) (List.Sublist.cons_cons _ (List.Sublist.cons _ (List.Sublist.cons _ List.Sublist.slnil)))
      clear h79
      have e1 : ptsOf lg.base.idx (lg.sns.take k) ++ [x.idx] = ptsOf lg.base.idx (lg.sns.take (k + 1)) := by rw [Sx.take_snoc hx]; simp [ptsOf, hxb]
      rw [e1] at h80
      exact ⟨(g - 1), by omega, (k + 1), o68, c69, F70, by omega, by omega, hKh75, (h80.slotsMono (restr_spec (keep := [0, 3, 15, 16, 17]) rfl))⟩
    ·
      have hc58f : x.idx = lg.base.idx := by simpa using hc58
      have hxb : x.idx = lg.base.idx := hc58f
      have h81 := h57.memMono (L' := [(bl, ⟨logC lg.base (.slice eo lg.evs.length ec) (.slice mo lg.mks.length mc) (.slice (some ⟨b31, 0, none⟩) lg.sns.length sc), 69, true⟩), (b44, ⟨[.int .i64 x.idx, .int .u64 x.st.now, .int .i8 x.st.cur, .int .u8 x.st.s0, .int .u8 x.st.s1, .int .u8 x.st.s2, .int .u8 x.st.s3, .int .u64 x.st.r0, .int .u64 x.st.r1, .int .u64 x.st.r2, .int .u64 x.st.r3, .int .u64 x.st.word, .bool x.out.refused, .int .i8 x.out.running, .int .u64 x.out.value], 66, false⟩)]) (List.Sublist.cons_cons _ (List.Sublist.cons _ (List.Sublist.cons_cons _ List.Sublist.slnil)))
      clear h57
      refine wp_skip ?_
      refine hK40 _ _ ?_
      clear hK40
      refine nd_start (l := [0, 1]) rfl ?_
      refine nd_batch tabOk tabZ_ok [(0, {}), (1, {})] [5, 0, 3, 15, 16, 17] (T' := [(5, .pointer (some ⟨b44, 0, none⟩)), (0, .pointer (some ⟨bl, 0, none⟩)), (3, .slice o1 ((ptsOf lg.base.idx (lg.sns.take k)).length) c1), (15, .slice (some ⟨b31, 0, none⟩) lg.sns.length sc), (16, .int .i64 ((lg.sns.length : Nat) : Int)), (17, .int .i64 (((k : Nat) : Int) + 1))]) (φ := inR .i64 (((k : Nat) : Int) + 1) ∧ True) (rest := []) h81 (by kernel_rfl) rfl ⟨⟨by omega, by omega⟩, trivial⟩ fun a82 h83 => ?_
      clear h81
      refine nd_done ?_
      have h84 := h83.memMono (L' := [(bl, ⟨logC lg.base (.slice eo lg.evs.length ec) (.slice mo lg.mks.length mc) (.slice (some ⟨b31, 0, none⟩) lg.sns.length sc), 69, true⟩)]) (List.Sublist.cons_cons _ (List.Sublist.cons _ List.Sublist.slnil))
      clear h83
      have e1 : ptsOf lg.base.idx (lg.sns.take k) = ptsOf lg.base.idx (lg.sns.take (k + 1)) := by rw [Sx.take_snoc hx]; simp [ptsOf, hxb]
      rw [e1] at h84
      exact ⟨(g - 1), by omega, (k + 1), o1, c1, F1, by omega, by omega, hFK1, (h84.slotsMono (restr_spec (keep := [0, 3, 15, 16, 17]) rfl))⟩
  ·
    have hc30f : ¬ ((k : Nat) : Int) < ((lg.sns.length : Nat) : Int) := by simpa using hc30
    have h85 := h28.slotsMono (T' := [(3, .slice o1 ((ptsOf lg.base.idx (lg.sns.take k)).length) c1)]) (restr_spec (keep := [3]) rfl)
    clear h28
    have hik : k = lg.sns.length := by omega
    subst hik
    rw [List.take_length] at h85
    refine wp_exit ?_
    refine hK15 _ _ ?_
    clear hK15
    refine wp_seq_k fun K86 hK86 => ?_
    refine nd_start (l := [0, 1]) rfl ?_
    refine nd_batch tabOk tabZ_ok [(0, {}), (1, {})] [3, 2] (T' := [(3, .slice o1 ((ptsOf lg.base.idx lg.sns).length) c1), (2, .slice o1 ((ptsOf lg.base.idx lg.sns).length) c1)]) (φ := True) (rest := []) h85 (by kernel_rfl) rfl trivial fun a87 h88 => ?_
    clear h85
    refine nd_done ?_
    refine hK86 _ _ ?_
    clear hK86
    refine wp_ret ?_
    try simp only [Exit.then, Exit.inBlock]
    try rw [if_pos trivial]
    exact s_ret tabOk tabZ_ok h88 [(.tmp 2, {})] (vs := [.slice o1 ((ptsOf lg.base.idx lg.sns).length) c1]) (φ := True) rfl (by kernel_rfl) trivial ⟨o1, c1, F1, rfl, h88.inv.get (j := 3) rfl, h88.frame, fun b hb => by have := hFK1 b hb; simpa using this⟩

end Go.Proofs.Qxb6500919a
