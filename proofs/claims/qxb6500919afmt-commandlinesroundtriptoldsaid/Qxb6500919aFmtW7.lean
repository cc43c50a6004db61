/-
  keep, CutAfter, Truncate. (Made by program: a symbolic walk that prints its steps.)
-/
import Derived.Test.Qxb6500919aFmtTab
import Derived.Test.Qxb6500919aFmtLib
import Derived.Test.Qxb6500919aFmtW1
import Derived.Test.Qxb6500919aFmtW2
import Derived.Test.Qxb6500919aFmtW3
import Derived.Test.Qxb6500919aFmtW4
import Derived.Test.Qxb6500919aFmtW5
import Derived.Test.Qxb6500919aFmtW6
namespace Go.Proofs.Qxb6500919aFmt
open Go.Sx Go.Rp
set_option maxRecDepth 100000
set_option linter.unusedVariables false
set_option linter.unusedSimpArgs false

theorem keep_ok (bl : Nat) (d : Hd) (lg : Lg) (w : World) (hl : LogAt w bl d lg) (lo hi : Int) (hml : lg.mks.length ≤ 1000) (hsl : lg.sns.length ≤ 1000) :
    Calls Tryf.prog 68 #[.pointer (some ⟨bl, 0, none⟩), .int .i64 lo, .int .i64 hi] w fun e w' => ∃ d', e = .returned (.tuple #[]) ∧ LogAt w' bl d' (lg.keep lo hi) ∧ Fr [bl] w w' ∧ ∀ b ∈ d'.F, b ∈ d.F ∨ w.heap.size ≤ b := by
  obtain ⟨eo, ec, eF, mo, mc, mF, so, sc, sF⟩ := d
  obtain ⟨hbl, hA, hsep⟩ := hl
  refine enter (n := 68) (K := [bl]) (A := Rws [rl evC 31 3 lg.evs eo ec eF, rl mkC 93 2 lg.mks mo mc mF, rl ptC 84 15 lg.sns so sc sF]) (F := Ff [rl evC 31 3 lg.evs eo ec eF, rl mkC 93 2 lg.mks mo mc mF, rl ptC 84 15 lg.sns so sc sF]) (T := [(0, .pointer (some ⟨bl, 0, none⟩)), (1, .int .i64 lo), (2, .int .i64 hi)]) (L := [(bl, ⟨logC lg.base (.slice eo lg.evs.length ec) (.slice mo lg.mks.length mc) (.slice so lg.sns.length sc), 89, false⟩)]) (args := [.pointer (some ⟨bl, 0, none⟩), .int .i64 lo, .int .i64 hi]) Tryf.func68 rfl rfl rfl rfl (kcons hbl knil) (by simp) (kcons (by simp) knil) hA Rws.stable (hA).low (kcons (fun _ => hsep) knil) ?_
  intro a h
  refine wp_seq_k fun K1 hK1 => ?_
  refine nd_start (l := [0]) rfl ?_
  refine nd_batch tabOk tabZ_ok [(0, {})] [0, 1, 2, 6] (T' := [(0, .pointer (some ⟨bl, 0, none⟩)), (1, .int .i64 lo), (2, .int .i64 hi), (6, .slice none 0 0)]) (φ := True) (rest := []) h (by kernel_rfl) rfl trivial fun a2 h3 => ?_
  clear h
  refine nd_done ?_
  refine hK1 _ _ ?_
  clear hK1
  refine wp_seq_k fun K4 hK4 => ?_
  refine wp_seq_k fun K5 hK5 => ?_
  refine nd_start (l := [0, 1, 2, 3, 4, 5]) rfl ?_
  refine nd_batch tabOk tabZ_ok [(0, {}), (1, {}), (2, {}), (3, {k := 0}), (4, {}), (5, {})] [0, 1, 2, 6, 15, 16, 17] (T' := [(0, .pointer (some ⟨bl, 0, none⟩)), (1, .int .i64 lo), (2, .int .i64 hi), (6, .slice none 0 0), (15, .slice mo lg.mks.length mc), (16, .int .i64 ((lg.mks.length : Nat) : Int)), (17, .int .i64 0)]) (φ := (bl = bl ∧ Nat.ble (16 + 1) 18 = true) ∧ True) (rest := []) h3 (by kernel_rfl) rfl ⟨⟨rfl, rfl⟩, trivial⟩ fun a6 h7 => ?_
  clear h3
  refine nd_done ?_
  refine hK5 _ _ ?_
  clear hK5
  refine wp_block ?_
  have h8 := h7.rowNil 93 2
  clear h7
  refine wp_loop_ghost (fun g ga gw => ∃ (k : Nat) (o1 : Option Addr) (c1 : Nat) (F1 : List Nat), (k ≤ lg.mks.length) ∧ (g = lg.mks.length - k) ∧ (∀ x ∈ F1, x ∈ [bl] ∨ w.heap.size ≤ x) ∧ St ⟨68, [bl], w, Rws [rl evC 31 3 lg.evs eo ec eF, rl mkC 93 2 lg.mks mo mc mF, rl ptC 84 15 lg.sns so sc sF, rl mkC 93 2 (keepM lo hi (lg.mks.take k)) o1 c1 F1], Ff [rl evC 31 3 lg.evs eo ec eF, rl mkC 93 2 lg.mks mo mc mF, rl ptC 84 15 lg.sns so sc sF, rl mkC 93 2 (keepM lo hi (lg.mks.take k)) o1 c1 F1]⟩ [(0, .pointer (some ⟨bl, 0, none⟩)), (1, .int .i64 lo), (2, .int .i64 hi), (6, .slice o1 ((keepM lo hi (lg.mks.take k)).length) c1), (15, .slice mo lg.mks.length mc), (16, .int .i64 ((lg.mks.length : Nat) : Int)), (17, .int .i64 ((k : Nat) : Int))] [(bl, ⟨logC lg.base (.slice eo lg.evs.length ec) (.slice mo lg.mks.length mc) (.slice so lg.sns.length sc), 89, false⟩)] ga gw) lg.mks.length ⟨0, none, 0, [], Nat.zero_le _, rfl, (fun _ hq => by cases hq), (by simp only [List.take_zero]; exact (h8.slotsMono (restr_spec (keep := [0, 1, 2, 6, 15, 16, 17]) rfl)))⟩ ?_
  clear h8
  rintro g a9 w10 ⟨k, o1, c1, F1, hi12, hi13, hi14, h11⟩
  have hFK1 := hi14
  have hkl : (keepM lo hi (lg.mks.take k)).length ≤ k := Nat.le_trans (List.length_filter_le _ _) (by rw [List.length_take]; omega)
  refine wp_seq_k fun K15 hK15 => ?_
  refine nd_start (l := [0]) rfl ?_
  refine nd_batch tabOk tabZ_ok [(0, {})] [0, 1, 2, 6, 15, 16, 17, 18] (T' := [(0, .pointer (some ⟨bl, 0, none⟩)), (1, .int .i64 lo), (2, .int .i64 hi), (6, .slice o1 ((keepM lo hi (lg.mks.take k)).length) c1), (15, .slice mo lg.mks.length mc), (16, .int .i64 ((lg.mks.length : Nat) : Int)), (17, .int .i64 ((k : Nat) : Int)), (18, .bool (decide (((k : Nat) : Int) < ((lg.mks.length : Nat) : Int))))]) (φ := True) (rest := []) h11 (by kernel_rfl) rfl trivial fun a16 h17 => ?_
  clear h11
  refine nd_done ?_
  refine hK15 _ _ ?_
  clear hK15
  refine wp_seq_k fun K18 hK18 => ?_
  refine c_split h17 (b := decide (((k : Nat) : Int) < ((lg.mks.length : Nat) : Int))) rfl (fun hc19 => ?_) (fun hc19 => ?_)
  ·
    have hc19f : ((k : Nat) : Int) < ((lg.mks.length : Nat) : Int) := by simpa using hc19
    obtain ⟨x, hx⟩ := Sx.get_some (xs := lg.mks) (i := k) (by omega)
    obtain ⟨b20, cs21, ho22, hb23, hc24, hF25, hq27, hl28⟩ := rl_open (h17.inv.get (j := 1) rfl) mkC_len hx
    subst ho22 hF25
    have h26 := h17.open_ hb23 (h17.notinL (by simp [Ff]) (kcons (by intro hq; cases hq) knil))
    clear h17
    refine wp_skip ?_
    refine hK18 _ _ ?_
    clear hK18
    refine wp_seq_k fun K29 hK29 => ?_
    refine wp_block ?_
    refine wp_seq_k fun K30 hK30 => ?_
    refine nd_start (l := [0, 1, 2, 3]) rfl ?_
    refine nd_batch tabOk tabZ_ok [(0, {}), (1, {k := 1, m := 1, vs := [.int .i64 x.idx, .int .u64 x.sum]})] [0, 1, 2, 6, 15, 16, 17, 20] (T' := [(0, .pointer (some ⟨bl, 0, none⟩)), (1, .int .i64 lo), (2, .int .i64 hi), (6, .slice o1 ((keepM lo hi (lg.mks.take k)).length) c1), (15, .slice (some ⟨b20, 0, none⟩) lg.mks.length mc), (16, .int .i64 ((lg.mks.length : Nat) : Int)), (17, .int .i64 ((k : Nat) : Int)), (20, .agg #[.int .i64 x.idx, .int .u64 x.sum])]) (φ := (0 ≤ ((k : Nat) : Int) ∧ ((k : Nat) : Int) < ((lg.mks.length : Nat) : Int)) ∧ (b20 = b20 ∧ cellsAre cs21 (0 + (k * 2)) [.int .i64 x.idx, .int .u64 x.sum]) ∧ True) (rest := [2, 3]) h26 (by kernel_rfl) rfl ⟨⟨by omega, by omega⟩, ⟨rfl, (by rw [Nat.zero_add]; exact hc24)⟩, trivial⟩ fun a31 h32 => ?_
    clear h26
    refine nd_op ?_
    refine op_new tabOk (cells := [.int .i64 0, .int .u64 0]) (ty := 93) (ln := none) (L1 := fun b33 => [(bl, ⟨logC lg.base (.slice eo lg.evs.length ec) (.slice (some ⟨b20, 0, none⟩) lg.mks.length mc) (.slice so lg.sns.length sc), 89, false⟩), (b20, ⟨cs21, 93, true⟩), (b33, ⟨[.int .i64 0, .int .u64 0], 93, false⟩)]) h32 rfl rfl rfl rfl (by kernel_rfl) (fun _ => rfl) fun b33 w34 a35 h36 hf37 hn38 => ?_
    clear h32
    refine nd_op ?_
    refine op_store tabOk {k := 2} (L' := [(bl, ⟨logC lg.base (.slice eo lg.evs.length ec) (.slice (some ⟨b20, 0, none⟩) lg.mks.length mc) (.slice so lg.sns.length sc), 89, false⟩), (b20, ⟨cs21, 93, true⟩), (b33, ⟨[.int .i64 x.idx, .int .u64 x.sum], 93, false⟩)]) (φ := b33 = b33 ∧ Nat.ble (0 + 2) 2 = true) h36 rfl rfl rfl (by kernel_rfl) ⟨rfl, rfl⟩ fun w39 h40 => ?_
    clear h36
    refine nd_done ?_
    refine hK30 _ _ ?_
    clear hK30
    refine wp_seq_k fun K41 hK41 => ?_
    rcases Bool.eq_false_or_eq_true (decide (lo ≤ x.idx)) with hb42 | hb42
    ·
      have hb42f : lo ≤ x.idx := by simpa using hb42
      refine nd_start (l := [0, 1, 2, 3, 4, 5, 6, 7, 8, 9]) rfl ?_
      refine nd_batch tabOk tabZ_ok [(0, {}), (1, {}), (2, {k := 2}), (3, {f := 2}), (4, {}), (5, {}), (6, {k := 2}), (7, {}), (8, {}), (9, {})] [8, 0, 1, 2, 6, 15, 16, 17, 30] (T' := [(8, .pointer (some ⟨b33, 0, none⟩)), (0, .pointer (some ⟨bl, 0, none⟩)), (1, .int .i64 lo), (2, .int .i64 hi), (6, .slice o1 ((keepM lo hi (lg.mks.take k)).length) c1), (15, .slice (some ⟨b20, 0, none⟩) lg.mks.length mc), (16, .int .i64 ((lg.mks.length : Nat) : Int)), (17, .int .i64 ((k : Nat) : Int)), (30, .bool (decide (x.idx ≤ hi)))]) (φ := (b33 = b33 ∧ Nat.ble (0 + 1) 2 = true) ∧ (decide (lo ≤ x.idx)) = true ∧ (b33 = b33 ∧ Nat.ble (0 + 1) 2 = true) ∧ True) (rest := []) h40 (by kernel_rfl) rfl ⟨⟨rfl, rfl⟩, hb42, ⟨rfl, rfl⟩, trivial⟩ fun a43 h44 => ?_
      clear h40
      refine nd_done ?_
      refine hK41 _ _ ?_
      clear hK41
      refine c_split h44 (b := decide (x.idx ≤ hi)) rfl (fun hc45 => ?_) (fun hc45 => ?_)
      ·
        have hc45f : x.idx ≤ hi := by simpa using hc45
        have h46 := h44.memMono (L' := [(bl, ⟨logC lg.base (.slice eo lg.evs.length ec) (.slice (some ⟨b20, 0, none⟩) lg.mks.length mc) (.slice so lg.sns.length sc), 89, false⟩), (b33, ⟨[.int .i64 x.idx, .int .u64 x.sum], 93, false⟩)]) (List.Sublist.cons_cons _ (List.Sublist.cons _ (List.Sublist.cons_cons _ List.Sublist.slnil)))
        clear h44
        refine nd_start (l := [0, 1, 2, 3, 4]) rfl ?_
        refine nd_batch tabOk tabZ_ok [(0, {}), (1, {k := 1})] [8, 0, 1, 2, 6, 15, 16, 17, 31, 32] (T' := [(8, .pointer (some ⟨b33, 0, none⟩)), (0, .pointer (some ⟨bl, 0, none⟩)), (1, .int .i64 lo), (2, .int .i64 hi), (6, .slice o1 ((keepM lo hi (lg.mks.take k)).length) c1), (15, .slice (some ⟨b20, 0, none⟩) lg.mks.length mc), (16, .int .i64 ((lg.mks.length : Nat) : Int)), (17, .int .i64 ((k : Nat) : Int)), (31, .slice o1 ((keepM lo hi (lg.mks.take k)).length) c1), (32, .agg #[.int .i64 x.idx, .int .u64 x.sum])]) (φ := (b33 = b33 ∧ Nat.ble (0 + 2) 2 = true) ∧ True) (rest := [2, 3, 4]) h46 (by kernel_rfl) rfl ⟨⟨rfl, rfl⟩, trivial⟩ fun a47 h48 => ?_
        clear h46
        refine nd_op ?_
        refine op_new tabOk (cells := [.int .i64 x.idx, .int .u64 x.sum]) (ty := 93) (ln := (some 1)) (L1 := fun b49 => [(bl, ⟨logC lg.base (.slice eo lg.evs.length ec) (.slice (some ⟨b20, 0, none⟩) lg.mks.length mc) (.slice so lg.sns.length sc), 89, false⟩), (b33, ⟨[.int .i64 x.idx, .int .u64 x.sum], 93, false⟩), (b49, ⟨[.int .i64 x.idx, .int .u64 x.sum], 93, false⟩)]) h48 rfl rfl rfl rfl (by kernel_rfl) (fun _ => rfl) fun b49 w50 a51 h52 hf53 hn54 => ?_
        clear h48
        refine nd_op ?_
        refine op_append tabOk (e := 93) (so := o1) (n := (keepM lo hi (lg.mks.take k)).length) (c := c1) (xo := some ⟨b49, 0, none⟩) (m := 1) (cx := 1) (vals := (keepM lo hi (lg.mks.take k)).flatMap mkC) (vs := [.int .i64 x.idx, .int .u64 x.sum]) (F := F1) h52 rfl rfl rfl rfl rfl rfl rfl rfl rfl rfl rfl rfl (h52.inv.get (j := 3) rfl) (src_one (h52.kn (k := 2) rfl) rfl ⟨rfl, rfl, trivial⟩) (by omega) rfl ?_
        intro o55 c56 F57 w58 hr59 hf60 hF61
        have hr592 := rl_app1 (enc := mkC) (xs := keepM lo hi (lg.mks.take k)) (y := x) hr59
        have hKh62 := row1_keys (K := [bl]) hFK1 h52.frame.size hF61
        rw [show (keepM lo hi (lg.mks.take k)).length + 1 = (keepM lo hi (lg.mks.take k) ++ [x]).length by simp]
        have h62 := (h52.rowSet (j := 3) (r' := rl mkC 93 2 (keepM lo hi (lg.mks.take k) ++ [x]) o55 c56 F57) (R' := [rl evC 31 3 lg.evs eo ec eF, rl mkC 93 2 lg.mks (some ⟨b20, 0, none⟩) mc ([b20]), rl ptC 84 15 lg.sns so sc sF, rl mkC 93 2 (keepM lo hi (lg.mks.take k) ++ [x]) o55 c56 F57]) rfl hr592 hf60 hF61 hFK1 (kcons (by intro hq; cases hq) (kcons (by intro hq; cases hq) (kcons (by intro hq; cases hq) knil))) rfl).put (d := some 34) (v := .slice o55 ((keepM lo hi (lg.mks.take k) ++ [x]).length) c56) (T' := [(34, .slice o55 ((keepM lo hi (lg.mks.take k) ++ [x]).length) c56), (33, .slice (some ⟨b49, 0, none⟩) 1 1), (8, .pointer (some ⟨b33, 0, none⟩)), (0, .pointer (some ⟨bl, 0, none⟩)), (1, .int .i64 lo), (2, .int .i64 hi), (6, .slice o1 ((keepM lo hi (lg.mks.take k)).length) c1), (15, .slice (some ⟨b20, 0, none⟩) lg.mks.length mc), (16, .int .i64 ((lg.mks.length : Nat) : Int)), (17, .int .i64 ((k : Nat) : Int)), (31, .slice o1 ((keepM lo hi (lg.mks.take k)).length) c1), (32, .agg #[.int .i64 x.idx, .int .u64 x.sum])]) rfl
        clear h52
        refine nd_batch tabOk tabZ_ok [(4, {})] [8, 0, 1, 2, 15, 16, 17, 6] (T' := [(8, .pointer (some ⟨b33, 0, none⟩)), (0, .pointer (some ⟨bl, 0, none⟩)), (1, .int .i64 lo), (2, .int .i64 hi), (15, .slice (some ⟨b20, 0, none⟩) lg.mks.length mc), (16, .int .i64 ((lg.mks.length : Nat) : Int)), (17, .int .i64 ((k : Nat) : Int)), (6, .slice o55 ((keepM lo hi (lg.mks.take k) ++ [x]).length) c56)]) (φ := True) (rest := []) h62 (by kernel_rfl) rfl trivial fun a63 h64 => ?_
        clear h62
        refine nd_done ?_
        refine hK29 _ _ ?_
        clear hK29
        refine nd_start (l := [0, 1]) rfl ?_
        refine nd_batch tabOk tabZ_ok [(0, {}), (1, {})] [8, 0, 1, 2, 15, 16, 6, 17] (T' := [(8, .pointer (some ⟨b33, 0, none⟩)), (0, .pointer (some ⟨bl, 0, none⟩)), (1, .int .i64 lo), (2, .int .i64 hi), (15, .slice (some ⟨b20, 0, none⟩) lg.mks.length mc), (16, .int .i64 ((lg.mks.length : Nat) : Int)), (6, .slice o55 ((keepM lo hi (lg.mks.take k) ++ [x]).length) c56), (17, .int .i64 (((k : Nat) : Int) + 1))]) (φ := inR .i64 (((k : Nat) : Int) + 1) ∧ True) (rest := []) h64 (by kernel_rfl) rfl ⟨⟨by omega, by omega⟩, trivial⟩ fun a65 h66 => ?_
        clear h64
        refine nd_done ?_
        have h67 := h66.memMono (L' := [(bl, ⟨logC lg.base (.slice eo lg.evs.length ec) (.slice (some ⟨b20, 0, none⟩) lg.mks.length mc) (.slice so lg.sns.length sc), 89, false⟩)]) (List.Sublist.cons_cons _ (List.Sublist.cons _ (List.Sublist.cons _ List.Sublist.slnil)))
        clear h66
        have e1 : keepM lo hi (lg.mks.take k) ++ [x] = keepM lo hi (lg.mks.take (k + 1)) := by rw [Sx.take_snoc hx]; simp [keepM, inW, hb42, hc45]
        rw [e1] at h67
        exact ⟨(g - 1), by omega, (k + 1), o55, c56, F57, by omega, by omega, hKh62, (h67.slotsMono (restr_spec (keep := [0, 1, 2, 6, 15, 16, 17]) rfl))⟩
      ·
        have hc45f : ¬ x.idx ≤ hi := by simpa using hc45
        have h68 := h44.memMono (L' := [(bl, ⟨logC lg.base (.slice eo lg.evs.length ec) (.slice (some ⟨b20, 0, none⟩) lg.mks.length mc) (.slice so lg.sns.length sc), 89, false⟩), (b33, ⟨[.int .i64 x.idx, .int .u64 x.sum], 93, false⟩)]) (List.Sublist.cons_cons _ (List.Sublist.cons _ (List.Sublist.cons_cons _ List.Sublist.slnil)))
        clear h44
        refine wp_skip ?_
        refine hK29 _ _ ?_
        clear hK29
        refine nd_start (l := [0, 1]) rfl ?_
        refine nd_batch tabOk tabZ_ok [(0, {}), (1, {})] [8, 0, 1, 2, 6, 15, 16, 17] (T' := [(8, .pointer (some ⟨b33, 0, none⟩)), (0, .pointer (some ⟨bl, 0, none⟩)), (1, .int .i64 lo), (2, .int .i64 hi), (6, .slice o1 ((keepM lo hi (lg.mks.take k)).length) c1), (15, .slice (some ⟨b20, 0, none⟩) lg.mks.length mc), (16, .int .i64 ((lg.mks.length : Nat) : Int)), (17, .int .i64 (((k : Nat) : Int) + 1))]) (φ := inR .i64 (((k : Nat) : Int) + 1) ∧ True) (rest := []) h68 (by kernel_rfl) rfl ⟨⟨by omega, by omega⟩, trivial⟩ fun a69 h70 => ?_
        clear h68
        refine nd_done ?_
        have h71 := h70.memMono (L' := [(bl, ⟨logC lg.base (.slice eo lg.evs.length ec) (.slice (some ⟨b20, 0, none⟩) lg.mks.length mc) (.slice so lg.sns.length sc), 89, false⟩)]) (List.Sublist.cons_cons _ (List.Sublist.cons _ List.Sublist.slnil))
        clear h70
        have e1 : keepM lo hi (lg.mks.take k) = keepM lo hi (lg.mks.take (k + 1)) := by rw [Sx.take_snoc hx]; simp [keepM, inW, hb42, hc45]
        rw [e1] at h71
        exact ⟨(g - 1), by omega, (k + 1), o1, c1, F1, by omega, by omega, hFK1, (h71.slotsMono (restr_spec (keep := [0, 1, 2, 6, 15, 16, 17]) rfl))⟩
    ·
      have hb42f : ¬ lo ≤ x.idx := by simpa using hb42
      refine nd_start (l := [0, 1, 2, 3, 4, 5, 6, 7, 8, 9]) rfl ?_
      refine nd_batch tabOk tabZ_ok [(0, {}), (1, {}), (2, {k := 2}), (3, {f := 1}), (4, {}), (5, {}), (6, {}), (7, {}), (8, {}), (9, {})] [8, 0, 1, 2, 6, 15, 16, 17, 30] (T' := [(8, .pointer (some ⟨b33, 0, none⟩)), (0, .pointer (some ⟨bl, 0, none⟩)), (1, .int .i64 lo), (2, .int .i64 hi), (6, .slice o1 ((keepM lo hi (lg.mks.take k)).length) c1), (15, .slice (some ⟨b20, 0, none⟩) lg.mks.length mc), (16, .int .i64 ((lg.mks.length : Nat) : Int)), (17, .int .i64 ((k : Nat) : Int)), (30, .bool false)]) (φ := (b33 = b33 ∧ Nat.ble (0 + 1) 2 = true) ∧ (decide (lo ≤ x.idx)) = false ∧ True) (rest := []) h40 (by kernel_rfl) rfl ⟨⟨rfl, rfl⟩, hb42, trivial⟩ fun a72 h73 => ?_
      clear h40
      refine nd_done ?_
      refine hK41 _ _ ?_
      clear hK41
      refine c_false h73 rfl ?_
      refine wp_skip ?_
      refine hK29 _ _ ?_
      clear hK29
      refine nd_start (l := [0, 1]) rfl ?_
      refine nd_batch tabOk tabZ_ok [(0, {}), (1, {})] [8, 0, 1, 2, 6, 15, 16, 17] (T' := [(8, .pointer (some ⟨b33, 0, none⟩)), (0, .pointer (some ⟨bl, 0, none⟩)), (1, .int .i64 lo), (2, .int .i64 hi), (6, .slice o1 ((keepM lo hi (lg.mks.take k)).length) c1), (15, .slice (some ⟨b20, 0, none⟩) lg.mks.length mc), (16, .int .i64 ((lg.mks.length : Nat) : Int)), (17, .int .i64 (((k : Nat) : Int) + 1))]) (φ := inR .i64 (((k : Nat) : Int) + 1) ∧ True) (rest := []) h73 (by kernel_rfl) rfl ⟨⟨by omega, by omega⟩, trivial⟩ fun a74 h75 => ?_
      clear h73
      refine nd_done ?_
      have h76 := h75.memMono (L' := [(bl, ⟨logC lg.base (.slice eo lg.evs.length ec) (.slice (some ⟨b20, 0, none⟩) lg.mks.length mc) (.slice so lg.sns.length sc), 89, false⟩)]) (List.Sublist.cons_cons _ (List.Sublist.cons _ (List.Sublist.cons _ List.Sublist.slnil)))
      clear h75
      have e1 : keepM lo hi (lg.mks.take k) = keepM lo hi (lg.mks.take (k + 1)) := by rw [Sx.take_snoc hx]; simp [keepM, inW, hb42]
      rw [e1] at h76
      exact ⟨(g - 1), by omega, (k + 1), o1, c1, F1, by omega, by omega, hFK1, (h76.slotsMono (restr_spec (keep := [0, 1, 2, 6, 15, 16, 17]) rfl))⟩
  ·
    have hc19f : ¬ ((k : Nat) : Int) < ((lg.mks.length : Nat) : Int) := by simpa using hc19
    have hik : k = lg.mks.length := by omega
    have h77 := h17.slotsMono (T' := [(0, .pointer (some ⟨bl, 0, none⟩)), (1, .int .i64 lo), (2, .int .i64 hi), (6, .slice o1 ((keepM lo hi (lg.mks.take k)).length) c1)]) (restr_spec (keep := [0, 1, 2, 6]) rfl)
    clear h17
    subst hik
    rw [List.take_length] at h77
    refine wp_exit ?_
    refine hK4 _ _ ?_
    clear hK4
    refine wp_seq_k fun K78 hK78 => ?_
    refine nd_start (l := [0]) rfl ?_
    refine nd_batch tabOk tabZ_ok [(0, {})] [0, 1, 2, 6, 9] (T' := [(0, .pointer (some ⟨bl, 0, none⟩)), (1, .int .i64 lo), (2, .int .i64 hi), (6, .slice o1 ((keepM lo hi lg.mks).length) c1), (9, .slice none 0 0)]) (φ := True) (rest := []) h77 (by kernel_rfl) rfl trivial fun a79 h80 => ?_
    clear h77
    refine nd_done ?_
    refine hK78 _ _ ?_
    clear hK78
    refine wp_seq_k fun K81 hK81 => ?_
    refine wp_seq_k fun K82 hK82 => ?_
    refine nd_start (l := [0, 1, 2, 3, 4, 5]) rfl ?_
    refine nd_batch tabOk tabZ_ok [(0, {}), (1, {}), (2, {}), (3, {k := 0}), (4, {}), (5, {})] [0, 1, 2, 6, 9, 39, 40, 41] (T' := [(0, .pointer (some ⟨bl, 0, none⟩)), (1, .int .i64 lo), (2, .int .i64 hi), (6, .slice o1 ((keepM lo hi lg.mks).length) c1), (9, .slice none 0 0), (39, .slice so lg.sns.length sc), (40, .int .i64 ((lg.sns.length : Nat) : Int)), (41, .int .i64 0)]) (φ := (bl = bl ∧ Nat.ble (17 + 1) 18 = true) ∧ True) (rest := []) h80 (by kernel_rfl) rfl ⟨⟨rfl, rfl⟩, trivial⟩ fun a83 h84 => ?_
    clear h80
    refine nd_done ?_
    refine hK82 _ _ ?_
    clear hK82
    refine wp_block ?_
    have h85 := h84.rowNil 84 15
    clear h84
    refine wp_loop_ghost (fun g ga gw => ∃ (k : Nat) (o2 : Option Addr) (c2 : Nat) (F2 : List Nat), (k ≤ lg.sns.length) ∧ (g = lg.sns.length - k) ∧ (∀ x ∈ F2, x ∈ [bl] ∨ w.heap.size ≤ x) ∧ St ⟨68, [bl], w, Rws [rl evC 31 3 lg.evs eo ec eF, rl mkC 93 2 lg.mks mo mc mF, rl ptC 84 15 lg.sns so sc sF, rl mkC 93 2 (keepM lo hi lg.mks) o1 c1 F1, rl ptC 84 15 (keepS lo hi (lg.sns.take k)) o2 c2 F2], Ff [rl evC 31 3 lg.evs eo ec eF, rl mkC 93 2 lg.mks mo mc mF, rl ptC 84 15 lg.sns so sc sF, rl mkC 93 2 (keepM lo hi lg.mks) o1 c1 F1, rl ptC 84 15 (keepS lo hi (lg.sns.take k)) o2 c2 F2]⟩ [(0, .pointer (some ⟨bl, 0, none⟩)), (1, .int .i64 lo), (2, .int .i64 hi), (9, .slice o2 ((keepS lo hi (lg.sns.take k)).length) c2), (39, .slice so lg.sns.length sc), (40, .int .i64 ((lg.sns.length : Nat) : Int)), (41, .int .i64 ((k : Nat) : Int)), (6, .slice o1 ((keepM lo hi lg.mks).length) c1)] [(bl, ⟨logC lg.base (.slice eo lg.evs.length ec) (.slice mo lg.mks.length mc) (.slice so lg.sns.length sc), 89, false⟩)] ga gw) lg.sns.length ⟨0, none, 0, [], Nat.zero_le _, rfl, (fun _ hq => by cases hq), (by simp only [List.take_zero]; exact (h85.slotsMono (restr_spec (keep := [0, 1, 2, 9, 39, 40, 41, 6]) rfl)))⟩ ?_
    clear h85
    rintro g a86 w87 ⟨k, o2, c2, F2, hi89, hi90, hi91, h88⟩
    have hFK2 := hi91
    have hkl : (keepS lo hi (lg.sns.take k)).length ≤ k := Nat.le_trans (List.length_filter_le _ _) (by rw [List.length_take]; omega)
    refine wp_seq_k fun K92 hK92 => ?_
    refine nd_start (l := [0]) rfl ?_
    refine nd_batch tabOk tabZ_ok [(0, {})] [0, 1, 2, 9, 39, 40, 41, 6, 42] (T' := [(0, .pointer (some ⟨bl, 0, none⟩)), (1, .int .i64 lo), (2, .int .i64 hi), (9, .slice o2 ((keepS lo hi (lg.sns.take k)).length) c2), (39, .slice so lg.sns.length sc), (40, .int .i64 ((lg.sns.length : Nat) : Int)), (41, .int .i64 ((k : Nat) : Int)), (6, .slice o1 ((keepM lo hi lg.mks).length) c1), (42, .bool (decide (((k : Nat) : Int) < ((lg.sns.length : Nat) : Int))))]) (φ := True) (rest := []) h88 (by kernel_rfl) rfl trivial fun a93 h94 => ?_
    clear h88
    refine nd_done ?_
    refine hK92 _ _ ?_
    clear hK92
    refine wp_seq_k fun K95 hK95 => ?_
    refine c_split h94 (b := decide (((k : Nat) : Int) < ((lg.sns.length : Nat) : Int))) rfl (fun hc96 => ?_) (fun hc96 => ?_)
    ·
      have hc96f : ((k : Nat) : Int) < ((lg.sns.length : Nat) : Int) := by simpa using hc96
      obtain ⟨x, hx⟩ := Sx.get_some (xs := lg.sns) (i := k) (by omega)
      obtain ⟨b97, cs98, ho99, hb100, hc101, hF102, hq104, hl105⟩ := rl_open (h94.inv.get (j := 2) rfl) ptC_len hx
      subst ho99 hF102
      have h103 := h94.open_ hb100 (h94.notinL (by simp [Ff]) (kcons (by intro hq; cases hq) knil))
      clear h94
      refine wp_skip ?_
      refine hK95 _ _ ?_
      clear hK95
      refine wp_seq_k fun K106 hK106 => ?_
      refine wp_block ?_
      refine wp_seq_k fun K107 hK107 => ?_
      refine nd_start (l := [0, 1, 2, 3]) rfl ?_
      refine nd_batch tabOk tabZ_ok [(0, {}), (1, {k := 1, m := 1, vs := [.int .i64 x.idx, .int .u64 x.st.now, .int .i8 x.st.cur, .int .u8 x.st.s0, .int .u8 x.st.s1, .int .u8 x.st.s2, .int .u8 x.st.s3, .int .u64 x.st.r0, .int .u64 x.st.r1, .int .u64 x.st.r2, .int .u64 x.st.r3, .int .u64 x.st.word, .bool x.out.refused, .int .i8 x.out.running, .int .u64 x.out.value]})] [0, 1, 2, 9, 39, 40, 41, 6, 44] (T' := [(0, .pointer (some ⟨bl, 0, none⟩)), (1, .int .i64 lo), (2, .int .i64 hi), (9, .slice o2 ((keepS lo hi (lg.sns.take k)).length) c2), (39, .slice (some ⟨b97, 0, none⟩) lg.sns.length sc), (40, .int .i64 ((lg.sns.length : Nat) : Int)), (41, .int .i64 ((k : Nat) : Int)), (6, .slice o1 ((keepM lo hi lg.mks).length) c1), (44, .agg #[.int .i64 x.idx, .int .u64 x.st.now, .int .i8 x.st.cur, .int .u8 x.st.s0, .int .u8 x.st.s1, .int .u8 x.st.s2, .int .u8 x.st.s3, .int .u64 x.st.r0, .int .u64 x.st.r1, .int .u64 x.st.r2, .int .u64 x.st.r3, .int .u64 x.st.word, .bool x.out.refused, .int .i8 x.out.running, .int .u64 x.out.value])]) (φ := (0 ≤ ((k : Nat) : Int) ∧ ((k : Nat) : Int) < ((lg.sns.length : Nat) : Int)) ∧ (b97 = b97 ∧ cellsAre cs98 (0 + (k * 15)) [.int .i64 x.idx, .int .u64 x.st.now, .int .i8 x.st.cur, .int .u8 x.st.s0, .int .u8 x.st.s1, .int .u8 x.st.s2, .int .u8 x.st.s3, .int .u64 x.st.r0, .int .u64 x.st.r1, .int .u64 x.st.r2, .int .u64 x.st.r3, .int .u64 x.st.word, .bool x.out.refused, .int .i8 x.out.running, .int .u64 x.out.value]) ∧ True) (rest := [2, 3]) h103 (by kernel_rfl) rfl ⟨⟨by omega, by omega⟩, ⟨rfl, (by rw [Nat.zero_add]; exact hc101)⟩, trivial⟩ fun a108 h109 => ?_
      clear h103
      refine nd_op ?_
      refine op_new tabOk (cells := [.int .i64 0, .int .u64 0, .int .i8 0, .int .u8 0, .int .u8 0, .int .u8 0, .int .u8 0, .int .u64 0, .int .u64 0, .int .u64 0, .int .u64 0, .int .u64 0, .bool false, .int .i8 0, .int .u64 0]) (ty := 84) (ln := none) (L1 := fun b110 => [(bl, ⟨logC lg.base (.slice eo lg.evs.length ec) (.slice mo lg.mks.length mc) (.slice (some ⟨b97, 0, none⟩) lg.sns.length sc), 89, false⟩), (b97, ⟨cs98, 84, true⟩), (b110, ⟨[.int .i64 0, .int .u64 0, .int .i8 0, .int .u8 0, .int .u8 0, .int .u8 0, .int .u8 0, .int .u64 0, .int .u64 0, .int .u64 0, .int .u64 0, .int .u64 0, .bool false, .int .i8 0, .int .u64 0], 84, false⟩)]) h109 rfl rfl rfl rfl (by kernel_rfl) (fun _ => rfl) fun b110 w111 a112 h113 hf114 hn115 => ?_
      clear h109
      refine nd_op ?_
      refine op_store tabOk {k := 2} (L' := [(bl, ⟨logC lg.base (.slice eo lg.evs.length ec) (.slice mo lg.mks.length mc) (.slice (some ⟨b97, 0, none⟩) lg.sns.length sc), 89, false⟩), (b97, ⟨cs98, 84, true⟩), (b110, ⟨[.int .i64 x.idx, .int .u64 x.st.now, .int .i8 x.st.cur, .int .u8 x.st.s0, .int .u8 x.st.s1, .int .u8 x.st.s2, .int .u8 x.st.s3, .int .u64 x.st.r0, .int .u64 x.st.r1, .int .u64 x.st.r2, .int .u64 x.st.r3, .int .u64 x.st.word, .bool x.out.refused, .int .i8 x.out.running, .int .u64 x.out.value], 84, false⟩)]) (φ := b110 = b110 ∧ Nat.ble (0 + 15) 15 = true) h113 rfl rfl rfl (by kernel_rfl) ⟨rfl, rfl⟩ fun w116 h117 => ?_
      clear h113
      refine nd_done ?_
      refine hK107 _ _ ?_
      clear hK107
      refine wp_seq_k fun K118 hK118 => ?_
      rcases Bool.eq_false_or_eq_true (decide (lo ≤ x.idx)) with hb119 | hb119
      ·
        have hb119f : lo ≤ x.idx := by simpa using hb119
        refine nd_start (l := [0, 1, 2, 3, 4, 5, 6, 7, 8, 9]) rfl ?_
        refine nd_batch tabOk tabZ_ok [(0, {}), (1, {}), (2, {k := 2}), (3, {f := 2}), (4, {}), (5, {}), (6, {k := 2}), (7, {}), (8, {}), (9, {})] [11, 0, 1, 2, 9, 39, 40, 41, 6, 54] (T' := [(11, .pointer (some ⟨b110, 0, none⟩)), (0, .pointer (some ⟨bl, 0, none⟩)), (1, .int .i64 lo), (2, .int .i64 hi), (9, .slice o2 ((keepS lo hi (lg.sns.take k)).length) c2), (39, .slice (some ⟨b97, 0, none⟩) lg.sns.length sc), (40, .int .i64 ((lg.sns.length : Nat) : Int)), (41, .int .i64 ((k : Nat) : Int)), (6, .slice o1 ((keepM lo hi lg.mks).length) c1), (54, .bool (decide (x.idx ≤ hi)))]) (φ := (b110 = b110 ∧ Nat.ble (0 + 1) 15 = true) ∧ (decide (lo ≤ x.idx)) = true ∧ (b110 = b110 ∧ Nat.ble (0 + 1) 15 = true) ∧ True) (rest := []) h117 (by kernel_rfl) rfl ⟨⟨rfl, rfl⟩, hb119, ⟨rfl, rfl⟩, trivial⟩ fun a120 h121 => ?_
        clear h117
        refine nd_done ?_
        refine hK118 _ _ ?_
        clear hK118
        refine c_split h121 (b := decide (x.idx ≤ hi)) rfl (fun hc122 => ?_) (fun hc122 => ?_)
        ·
          have hc122f : x.idx ≤ hi := by simpa using hc122
          have h123 := h121.memMono (L' := [(bl, ⟨logC lg.base (.slice eo lg.evs.length ec) (.slice mo lg.mks.length mc) (.slice (some ⟨b97, 0, none⟩) lg.sns.length sc), 89, false⟩), (b110, ⟨[.int .i64 x.idx, .int .u64 x.st.now, .int .i8 x.st.cur, .int .u8 x.st.s0, .int .u8 x.st.s1, .int .u8 x.st.s2, .int .u8 x.st.s3, .int .u64 x.st.r0, .int .u64 x.st.r1, .int .u64 x.st.r2, .int .u64 x.st.r3, .int .u64 x.st.word, .bool x.out.refused, .int .i8 x.out.running, .int .u64 x.out.value], 84, false⟩)]) (List.Sublist.cons_cons _ (List.Sublist.cons _ (List.Sublist.cons_cons _ List.Sublist.slnil)))
          clear h121
          refine nd_start (l := [0, 1, 2, 3, 4]) rfl ?_
          refine nd_batch tabOk tabZ_ok [(0, {}), (1, {k := 1})] [11, 0, 1, 2, 9, 39, 40, 41, 6, 55, 56] (T' := [(11, .pointer (some ⟨b110, 0, none⟩)), (0, .pointer (some ⟨bl, 0, none⟩)), (1, .int .i64 lo), (2, .int .i64 hi), (9, .slice o2 ((keepS lo hi (lg.sns.take k)).length) c2), (39, .slice (some ⟨b97, 0, none⟩) lg.sns.length sc), (40, .int .i64 ((lg.sns.length : Nat) : Int)), (41, .int .i64 ((k : Nat) : Int)), (6, .slice o1 ((keepM lo hi lg.mks).length) c1), (55, .slice o2 ((keepS lo hi (lg.sns.take k)).length) c2), (56, .agg #[.int .i64 x.idx, .int .u64 x.st.now, .int .i8 x.st.cur, .int .u8 x.st.s0, .int .u8 x.st.s1, .int .u8 x.st.s2, .int .u8 x.st.s3, .int .u64 x.st.r0, .int .u64 x.st.r1, .int .u64 x.st.r2, .int .u64 x.st.r3, .int .u64 x.st.word, .bool x.out.refused, .int .i8 x.out.running, .int .u64 x.out.value])]) (φ := (b110 = b110 ∧ Nat.ble (0 + 15) 15 = true) ∧ True) (rest := [2, 3, 4]) h123 (by kernel_rfl) rfl ⟨⟨rfl, rfl⟩, trivial⟩ fun a124 h125 => ?_
          clear h123
          refine nd_op ?_
          refine op_new tabOk (cells := [.int .i64 x.idx, .int .u64 x.st.now, .int .i8 x.st.cur, .int .u8 x.st.s0, .int .u8 x.st.s1, .int .u8 x.st.s2, .int .u8 x.st.s3, .int .u64 x.st.r0, .int .u64 x.st.r1, .int .u64 x.st.r2, .int .u64 x.st.r3, .int .u64 x.st.word, .bool x.out.refused, .int .i8 x.out.running, .int .u64 x.out.value]) (ty := 84) (ln := (some 1)) (L1 := fun b126 => [(bl, ⟨logC lg.base (.slice eo lg.evs.length ec) (.slice mo lg.mks.length mc) (.slice (some ⟨b97, 0, none⟩) lg.sns.length sc), 89, false⟩), (b110, ⟨[.int .i64 x.idx, .int .u64 x.st.now, .int .i8 x.st.cur, .int .u8 x.st.s0, .int .u8 x.st.s1, .int .u8 x.st.s2, .int .u8 x.st.s3, .int .u64 x.st.r0, .int .u64 x.st.r1, .int .u64 x.st.r2, .int .u64 x.st.r3, .int .u64 x.st.word, .bool x.out.refused, .int .i8 x.out.running, .int .u64 x.out.value], 84, false⟩), (b126, ⟨[.int .i64 x.idx, .int .u64 x.st.now, .int .i8 x.st.cur, .int .u8 x.st.s0, .int .u8 x.st.s1, .int .u8 x.st.s2, .int .u8 x.st.s3, .int .u64 x.st.r0, .int .u64 x.st.r1, .int .u64 x.st.r2, .int .u64 x.st.r3, .int .u64 x.st.word, .bool x.out.refused, .int .i8 x.out.running, .int .u64 x.out.value], 84, false⟩)]) h125 rfl rfl rfl rfl (by kernel_rfl) (fun _ => rfl) fun b126 w127 a128 h129 hf130 hn131 => ?_
          clear h125
          refine nd_op ?_
          refine op_append tabOk (e := 84) (so := o2) (n := (keepS lo hi (lg.sns.take k)).length) (c := c2) (xo := some ⟨b126, 0, none⟩) (m := 1) (cx := 1) (vals := (keepS lo hi (lg.sns.take k)).flatMap ptC) (vs := [.int .i64 x.idx, .int .u64 x.st.now, .int .i8 x.st.cur, .int .u8 x.st.s0, .int .u8 x.st.s1, .int .u8 x.st.s2, .int .u8 x.st.s3, .int .u64 x.st.r0, .int .u64 x.st.r1, .int .u64 x.st.r2, .int .u64 x.st.r3, .int .u64 x.st.word, .bool x.out.refused, .int .i8 x.out.running, .int .u64 x.out.value]) (F := F2) h129 rfl rfl rfl rfl rfl rfl rfl rfl rfl rfl rfl rfl (h129.inv.get (j := 4) rfl) (src_one (h129.kn (k := 2) rfl) rfl ⟨rfl, rfl, rfl, rfl, rfl, rfl, rfl, rfl, rfl, rfl, rfl, rfl, rfl, rfl, rfl, trivial⟩) (by omega) rfl ?_
          intro o132 c133 F134 w135 hr136 hf137 hF138
          have hr1362 := rl_app1 (enc := ptC) (xs := keepS lo hi (lg.sns.take k)) (y := x) hr136
          have hKh139 := row1_keys (K := [bl]) hFK2 h129.frame.size hF138
          rw [show (keepS lo hi (lg.sns.take k)).length + 1 = (keepS lo hi (lg.sns.take k) ++ [x]).length by simp]
          have h139 := (h129.rowSet (j := 4) (r' := rl ptC 84 15 (keepS lo hi (lg.sns.take k) ++ [x]) o132 c133 F134) (R' := [rl evC 31 3 lg.evs eo ec eF, rl mkC 93 2 lg.mks mo mc mF, rl ptC 84 15 lg.sns (some ⟨b97, 0, none⟩) sc ([b97]), rl mkC 93 2 (keepM lo hi lg.mks) o1 c1 F1, rl ptC 84 15 (keepS lo hi (lg.sns.take k) ++ [x]) o132 c133 F134]) rfl hr1362 hf137 hF138 hFK2 (kcons (by intro hq; cases hq) (kcons (by intro hq; cases hq) (kcons (by intro hq; cases hq) knil))) rfl).put (d := some 58) (v := .slice o132 ((keepS lo hi (lg.sns.take k) ++ [x]).length) c133) (T' := [(58, .slice o132 ((keepS lo hi (lg.sns.take k) ++ [x]).length) c133), (57, .slice (some ⟨b126, 0, none⟩) 1 1), (11, .pointer (some ⟨b110, 0, none⟩)), (0, .pointer (some ⟨bl, 0, none⟩)), (1, .int .i64 lo), (2, .int .i64 hi), (9, .slice o2 ((keepS lo hi (lg.sns.take k)).length) c2), (39, .slice (some ⟨b97, 0, none⟩) lg.sns.length sc), (40, .int .i64 ((lg.sns.length : Nat) : Int)), (41, .int .i64 ((k : Nat) : Int)), (6, .slice o1 ((keepM lo hi lg.mks).length) c1), (55, .slice o2 ((keepS lo hi (lg.sns.take k)).length) c2), (56, .agg #[.int .i64 x.idx, .int .u64 x.st.now, .int .i8 x.st.cur, .int .u8 x.st.s0, .int .u8 x.st.s1, .int .u8 x.st.s2, .int .u8 x.st.s3, .int .u64 x.st.r0, .int .u64 x.st.r1, .int .u64 x.st.r2, .int .u64 x.st.r3, .int .u64 x.st.word, .bool x.out.refused, .int .i8 x.out.running, .int .u64 x.out.value])]) rfl
          clear h129
          refine nd_batch tabOk tabZ_ok [(4, {})] [11, 0, 1, 2, 39, 40, 41, 6, 9] (T' := [(11, .pointer (some ⟨b110, 0, none⟩)), (0, .pointer (some ⟨bl, 0, none⟩)), (1, .int .i64 lo), (2, .int .i64 hi), (39, .slice (some ⟨b97, 0, none⟩) lg.sns.length sc), (40, .int .i64 ((lg.sns.length : Nat) : Int)), (41, .int .i64 ((k : Nat) : Int)), (6, .slice o1 ((keepM lo hi lg.mks).length) c1), (9, .slice o132 ((keepS lo hi (lg.sns.take k) ++ [x]).length) c133)]) (φ := True) (rest := []) h139 (by kernel_rfl) rfl trivial fun a140 h141 => ?_
          clear h139
          refine nd_done ?_
          refine hK106 _ _ ?_
          clear hK106
          refine nd_start (l := [0, 1]) rfl ?_
          refine nd_batch tabOk tabZ_ok [(0, {}), (1, {})] [11, 0, 1, 2, 39, 40, 6, 9, 41] (T' := [(11, .pointer (some ⟨b110, 0, none⟩)), (0, .pointer (some ⟨bl, 0, none⟩)), (1, .int .i64 lo), (2, .int .i64 hi), (39, .slice (some ⟨b97, 0, none⟩) lg.sns.length sc), (40, .int .i64 ((lg.sns.length : Nat) : Int)), (6, .slice o1 ((keepM lo hi lg.mks).length) c1), (9, .slice o132 ((keepS lo hi (lg.sns.take k) ++ [x]).length) c133), (41, .int .i64 (((k : Nat) : Int) + 1))]) (φ := inR .i64 (((k : Nat) : Int) + 1) ∧ True) (rest := []) h141 (by kernel_rfl) rfl ⟨⟨by omega, by omega⟩, trivial⟩ fun a142 h143 => ?_
          clear h141
          refine nd_done ?_
          have h144 := h143.memMono (L' := [(bl, ⟨logC lg.base (.slice eo lg.evs.length ec) (.slice mo lg.mks.length mc) (.slice (some ⟨b97, 0, none⟩) lg.sns.length sc), 89, false⟩)]) (List.Sublist.cons_cons _ (List.Sublist.cons _ (List.Sublist.cons _ List.Sublist.slnil)))
          clear h143
          have e1 : keepS lo hi (lg.sns.take k) ++ [x] = keepS lo hi (lg.sns.take (k + 1)) := by rw [Sx.take_snoc hx]; simp [keepS, inW, hb119, hc122]
          rw [e1] at h144
          exact ⟨(g - 1), by omega, (k + 1), o132, c133, F134, by omega, by omega, hKh139, (h144.slotsMono (restr_spec (keep := [0, 1, 2, 9, 39, 40, 41, 6]) rfl))⟩
        ·
          have hc122f : ¬ x.idx ≤ hi := by simpa using hc122
          have h145 := h121.memMono (L' := [(bl, ⟨logC lg.base (.slice eo lg.evs.length ec) (.slice mo lg.mks.length mc) (.slice (some ⟨b97, 0, none⟩) lg.sns.length sc), 89, false⟩), (b110, ⟨[.int .i64 x.idx, .int .u64 x.st.now, .int .i8 x.st.cur, .int .u8 x.st.s0, .int .u8 x.st.s1, .int .u8 x.st.s2, .int .u8 x.st.s3, .int .u64 x.st.r0, .int .u64 x.st.r1, .int .u64 x.st.r2, .int .u64 x.st.r3, .int .u64 x.st.word, .bool x.out.refused, .int .i8 x.out.running, .int .u64 x.out.value], 84, false⟩)]) (List.Sublist.cons_cons _ (List.Sublist.cons _ (List.Sublist.cons_cons _ List.Sublist.slnil)))
          clear h121
          refine wp_skip ?_
          refine hK106 _ _ ?_
          clear hK106
          refine nd_start (l := [0, 1]) rfl ?_
          refine nd_batch tabOk tabZ_ok [(0, {}), (1, {})] [11, 0, 1, 2, 9, 39, 40, 6, 41] (T' := [(11, .pointer (some ⟨b110, 0, none⟩)), (0, .pointer (some ⟨bl, 0, none⟩)), (1, .int .i64 lo), (2, .int .i64 hi), (9, .slice o2 ((keepS lo hi (lg.sns.take k)).length) c2), (39, .slice (some ⟨b97, 0, none⟩) lg.sns.length sc), (40, .int .i64 ((lg.sns.length : Nat) : Int)), (6, .slice o1 ((keepM lo hi lg.mks).length) c1), (41, .int .i64 (((k : Nat) : Int) + 1))]) (φ := inR .i64 (((k : Nat) : Int) + 1) ∧ True) (rest := []) h145 (by kernel_rfl) rfl ⟨⟨by omega, by omega⟩, trivial⟩ fun a146 h147 => ?_
          clear h145
          refine nd_done ?_
          have h148 := h147.memMono (L' := [(bl, ⟨logC lg.base (.slice eo lg.evs.length ec) (.slice mo lg.mks.length mc) (.slice (some ⟨b97, 0, none⟩) lg.sns.length sc), 89, false⟩)]) (List.Sublist.cons_cons _ (List.Sublist.cons _ List.Sublist.slnil))
          clear h147
          have e1 : keepS lo hi (lg.sns.take k) = keepS lo hi (lg.sns.take (k + 1)) := by rw [Sx.take_snoc hx]; simp [keepS, inW, hb119, hc122]
          rw [e1] at h148
          exact ⟨(g - 1), by omega, (k + 1), o2, c2, F2, by omega, by omega, hFK2, (h148.slotsMono (restr_spec (keep := [0, 1, 2, 9, 39, 40, 41, 6]) rfl))⟩
      ·
        have hb119f : ¬ lo ≤ x.idx := by simpa using hb119
        refine nd_start (l := [0, 1, 2, 3, 4, 5, 6, 7, 8, 9]) rfl ?_
        refine nd_batch tabOk tabZ_ok [(0, {}), (1, {}), (2, {k := 2}), (3, {f := 1}), (4, {}), (5, {}), (6, {}), (7, {}), (8, {}), (9, {})] [11, 0, 1, 2, 9, 39, 40, 41, 6, 54] (T' := [(11, .pointer (some ⟨b110, 0, none⟩)), (0, .pointer (some ⟨bl, 0, none⟩)), (1, .int .i64 lo), (2, .int .i64 hi), (9, .slice o2 ((keepS lo hi (lg.sns.take k)).length) c2), (39, .slice (some ⟨b97, 0, none⟩) lg.sns.length sc), (40, .int .i64 ((lg.sns.length : Nat) : Int)), (41, .int .i64 ((k : Nat) : Int)), (6, .slice o1 ((keepM lo hi lg.mks).length) c1), (54, .bool false)]) (φ := (b110 = b110 ∧ Nat.ble (0 + 1) 15 = true) ∧ (decide (lo ≤ x.idx)) = false ∧ True) (rest := []) h117 (by kernel_rfl) rfl ⟨⟨rfl, rfl⟩, hb119, trivial⟩ fun a149 h150 => ?_
        clear h117
        refine nd_done ?_
        refine hK118 _ _ ?_
        clear hK118
        refine c_false h150 rfl ?_
        refine wp_skip ?_
        refine hK106 _ _ ?_
        clear hK106
        refine nd_start (l := [0, 1]) rfl ?_
        refine nd_batch tabOk tabZ_ok [(0, {}), (1, {})] [11, 0, 1, 2, 9, 39, 40, 6, 41] (T' := [(11, .pointer (some ⟨b110, 0, none⟩)), (0, .pointer (some ⟨bl, 0, none⟩)), (1, .int .i64 lo), (2, .int .i64 hi), (9, .slice o2 ((keepS lo hi (lg.sns.take k)).length) c2), (39, .slice (some ⟨b97, 0, none⟩) lg.sns.length sc), (40, .int .i64 ((lg.sns.length : Nat) : Int)), (6, .slice o1 ((keepM lo hi lg.mks).length) c1), (41, .int .i64 (((k : Nat) : Int) + 1))]) (φ := inR .i64 (((k : Nat) : Int) + 1) ∧ True) (rest := []) h150 (by kernel_rfl) rfl ⟨⟨by omega, by omega⟩, trivial⟩ fun a151 h152 => ?_
        clear h150
        refine nd_done ?_
        have h153 := h152.memMono (L' := [(bl, ⟨logC lg.base (.slice eo lg.evs.length ec) (.slice mo lg.mks.length mc) (.slice (some ⟨b97, 0, none⟩) lg.sns.length sc), 89, false⟩)]) (List.Sublist.cons_cons _ (List.Sublist.cons _ (List.Sublist.cons _ List.Sublist.slnil)))
        clear h152
        have e1 : keepS lo hi (lg.sns.take k) = keepS lo hi (lg.sns.take (k + 1)) := by rw [Sx.take_snoc hx]; simp [keepS, inW, hb119]
        rw [e1] at h153
        exact ⟨(g - 1), by omega, (k + 1), o2, c2, F2, by omega, by omega, hFK2, (h153.slotsMono (restr_spec (keep := [0, 1, 2, 9, 39, 40, 41, 6]) rfl))⟩
    ·
      have hc96f : ¬ ((k : Nat) : Int) < ((lg.sns.length : Nat) : Int) := by simpa using hc96
      have hik : k = lg.sns.length := by omega
      have h154 := h94.slotsMono (T' := [(0, .pointer (some ⟨bl, 0, none⟩)), (1, .int .i64 lo), (2, .int .i64 hi), (6, .slice o1 ((keepM lo hi lg.mks).length) c1), (9, .slice o2 ((keepS lo hi (lg.sns.take k)).length) c2)]) (restr_spec (keep := [0, 1, 2, 6, 9]) rfl)
      clear h94
      subst hik
      rw [List.take_length] at h154
      refine wp_exit ?_
      refine hK81 _ _ ?_
      clear hK81
      refine nd_start (l := [0, 1, 2, 3, 4, 5, 6, 7, 8, 9]) rfl ?_
      refine nd_batch tabOk tabZ_ok [(0, {}), (1, {}), (2, {}), (3, {}), (4, {}), (5, {})] [0, 1, 2, 6, 9, 61, 62, 63, 65] (T' := [(0, .pointer (some ⟨bl, 0, none⟩)), (1, .int .i64 lo), (2, .int .i64 hi), (6, .slice o1 ((keepM lo hi lg.mks).length) c1), (9, .slice o2 ((keepS lo hi lg.sns).length) c2), (61, .pointer (some ⟨bl, 0, none⟩)), (62, .slice o1 ((keepM lo hi lg.mks).length) c1), (63, .slice o2 ((keepS lo hi lg.sns).length) c2), (65, .pointer (some ⟨bl, 16, none⟩))]) (φ := True) (rest := [6, 7, 8, 9]) h154 (by kernel_rfl) rfl trivial fun a155 h156 => ?_
      clear h154
      refine nd_op ?_
      refine op_store tabOk {k := 0} (L' := [(bl, ⟨[.int .i64 lg.base.idx, .int .u64 lg.base.st.now, .int .i8 lg.base.st.cur, .int .u8 lg.base.st.s0, .int .u8 lg.base.st.s1, .int .u8 lg.base.st.s2, .int .u8 lg.base.st.s3, .int .u64 lg.base.st.r0, .int .u64 lg.base.st.r1, .int .u64 lg.base.st.r2, .int .u64 lg.base.st.r3, .int .u64 lg.base.st.word, .bool lg.base.out.refused, .int .i8 lg.base.out.running, .int .u64 lg.base.out.value, .slice eo lg.evs.length ec, .slice o1 ((keepM lo hi lg.mks).length) c1, .slice so lg.sns.length sc], 89, false⟩)]) (φ := bl = bl ∧ Nat.ble (16 + 1) 18 = true) h156 rfl rfl rfl (by kernel_rfl) ⟨rfl, rfl⟩ fun w157 h158 => ?_
      clear h156
      refine nd_batch tabOk tabZ_ok [(7, {}), (8, {})] [0, 1, 2, 6, 9, 63, 67] (T' := [(0, .pointer (some ⟨bl, 0, none⟩)), (1, .int .i64 lo), (2, .int .i64 hi), (6, .slice o1 ((keepM lo hi lg.mks).length) c1), (9, .slice o2 ((keepS lo hi lg.sns).length) c2), (63, .slice o2 ((keepS lo hi lg.sns).length) c2), (67, .pointer (some ⟨bl, 17, none⟩))]) (φ := True) (rest := [9]) h158 (by kernel_rfl) rfl trivial fun a159 h160 => ?_
      clear h158
      refine nd_op ?_
      refine op_store tabOk {k := 0} (L' := [(bl, ⟨[.int .i64 lg.base.idx, .int .u64 lg.base.st.now, .int .i8 lg.base.st.cur, .int .u8 lg.base.st.s0, .int .u8 lg.base.st.s1, .int .u8 lg.base.st.s2, .int .u8 lg.base.st.s3, .int .u64 lg.base.st.r0, .int .u64 lg.base.st.r1, .int .u64 lg.base.st.r2, .int .u64 lg.base.st.r3, .int .u64 lg.base.st.word, .bool lg.base.out.refused, .int .i8 lg.base.out.running, .int .u64 lg.base.out.value, .slice eo lg.evs.length ec, .slice o1 ((keepM lo hi lg.mks).length) c1, .slice o2 ((keepS lo hi lg.sns).length) c2], 89, false⟩)]) (φ := bl = bl ∧ Nat.ble (17 + 1) 18 = true) h160 rfl rfl rfl (by kernel_rfl) ⟨rfl, rfl⟩ fun w161 h162 => ?_
      clear h160
      refine nd_done ?_
      have hLA : LogAt _ bl ⟨eo, ec, eF, o1, c1, F1, o2, c2, F2⟩ (lg.keep lo hi) := LogAt.ofSt h162 (k := 0) rfl (.cons_cons _ (.cons _ (.cons _ (.cons_cons _ (.cons_cons _ .slnil)))))
      have hsp := hLA.sep
      simp only [Hd.F, List.mem_append, not_or, List.append_nil] at hsp
      try simp only [Exit.then, Exit.inBlock]
      try rw [if_pos trivial]
      exact s_end tabOk tabZ_ok h162 [] (vs := []) (φ := True) rfl (by kernel_rfl) trivial ⟨⟨eo, ec, eF, o1, c1, F1, o2, c2, F2⟩, rfl, hLA, h162.frame, fun b hb => by simp only [Hd.F, List.mem_append, List.append_nil] at hb ⊢; rcases hb with hb | hb | hb; exact .inl (.inl hb); exact .inr (freshOf hFK1 hsp.2.1 b hb); exact .inr (freshOf hFK2 hsp.2.2 b hb)⟩

theorem cutAfter_ok (bl : Nat) (d : Hd) (lg : Lg) (w : World) (hl : LogAt w bl d lg) (n : Int) (k : Nat) (hn : n - lg.base.idx = k) (hk : k ≤ lg.evs.length) (hb0 : 0 ≤ lg.base.idx) (hb1 : lg.base.idx ≤ 1000000000) (hlen : lg.evs.length ≤ 1000) (hml : lg.mks.length ≤ 1000) (hsl : lg.sns.length ≤ 1000) :
    Calls Tryf.prog 48 #[.pointer (some ⟨bl, 0, none⟩), .int .i64 n] w fun e w' => ∃ d', e = .returned (.tuple #[]) ∧ LogAt w' bl d' (lg.cutAfter n) ∧ Fr [bl] w w' ∧ ∀ b ∈ d'.F, b ∈ d.F ∨ w.heap.size ≤ b := by
  obtain ⟨eo, ec, eF, mo, mc, mF, so, sc, sF⟩ := d
  obtain ⟨hbl, hA, hsep⟩ := hl
  have hcap : lg.evs.length ≤ ec := rl_cap (hA.get (j := 0) rfl)
  refine enter (n := 27) (K := [bl]) (A := Rws [rl evC 31 3 lg.evs eo ec eF, rl mkC 93 2 lg.mks mo mc mF, rl ptC 84 15 lg.sns so sc sF]) (F := Ff [rl evC 31 3 lg.evs eo ec eF, rl mkC 93 2 lg.mks mo mc mF, rl ptC 84 15 lg.sns so sc sF]) (T := [(0, .pointer (some ⟨bl, 0, none⟩)), (1, .int .i64 n)]) (L := [(bl, ⟨logC lg.base (.slice eo lg.evs.length ec) (.slice mo lg.mks.length mc) (.slice so lg.sns.length sc), 89, false⟩)]) (args := [.pointer (some ⟨bl, 0, none⟩), .int .i64 n]) Tryf.func48 rfl rfl rfl rfl (kcons hbl knil) (by simp) (kcons (by simp) knil) hA Rws.stable (hA).low (kcons (fun _ => hsep) knil) ?_
  intro a h
  refine wp_seq_k fun K1 hK1 => ?_
  refine dr_start (KB := [bl]) (Bi := [[0], [0], [0], [0], [0], [0], [0], [0], [0], [0], [0], [0], [0], [0], [0], []]) mixed h fun w2 h3 => ?_
  clear h
  refine dr_batch tabOk tabZ_ok (by repeat (first | exact PF.body | with_reducible apply PF.inB | with_reducible apply PF.next)) [(0, {}), (1, {}), (2, {}), (3, {}), (4, {k := 0, p := 0}), (5, {}), (6, {}), (7, {}), (8, {}), (9, {}), (10, {k := 0, p := 0}), (11, {}), (12, {}), (13, {}), (14, {})] [0, 1, 16, 18] (T' := [(0, .pointer (some ⟨bl, 0, none⟩)), (1, .int .i64 n), (16, .slice eo ((n - lg.base.idx).toNat) ec), (18, .pointer (some ⟨bl, 15, none⟩))]) (φ := (bl = bl ∧ Nat.ble (15 + 1) 18 = true) ∧ (bl = bl ∧ Nat.ble (0 + 1) 18 = true) ∧ inR .i64 (n - lg.base.idx) ∧ (0 ≤ (n - lg.base.idx) ∧ (n - lg.base.idx) ≤ ((ec : Nat) : Int)) ∧ True) (fuel := 1) h3 (by kernel_rfl) rfl (by kernel_rfl) (by kernel_rfl) ⟨trivial, trivial, trivial, trivial, rfl, trivial, trivial, trivial, trivial, trivial, rfl, trivial, trivial, trivial, trivial, trivial⟩ ⟨⟨rfl, rfl⟩, ⟨rfl, rfl⟩, ⟨by omega, by omega⟩, ⟨by omega, by omega⟩, trivial⟩ fun a5 h6 => ?_
  clear h3
  refine wpAnyK_one (i := 15) (fuel := 0) (by kernel_rfl) ?_
  refine op_store tabOk {k := 0} (L' := [(bl, ⟨[.int .i64 lg.base.idx, .int .u64 lg.base.st.now, .int .i8 lg.base.st.cur, .int .u8 lg.base.st.s0, .int .u8 lg.base.st.s1, .int .u8 lg.base.st.s2, .int .u8 lg.base.st.s3, .int .u64 lg.base.st.r0, .int .u64 lg.base.st.r1, .int .u64 lg.base.st.r2, .int .u64 lg.base.st.r3, .int .u64 lg.base.st.word, .bool lg.base.out.refused, .int .i8 lg.base.out.running, .int .u64 lg.base.out.value, .slice eo ((n - lg.base.idx).toNat) ec, .slice mo lg.mks.length mc, .slice so lg.sns.length sc], 89, false⟩)]) (φ := bl = bl ∧ Nat.ble (15 + 1) 18 = true) h6 rfl rfl rfl (by kernel_rfl) ⟨rfl, rfl⟩ fun w7 h8 => ?_
  have hkh8 := h6.known
  refine ⟨keepNil, ?_⟩
  clear h6
  refine wpAnyK_done (by kernel_rfl) ?_ _
  refine hK1 _ _ ?_
  clear hK1
  refine nd_start (l := [0, 1, 2, 3, 4, 5, 6, 7]) rfl ?_
  refine nd_batch tabOk tabZ_ok [(0, {}), (1, {}), (2, {}), (3, {}), (4, {}), (5, {k := 0}), (6, {})] [0, 1, 19, 24, 25] (T' := [(0, .pointer (some ⟨bl, 0, none⟩)), (1, .int .i64 n), (19, .pointer (some ⟨bl, 0, none⟩)), (24, .int .i64 lg.base.idx), (25, .int .i64 n)]) (φ := (bl = bl ∧ Nat.ble (0 + 1) 18 = true) ∧ True) (rest := [7]) h8 (by kernel_rfl) rfl ⟨⟨rfl, rfl⟩, trivial⟩ fun a9 h10 => ?_
  clear h8
  refine nd_op ?_
  rw [show (n - lg.base.idx).toNat = (lg.evs.take k).length by rw [List.length_take]; omega] at h10
  have h11 := h10.rowAs (j := 0) (r' := rl evC 31 3 (lg.evs.take k) eo ec eF) (R' := [rl evC 31 3 (lg.evs.take k) eo ec eF, rl mkC 93 2 lg.mks mo mc mF, rl ptC 84 15 lg.sns so sc sF]) rfl (rl_cut (h10.inv.get (j := 0) rfl) evC_len hk) rfl rfl
  clear h10
  have h11t : St _ _ [(bl, ⟨logC lg.base (.slice eo ((lg.evs.take k).length) ec) (.slice mo lg.mks.length mc) (.slice so lg.sns.length sc), 89, false⟩)] _ _ := h11
  clear h11
  refine op_call h11t rfl rfl rfl (callOk Tryf.func68 (by decide) rfl) (args := [.pointer (some ⟨bl, 0, none⟩), .int .i64 lg.base.idx, .int .i64 n]) rfl (keep_ok bl ⟨eo, ec, eF, mo, mc, mF, so, sc, sF⟩ (⟨lg.base, lg.evs.take k, lg.mks, lg.sns⟩ : Lg) _ (LogAt.ofSt h11t (k := 0) rfl (List.Sublist.refl _)) lg.base.idx n hml hsl) ?_
  rintro _ w12 ⟨⟨eo1, ec1, eF1, mo1, mc1, mF1, so1, sc1, sF1⟩, rfl, ⟨hb1, hA1, hsep1⟩, hf14, hF15⟩
  refine ⟨_, rfl, ?_⟩
  have h13q := h11t.turn hf14 (kcons (.inl (by simp)) knil) (A' := Rws [rl evC 31 3 (lg.evs.take k) eo1 ec1 eF1, rl mkC 93 2 (keepM lg.base.idx n lg.mks) mo1 mc1 mF1, rl ptC 84 15 (keepS lg.base.idx n lg.sns) so1 sc1 sF1]) (F' := Ff [rl evC 31 3 (lg.evs.take k) eo1 ec1 eF1, rl mkC 93 2 (keepM lg.base.idx n lg.mks) mo1 mc1 mF1, rl ptC 84 15 (keepS lg.base.idx n lg.sns) so1 sc1 sF1]) (L' := [(bl, ⟨logC lg.base (.slice eo1 ((lg.evs.take k).length) ec1) (.slice mo1 ((keepM lg.base.idx n lg.mks).length) mc1) (.slice so1 ((keepS lg.base.idx n lg.sns).length) sc1), 89, false⟩)]) rfl (kcons hb1 knil) hA1 Rws.stable hA1.low hF15
  have h13 := h13q.put (d := some 26) (v := .tuple #[]) (T' := [(26, .tuple #[]), (0, .pointer (some ⟨bl, 0, none⟩)), (1, .int .i64 n), (19, .pointer (some ⟨bl, 0, none⟩)), (24, .int .i64 lg.base.idx), (25, .int .i64 n)]) rfl
  have hsz1 := h11t.frame.size
  clear h11t h13q
  refine nd_done ?_
  have hcut : lg.cutAfter n = Lg.keep lg.base.idx n (⟨lg.base, lg.evs.take k, lg.mks, lg.sns⟩ : Lg) := by simp only [Lg.cutAfter]; rw [show (n - lg.base.idx).toNat = k by omega]
  try simp only [Exit.then, Exit.inBlock]
  try rw [if_pos trivial]
  exact s_end tabOk tabZ_ok h13 [] (vs := []) (φ := True) rfl (by kernel_rfl) trivial ⟨⟨eo1, ec1, eF1, mo1, mc1, mF1, so1, sc1, sF1⟩, rfl, by rw [hcut]; exact LogAt.of (h13.kn (k := 0) rfl) h13.inv hsep1, h13.frame, fun b hb => by rcases hF15 b hb with hq | hq; exact .inl hq; exact .inr (Nat.le_trans hsz1 hq)⟩

theorem truncate_ok (bl : Nat) (d : Hd) (lg : Lg) (w : World) (hl : LogAt w bl d lg) (s : Int) (hin : ∀ p ∈ lg.sns, lg.base.idx ≤ p.idx ∧ p.idx ≤ lg.fin) (hb0 : 0 ≤ lg.base.idx) (hb1 : lg.base.idx ≤ 900000000) (hlen : lg.evs.length ≤ 1000) (hml : lg.mks.length ≤ 1000) (hsl : lg.sns.length ≤ 1000) :
    Calls Tryf.prog 47 #[.pointer (some ⟨bl, 0, none⟩), .int .i64 s] w fun e w' => ∃ d', e = .returned (.bool (lg.snap s).isSome) ∧ LogAt w' bl d' (lg.truncAt s) ∧ Fr [bl] w w' ∧ ∀ b ∈ d'.F, b ∈ d.F ∨ w.heap.size ≤ b := by
  obtain ⟨eo, ec, eF, mo, mc, mF, so, sc, sF⟩ := d
  obtain ⟨hbl, hA, hsep⟩ := hl
  refine enter (n := 46) (K := [bl]) (A := Rws [rl evC 31 3 lg.evs eo ec eF, rl mkC 93 2 lg.mks mo mc mF, rl ptC 84 15 lg.sns so sc sF]) (F := Ff [rl evC 31 3 lg.evs eo ec eF, rl mkC 93 2 lg.mks mo mc mF, rl ptC 84 15 lg.sns so sc sF]) (T := [(0, .pointer (some ⟨bl, 0, none⟩)), (1, .int .i64 s)]) (L := [(bl, ⟨logC lg.base (.slice eo lg.evs.length ec) (.slice mo lg.mks.length mc) (.slice so lg.sns.length sc), 89, false⟩)]) (args := [.pointer (some ⟨bl, 0, none⟩), .int .i64 s]) Tryf.func47 rfl rfl rfl rfl (kcons hbl knil) (by simp) (kcons (by simp) knil) hA Rws.stable (hA).low (kcons (fun _ => hsep) knil) ?_
  intro a h
  refine wp_seq_k fun K1 hK1 => ?_
  refine nd_start (l := [0]) rfl ?_
  refine nd_batch tabOk tabZ_ok [(0, {})] [0, 1, 4] (T' := [(0, .pointer (some ⟨bl, 0, none⟩)), (1, .int .i64 s), (4, .bool false)]) (φ := True) (rest := []) h (by kernel_rfl) rfl trivial fun a2 h3 => ?_
  clear h
  refine nd_done ?_
  refine hK1 _ _ ?_
  clear hK1
  refine wp_seq_k fun K4 hK4 => ?_
  refine wp_seq_k fun K5 hK5 => ?_
  refine nd_start (l := [0, 1, 2, 3, 4, 5]) rfl ?_
  refine nd_batch tabOk tabZ_ok [(0, {}), (1, {}), (2, {}), (3, {k := 0}), (4, {}), (5, {})] [0, 1, 4, 10, 11, 12] (T' := [(0, .pointer (some ⟨bl, 0, none⟩)), (1, .int .i64 s), (4, .bool false), (10, .slice so lg.sns.length sc), (11, .int .i64 ((lg.sns.length : Nat) : Int)), (12, .int .i64 0)]) (φ := (bl = bl ∧ Nat.ble (17 + 1) 18 = true) ∧ True) (rest := []) h3 (by kernel_rfl) rfl ⟨⟨rfl, rfl⟩, trivial⟩ fun a6 h7 => ?_
  clear h3
  refine nd_done ?_
  refine hK5 _ _ ?_
  clear hK5
  refine wp_block ?_
  refine wp_loop_ghost (fun g ga gw => ∃ (k : Nat), (k ≤ lg.sns.length) ∧ (g = lg.sns.length - k) ∧ (∀ q ∈ lg.sns.take k, q.idx ≠ s) ∧ St ⟨46, [bl], w, Rws [rl evC 31 3 lg.evs eo ec eF, rl mkC 93 2 lg.mks mo mc mF, rl ptC 84 15 lg.sns so sc sF], Ff [rl evC 31 3 lg.evs eo ec eF, rl mkC 93 2 lg.mks mo mc mF, rl ptC 84 15 lg.sns so sc sF]⟩ [(0, .pointer (some ⟨bl, 0, none⟩)), (1, .int .i64 s), (10, .slice so lg.sns.length sc), (11, .int .i64 ((lg.sns.length : Nat) : Int)), (12, .int .i64 ((k : Nat) : Int))] [(bl, ⟨logC lg.base (.slice eo lg.evs.length ec) (.slice mo lg.mks.length mc) (.slice so lg.sns.length sc), 89, false⟩)] ga gw) lg.sns.length ⟨0, Nat.zero_le _, rfl, (by simp), (h7.slotsMono (restr_spec (keep := [0, 1, 10, 11, 12]) rfl))⟩ ?_
  clear h7
  rintro g a8 w9 ⟨k, hi11, hi12, hi13, h10⟩
  refine wp_seq_k fun K14 hK14 => ?_
  refine nd_start (l := [0]) rfl ?_
  refine nd_batch tabOk tabZ_ok [(0, {})] [0, 1, 10, 11, 12, 13] (T' := [(0, .pointer (some ⟨bl, 0, none⟩)), (1, .int .i64 s), (10, .slice so lg.sns.length sc), (11, .int .i64 ((lg.sns.length : Nat) : Int)), (12, .int .i64 ((k : Nat) : Int)), (13, .bool (decide (((k : Nat) : Int) < ((lg.sns.length : Nat) : Int))))]) (φ := True) (rest := []) h10 (by kernel_rfl) rfl trivial fun a15 h16 => ?_
  clear h10
  refine nd_done ?_
  refine hK14 _ _ ?_
  clear hK14
  refine wp_seq_k fun K17 hK17 => ?_
  refine c_split h16 (b := decide (((k : Nat) : Int) < ((lg.sns.length : Nat) : Int))) rfl (fun hc18 => ?_) (fun hc18 => ?_)
  ·
    have hc18f : ((k : Nat) : Int) < ((lg.sns.length : Nat) : Int) := by simpa using hc18
    obtain ⟨x, hx⟩ := Sx.get_some (xs := lg.sns) (i := k) (by omega)
    have hxw := hin x (List.mem_of_getElem? hx)
    obtain ⟨b19, cs20, ho21, hb22, hc23, hF24, hq26, hl27⟩ := rl_open (h16.inv.get (j := 2) rfl) ptC_len hx
    subst ho21 hF24
    have h25 := h16.open_ hb22 (h16.notinL (by simp [Ff]) (kcons (by intro hq; cases hq) knil))
    clear h16
    refine wp_skip ?_
    refine hK17 _ _ ?_
    clear hK17
    refine wp_seq_k fun K28 hK28 => ?_
    refine wp_block ?_
    refine wp_seq_k fun K29 hK29 => ?_
    refine nd_start (l := [0, 1, 2, 3]) rfl ?_
    refine nd_batch tabOk tabZ_ok [(0, {}), (1, {k := 1, m := 1, vs := [.int .i64 x.idx, .int .u64 x.st.now, .int .i8 x.st.cur, .int .u8 x.st.s0, .int .u8 x.st.s1, .int .u8 x.st.s2, .int .u8 x.st.s3, .int .u64 x.st.r0, .int .u64 x.st.r1, .int .u64 x.st.r2, .int .u64 x.st.r3, .int .u64 x.st.word, .bool x.out.refused, .int .i8 x.out.running, .int .u64 x.out.value]})] [0, 1, 10, 11, 12, 15] (T' := [(0, .pointer (some ⟨bl, 0, none⟩)), (1, .int .i64 s), (10, .slice (some ⟨b19, 0, none⟩) lg.sns.length sc), (11, .int .i64 ((lg.sns.length : Nat) : Int)), (12, .int .i64 ((k : Nat) : Int)), (15, .agg #[.int .i64 x.idx, .int .u64 x.st.now, .int .i8 x.st.cur, .int .u8 x.st.s0, .int .u8 x.st.s1, .int .u8 x.st.s2, .int .u8 x.st.s3, .int .u64 x.st.r0, .int .u64 x.st.r1, .int .u64 x.st.r2, .int .u64 x.st.r3, .int .u64 x.st.word, .bool x.out.refused, .int .i8 x.out.running, .int .u64 x.out.value])]) (φ := (0 ≤ ((k : Nat) : Int) ∧ ((k : Nat) : Int) < ((lg.sns.length : Nat) : Int)) ∧ (b19 = b19 ∧ cellsAre cs20 (0 + (k * 15)) [.int .i64 x.idx, .int .u64 x.st.now, .int .i8 x.st.cur, .int .u8 x.st.s0, .int .u8 x.st.s1, .int .u8 x.st.s2, .int .u8 x.st.s3, .int .u64 x.st.r0, .int .u64 x.st.r1, .int .u64 x.st.r2, .int .u64 x.st.r3, .int .u64 x.st.word, .bool x.out.refused, .int .i8 x.out.running, .int .u64 x.out.value]) ∧ True) (rest := [2, 3]) h25 (by kernel_rfl) rfl ⟨⟨by omega, by omega⟩, ⟨rfl, (by rw [Nat.zero_add]; exact hc23)⟩, trivial⟩ fun a30 h31 => ?_
    clear h25
    refine nd_op ?_
    refine op_new tabOk (cells := [.int .i64 0, .int .u64 0, .int .i8 0, .int .u8 0, .int .u8 0, .int .u8 0, .int .u8 0, .int .u64 0, .int .u64 0, .int .u64 0, .int .u64 0, .int .u64 0, .bool false, .int .i8 0, .int .u64 0]) (ty := 84) (ln := none) (L1 := fun b32 => [(bl, ⟨logC lg.base (.slice eo lg.evs.length ec) (.slice mo lg.mks.length mc) (.slice (some ⟨b19, 0, none⟩) lg.sns.length sc), 89, false⟩), (b19, ⟨cs20, 84, true⟩), (b32, ⟨[.int .i64 0, .int .u64 0, .int .i8 0, .int .u8 0, .int .u8 0, .int .u8 0, .int .u8 0, .int .u64 0, .int .u64 0, .int .u64 0, .int .u64 0, .int .u64 0, .bool false, .int .i8 0, .int .u64 0], 84, false⟩)]) h31 rfl rfl rfl rfl (by kernel_rfl) (fun _ => rfl) fun b32 w33 a34 h35 hf36 hn37 => ?_
    clear h31
    refine nd_op ?_
    refine op_store tabOk {k := 2} (L' := [(bl, ⟨logC lg.base (.slice eo lg.evs.length ec) (.slice mo lg.mks.length mc) (.slice (some ⟨b19, 0, none⟩) lg.sns.length sc), 89, false⟩), (b19, ⟨cs20, 84, true⟩), (b32, ⟨[.int .i64 x.idx, .int .u64 x.st.now, .int .i8 x.st.cur, .int .u8 x.st.s0, .int .u8 x.st.s1, .int .u8 x.st.s2, .int .u8 x.st.s3, .int .u64 x.st.r0, .int .u64 x.st.r1, .int .u64 x.st.r2, .int .u64 x.st.r3, .int .u64 x.st.word, .bool x.out.refused, .int .i8 x.out.running, .int .u64 x.out.value], 84, false⟩)]) (φ := b32 = b32 ∧ Nat.ble (0 + 15) 15 = true) h35 rfl rfl rfl (by kernel_rfl) ⟨rfl, rfl⟩ fun w38 h39 => ?_
    clear h35
    refine nd_done ?_
    refine hK29 _ _ ?_
    clear hK29
    refine wp_seq_k fun K40 hK40 => ?_
    refine nd_start (l := [0, 1, 2, 3]) rfl ?_
    refine nd_batch tabOk tabZ_ok [(0, {}), (1, {k := 2}), (2, {}), (3, {})] [6, 0, 1, 10, 11, 12, 19] (T' := [(6, .pointer (some ⟨b32, 0, none⟩)), (0, .pointer (some ⟨bl, 0, none⟩)), (1, .int .i64 s), (10, .slice (some ⟨b19, 0, none⟩) lg.sns.length sc), (11, .int .i64 ((lg.sns.length : Nat) : Int)), (12, .int .i64 ((k : Nat) : Int)), (19, .bool (x.idx == s))]) (φ := (b32 = b32 ∧ Nat.ble (0 + 1) 15 = true) ∧ True) (rest := []) h39 (by kernel_rfl) rfl ⟨⟨rfl, rfl⟩, trivial⟩ fun a41 h42 => ?_
    clear h39
    refine nd_done ?_
    refine hK40 _ _ ?_
    clear hK40
    refine c_split h42 (b := (x.idx == s)) rfl (fun hc43 => ?_) (fun hc43 => ?_)
    ·
      have hc43f : x.idx = s := by simpa using hc43
      have hxs : x.idx = s := hc43f
      have h44 := h42.memMono (L' := [(bl, ⟨logC lg.base (.slice eo lg.evs.length ec) (.slice mo lg.mks.length mc) (.slice (some ⟨b19, 0, none⟩) lg.sns.length sc), 89, false⟩), (b32, ⟨[.int .i64 x.idx, .int .u64 x.st.now, .int .i8 x.st.cur, .int .u8 x.st.s0, .int .u8 x.st.s1, .int .u8 x.st.s2, .int .u8 x.st.s3, .int .u64 x.st.r0, .int .u64 x.st.r1, .int .u64 x.st.r2, .int .u64 x.st.r3, .int .u64 x.st.word, .bool x.out.refused, .int .i8 x.out.running, .int .u64 x.out.value], 84, false⟩)]) (List.Sublist.cons_cons _ (List.Sublist.cons _ (List.Sublist.cons_cons _ List.Sublist.slnil)))
      clear h42
      have hyes : lg.snap s = some x := find_at hx (by simpa using hxs) (fun q hq => by simpa using hi13 q hq)
      have hkk : (s - lg.base.idx).toNat ≤ lg.evs.length := by simp only [Lg.fin] at hxw; omega
      simp only [Lg.fin] at hxw
      refine wp_seq_k fun K45 hK45 => ?_
      refine dr_start (KB := [bl, b32]) (Bi := [[0, 1], [0, 1], [0, 1], [0, 1], [0, 1], [0, 1], [0, 1], [0, 1], [0, 1], [0, 1], [0, 1], [0, 1], [0, 1], [], [0, 1], [0, 1], []]) mixed h44 fun w46 h47 => ?_
      clear h44
      refine dr_batch tabOk tabZ_ok (by repeat (first | exact PF.body | with_reducible apply PF.inB | with_reducible apply PF.next)) [(0, {}), (1, {}), (2, {}), (3, {}), (4, {k := 0, p := 0}), (5, {}), (6, {}), (7, {}), (8, {}), (9, {}), (10, {k := 0, p := 0}), (11, {}), (12, {})] [6, 0, 1, 10, 11, 12, 20, 32] (T' := [(6, .pointer (some ⟨b32, 0, none⟩)), (0, .pointer (some ⟨bl, 0, none⟩)), (1, .int .i64 s), (10, .slice (some ⟨b19, 0, none⟩) lg.sns.length sc), (11, .int .i64 ((lg.sns.length : Nat) : Int)), (12, .int .i64 ((k : Nat) : Int)), (20, .pointer (some ⟨bl, 0, none⟩)), (32, .slice (sliceBase eo ec ((s - lg.base.idx).toNat) 3) (lg.evs.length - ((s - lg.base.idx).toNat)) (ec - ((s - lg.base.idx).toNat)))]) (φ := (bl = bl ∧ Nat.ble (15 + 1) 18 = true) ∧ (bl = bl ∧ Nat.ble (0 + 1) 18 = true) ∧ inR .i64 (s - lg.base.idx) ∧ (0 ≤ (s - lg.base.idx) ∧ (s - lg.base.idx) ≤ ((lg.evs.length : Nat) : Int)) ∧ True) (fuel := 4) h47 (by kernel_rfl) rfl (by kernel_rfl) (by kernel_rfl) ⟨trivial, trivial, trivial, trivial, rfl, trivial, trivial, trivial, trivial, trivial, rfl, trivial, trivial, trivial⟩ ⟨⟨rfl, rfl⟩, ⟨rfl, rfl⟩, ⟨by omega, by omega⟩, ⟨by omega, by omega⟩, trivial⟩ fun a49 h50 => ?_
      clear h47
      refine wpAnyK_one (i := 13) (fuel := 3) (by kernel_rfl) ?_
      have h51 := h50.rowNil 31 3
      clear h50
      have h51r : St ⟨46, [bl], w, Rws [rl evC 31 3 lg.evs eo ec eF, rl mkC 93 2 lg.mks mo mc mF, rl ptC 84 15 lg.sns (some ⟨b19, 0, none⟩) sc ([b19]), rl evC 31 3 ([] : List Ev) none 0 ([])], Ff [rl evC 31 3 lg.evs eo ec eF, rl mkC 93 2 lg.mks mo mc mF, rl ptC 84 15 lg.sns (some ⟨b19, 0, none⟩) sc ([b19]), rl evC 31 3 ([] : List Ev) none 0 ([])]⟩ [(6, .pointer (some ⟨b32, 0, none⟩)), (0, .pointer (some ⟨bl, 0, none⟩)), (1, .int .i64 s), (10, .slice (some ⟨b19, 0, none⟩) lg.sns.length sc), (11, .int .i64 ((lg.sns.length : Nat) : Int)), (12, .int .i64 ((k : Nat) : Int)), (20, .pointer (some ⟨bl, 0, none⟩)), (32, .slice (sliceBase eo ec ((s - lg.base.idx).toNat) 3) (lg.evs.length - ((s - lg.base.idx).toNat)) (ec - ((s - lg.base.idx).toNat)))] [(bl, ⟨logC lg.base (.slice eo lg.evs.length ec) (.slice mo lg.mks.length mc) (.slice (some ⟨b19, 0, none⟩) lg.sns.length sc), 89, false⟩), (b32, ⟨[.int .i64 x.idx, .int .u64 x.st.now, .int .i8 x.st.cur, .int .u8 x.st.s0, .int .u8 x.st.s1, .int .u8 x.st.s2, .int .u8 x.st.s3, .int .u64 x.st.r0, .int .u64 x.st.r1, .int .u64 x.st.r2, .int .u64 x.st.r3, .int .u64 x.st.word, .bool x.out.refused, .int .i8 x.out.running, .int .u64 x.out.value], 84, false⟩)] _ _ := h51
      clear h51
      refine op_append tabOk (e := 31) (so := none) (n := 0) (c := 0) (xo := (sliceBase eo ec ((s - lg.base.idx).toNat) 3)) (m := lg.evs.length - ((s - lg.base.idx).toNat)) (cx := ec - ((s - lg.base.idx).toNat)) (vals := []) (vs := (lg.evs.drop ((s - lg.base.idx).toNat)).flatMap evC) (F := []) h51r rfl rfl rfl rfl rfl rfl rfl rfl rfl rfl rfl rfl (Row.nil _ 31 3) (src_from (h51r.inv.get (j := 0) rfl) evC_len hkk) (by omega) (allOne_flat evC_one _) ?_
      intro o52 c53 F54 w55 hr56 hf57 hF58
      have hr562 : (rl evC 31 3 (lg.evs.drop ((s - lg.base.idx).toNat)) o52 c53 F54).at w55 := by simpa [RS.at] using hr56
      have hKh59 := row1_keys (K := [bl]) (fun _ hq => by cases hq) h51r.frame.size hF58
      rw [show 0 + (lg.evs.length - ((s - lg.base.idx).toNat)) = (lg.evs.drop ((s - lg.base.idx).toNat)).length by simp]
      have h59 := (h51r.rowSet (j := 3) (r := rl evC 31 3 ([] : List Ev) none 0 ([])) (r' := rl evC 31 3 (lg.evs.drop ((s - lg.base.idx).toNat)) o52 c53 F54) (R' := [rl evC 31 3 lg.evs eo ec eF, rl mkC 93 2 lg.mks mo mc mF, rl ptC 84 15 lg.sns (some ⟨b19, 0, none⟩) sc ([b19]), rl evC 31 3 (lg.evs.drop ((s - lg.base.idx).toNat)) o52 c53 F54]) rfl hr562 hf57 hF58 (fun _ hq => by cases hq) (fun _ _ _ hq => by cases hq) rfl).put (d := some 33) (v := .slice o52 ((lg.evs.drop ((s - lg.base.idx).toNat)).length) c53) (T' := [(33, .slice o52 ((lg.evs.drop ((s - lg.base.idx).toNat)).length) c53), (6, .pointer (some ⟨b32, 0, none⟩)), (0, .pointer (some ⟨bl, 0, none⟩)), (1, .int .i64 s), (10, .slice (some ⟨b19, 0, none⟩) lg.sns.length sc), (11, .int .i64 ((lg.sns.length : Nat) : Int)), (12, .int .i64 ((k : Nat) : Int)), (20, .pointer (some ⟨bl, 0, none⟩)), (32, .slice (sliceBase eo ec ((s - lg.base.idx).toNat) 3) (lg.evs.length - ((s - lg.base.idx).toNat)) (ec - ((s - lg.base.idx).toNat)))]) rfl
      have hkh59 := h51r.known
      refine ⟨keepNil, ?_⟩
      clear h51r
      refine dr_batch tabOk tabZ_ok (by repeat (first | exact PF.body | with_reducible apply PF.inB | with_reducible apply PF.next)) [(14, {}), (15, {})] [33, 6, 0, 1, 10, 11, 12, 35] (T' := [(33, .slice o52 ((lg.evs.drop ((s - lg.base.idx).toNat)).length) c53), (6, .pointer (some ⟨b32, 0, none⟩)), (0, .pointer (some ⟨bl, 0, none⟩)), (1, .int .i64 s), (10, .slice (some ⟨b19, 0, none⟩) lg.sns.length sc), (11, .int .i64 ((lg.sns.length : Nat) : Int)), (12, .int .i64 ((k : Nat) : Int)), (35, .pointer (some ⟨bl, 15, none⟩))]) (φ := True) (fuel := 1) h59 (by kernel_rfl) rfl (by kernel_rfl) (by kernel_rfl) ⟨trivial, trivial, trivial⟩ trivial fun a60 h61 => ?_
      clear h59
      refine wpAnyK_one (i := 16) (fuel := 0) (by kernel_rfl) ?_
      refine op_store tabOk {k := 0} (L' := [(bl, ⟨[.int .i64 lg.base.idx, .int .u64 lg.base.st.now, .int .i8 lg.base.st.cur, .int .u8 lg.base.st.s0, .int .u8 lg.base.st.s1, .int .u8 lg.base.st.s2, .int .u8 lg.base.st.s3, .int .u64 lg.base.st.r0, .int .u64 lg.base.st.r1, .int .u64 lg.base.st.r2, .int .u64 lg.base.st.r3, .int .u64 lg.base.st.word, .bool lg.base.out.refused, .int .i8 lg.base.out.running, .int .u64 lg.base.out.value, .slice o52 ((lg.evs.drop ((s - lg.base.idx).toNat)).length) c53, .slice mo lg.mks.length mc, .slice (some ⟨b19, 0, none⟩) lg.sns.length sc], 89, false⟩), (b32, ⟨[.int .i64 x.idx, .int .u64 x.st.now, .int .i8 x.st.cur, .int .u8 x.st.s0, .int .u8 x.st.s1, .int .u8 x.st.s2, .int .u8 x.st.s3, .int .u64 x.st.r0, .int .u64 x.st.r1, .int .u64 x.st.r2, .int .u64 x.st.r3, .int .u64 x.st.word, .bool x.out.refused, .int .i8 x.out.running, .int .u64 x.out.value], 84, false⟩)]) (φ := bl = bl ∧ Nat.ble (15 + 1) 18 = true) h61 rfl rfl rfl (by kernel_rfl) ⟨rfl, rfl⟩ fun w62 h63 => ?_
      have hkh63 := h61.known
      refine ⟨keepNil, ?_⟩
      clear h61
      refine wpAnyK_done (by kernel_rfl) ?_ _
      refine hK45 _ _ ?_
      clear hK45
      refine wp_seq_k fun K64 hK64 => ?_
      refine nd_start (l := [0, 1, 2, 3, 4]) rfl ?_
      refine nd_batch tabOk tabZ_ok [(0, {}), (1, {k := 1}), (2, {}), (3, {})] [6, 0, 1, 10, 11, 12, 37, 39] (T' := [(6, .pointer (some ⟨b32, 0, none⟩)), (0, .pointer (some ⟨bl, 0, none⟩)), (1, .int .i64 s), (10, .slice (some ⟨b19, 0, none⟩) lg.sns.length sc), (11, .int .i64 ((lg.sns.length : Nat) : Int)), (12, .int .i64 ((k : Nat) : Int)), (37, .agg #[.int .i64 x.idx, .int .u64 x.st.now, .int .i8 x.st.cur, .int .u8 x.st.s0, .int .u8 x.st.s1, .int .u8 x.st.s2, .int .u8 x.st.s3, .int .u64 x.st.r0, .int .u64 x.st.r1, .int .u64 x.st.r2, .int .u64 x.st.r3, .int .u64 x.st.word, .bool x.out.refused, .int .i8 x.out.running, .int .u64 x.out.value]), (39, .pointer (some ⟨bl, 0, none⟩))]) (φ := (b32 = b32 ∧ Nat.ble (0 + 15) 15 = true) ∧ True) (rest := [4]) h63 (by kernel_rfl) rfl ⟨⟨rfl, rfl⟩, trivial⟩ fun a65 h66 => ?_
      clear h63
      refine nd_op ?_
      refine op_store tabOk {k := 0} (L' := [(bl, ⟨[.int .i64 x.idx, .int .u64 x.st.now, .int .i8 x.st.cur, .int .u8 x.st.s0, .int .u8 x.st.s1, .int .u8 x.st.s2, .int .u8 x.st.s3, .int .u64 x.st.r0, .int .u64 x.st.r1, .int .u64 x.st.r2, .int .u64 x.st.r3, .int .u64 x.st.word, .bool x.out.refused, .int .i8 x.out.running, .int .u64 x.out.value, .slice o52 ((lg.evs.drop ((s - lg.base.idx).toNat)).length) c53, .slice mo lg.mks.length mc, .slice (some ⟨b19, 0, none⟩) lg.sns.length sc], 89, false⟩), (b32, ⟨[.int .i64 x.idx, .int .u64 x.st.now, .int .i8 x.st.cur, .int .u8 x.st.s0, .int .u8 x.st.s1, .int .u8 x.st.s2, .int .u8 x.st.s3, .int .u64 x.st.r0, .int .u64 x.st.r1, .int .u64 x.st.r2, .int .u64 x.st.r3, .int .u64 x.st.word, .bool x.out.refused, .int .i8 x.out.running, .int .u64 x.out.value], 84, false⟩)]) (φ := bl = bl ∧ Nat.ble (0 + 15) 18 = true) h66 rfl rfl rfl (by kernel_rfl) ⟨rfl, rfl⟩ fun w67 h68 => ?_
      clear h66
      refine nd_done ?_
      refine hK64 _ _ ?_
      clear hK64
      refine wp_seq_k fun K69 hK69 => ?_
      refine nd_start (l := [0, 1, 2, 3, 4]) rfl ?_
      refine nd_batch tabOk tabZ_ok [(0, {}), (1, {}), (2, {})] [6, 0, 1, 10, 11, 12, 40, 41, 42] (T' := [(6, .pointer (some ⟨b32, 0, none⟩)), (0, .pointer (some ⟨bl, 0, none⟩)), (1, .int .i64 s), (10, .slice (some ⟨b19, 0, none⟩) lg.sns.length sc), (11, .int .i64 ((lg.sns.length : Nat) : Int)), (12, .int .i64 ((k : Nat) : Int)), (40, .pointer (some ⟨bl, 0, none⟩)), (41, .int .i64 s), (42, .pointer (some ⟨bl, 0, none⟩))]) (φ := True) (rest := [3, 4]) h68 (by kernel_rfl) rfl trivial fun a70 h71 => ?_
      clear h68
      refine nd_op ?_
      refine op_call h71 rfl rfl rfl (callOk Tryf.func41 (by decide) rfl) (args := [.pointer (some ⟨bl, 0, none⟩)]) rfl (end_ok bl x o52 _ c53 (.slice mo lg.mks.length mc) (.slice (some ⟨b19, 0, none⟩) lg.sns.length sc) false _ (h71.kn (k := 0) rfl) (by omega) (by omega) (by rw [List.length_drop]; omega)) ?_
      rintro _ w72 ⟨rfl, hf74⟩
      refine ⟨_, rfl, ?_⟩
      have h73 := (h71.grow hf74).put (d := some 43) (v := .int .i64 (x.idx + ((lg.evs.drop (s - lg.base.idx).toNat).length : Int))) (T' := [(43, .int .i64 (x.idx + ((lg.evs.drop (s - lg.base.idx).toNat).length : Int))), (6, .pointer (some ⟨b32, 0, none⟩)), (0, .pointer (some ⟨bl, 0, none⟩)), (1, .int .i64 s), (10, .slice (some ⟨b19, 0, none⟩) lg.sns.length sc), (11, .int .i64 ((lg.sns.length : Nat) : Int)), (12, .int .i64 ((k : Nat) : Int)), (40, .pointer (some ⟨bl, 0, none⟩)), (41, .int .i64 s), (42, .pointer (some ⟨bl, 0, none⟩))]) rfl
      clear h71
      refine nd_op ?_
      have hLq := (LogAt.ofSt' h73 (k := 0) (d := ⟨o52, c53, F54, mo, mc, mF, (some ⟨b19, 0, none⟩), sc, [b19]⟩) (lg := (⟨x, lg.evs.drop (s - lg.base.idx).toNat, lg.mks, lg.sns⟩ : Lg)) (R2 := [rl mkC 93 2 lg.mks mo mc mF, rl ptC 84 15 lg.sns (some ⟨b19, 0, none⟩) sc ([b19]), rl evC 31 3 (lg.evs.drop ((s - lg.base.idx).toNat)) o52 c53 F54]) rfl (.cons _ (.cons_cons _ (.cons_cons _ (.cons_cons _ .slnil)))) (List.perm_append_comm (l₁ := [rl mkC 93 2 lg.mks mo mc mF, rl ptC 84 15 lg.sns (some ⟨b19, 0, none⟩) sc ([b19])]) (l₂ := [rl evC 31 3 (lg.evs.drop ((s - lg.base.idx).toNat)) o52 c53 F54])))
      have hsq := hLq.sep
      simp only [Hd.F, List.mem_append, not_or, List.append_nil] at hsq
      have h75 := h73.memMono (L' := [(bl, ⟨[.int .i64 x.idx, .int .u64 x.st.now, .int .i8 x.st.cur, .int .u8 x.st.s0, .int .u8 x.st.s1, .int .u8 x.st.s2, .int .u8 x.st.s3, .int .u64 x.st.r0, .int .u64 x.st.r1, .int .u64 x.st.r2, .int .u64 x.st.r3, .int .u64 x.st.word, .bool x.out.refused, .int .i8 x.out.running, .int .u64 x.out.value, .slice o52 ((lg.evs.drop ((s - lg.base.idx).toNat)).length) c53, .slice mo lg.mks.length mc, .slice (some ⟨b19, 0, none⟩) lg.sns.length sc], 89, false⟩)]) (List.Sublist.cons_cons _ (List.Sublist.cons _ List.Sublist.slnil))
      clear h73
      refine op_call h75 rfl rfl rfl (callOk Tryf.func68 (by decide) rfl) (args := [.pointer (some ⟨bl, 0, none⟩), .int .i64 s, .int .i64 (x.idx + ((lg.evs.drop (s - lg.base.idx).toNat).length : Int))]) rfl (keep_ok bl ⟨o52, c53, F54, mo, mc, mF, (some ⟨b19, 0, none⟩), sc, [b19]⟩ (⟨x, lg.evs.drop (s - lg.base.idx).toNat, lg.mks, lg.sns⟩ : Lg) _ hLq s (x.idx + ((lg.evs.drop (s - lg.base.idx).toNat).length : Int)) hml hsl) ?_
      rintro _ w76 ⟨⟨eo1, ec1, eF1, mo1, mc1, mF1, so1, sc1, sF1⟩, rfl, ⟨hb1, hA1, hsep1⟩, hf78, hF79⟩
      refine ⟨_, rfl, ?_⟩
      have h77q := h75.turn hf78 (kcons (.inl (by simp)) knil) (A' := Rws [rl evC 31 3 (lg.evs.drop (s - lg.base.idx).toNat) eo1 ec1 eF1, rl mkC 93 2 (keepM s (x.idx + ((lg.evs.drop (s - lg.base.idx).toNat).length : Int)) lg.mks) mo1 mc1 mF1, rl ptC 84 15 (keepS s (x.idx + ((lg.evs.drop (s - lg.base.idx).toNat).length : Int)) lg.sns) so1 sc1 sF1]) (F' := Ff [rl evC 31 3 (lg.evs.drop (s - lg.base.idx).toNat) eo1 ec1 eF1, rl mkC 93 2 (keepM s (x.idx + ((lg.evs.drop (s - lg.base.idx).toNat).length : Int)) lg.mks) mo1 mc1 mF1, rl ptC 84 15 (keepS s (x.idx + ((lg.evs.drop (s - lg.base.idx).toNat).length : Int)) lg.sns) so1 sc1 sF1]) (L' := [(bl, ⟨logC x (.slice eo1 ((lg.evs.drop (s - lg.base.idx).toNat).length) ec1) (.slice mo1 ((keepM s (x.idx + ((lg.evs.drop (s - lg.base.idx).toNat).length : Int)) lg.mks).length) mc1) (.slice so1 ((keepS s (x.idx + ((lg.evs.drop (s - lg.base.idx).toNat).length : Int)) lg.sns).length) sc1), 89, false⟩)]) rfl (kcons hb1 knil) hA1 Rws.stable hA1.low (fun b hb => orMap (hF79 b hb) (fun hq => by simp only [Hd.F, Ff, List.flatMap_cons, List.flatMap_nil, List.mem_append, List.append_nil] at hq ⊢; rcases hq with hq | hq | hq; exact .inr (.inr (.inr hq)); exact .inr (.inl hq); exact .inr (.inr (.inl hq))) id)
      have h77 := h77q.put (d := some 44) (v := .tuple #[]) (T' := [(44, .tuple #[]), (43, .int .i64 (x.idx + ((lg.evs.drop (s - lg.base.idx).toNat).length : Int))), (6, .pointer (some ⟨b32, 0, none⟩)), (0, .pointer (some ⟨bl, 0, none⟩)), (1, .int .i64 s), (10, .slice (some ⟨b19, 0, none⟩) lg.sns.length sc), (11, .int .i64 ((lg.sns.length : Nat) : Int)), (12, .int .i64 ((k : Nat) : Int)), (40, .pointer (some ⟨bl, 0, none⟩)), (41, .int .i64 s), (42, .pointer (some ⟨bl, 0, none⟩))]) rfl
      have hsz1 := h75.frame.size
      clear h75 h77q
      refine nd_done ?_
      refine hK69 _ _ ?_
      clear hK69
      refine wp_seq_k fun K80 hK80 => ?_
      refine nd_start (l := [0]) rfl ?_
      refine nd_batch tabOk tabZ_ok [(0, {})] [6, 0, 1, 10, 11, 12, 4] (T' := [(6, .pointer (some ⟨b32, 0, none⟩)), (0, .pointer (some ⟨bl, 0, none⟩)), (1, .int .i64 s), (10, .slice (some ⟨b19, 0, none⟩) lg.sns.length sc), (11, .int .i64 ((lg.sns.length : Nat) : Int)), (12, .int .i64 ((k : Nat) : Int)), (4, .bool true)]) (φ := True) (rest := []) h77 (by kernel_rfl) rfl trivial fun a81 h82 => ?_
      clear h77
      refine nd_done ?_
      refine hK80 _ _ ?_
      clear hK80
      refine wp_ret ?_
      have htr : lg.truncAt s = Lg.keep s (x.idx + ((lg.evs.drop (s - lg.base.idx).toNat).length : Int)) (⟨x, lg.evs.drop (s - lg.base.idx).toNat, lg.mks, lg.sns⟩ : Lg) := by simp only [Lg.truncAt, hyes, Lg.truncate, Lg.fin, hxs]
      try simp only [Exit.then, Exit.inBlock]
      try rw [if_pos trivial]
      exact s_ret tabOk tabZ_ok h82 [(.tmp 4, {})] (vs := [.bool true]) (φ := True) rfl (by kernel_rfl) trivial ⟨⟨eo1, ec1, eF1, mo1, mc1, mF1, so1, sc1, sF1⟩, by rw [hyes]; rfl, by rw [htr]; exact LogAt.of (h82.kn (k := 0) rfl) h82.inv hsep1, h82.frame, fun b hb => by rcases hF79 b hb with hq | hq; simp only [Hd.F, List.mem_append, List.append_nil] at hq ⊢; rcases hq with hq | hq | hq; exact .inr (freshOf hKh59 hsq.1 b hq); exact .inl (.inr (.inl hq)); exact .inl (.inr (.inr hq)); exact .inr (Nat.le_trans hsz1 hq)⟩
    ·
      have hc43f : x.idx ≠ s := by simpa using hc43
      have hxs : x.idx ≠ s := hc43f
      have h83 := h42.memMono (L' := [(bl, ⟨logC lg.base (.slice eo lg.evs.length ec) (.slice mo lg.mks.length mc) (.slice (some ⟨b19, 0, none⟩) lg.sns.length sc), 89, false⟩), (b32, ⟨[.int .i64 x.idx, .int .u64 x.st.now, .int .i8 x.st.cur, .int .u8 x.st.s0, .int .u8 x.st.s1, .int .u8 x.st.s2, .int .u8 x.st.s3, .int .u64 x.st.r0, .int .u64 x.st.r1, .int .u64 x.st.r2, .int .u64 x.st.r3, .int .u64 x.st.word, .bool x.out.refused, .int .i8 x.out.running, .int .u64 x.out.value], 84, false⟩)]) (List.Sublist.cons_cons _ (List.Sublist.cons _ (List.Sublist.cons_cons _ List.Sublist.slnil)))
      clear h42
      refine wp_skip ?_
      refine hK28 _ _ ?_
      clear hK28
      refine nd_start (l := [0, 1]) rfl ?_
      refine nd_batch tabOk tabZ_ok [(0, {}), (1, {})] [6, 0, 1, 10, 11, 12] (T' := [(6, .pointer (some ⟨b32, 0, none⟩)), (0, .pointer (some ⟨bl, 0, none⟩)), (1, .int .i64 s), (10, .slice (some ⟨b19, 0, none⟩) lg.sns.length sc), (11, .int .i64 ((lg.sns.length : Nat) : Int)), (12, .int .i64 (((k : Nat) : Int) + 1))]) (φ := inR .i64 (((k : Nat) : Int) + 1) ∧ True) (rest := []) h83 (by kernel_rfl) rfl ⟨⟨by omega, by omega⟩, trivial⟩ fun a84 h85 => ?_
      clear h83
      refine nd_done ?_
      have h86 := h85.memMono (L' := [(bl, ⟨logC lg.base (.slice eo lg.evs.length ec) (.slice mo lg.mks.length mc) (.slice (some ⟨b19, 0, none⟩) lg.sns.length sc), 89, false⟩)]) (List.Sublist.cons_cons _ (List.Sublist.cons _ List.Sublist.slnil))
      clear h85
      exact ⟨(g - 1), by omega, (k + 1), by omega, by omega, by intro q hq; rw [Sx.take_snoc hx] at hq; rcases List.mem_append.1 hq with hq | hq; exact hi13 q hq; simp at hq; subst hq; exact hxs, (h86.slotsMono (restr_spec (keep := [0, 1, 10, 11, 12]) rfl))⟩
  ·
    have hc18f : ¬ ((k : Nat) : Int) < ((lg.sns.length : Nat) : Int) := by simpa using hc18
    have hik : k = lg.sns.length := by omega
    have h87 := h16.slotsMono (T' := []) (restr_spec (keep := []) rfl)
    clear h16
    subst hik
    have hno : lg.snap s = none := by rw [List.take_length] at hi13; simpa [Lg.snap] using hi13
    refine wp_exit ?_
    refine hK4 _ _ ?_
    clear hK4
    refine wp_seq_k fun K88 hK88 => ?_
    refine nd_start (l := [0]) rfl ?_
    refine nd_batch tabOk tabZ_ok [(0, {})] [4] (T' := [(4, .bool false)]) (φ := True) (rest := []) h87 (by kernel_rfl) rfl trivial fun a89 h90 => ?_
    clear h87
    refine nd_done ?_
    refine hK88 _ _ ?_
    clear hK88
    refine wp_ret ?_
    try simp only [Exit.then, Exit.inBlock]
    try rw [if_pos trivial]
    exact s_ret tabOk tabZ_ok h90 [(.tmp 4, {})] (vs := [.bool false]) (φ := True) rfl (by kernel_rfl) trivial ⟨⟨eo, ec, eF, mo, mc, mF, so, sc, sF⟩, by rw [hno]; rfl, by simp only [Lg.truncAt, hno]; exact LogAt.of (h90.kn (k := 0) rfl) h90.inv hsep, h90.frame, fun b hb => .inl hb⟩

end Go.Proofs.Qxb6500919aFmt
