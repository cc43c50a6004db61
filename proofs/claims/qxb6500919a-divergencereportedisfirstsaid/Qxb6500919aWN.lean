/-
  lastBefore, FirstDivergence. (Made by program: a symbolic walk that prints its steps.)
-/
import Derived.Test.Qxb6500919aTab
import Derived.Test.Qxb6500919aLib
import Derived.Test.Qxb6500919aLb
import Derived.Test.Qxb6500919aW1
import Derived.Test.Qxb6500919aW2
import Derived.Test.Qxb6500919aW3
import Derived.Test.Qxb6500919aW4
namespace Go.Proofs.Qxb6500919a
open Go.Sx Go.Rp
set_option maxRecDepth 100000
set_option maxHeartbeats 4000000
set_option linter.unusedVariables false
set_option linter.unusedSimpArgs false

theorem lastBefore_ok (bl : Nat) (d : Hd) (lg : Lg) (w : World) (hl : LogAt w bl d lg) (st at_ : Int) (hml : lg.mks.length ≤ 1000) (hsl : lg.sns.length ≤ 1000) :
    Calls Try.prog 25 #[.pointer (some ⟨bl, 0, none⟩), .int .i64 st, .int .i64 at_] w fun e w' => ∃ r : Int, e = .returned (.int .i64 r) ∧ IsLast lg st at_ r ∧ Fr [] w w' := by
  obtain ⟨eo, ec, eF, mo, mc, mF, so, sc, sF⟩ := d
  obtain ⟨hbl, hA, hsep⟩ := hl
  refine enter (n := 70) (K := []) (A := Rws [rl evC 33 3 lg.evs eo ec eF, rl mkC 78 2 lg.mks mo mc mF, rl ptC 66 15 lg.sns so sc sF]) (F := Ff [rl evC 33 3 lg.evs eo ec eF, rl mkC 78 2 lg.mks mo mc mF, rl ptC 66 15 lg.sns so sc sF]) (T := [(0, .pointer (some ⟨bl, 0, none⟩)), (1, .int .i64 st), (2, .int .i64 at_)]) (L := [(bl, ⟨logC lg.base (.slice eo lg.evs.length ec) (.slice mo lg.mks.length mc) (.slice so lg.sns.length sc), 69, true⟩)]) (args := [.pointer (some ⟨bl, 0, none⟩), .int .i64 st, .int .i64 at_]) Try.func25 rfl rfl rfl rfl (kcons hbl knil) (by simp) (kcons (by intro hq; cases hq) knil) hA Rws.stable (hA).low (kcons (by intro hq; cases hq) knil) ?_
  intro a h
  refine wp_seq_k fun K1 hK1 => ?_
  refine nd_start (l := [0]) rfl ?_
  refine nd_batch tabOk tabZ_ok [(0, {})] [0, 1, 2, 6] (T' := [(0, .pointer (some ⟨bl, 0, none⟩)), (1, .int .i64 st), (2, .int .i64 at_), (6, .int .i64 0)]) (φ := True) (rest := []) h (by kernel_rfl) rfl trivial fun a2 h3 => ?_
  clear h
  refine nd_done ?_
  refine hK1 _ _ ?_
  clear hK1
  refine wp_seq_k fun K4 hK4 => ?_
  refine nd_start (l := [0, 1]) rfl ?_
  refine nd_batch tabOk tabZ_ok [(0, {}), (1, {})] [0, 1, 2, 6, 7] (T' := [(0, .pointer (some ⟨bl, 0, none⟩)), (1, .int .i64 st), (2, .int .i64 at_), (6, .int .i64 0), (7, .int .i64 st)]) (φ := True) (rest := []) h3 (by kernel_rfl) rfl trivial fun a5 h6 => ?_
  clear h3
  refine nd_done ?_
  refine hK4 _ _ ?_
  clear hK4
  refine wp_seq_k fun K7 hK7 => ?_
  refine wp_seq_k fun K8 hK8 => ?_
  refine nd_start (l := [0, 1, 2, 3, 4, 5]) rfl ?_
  refine nd_batch tabOk tabZ_ok [(0, {}), (1, {}), (2, {}), (3, {k := 0}), (4, {}), (5, {})] [0, 1, 2, 6, 7, 16, 17, 18] (T' := [(0, .pointer (some ⟨bl, 0, none⟩)), (1, .int .i64 st), (2, .int .i64 at_), (6, .int .i64 0), (7, .int .i64 st), (16, .slice mo lg.mks.length mc), (17, .int .i64 ((lg.mks.length : Nat) : Int)), (18, .int .i64 0)]) (φ := (bl = bl ∧ Nat.ble (16 + 1) 18 = true) ∧ True) (rest := []) h6 (by kernel_rfl) rfl ⟨⟨rfl, rfl⟩, trivial⟩ fun a9 h10 => ?_
  clear h6
  refine nd_done ?_
  refine hK8 _ _ ?_
  clear hK8
  refine wp_block ?_
  refine wp_loop_ghost (fun g ga gw => ∃ (k : Nat) (r : Int), (k ≤ lg.mks.length) ∧ (g = lg.mks.length - k) ∧ (LastP (CM (lg.mks.take k)) st at_ r) ∧ St ⟨70, [], w, Rws [rl evC 33 3 lg.evs eo ec eF, rl mkC 78 2 lg.mks mo mc mF, rl ptC 66 15 lg.sns so sc sF], Ff [rl evC 33 3 lg.evs eo ec eF, rl mkC 78 2 lg.mks mo mc mF, rl ptC 66 15 lg.sns so sc sF]⟩ [(0, .pointer (some ⟨bl, 0, none⟩)), (1, .int .i64 st), (2, .int .i64 at_), (7, .int .i64 r), (16, .slice mo lg.mks.length mc), (17, .int .i64 ((lg.mks.length : Nat) : Int)), (18, .int .i64 ((k : Nat) : Int))] [(bl, ⟨logC lg.base (.slice eo lg.evs.length ec) (.slice mo lg.mks.length mc) (.slice so lg.sns.length sc), 69, true⟩)] ga gw) lg.mks.length ⟨0, st, Nat.zero_le _, rfl, (LastP.start st at_ (fun i => by rintro ⟨q, h, _⟩; simp at h)), (h10.slotsMono (restr_spec (keep := [0, 1, 2, 7, 16, 17, 18]) rfl))⟩ ?_
  clear h10
  rintro g a11 w12 ⟨k, r, hi14, hi15, hi16, h13⟩
  have hk := hi14
  have hg := hi15
  have hlp := hi16
  refine wp_seq_k fun K17 hK17 => ?_
  refine nd_start (l := [0]) rfl ?_
  refine nd_batch tabOk tabZ_ok [(0, {})] [0, 1, 2, 7, 16, 17, 18, 19] (T' := [(0, .pointer (some ⟨bl, 0, none⟩)), (1, .int .i64 st), (2, .int .i64 at_), (7, .int .i64 r), (16, .slice mo lg.mks.length mc), (17, .int .i64 ((lg.mks.length : Nat) : Int)), (18, .int .i64 ((k : Nat) : Int)), (19, .bool (decide (((k : Nat) : Int) < ((lg.mks.length : Nat) : Int))))]) (φ := True) (rest := []) h13 (by kernel_rfl) rfl trivial fun a18 h19 => ?_
  clear h13
  refine nd_done ?_
  refine hK17 _ _ ?_
  clear hK17
  refine wp_seq_k fun K20 hK20 => ?_
  refine c_split h19 (b := decide (((k : Nat) : Int) < ((lg.mks.length : Nat) : Int))) rfl (fun hc21 => ?_) (fun hc21 => ?_)
  ·
    have hc21f : ((k : Nat) : Int) < ((lg.mks.length : Nat) : Int) := by simpa using hc21
    obtain ⟨x, hx⟩ := Sx.get_some (xs := lg.mks) (i := k) (by omega)
    obtain ⟨b22, cs23, ho24, hb25, hc26, hF27, hq29, hl30⟩ := rl_open (h19.inv.get (j := 1) rfl) mkC_len hx
    subst ho24 hF27
    have h28 := h19.open_ hb25 (h19.notinL (by simp [Ff]) (kcons (fun _ => (fun hq => hsep (by have hq2 : bl = b22 := hq; rw [hq2]; simp [Hd.F]))) knil))
    clear h19
    refine wp_skip ?_
    refine hK20 _ _ ?_
    clear hK20
    refine wp_seq_k fun K31 hK31 => ?_
    refine wp_block ?_
    refine wp_seq_k fun K32 hK32 => ?_
    refine nd_start (l := [0, 1, 2, 3]) rfl ?_
    refine nd_batch tabOk tabZ_ok [(0, {}), (1, {k := 1, m := 1, vs := [.int .i64 x.idx, .int .u64 x.sum]})] [0, 1, 2, 7, 16, 17, 18, 21] (T' := [(0, .pointer (some ⟨bl, 0, none⟩)), (1, .int .i64 st), (2, .int .i64 at_), (7, .int .i64 r), (16, .slice (some ⟨b22, 0, none⟩) lg.mks.length mc), (17, .int .i64 ((lg.mks.length : Nat) : Int)), (18, .int .i64 ((k : Nat) : Int)), (21, .agg #[.int .i64 x.idx, .int .u64 x.sum])]) (φ := (0 ≤ ((k : Nat) : Int) ∧ ((k : Nat) : Int) < ((lg.mks.length : Nat) : Int)) ∧ (b22 = b22 ∧ cellsAre cs23 (0 + (k * 2)) [.int .i64 x.idx, .int .u64 x.sum]) ∧ True) (rest := [2, 3]) h28 (by kernel_rfl) rfl ⟨⟨by omega, by omega⟩, ⟨rfl, (by rw [Nat.zero_add]; exact hc26)⟩, trivial⟩ fun a33 h34 => ?_
    clear h28
    refine nd_op ?_
    refine op_new tabOk (cells := [.int .i64 0, .int .u64 0]) (ty := 78) (ln := none) (L1 := fun b35 => [(bl, ⟨logC lg.base (.slice eo lg.evs.length ec) (.slice (some ⟨b22, 0, none⟩) lg.mks.length mc) (.slice so lg.sns.length sc), 69, true⟩), (b22, ⟨cs23, 78, true⟩), (b35, ⟨[.int .i64 0, .int .u64 0], 78, false⟩)]) h34 rfl rfl rfl rfl (by kernel_rfl) (fun _ => rfl) fun b35 w36 a37 h38 hf39 hn40 => ?_
    clear h34
    refine nd_op ?_
    refine op_store tabOk {k := 2} (L' := [(bl, ⟨logC lg.base (.slice eo lg.evs.length ec) (.slice (some ⟨b22, 0, none⟩) lg.mks.length mc) (.slice so lg.sns.length sc), 69, true⟩), (b22, ⟨cs23, 78, true⟩), (b35, ⟨[.int .i64 x.idx, .int .u64 x.sum], 78, false⟩)]) (φ := b35 = b35 ∧ Nat.ble (0 + 2) 2 = true) h38 rfl rfl rfl (by kernel_rfl) ⟨rfl, rfl⟩ fun w41 h42 => ?_
    clear h38
    refine nd_done ?_
    refine hK32 _ _ ?_
    clear hK32
    refine wp_seq_k fun K43 hK43 => ?_
    rcases Bool.eq_false_or_eq_true (decide (x.idx ≥ st)) with hb44 | hb44
    ·
      have hb44f : x.idx ≥ st := by simpa using hb44
      rcases Bool.eq_false_or_eq_true ((at_ == -1)) with hb45 | hb45
      ·
        have hb45f : at_ = -1 := by simpa using hb45
        refine nd_start (l := [0, 1, 2, 3, 4, 5, 6, 7, 8, 9, 10, 11, 12, 13]) rfl ?_
        refine nd_batch tabOk tabZ_ok [(0, {}), (1, {k := 2}), (2, {}), (3, {f := 2}), (4, {}), (5, {}), (6, {f := 2}), (7, {}), (8, {}), (9, {}), (10, {}), (11, {}), (12, {}), (13, {})] [9, 0, 1, 2, 7, 16, 17, 18, 35] (T' := [(9, .pointer (some ⟨b35, 0, none⟩)), (0, .pointer (some ⟨bl, 0, none⟩)), (1, .int .i64 st), (2, .int .i64 at_), (7, .int .i64 r), (16, .slice (some ⟨b22, 0, none⟩) lg.mks.length mc), (17, .int .i64 ((lg.mks.length : Nat) : Int)), (18, .int .i64 ((k : Nat) : Int)), (35, .bool true)]) (φ := (b35 = b35 ∧ Nat.ble (0 + 1) 2 = true) ∧ (decide (x.idx ≥ st)) = true ∧ ((at_ == -1)) = true ∧ True) (rest := []) h42 (by kernel_rfl) rfl ⟨⟨rfl, rfl⟩, hb44, hb45, trivial⟩ fun a46 h47 => ?_
        clear h42
        refine nd_done ?_
        refine hK43 _ _ ?_
        clear hK43
        refine c_true h47 rfl ?_
        refine nd_start (l := [0, 1, 2, 3, 4]) rfl ?_
        refine nd_batch tabOk tabZ_ok [(0, {}), (1, {}), (2, {k := 2}), (3, {}), (4, {})] [9, 0, 1, 2, 16, 17, 18, 7] (T' := [(9, .pointer (some ⟨b35, 0, none⟩)), (0, .pointer (some ⟨bl, 0, none⟩)), (1, .int .i64 st), (2, .int .i64 at_), (16, .slice (some ⟨b22, 0, none⟩) lg.mks.length mc), (17, .int .i64 ((lg.mks.length : Nat) : Int)), (18, .int .i64 ((k : Nat) : Int)), (7, .int .i64 (if x.idx > r then x.idx else r))]) (φ := (b35 = b35 ∧ Nat.ble (0 + 1) 2 = true) ∧ True) (rest := []) h47 (by kernel_rfl) rfl ⟨⟨rfl, rfl⟩, trivial⟩ fun a48 h49 => ?_
        clear h47
        refine nd_done ?_
        refine hK31 _ _ ?_
        clear hK31
        refine nd_start (l := [0, 1]) rfl ?_
        refine nd_batch tabOk tabZ_ok [(0, {}), (1, {})] [9, 0, 1, 2, 16, 17, 7, 18] (T' := [(9, .pointer (some ⟨b35, 0, none⟩)), (0, .pointer (some ⟨bl, 0, none⟩)), (1, .int .i64 st), (2, .int .i64 at_), (16, .slice (some ⟨b22, 0, none⟩) lg.mks.length mc), (17, .int .i64 ((lg.mks.length : Nat) : Int)), (7, .int .i64 (if x.idx > r then x.idx else r)), (18, .int .i64 (((k : Nat) : Int) + 1))]) (φ := inR .i64 (((k : Nat) : Int) + 1) ∧ True) (rest := []) h49 (by kernel_rfl) rfl ⟨⟨by omega, by omega⟩, trivial⟩ fun a50 h51 => ?_
        clear h49
        refine nd_done ?_
        have h52 := h51.memMono (L' := [(bl, ⟨logC lg.base (.slice eo lg.evs.length ec) (.slice (some ⟨b22, 0, none⟩) lg.mks.length mc) (.slice so lg.sns.length sc), 69, true⟩)]) (List.Sublist.cons_cons _ (List.Sublist.cons _ (List.Sublist.cons _ List.Sublist.slnil)))
        clear h51
        exact ⟨(g - 1), by omega, (k + 1), (if x.idx > r then x.idx else r), by omega, by omega, (by rw [Sx.take_snoc hx]; exact LastP.add hlp (by unfold OkC; omega) (fun j => CM_snoc _ x j)), (h52.slotsMono (restr_spec (keep := [0, 1, 2, 7, 16, 17, 18]) rfl))⟩
      ·
        have hb45f : at_ ≠ -1 := by simpa using hb45
        refine nd_start (l := [0, 1, 2, 3, 4, 5, 6, 7, 8, 9, 10, 11, 12, 13]) rfl ?_
        refine nd_batch tabOk tabZ_ok [(0, {}), (1, {k := 2}), (2, {}), (3, {f := 2}), (4, {}), (5, {}), (6, {f := 1}), (7, {}), (8, {}), (9, {k := 2}), (10, {}), (11, {}), (12, {}), (13, {})] [9, 0, 1, 2, 7, 16, 17, 18, 35] (T' := [(9, .pointer (some ⟨b35, 0, none⟩)), (0, .pointer (some ⟨bl, 0, none⟩)), (1, .int .i64 st), (2, .int .i64 at_), (7, .int .i64 r), (16, .slice (some ⟨b22, 0, none⟩) lg.mks.length mc), (17, .int .i64 ((lg.mks.length : Nat) : Int)), (18, .int .i64 ((k : Nat) : Int)), (35, .bool (decide (x.idx < at_)))]) (φ := (b35 = b35 ∧ Nat.ble (0 + 1) 2 = true) ∧ (decide (x.idx ≥ st)) = true ∧ ((at_ == -1)) = false ∧ (b35 = b35 ∧ Nat.ble (0 + 1) 2 = true) ∧ True) (rest := []) h42 (by kernel_rfl) rfl ⟨⟨rfl, rfl⟩, hb44, hb45, ⟨rfl, rfl⟩, trivial⟩ fun a53 h54 => ?_
        clear h42
        refine nd_done ?_
        refine hK43 _ _ ?_
        clear hK43
        refine c_split h54 (b := decide (x.idx < at_)) rfl (fun hc55 => ?_) (fun hc55 => ?_)
        ·
          have hc55f : x.idx < at_ := by simpa using hc55
          refine nd_start (l := [0, 1, 2, 3, 4]) rfl ?_
          refine nd_batch tabOk tabZ_ok [(0, {}), (1, {}), (2, {k := 2}), (3, {}), (4, {})] [9, 0, 1, 2, 16, 17, 18, 7] (T' := [(9, .pointer (some ⟨b35, 0, none⟩)), (0, .pointer (some ⟨bl, 0, none⟩)), (1, .int .i64 st), (2, .int .i64 at_), (16, .slice (some ⟨b22, 0, none⟩) lg.mks.length mc), (17, .int .i64 ((lg.mks.length : Nat) : Int)), (18, .int .i64 ((k : Nat) : Int)), (7, .int .i64 (if x.idx > r then x.idx else r))]) (φ := (b35 = b35 ∧ Nat.ble (0 + 1) 2 = true) ∧ True) (rest := []) h54 (by kernel_rfl) rfl ⟨⟨rfl, rfl⟩, trivial⟩ fun a56 h57 => ?_
          clear h54
          refine nd_done ?_
          refine hK31 _ _ ?_
          clear hK31
          refine nd_start (l := [0, 1]) rfl ?_
          refine nd_batch tabOk tabZ_ok [(0, {}), (1, {})] [9, 0, 1, 2, 16, 17, 7, 18] (T' := [(9, .pointer (some ⟨b35, 0, none⟩)), (0, .pointer (some ⟨bl, 0, none⟩)), (1, .int .i64 st), (2, .int .i64 at_), (16, .slice (some ⟨b22, 0, none⟩) lg.mks.length mc), (17, .int .i64 ((lg.mks.length : Nat) : Int)), (7, .int .i64 (if x.idx > r then x.idx else r)), (18, .int .i64 (((k : Nat) : Int) + 1))]) (φ := inR .i64 (((k : Nat) : Int) + 1) ∧ True) (rest := []) h57 (by kernel_rfl) rfl ⟨⟨by omega, by omega⟩, trivial⟩ fun a58 h59 => ?_
          clear h57
          refine nd_done ?_
          have h60 := h59.memMono (L' := [(bl, ⟨logC lg.base (.slice eo lg.evs.length ec) (.slice (some ⟨b22, 0, none⟩) lg.mks.length mc) (.slice so lg.sns.length sc), 69, true⟩)]) (List.Sublist.cons_cons _ (List.Sublist.cons _ (List.Sublist.cons _ List.Sublist.slnil)))
          clear h59
          exact ⟨(g - 1), by omega, (k + 1), (if x.idx > r then x.idx else r), by omega, by omega, (by rw [Sx.take_snoc hx]; exact LastP.add hlp (by unfold OkC; omega) (fun j => CM_snoc _ x j)), (h60.slotsMono (restr_spec (keep := [0, 1, 2, 7, 16, 17, 18]) rfl))⟩
        ·
          have hc55f : ¬ x.idx < at_ := by simpa using hc55
          refine wp_skip ?_
          refine hK31 _ _ ?_
          clear hK31
          refine nd_start (l := [0, 1]) rfl ?_
          refine nd_batch tabOk tabZ_ok [(0, {}), (1, {})] [9, 0, 1, 2, 7, 16, 17, 18] (T' := [(9, .pointer (some ⟨b35, 0, none⟩)), (0, .pointer (some ⟨bl, 0, none⟩)), (1, .int .i64 st), (2, .int .i64 at_), (7, .int .i64 r), (16, .slice (some ⟨b22, 0, none⟩) lg.mks.length mc), (17, .int .i64 ((lg.mks.length : Nat) : Int)), (18, .int .i64 (((k : Nat) : Int) + 1))]) (φ := inR .i64 (((k : Nat) : Int) + 1) ∧ True) (rest := []) h54 (by kernel_rfl) rfl ⟨⟨by omega, by omega⟩, trivial⟩ fun a61 h62 => ?_
          clear h54
          refine nd_done ?_
          have h63 := h62.memMono (L' := [(bl, ⟨logC lg.base (.slice eo lg.evs.length ec) (.slice (some ⟨b22, 0, none⟩) lg.mks.length mc) (.slice so lg.sns.length sc), 69, true⟩)]) (List.Sublist.cons_cons _ (List.Sublist.cons _ (List.Sublist.cons _ List.Sublist.slnil)))
          clear h62
          exact ⟨(g - 1), by omega, (k + 1), r, by omega, by omega, (by rw [Sx.take_snoc hx]; exact LastP.skip hlp (by unfold OkC; omega) (fun j => CM_snoc _ x j)), (h63.slotsMono (restr_spec (keep := [0, 1, 2, 7, 16, 17, 18]) rfl))⟩
    ·
      have hb44f : ¬ x.idx ≥ st := by simpa using hb44
      refine nd_start (l := [0, 1, 2, 3, 4, 5, 6, 7, 8, 9, 10, 11, 12, 13]) rfl ?_
      refine nd_batch tabOk tabZ_ok [(0, {}), (1, {k := 2}), (2, {}), (3, {f := 1}), (4, {}), (5, {}), (6, {}), (7, {}), (8, {}), (9, {}), (10, {}), (11, {}), (12, {}), (13, {})] [9, 0, 1, 2, 7, 16, 17, 18, 35] (T' := [(9, .pointer (some ⟨b35, 0, none⟩)), (0, .pointer (some ⟨bl, 0, none⟩)), (1, .int .i64 st), (2, .int .i64 at_), (7, .int .i64 r), (16, .slice (some ⟨b22, 0, none⟩) lg.mks.length mc), (17, .int .i64 ((lg.mks.length : Nat) : Int)), (18, .int .i64 ((k : Nat) : Int)), (35, .bool false)]) (φ := (b35 = b35 ∧ Nat.ble (0 + 1) 2 = true) ∧ (decide (x.idx ≥ st)) = false ∧ True) (rest := []) h42 (by kernel_rfl) rfl ⟨⟨rfl, rfl⟩, hb44, trivial⟩ fun a64 h65 => ?_
      clear h42
      refine nd_done ?_
      refine hK43 _ _ ?_
      clear hK43
      refine c_false h65 rfl ?_
      refine wp_skip ?_
      refine hK31 _ _ ?_
      clear hK31
      refine nd_start (l := [0, 1]) rfl ?_
      refine nd_batch tabOk tabZ_ok [(0, {}), (1, {})] [9, 0, 1, 2, 7, 16, 17, 18] (T' := [(9, .pointer (some ⟨b35, 0, none⟩)), (0, .pointer (some ⟨bl, 0, none⟩)), (1, .int .i64 st), (2, .int .i64 at_), (7, .int .i64 r), (16, .slice (some ⟨b22, 0, none⟩) lg.mks.length mc), (17, .int .i64 ((lg.mks.length : Nat) : Int)), (18, .int .i64 (((k : Nat) : Int) + 1))]) (φ := inR .i64 (((k : Nat) : Int) + 1) ∧ True) (rest := []) h65 (by kernel_rfl) rfl ⟨⟨by omega, by omega⟩, trivial⟩ fun a66 h67 => ?_
      clear h65
      refine nd_done ?_
      have h68 := h67.memMono (L' := [(bl, ⟨logC lg.base (.slice eo lg.evs.length ec) (.slice (some ⟨b22, 0, none⟩) lg.mks.length mc) (.slice so lg.sns.length sc), 69, true⟩)]) (List.Sublist.cons_cons _ (List.Sublist.cons _ (List.Sublist.cons _ List.Sublist.slnil)))
      clear h67
      exact ⟨(g - 1), by omega, (k + 1), r, by omega, by omega, (by rw [Sx.take_snoc hx]; exact LastP.skip hlp (by unfold OkC; omega) (fun j => CM_snoc _ x j)), (h68.slotsMono (restr_spec (keep := [0, 1, 2, 7, 16, 17, 18]) rfl))⟩
  ·
    have hc21f : ¬ ((k : Nat) : Int) < ((lg.mks.length : Nat) : Int) := by simpa using hc21
    have h69 := h19.slotsMono (T' := [(0, .pointer (some ⟨bl, 0, none⟩)), (1, .int .i64 st), (2, .int .i64 at_), (7, .int .i64 r)]) (restr_spec (keep := [0, 1, 2, 7]) rfl)
    clear h19
    have hkk : k = lg.mks.length := by omega
    subst hkk
    rw [List.take_length] at hlp
    have hlp1 := hlp
    have hr1 : r = r := rfl
    refine wp_exit ?_
    refine hK7 _ _ ?_
    clear hK7
    refine wp_seq_k fun K70 hK70 => ?_
    refine wp_seq_k fun K71 hK71 => ?_
    refine nd_start (l := [0, 1, 2, 3, 4, 5]) rfl ?_
    refine nd_batch tabOk tabZ_ok [(0, {}), (1, {}), (2, {}), (3, {k := 0}), (4, {}), (5, {})] [0, 1, 2, 7, 44, 45, 46] (T' := [(0, .pointer (some ⟨bl, 0, none⟩)), (1, .int .i64 st), (2, .int .i64 at_), (7, .int .i64 r), (44, .slice so lg.sns.length sc), (45, .int .i64 ((lg.sns.length : Nat) : Int)), (46, .int .i64 0)]) (φ := (bl = bl ∧ Nat.ble (17 + 1) 18 = true) ∧ True) (rest := []) h69 (by kernel_rfl) rfl ⟨⟨rfl, rfl⟩, trivial⟩ fun a72 h73 => ?_
    clear h69
    refine nd_done ?_
    refine hK71 _ _ ?_
    clear hK71
    refine wp_block ?_
    refine wp_loop_ghost (fun g ga gw => ∃ (k : Nat) (r : Int), (k ≤ lg.sns.length) ∧ (g = lg.sns.length - k) ∧ (LastP (CS lg (lg.sns.take k)) st at_ r) ∧ St ⟨70, [], w, Rws [rl evC 33 3 lg.evs eo ec eF, rl mkC 78 2 lg.mks mo mc mF, rl ptC 66 15 lg.sns so sc sF], Ff [rl evC 33 3 lg.evs eo ec eF, rl mkC 78 2 lg.mks mo mc mF, rl ptC 66 15 lg.sns so sc sF]⟩ [(0, .pointer (some ⟨bl, 0, none⟩)), (1, .int .i64 st), (2, .int .i64 at_), (7, .int .i64 r), (44, .slice so lg.sns.length sc), (45, .int .i64 ((lg.sns.length : Nat) : Int)), (46, .int .i64 ((k : Nat) : Int))] [(bl, ⟨logC lg.base (.slice eo lg.evs.length ec) (.slice mo lg.mks.length mc) (.slice so lg.sns.length sc), 69, true⟩)] ga gw) lg.sns.length ⟨0, r, Nat.zero_le _, rfl, (LastP.congr hlp1 (CS_nil lg)), (h73.slotsMono (restr_spec (keep := [0, 1, 2, 7, 44, 45, 46]) rfl))⟩ ?_
    clear h73
    rintro g a74 w75 ⟨k, r, hi77, hi78, hi79, h76⟩
    have hk := hi77
    have hg := hi78
    have hlp := hi79
    refine wp_seq_k fun K80 hK80 => ?_
    refine nd_start (l := [0]) rfl ?_
    refine nd_batch tabOk tabZ_ok [(0, {})] [0, 1, 2, 7, 44, 45, 46, 47] (T' := [(0, .pointer (some ⟨bl, 0, none⟩)), (1, .int .i64 st), (2, .int .i64 at_), (7, .int .i64 r), (44, .slice so lg.sns.length sc), (45, .int .i64 ((lg.sns.length : Nat) : Int)), (46, .int .i64 ((k : Nat) : Int)), (47, .bool (decide (((k : Nat) : Int) < ((lg.sns.length : Nat) : Int))))]) (φ := True) (rest := []) h76 (by kernel_rfl) rfl trivial fun a81 h82 => ?_
    clear h76
    refine nd_done ?_
    refine hK80 _ _ ?_
    clear hK80
    refine wp_seq_k fun K83 hK83 => ?_
    refine c_split h82 (b := decide (((k : Nat) : Int) < ((lg.sns.length : Nat) : Int))) rfl (fun hc84 => ?_) (fun hc84 => ?_)
    ·
      have hc84f : ((k : Nat) : Int) < ((lg.sns.length : Nat) : Int) := by simpa using hc84
      obtain ⟨x, hx⟩ := Sx.get_some (xs := lg.sns) (i := k) (by omega)
      obtain ⟨b85, cs86, ho87, hb88, hc89, hF90, hq92, hl93⟩ := rl_open (h82.inv.get (j := 2) rfl) ptC_len hx
      subst ho87 hF90
      have h91 := h82.open_ hb88 (h82.notinL (by simp [Ff]) (kcons (fun _ => (fun hq => hsep (by have hq2 : bl = b85 := hq; rw [hq2]; simp [Hd.F]))) knil))
      clear h82
      refine wp_skip ?_
      refine hK83 _ _ ?_
      clear hK83
      refine wp_seq_k fun K94 hK94 => ?_
      refine wp_block ?_
      refine wp_seq_k fun K95 hK95 => ?_
      refine nd_start (l := [0, 1, 2, 3]) rfl ?_
      refine nd_batch tabOk tabZ_ok [(0, {}), (1, {k := 1, m := 1, vs := [.int .i64 x.idx, .int .u64 x.st.now, .int .i8 x.st.cur, .int .u8 x.st.s0, .int .u8 x.st.s1, .int .u8 x.st.s2, .int .u8 x.st.s3, .int .u64 x.st.r0, .int .u64 x.st.r1, .int .u64 x.st.r2, .int .u64 x.st.r3, .int .u64 x.st.word, .bool x.out.refused, .int .i8 x.out.running, .int .u64 x.out.value]})] [0, 1, 2, 7, 44, 45, 46, 49] (T' := [(0, .pointer (some ⟨bl, 0, none⟩)), (1, .int .i64 st), (2, .int .i64 at_), (7, .int .i64 r), (44, .slice (some ⟨b85, 0, none⟩) lg.sns.length sc), (45, .int .i64 ((lg.sns.length : Nat) : Int)), (46, .int .i64 ((k : Nat) : Int)), (49, .agg #[.int .i64 x.idx, .int .u64 x.st.now, .int .i8 x.st.cur, .int .u8 x.st.s0, .int .u8 x.st.s1, .int .u8 x.st.s2, .int .u8 x.st.s3, .int .u64 x.st.r0, .int .u64 x.st.r1, .int .u64 x.st.r2, .int .u64 x.st.r3, .int .u64 x.st.word, .bool x.out.refused, .int .i8 x.out.running, .int .u64 x.out.value])]) (φ := (0 ≤ ((k : Nat) : Int) ∧ ((k : Nat) : Int) < ((lg.sns.length : Nat) : Int)) ∧ (b85 = b85 ∧ cellsAre cs86 (0 + (k * 15)) [.int .i64 x.idx, .int .u64 x.st.now, .int .i8 x.st.cur, .int .u8 x.st.s0, .int .u8 x.st.s1, .int .u8 x.st.s2, .int .u8 x.st.s3, .int .u64 x.st.r0, .int .u64 x.st.r1, .int .u64 x.st.r2, .int .u64 x.st.r3, .int .u64 x.st.word, .bool x.out.refused, .int .i8 x.out.running, .int .u64 x.out.value]) ∧ True) (rest := [2, 3]) h91 (by kernel_rfl) rfl ⟨⟨by omega, by omega⟩, ⟨rfl, (by rw [Nat.zero_add]; exact hc89)⟩, trivial⟩ fun a96 h97 => ?_
      clear h91
      refine nd_op ?_
      refine op_new tabOk (cells := [.int .i64 0, .int .u64 0, .int .i8 0, .int .u8 0, .int .u8 0, .int .u8 0, .int .u8 0, .int .u64 0, .int .u64 0, .int .u64 0, .int .u64 0, .int .u64 0, .bool false, .int .i8 0, .int .u64 0]) (ty := 66) (ln := none) (L1 := fun b98 => [(bl, ⟨logC lg.base (.slice eo lg.evs.length ec) (.slice mo lg.mks.length mc) (.slice (some ⟨b85, 0, none⟩) lg.sns.length sc), 69, true⟩), (b85, ⟨cs86, 66, true⟩), (b98, ⟨[.int .i64 0, .int .u64 0, .int .i8 0, .int .u8 0, .int .u8 0, .int .u8 0, .int .u8 0, .int .u64 0, .int .u64 0, .int .u64 0, .int .u64 0, .int .u64 0, .bool false, .int .i8 0, .int .u64 0], 66, false⟩)]) h97 rfl rfl rfl rfl (by kernel_rfl) (fun _ => rfl) fun b98 w99 a100 h101 hf102 hn103 => ?_
      clear h97
      refine nd_op ?_
      refine op_store tabOk {k := 2} (L' := [(bl, ⟨logC lg.base (.slice eo lg.evs.length ec) (.slice mo lg.mks.length mc) (.slice (some ⟨b85, 0, none⟩) lg.sns.length sc), 69, true⟩), (b85, ⟨cs86, 66, true⟩), (b98, ⟨[.int .i64 x.idx, .int .u64 x.st.now, .int .i8 x.st.cur, .int .u8 x.st.s0, .int .u8 x.st.s1, .int .u8 x.st.s2, .int .u8 x.st.s3, .int .u64 x.st.r0, .int .u64 x.st.r1, .int .u64 x.st.r2, .int .u64 x.st.r3, .int .u64 x.st.word, .bool x.out.refused, .int .i8 x.out.running, .int .u64 x.out.value], 66, false⟩)]) (φ := b98 = b98 ∧ Nat.ble (0 + 15) 15 = true) h101 rfl rfl rfl (by kernel_rfl) ⟨rfl, rfl⟩ fun w104 h105 => ?_
      clear h101
      refine nd_done ?_
      refine hK95 _ _ ?_
      clear hK95
      refine wp_seq_k fun K106 hK106 => ?_
      rcases Bool.eq_false_or_eq_true (decide (x.idx ≥ st)) with hb107 | hb107
      ·
        have hb107f : x.idx ≥ st := by simpa using hb107
        rcases Bool.eq_false_or_eq_true ((at_ == -1)) with hb108 | hb108
        ·
          have hb108f : at_ = -1 := by simpa using hb108
          refine nd_start (l := [0, 1, 2, 3, 4, 5, 6, 7, 8, 9, 10, 11, 12, 13]) rfl ?_
          refine nd_batch tabOk tabZ_ok [(0, {}), (1, {k := 2}), (2, {}), (3, {f := 2}), (4, {}), (5, {}), (6, {f := 2}), (7, {}), (8, {}), (9, {}), (10, {}), (11, {}), (12, {}), (13, {})] [11, 0, 1, 2, 7, 44, 45, 46, 63] (T' := [(11, .pointer (some ⟨b98, 0, none⟩)), (0, .pointer (some ⟨bl, 0, none⟩)), (1, .int .i64 st), (2, .int .i64 at_), (7, .int .i64 r), (44, .slice (some ⟨b85, 0, none⟩) lg.sns.length sc), (45, .int .i64 ((lg.sns.length : Nat) : Int)), (46, .int .i64 ((k : Nat) : Int)), (63, .bool true)]) (φ := (b98 = b98 ∧ Nat.ble (0 + 1) 15 = true) ∧ (decide (x.idx ≥ st)) = true ∧ ((at_ == -1)) = true ∧ True) (rest := []) h105 (by kernel_rfl) rfl ⟨⟨rfl, rfl⟩, hb107, hb108, trivial⟩ fun a109 h110 => ?_
          clear h105
          refine nd_done ?_
          refine hK106 _ _ ?_
          clear hK106
          refine c_true h110 rfl ?_
          refine nd_start (l := [0, 1, 2, 3, 4]) rfl ?_
          refine nd_batch tabOk tabZ_ok [(0, {}), (1, {}), (2, {k := 2}), (3, {}), (4, {})] [11, 0, 1, 2, 44, 45, 46, 7] (T' := [(11, .pointer (some ⟨b98, 0, none⟩)), (0, .pointer (some ⟨bl, 0, none⟩)), (1, .int .i64 st), (2, .int .i64 at_), (44, .slice (some ⟨b85, 0, none⟩) lg.sns.length sc), (45, .int .i64 ((lg.sns.length : Nat) : Int)), (46, .int .i64 ((k : Nat) : Int)), (7, .int .i64 (if x.idx > r then x.idx else r))]) (φ := (b98 = b98 ∧ Nat.ble (0 + 1) 15 = true) ∧ True) (rest := []) h110 (by kernel_rfl) rfl ⟨⟨rfl, rfl⟩, trivial⟩ fun a111 h112 => ?_
          clear h110
          refine nd_done ?_
          refine hK94 _ _ ?_
          clear hK94
          refine nd_start (l := [0, 1]) rfl ?_
          refine nd_batch tabOk tabZ_ok [(0, {}), (1, {})] [11, 0, 1, 2, 44, 45, 7, 46] (T' := [(11, .pointer (some ⟨b98, 0, none⟩)), (0, .pointer (some ⟨bl, 0, none⟩)), (1, .int .i64 st), (2, .int .i64 at_), (44, .slice (some ⟨b85, 0, none⟩) lg.sns.length sc), (45, .int .i64 ((lg.sns.length : Nat) : Int)), (7, .int .i64 (if x.idx > r then x.idx else r)), (46, .int .i64 (((k : Nat) : Int) + 1))]) (φ := inR .i64 (((k : Nat) : Int) + 1) ∧ True) (rest := []) h112 (by kernel_rfl) rfl ⟨⟨by omega, by omega⟩, trivial⟩ fun a113 h114 => ?_
          clear h112
          refine nd_done ?_
          have h115 := h114.memMono (L' := [(bl, ⟨logC lg.base (.slice eo lg.evs.length ec) (.slice mo lg.mks.length mc) (.slice (some ⟨b85, 0, none⟩) lg.sns.length sc), 69, true⟩)]) (List.Sublist.cons_cons _ (List.Sublist.cons _ (List.Sublist.cons _ List.Sublist.slnil)))
          clear h114
          exact ⟨(g - 1), by omega, (k + 1), (if x.idx > r then x.idx else r), by omega, by omega, (by rw [Sx.take_snoc hx]; exact LastP.add hlp (by unfold OkC; omega) (fun j => CS_snoc lg _ x j)), (h115.slotsMono (restr_spec (keep := [0, 1, 2, 7, 44, 45, 46]) rfl))⟩
        ·
          have hb108f : at_ ≠ -1 := by simpa using hb108
          refine nd_start (l := [0, 1, 2, 3, 4, 5, 6, 7, 8, 9, 10, 11, 12, 13]) rfl ?_
          refine nd_batch tabOk tabZ_ok [(0, {}), (1, {k := 2}), (2, {}), (3, {f := 2}), (4, {}), (5, {}), (6, {f := 1}), (7, {}), (8, {}), (9, {k := 2}), (10, {}), (11, {}), (12, {}), (13, {})] [11, 0, 1, 2, 7, 44, 45, 46, 63] (T' := [(11, .pointer (some ⟨b98, 0, none⟩)), (0, .pointer (some ⟨bl, 0, none⟩)), (1, .int .i64 st), (2, .int .i64 at_), (7, .int .i64 r), (44, .slice (some ⟨b85, 0, none⟩) lg.sns.length sc), (45, .int .i64 ((lg.sns.length : Nat) : Int)), (46, .int .i64 ((k : Nat) : Int)), (63, .bool (decide (x.idx < at_)))]) (φ := (b98 = b98 ∧ Nat.ble (0 + 1) 15 = true) ∧ (decide (x.idx ≥ st)) = true ∧ ((at_ == -1)) = false ∧ (b98 = b98 ∧ Nat.ble (0 + 1) 15 = true) ∧ True) (rest := []) h105 (by kernel_rfl) rfl ⟨⟨rfl, rfl⟩, hb107, hb108, ⟨rfl, rfl⟩, trivial⟩ fun a116 h117 => ?_
          clear h105
          refine nd_done ?_
          refine hK106 _ _ ?_
          clear hK106
          refine c_split h117 (b := decide (x.idx < at_)) rfl (fun hc118 => ?_) (fun hc118 => ?_)
          ·
            have hc118f : x.idx < at_ := by simpa using hc118
            refine nd_start (l := [0, 1, 2, 3, 4]) rfl ?_
            refine nd_batch tabOk tabZ_ok [(0, {}), (1, {}), (2, {k := 2}), (3, {}), (4, {})] [11, 0, 1, 2, 44, 45, 46, 7] (T' := [(11, .pointer (some ⟨b98, 0, none⟩)), (0, .pointer (some ⟨bl, 0, none⟩)), (1, .int .i64 st), (2, .int .i64 at_), (44, .slice (some ⟨b85, 0, none⟩) lg.sns.length sc), (45, .int .i64 ((lg.sns.length : Nat) : Int)), (46, .int .i64 ((k : Nat) : Int)), (7, .int .i64 (if x.idx > r then x.idx else r))]) (φ := (b98 = b98 ∧ Nat.ble (0 + 1) 15 = true) ∧ True) (rest := []) h117 (by kernel_rfl) rfl ⟨⟨rfl, rfl⟩, trivial⟩ fun a119 h120 => ?_
            clear h117
            refine nd_done ?_
            refine hK94 _ _ ?_
            clear hK94
            refine nd_start (l := [0, 1]) rfl ?_
            refine nd_batch tabOk tabZ_ok [(0, {}), (1, {})] [11, 0, 1, 2, 44, 45, 7, 46] (T' := [(11, .pointer (some ⟨b98, 0, none⟩)), (0, .pointer (some ⟨bl, 0, none⟩)), (1, .int .i64 st), (2, .int .i64 at_), (44, .slice (some ⟨b85, 0, none⟩) lg.sns.length sc), (45, .int .i64 ((lg.sns.length : Nat) : Int)), (7, .int .i64 (if x.idx > r then x.idx else r)), (46, .int .i64 (((k : Nat) : Int) + 1))]) (φ := inR .i64 (((k : Nat) : Int) + 1) ∧ True) (rest := []) h120 (by kernel_rfl) rfl ⟨⟨by omega, by omega⟩, trivial⟩ fun a121 h122 => ?_
            clear h120
            refine nd_done ?_
            have h123 := h122.memMono (L' := [(bl, ⟨logC lg.base (.slice eo lg.evs.length ec) (.slice mo lg.mks.length mc) (.slice (some ⟨b85, 0, none⟩) lg.sns.length sc), 69, true⟩)]) (List.Sublist.cons_cons _ (List.Sublist.cons _ (List.Sublist.cons _ List.Sublist.slnil)))
            clear h122
            exact ⟨(g - 1), by omega, (k + 1), (if x.idx > r then x.idx else r), by omega, by omega, (by rw [Sx.take_snoc hx]; exact LastP.add hlp (by unfold OkC; omega) (fun j => CS_snoc lg _ x j)), (h123.slotsMono (restr_spec (keep := [0, 1, 2, 7, 44, 45, 46]) rfl))⟩
          ·
            have hc118f : ¬ x.idx < at_ := by simpa using hc118
            refine wp_skip ?_
            refine hK94 _ _ ?_
            clear hK94
            refine nd_start (l := [0, 1]) rfl ?_
            refine nd_batch tabOk tabZ_ok [(0, {}), (1, {})] [11, 0, 1, 2, 7, 44, 45, 46] (T' := [(11, .pointer (some ⟨b98, 0, none⟩)), (0, .pointer (some ⟨bl, 0, none⟩)), (1, .int .i64 st), (2, .int .i64 at_), (7, .int .i64 r), (44, .slice (some ⟨b85, 0, none⟩) lg.sns.length sc), (45, .int .i64 ((lg.sns.length : Nat) : Int)), (46, .int .i64 (((k : Nat) : Int) + 1))]) (φ := inR .i64 (((k : Nat) : Int) + 1) ∧ True) (rest := []) h117 (by kernel_rfl) rfl ⟨⟨by omega, by omega⟩, trivial⟩ fun a124 h125 => ?_
            clear h117
            refine nd_done ?_
            have h126 := h125.memMono (L' := [(bl, ⟨logC lg.base (.slice eo lg.evs.length ec) (.slice mo lg.mks.length mc) (.slice (some ⟨b85, 0, none⟩) lg.sns.length sc), 69, true⟩)]) (List.Sublist.cons_cons _ (List.Sublist.cons _ (List.Sublist.cons _ List.Sublist.slnil)))
            clear h125
            exact ⟨(g - 1), by omega, (k + 1), r, by omega, by omega, (by rw [Sx.take_snoc hx]; exact LastP.skip hlp (by unfold OkC; omega) (fun j => CS_snoc lg _ x j)), (h126.slotsMono (restr_spec (keep := [0, 1, 2, 7, 44, 45, 46]) rfl))⟩
      ·
        have hb107f : ¬ x.idx ≥ st := by simpa using hb107
        refine nd_start (l := [0, 1, 2, 3, 4, 5, 6, 7, 8, 9, 10, 11, 12, 13]) rfl ?_
        refine nd_batch tabOk tabZ_ok [(0, {}), (1, {k := 2}), (2, {}), (3, {f := 1}), (4, {}), (5, {}), (6, {}), (7, {}), (8, {}), (9, {}), (10, {}), (11, {}), (12, {}), (13, {})] [11, 0, 1, 2, 7, 44, 45, 46, 63] (T' := [(11, .pointer (some ⟨b98, 0, none⟩)), (0, .pointer (some ⟨bl, 0, none⟩)), (1, .int .i64 st), (2, .int .i64 at_), (7, .int .i64 r), (44, .slice (some ⟨b85, 0, none⟩) lg.sns.length sc), (45, .int .i64 ((lg.sns.length : Nat) : Int)), (46, .int .i64 ((k : Nat) : Int)), (63, .bool false)]) (φ := (b98 = b98 ∧ Nat.ble (0 + 1) 15 = true) ∧ (decide (x.idx ≥ st)) = false ∧ True) (rest := []) h105 (by kernel_rfl) rfl ⟨⟨rfl, rfl⟩, hb107, trivial⟩ fun a127 h128 => ?_
        clear h105
        refine nd_done ?_
        refine hK106 _ _ ?_
        clear hK106
        refine c_false h128 rfl ?_
        refine wp_skip ?_
        refine hK94 _ _ ?_
        clear hK94
        refine nd_start (l := [0, 1]) rfl ?_
        refine nd_batch tabOk tabZ_ok [(0, {}), (1, {})] [11, 0, 1, 2, 7, 44, 45, 46] (T' := [(11, .pointer (some ⟨b98, 0, none⟩)), (0, .pointer (some ⟨bl, 0, none⟩)), (1, .int .i64 st), (2, .int .i64 at_), (7, .int .i64 r), (44, .slice (some ⟨b85, 0, none⟩) lg.sns.length sc), (45, .int .i64 ((lg.sns.length : Nat) : Int)), (46, .int .i64 (((k : Nat) : Int) + 1))]) (φ := inR .i64 (((k : Nat) : Int) + 1) ∧ True) (rest := []) h128 (by kernel_rfl) rfl ⟨⟨by omega, by omega⟩, trivial⟩ fun a129 h130 => ?_
        clear h128
        refine nd_done ?_
        have h131 := h130.memMono (L' := [(bl, ⟨logC lg.base (.slice eo lg.evs.length ec) (.slice mo lg.mks.length mc) (.slice (some ⟨b85, 0, none⟩) lg.sns.length sc), 69, true⟩)]) (List.Sublist.cons_cons _ (List.Sublist.cons _ (List.Sublist.cons _ List.Sublist.slnil)))
        clear h130
        exact ⟨(g - 1), by omega, (k + 1), r, by omega, by omega, (by rw [Sx.take_snoc hx]; exact LastP.skip hlp (by unfold OkC; omega) (fun j => CS_snoc lg _ x j)), (h131.slotsMono (restr_spec (keep := [0, 1, 2, 7, 44, 45, 46]) rfl))⟩
    ·
      have hc84f : ¬ ((k : Nat) : Int) < ((lg.sns.length : Nat) : Int) := by simpa using hc84
      have h132 := h82.slotsMono (T' := [(0, .pointer (some ⟨bl, 0, none⟩)), (1, .int .i64 st), (2, .int .i64 at_), (7, .int .i64 r)]) (restr_spec (keep := [0, 1, 2, 7]) rfl)
      clear h82
      have hkk : k = lg.sns.length := by omega
      subst hkk
      rw [List.take_length] at hlp
      refine wp_exit ?_
      refine hK70 _ _ ?_
      clear hK70
      refine wp_seq_k fun K133 hK133 => ?_
      refine nd_start (l := [0, 1]) rfl ?_
      refine nd_batch tabOk tabZ_ok [(0, {}), (1, {})] [0, 1, 2, 7, 6] (T' := [(0, .pointer (some ⟨bl, 0, none⟩)), (1, .int .i64 st), (2, .int .i64 at_), (7, .int .i64 r), (6, .int .i64 r)]) (φ := True) (rest := []) h132 (by kernel_rfl) rfl trivial fun a134 h135 => ?_
      clear h132
      refine nd_done ?_
      refine hK133 _ _ ?_
      clear hK133
      refine wp_ret ?_
      try simp only [Exit.then, Exit.inBlock]
      try rw [if_pos trivial]
      exact s_ret tabOk tabZ_ok h135 [(.tmp 6, {})] (vs := [.int .i64 r]) (φ := True) rfl (by kernel_rfl) trivial ⟨_, rfl, isLast_of hlp, h135.frame⟩

theorem firstDiv_ok (bl : Nat) (d : Hd) (lg : Lg) (w : World) (hl : LogAt w bl d lg) {B : Int} (hB : B ≤ 900000000) (hwf : lg.wf B) (p : Pt) (hp1 : lg.base.idx ≤ p.idx) (hp2 : p.idx ≤ lg.fin) (hpok : p.st.ok) :
    Calls Try.prog 23 #[.pointer (some ⟨bl, 0, none⟩), .agg (ptC p).toArray] w fun e w' => ∃ r : Int, e = .returned (.int .i64 r) ∧ IsFD lg p r ∧ Fr [] w w' := by
  have hfq : lg.fin = lg.base.idx + (lg.evs.length : Int) := rfl
  have hfB := hwf.fin
  have hlen := hwf.len
  have hml := hwf.mlen
  have hsl := hwf.slen
  have hb0 := hwf.b0
  obtain ⟨eo, ec, eF, mo, mc, mF, so, sc, sF⟩ := d
  obtain ⟨hbl, hA, hsep⟩ := hl
  refine enter (n := 76) (K := []) (A := Rws [rl evC 33 3 lg.evs eo ec eF, rl mkC 78 2 lg.mks mo mc mF, rl ptC 66 15 lg.sns so sc sF]) (F := Ff [rl evC 33 3 lg.evs eo ec eF, rl mkC 78 2 lg.mks mo mc mF, rl ptC 66 15 lg.sns so sc sF]) (T := [(0, .pointer (some ⟨bl, 0, none⟩)), (1, .agg #[.int .i64 p.idx, .int .u64 p.st.now, .int .i8 p.st.cur, .int .u8 p.st.s0, .int .u8 p.st.s1, .int .u8 p.st.s2, .int .u8 p.st.s3, .int .u64 p.st.r0, .int .u64 p.st.r1, .int .u64 p.st.r2, .int .u64 p.st.r3, .int .u64 p.st.word, .bool p.out.refused, .int .i8 p.out.running, .int .u64 p.out.value])]) (L := [(bl, ⟨logC lg.base (.slice eo lg.evs.length ec) (.slice mo lg.mks.length mc) (.slice so lg.sns.length sc), 69, true⟩)]) (args := [.pointer (some ⟨bl, 0, none⟩), .agg #[.int .i64 p.idx, .int .u64 p.st.now, .int .i8 p.st.cur, .int .u8 p.st.s0, .int .u8 p.st.s1, .int .u8 p.st.s2, .int .u8 p.st.s3, .int .u64 p.st.r0, .int .u64 p.st.r1, .int .u64 p.st.r2, .int .u64 p.st.r3, .int .u64 p.st.word, .bool p.out.refused, .int .i8 p.out.running, .int .u64 p.out.value]]) Try.func23 rfl rfl rfl rfl (kcons hbl knil) (by simp) (kcons (by intro hq; cases hq) knil) hA Rws.stable (hA).low (kcons (by intro hq; cases hq) knil) ?_
  intro a h
  refine wp_seq_k fun K1 hK1 => ?_
  refine nd_start (l := [0, 1]) rfl ?_
  refine nd_op ?_
  refine op_new tabOk (cells := [.int .i64 p.idx, .int .u64 p.st.now, .int .i8 p.st.cur, .int .u8 p.st.s0, .int .u8 p.st.s1, .int .u8 p.st.s2, .int .u8 p.st.s3, .int .u64 p.st.r0, .int .u64 p.st.r1, .int .u64 p.st.r2, .int .u64 p.st.r3, .int .u64 p.st.word, .bool p.out.refused, .int .i8 p.out.running, .int .u64 p.out.value]) (ty := 66) (ln := none) (L1 := fun b2 => [(bl, ⟨logC lg.base (.slice eo lg.evs.length ec) (.slice mo lg.mks.length mc) (.slice so lg.sns.length sc), 69, true⟩), (b2, ⟨[.int .i64 p.idx, .int .u64 p.st.now, .int .i8 p.st.cur, .int .u8 p.st.s0, .int .u8 p.st.s1, .int .u8 p.st.s2, .int .u8 p.st.s3, .int .u64 p.st.r0, .int .u64 p.st.r1, .int .u64 p.st.r2, .int .u64 p.st.r3, .int .u64 p.st.word, .bool p.out.refused, .int .i8 p.out.running, .int .u64 p.out.value], 66, false⟩)]) h rfl rfl rfl rfl (by kernel_rfl) (fun _ => rfl) fun b2 w3 a4 h5 hf6 hn7 => ?_
  clear h
  refine nd_batch tabOk tabZ_ok [(1, {})] [3, 0, 1, 4] (T' := [(3, .pointer (some ⟨b2, 0, none⟩)), (0, .pointer (some ⟨bl, 0, none⟩)), (1, .agg #[.int .i64 p.idx, .int .u64 p.st.now, .int .i8 p.st.cur, .int .u8 p.st.s0, .int .u8 p.st.s1, .int .u8 p.st.s2, .int .u8 p.st.s3, .int .u64 p.st.r0, .int .u64 p.st.r1, .int .u64 p.st.r2, .int .u64 p.st.r3, .int .u64 p.st.word, .bool p.out.refused, .int .i8 p.out.running, .int .u64 p.out.value]), (4, .int .i64 0)]) (φ := True) (rest := []) h5 (by kernel_rfl) rfl trivial fun a8 h9 => ?_
  clear h5
  refine nd_done ?_
  refine hK1 _ _ ?_
  clear hK1
  refine wp_seq_k fun K10 hK10 => ?_
  refine dr_start (KB := [bl, b2]) (Bi := [[0, 1], [0, 1], [0, 1], [0, 1], [0, 1], [0, 1], [1], []]) mixed h9 fun w11 h12 => ?_
  clear h9
  refine dr_batch tabOk tabZ_ok (by repeat (first | exact PF.body | with_reducible apply PF.inB | with_reducible apply PF.next)) [(0, {}), (1, {k := 1, p := 1}), (2, {}), (3, {k := 1, p := 1})] [3, 0, 1, 4, 13, 15] (T' := [(3, .pointer (some ⟨b2, 0, none⟩)), (0, .pointer (some ⟨bl, 0, none⟩)), (1, .agg #[.int .i64 p.idx, .int .u64 p.st.now, .int .i8 p.st.cur, .int .u8 p.st.s0, .int .u8 p.st.s1, .int .u8 p.st.s2, .int .u8 p.st.s3, .int .u64 p.st.r0, .int .u64 p.st.r1, .int .u64 p.st.r2, .int .u64 p.st.r3, .int .u64 p.st.word, .bool p.out.refused, .int .i8 p.out.running, .int .u64 p.out.value]), (4, .int .i64 0), (13, .agg #[.int .u64 p.st.now, .int .i8 p.st.cur, .int .u8 p.st.s0, .int .u8 p.st.s1, .int .u8 p.st.s2, .int .u8 p.st.s3, .int .u64 p.st.r0, .int .u64 p.st.r1, .int .u64 p.st.r2, .int .u64 p.st.r3, .int .u64 p.st.word]), (15, .agg #[.bool p.out.refused, .int .i8 p.out.running, .int .u64 p.out.value])]) (φ := (b2 = b2 ∧ Nat.ble (1 + 11) 15 = true) ∧ (b2 = b2 ∧ Nat.ble (12 + 3) 15 = true) ∧ True) (fuel := 4) h12 (by kernel_rfl) rfl (by kernel_rfl) (by kernel_rfl) ⟨trivial, rfl, trivial, rfl, trivial⟩ ⟨⟨rfl, rfl⟩, ⟨rfl, rfl⟩, trivial⟩ fun a14 h15 => ?_
  clear h12
  refine wpAnyK_two (i := 4) (j := 5) (fuel := 3) (by kernel_rfl) ?_ ?_
  ·
    refine op_new tabOk (cells := [.int .u64 0, .int .i8 0, .int .u8 0, .int .u8 0, .int .u8 0, .int .u8 0, .int .u64 0, .int .u64 0, .int .u64 0, .int .u64 0, .int .u64 0]) (ty := 46) (ln := none) (L1 := fun b16 => [(bl, ⟨logC lg.base (.slice eo lg.evs.length ec) (.slice mo lg.mks.length mc) (.slice so lg.sns.length sc), 69, true⟩), (b2, ⟨[.int .i64 p.idx, .int .u64 p.st.now, .int .i8 p.st.cur, .int .u8 p.st.s0, .int .u8 p.st.s1, .int .u8 p.st.s2, .int .u8 p.st.s3, .int .u64 p.st.r0, .int .u64 p.st.r1, .int .u64 p.st.r2, .int .u64 p.st.r3, .int .u64 p.st.word, .bool p.out.refused, .int .i8 p.out.running, .int .u64 p.out.value], 66, false⟩), (b16, ⟨[.int .u64 0, .int .i8 0, .int .u8 0, .int .u8 0, .int .u8 0, .int .u8 0, .int .u64 0, .int .u64 0, .int .u64 0, .int .u64 0, .int .u64 0], 46, false⟩)]) h15 rfl rfl rfl rfl (by kernel_rfl) (fun _ => rfl) fun b16 w17 a18 h19 hf20 hn21 => ?_
    refine ⟨(h15.keepFr hf20 (kcons (by simp) (kcons (by simp) knil))), ?_⟩
    clear h15
    refine wpAnyK_one (i := 5) (fuel := 2) (by kernel_rfl) ?_
    refine op_new tabOk (cells := [.bool false, .int .i8 0, .int .u64 0]) (ty := 39) (ln := none) (L1 := fun b22 => [(bl, ⟨logC lg.base (.slice eo lg.evs.length ec) (.slice mo lg.mks.length mc) (.slice so lg.sns.length sc), 69, true⟩), (b2, ⟨[.int .i64 p.idx, .int .u64 p.st.now, .int .i8 p.st.cur, .int .u8 p.st.s0, .int .u8 p.st.s1, .int .u8 p.st.s2, .int .u8 p.st.s3, .int .u64 p.st.r0, .int .u64 p.st.r1, .int .u64 p.st.r2, .int .u64 p.st.r3, .int .u64 p.st.word, .bool p.out.refused, .int .i8 p.out.running, .int .u64 p.out.value], 66, false⟩), (b16, ⟨[.int .u64 0, .int .i8 0, .int .u8 0, .int .u8 0, .int .u8 0, .int .u8 0, .int .u64 0, .int .u64 0, .int .u64 0, .int .u64 0, .int .u64 0], 46, false⟩), (b22, ⟨[.bool false, .int .i8 0, .int .u64 0], 39, false⟩)]) h19 rfl rfl rfl rfl (by kernel_rfl) (fun _ => rfl) fun b22 w23 a24 h25 hf26 hn27 => ?_
    refine ⟨(h19.keepFr hf26 (kcons (by simp) (kcons (by simp) knil))), ?_⟩
    clear h19
    refine wpAnyK_one (i := 6) (fuel := 1) (by kernel_rfl) ?_
    refine op_store tabOk {k := 2} (L' := [(bl, ⟨logC lg.base (.slice eo lg.evs.length ec) (.slice mo lg.mks.length mc) (.slice so lg.sns.length sc), 69, true⟩), (b2, ⟨[.int .i64 p.idx, .int .u64 p.st.now, .int .i8 p.st.cur, .int .u8 p.st.s0, .int .u8 p.st.s1, .int .u8 p.st.s2, .int .u8 p.st.s3, .int .u64 p.st.r0, .int .u64 p.st.r1, .int .u64 p.st.r2, .int .u64 p.st.r3, .int .u64 p.st.word, .bool p.out.refused, .int .i8 p.out.running, .int .u64 p.out.value], 66, false⟩), (b16, ⟨[.int .u64 p.st.now, .int .i8 p.st.cur, .int .u8 p.st.s0, .int .u8 p.st.s1, .int .u8 p.st.s2, .int .u8 p.st.s3, .int .u64 p.st.r0, .int .u64 p.st.r1, .int .u64 p.st.r2, .int .u64 p.st.r3, .int .u64 p.st.word], 46, false⟩), (b22, ⟨[.bool false, .int .i8 0, .int .u64 0], 39, false⟩)]) (φ := b16 = b16 ∧ Nat.ble (0 + 11) 11 = true) h25 rfl rfl rfl (by kernel_rfl) ⟨rfl, rfl⟩ fun w28 h29 => ?_
    have hkh29 := h25.known
    refine ⟨(keepOf hkh29 h29.known (kcons (keepAt (q := 1) (q' := 1) rfl rfl) knil)), ?_⟩
    clear h25
    refine wpAnyK_one (i := 7) (fuel := 0) (by kernel_rfl) ?_
    refine op_store tabOk {k := 3} (L' := [(bl, ⟨logC lg.base (.slice eo lg.evs.length ec) (.slice mo lg.mks.length mc) (.slice so lg.sns.length sc), 69, true⟩), (b2, ⟨[.int .i64 p.idx, .int .u64 p.st.now, .int .i8 p.st.cur, .int .u8 p.st.s0, .int .u8 p.st.s1, .int .u8 p.st.s2, .int .u8 p.st.s3, .int .u64 p.st.r0, .int .u64 p.st.r1, .int .u64 p.st.r2, .int .u64 p.st.r3, .int .u64 p.st.word, .bool p.out.refused, .int .i8 p.out.running, .int .u64 p.out.value], 66, false⟩), (b16, ⟨[.int .u64 p.st.now, .int .i8 p.st.cur, .int .u8 p.st.s0, .int .u8 p.st.s1, .int .u8 p.st.s2, .int .u8 p.st.s3, .int .u64 p.st.r0, .int .u64 p.st.r1, .int .u64 p.st.r2, .int .u64 p.st.r3, .int .u64 p.st.word], 46, false⟩), (b22, ⟨[.bool p.out.refused, .int .i8 p.out.running, .int .u64 p.out.value], 39, false⟩)]) (φ := b22 = b22 ∧ Nat.ble (0 + 3) 3 = true) h29 rfl rfl rfl (by kernel_rfl) ⟨rfl, rfl⟩ fun w30 h31 => ?_
    have hkh31 := h29.known
    refine ⟨keepNil, ?_⟩
    clear h29
    refine wpAnyK_done (by kernel_rfl) ?_ _
    refine hK10 _ _ ?_
    clear hK10
    refine wp_seq_k fun K32 hK32 => ?_
    refine nd_start (l := [0, 1, 2]) rfl ?_
    refine nd_batch tabOk tabZ_ok [(0, {}), (1, {k := 1}), (2, {})] [6, 5, 3, 0, 1, 4, 7] (T' := [(6, .pointer (some ⟨b22, 0, none⟩)), (5, .pointer (some ⟨b16, 0, none⟩)), (3, .pointer (some ⟨b2, 0, none⟩)), (0, .pointer (some ⟨bl, 0, none⟩)), (1, .agg #[.int .i64 p.idx, .int .u64 p.st.now, .int .i8 p.st.cur, .int .u8 p.st.s0, .int .u8 p.st.s1, .int .u8 p.st.s2, .int .u8 p.st.s3, .int .u64 p.st.r0, .int .u64 p.st.r1, .int .u64 p.st.r2, .int .u64 p.st.r3, .int .u64 p.st.word, .bool p.out.refused, .int .i8 p.out.running, .int .u64 p.out.value]), (4, .int .i64 0), (7, .int .i64 p.idx)]) (φ := (b2 = b2 ∧ Nat.ble (0 + 1) 15 = true) ∧ True) (rest := []) h31 (by kernel_rfl) rfl ⟨⟨rfl, rfl⟩, trivial⟩ fun a33 h34 => ?_
    clear h31
    refine nd_done ?_
    refine hK32 _ _ ?_
    clear hK32
    refine wp_block ?_
    have h35 := h34.memMono (L' := [(bl, ⟨logC lg.base (.slice eo lg.evs.length ec) (.slice mo lg.mks.length mc) (.slice so lg.sns.length sc), 69, true⟩), (b16, ⟨[.int .u64 p.st.now, .int .i8 p.st.cur, .int .u8 p.st.s0, .int .u8 p.st.s1, .int .u8 p.st.s2, .int .u8 p.st.s3, .int .u64 p.st.r0, .int .u64 p.st.r1, .int .u64 p.st.r2, .int .u64 p.st.r3, .int .u64 p.st.word], 46, false⟩), (b22, ⟨[.bool p.out.refused, .int .i8 p.out.running, .int .u64 p.out.value], 39, false⟩)]) (List.Sublist.cons_cons _ (List.Sublist.cons _ (List.Sublist.cons_cons _ (List.Sublist.cons_cons _ List.Sublist.slnil))))
    clear h34
    refine wp_loop_ghost (fun g ga gw => ∃ (i : Int) (m' : Mach) (o' : Ot), (p.idx ≤ i) ∧ (i ≤ lg.fin) ∧ (g = (lg.fin - i).toNat) ∧ (sAt lg p i = (m', o')) ∧ (m'.ok) ∧ (∀ j, p.idx ≤ j → j < i → ¬ Bad lg p j) ∧ St ⟨76, [], w, Rws [rl evC 33 3 lg.evs eo ec eF, rl mkC 78 2 lg.mks mo mc mF, rl ptC 66 15 lg.sns so sc sF], Ff [rl evC 33 3 lg.evs eo ec eF, rl mkC 78 2 lg.mks mo mc mF, rl ptC 66 15 lg.sns so sc sF]⟩ [(0, .pointer (some ⟨bl, 0, none⟩)), (5, .pointer (some ⟨b16, 0, none⟩)), (6, .pointer (some ⟨b22, 0, none⟩)), (7, .int .i64 i)] [(bl, ⟨logC lg.base (.slice eo lg.evs.length ec) (.slice mo lg.mks.length mc) (.slice so lg.sns.length sc), 69, true⟩), (b16, ⟨machC m', 46, false⟩), (b22, ⟨outC o', 39, false⟩)] ga gw) (lg.fin - p.idx).toNat ⟨p.idx, p.st, p.out, Int.le_refl _, hp2, rfl, sAt_zero lg p, hpok, (fun j h1 h2 => by omega), (h35.slotsMono (restr_spec (keep := [0, 5, 6, 7]) rfl))⟩ ?_
    clear h35
    rintro g a36 w37 ⟨i, m', o', hi39, hi40, hi41, hi42, hi43, hi44, h38⟩
    have hi1 := hi39
    have hi2 := hi40
    have hg := hi41
    have hs := hi42
    have hmo := hi43
    have hno := hi44
    refine wp_seq_k fun K45 hK45 => ?_
    refine wp_block ?_
    refine wp_seq_k fun K46 hK46 => ?_
    refine wp_seq_k fun K47 hK47 => ?_
    refine nd_start (l := [0, 1, 2, 3, 4, 5]) rfl ?_
    refine nd_batch tabOk tabZ_ok [(0, {}), (1, {}), (2, {}), (3, {k := 0}), (4, {}), (5, {})] [0, 5, 6, 7, 23, 24, 25] (T' := [(0, .pointer (some ⟨bl, 0, none⟩)), (5, .pointer (some ⟨b16, 0, none⟩)), (6, .pointer (some ⟨b22, 0, none⟩)), (7, .int .i64 i), (23, .slice mo lg.mks.length mc), (24, .int .i64 ((lg.mks.length : Nat) : Int)), (25, .int .i64 0)]) (φ := (bl = bl ∧ Nat.ble (16 + 1) 18 = true) ∧ True) (rest := []) h38 (by kernel_rfl) rfl ⟨⟨rfl, rfl⟩, trivial⟩ fun a48 h49 => ?_
    clear h38
    refine nd_done ?_
    refine hK47 _ _ ?_
    clear hK47
    refine wp_block ?_
    refine wp_loop_ghost (fun gg ga gw => ∃ (k : Nat), (k ≤ lg.mks.length) ∧ (gg = lg.mks.length - k) ∧ (∀ z ∈ lg.mks.take k, z.idx = i → z.sum = dig m') ∧ St ⟨76, [], w, Rws [rl evC 33 3 lg.evs eo ec eF, rl mkC 78 2 lg.mks mo mc mF, rl ptC 66 15 lg.sns so sc sF], Ff [rl evC 33 3 lg.evs eo ec eF, rl mkC 78 2 lg.mks mo mc mF, rl ptC 66 15 lg.sns so sc sF]⟩ [(0, .pointer (some ⟨bl, 0, none⟩)), (5, .pointer (some ⟨b16, 0, none⟩)), (6, .pointer (some ⟨b22, 0, none⟩)), (7, .int .i64 i), (23, .slice mo lg.mks.length mc), (24, .int .i64 ((lg.mks.length : Nat) : Int)), (25, .int .i64 ((k : Nat) : Int))] [(bl, ⟨logC lg.base (.slice eo lg.evs.length ec) (.slice mo lg.mks.length mc) (.slice so lg.sns.length sc), 69, true⟩), (b16, ⟨machC m', 46, false⟩), (b22, ⟨outC o', 39, false⟩)] ga gw) lg.mks.length ⟨0, Nat.zero_le _, rfl, (fun z hz => by simp at hz), (h49.slotsMono (restr_spec (keep := [0, 5, 6, 7, 23, 24, 25]) rfl))⟩ ?_
    clear h49
    rintro gg a50 w51 ⟨k, hi53, hi54, hi55, h52⟩
    have hk := hi53
    have hg2 := hi54
    have hz := hi55
    refine wp_seq_k fun K56 hK56 => ?_
    refine nd_start (l := [0]) rfl ?_
    refine nd_batch tabOk tabZ_ok [(0, {})] [0, 5, 6, 7, 23, 24, 25, 26] (T' := [(0, .pointer (some ⟨bl, 0, none⟩)), (5, .pointer (some ⟨b16, 0, none⟩)), (6, .pointer (some ⟨b22, 0, none⟩)), (7, .int .i64 i), (23, .slice mo lg.mks.length mc), (24, .int .i64 ((lg.mks.length : Nat) : Int)), (25, .int .i64 ((k : Nat) : Int)), (26, .bool (decide (((k : Nat) : Int) < ((lg.mks.length : Nat) : Int))))]) (φ := True) (rest := []) h52 (by kernel_rfl) rfl trivial fun a57 h58 => ?_
    clear h52
    refine nd_done ?_
    refine hK56 _ _ ?_
    clear hK56
    refine wp_seq_k fun K59 hK59 => ?_
    refine c_split h58 (b := decide (((k : Nat) : Int) < ((lg.mks.length : Nat) : Int))) rfl (fun hc60 => ?_) (fun hc60 => ?_)
    ·
      have hc60f : ((k : Nat) : Int) < ((lg.mks.length : Nat) : Int) := by simpa using hc60
      obtain ⟨x, hx⟩ := Sx.get_some (xs := lg.mks) (i := k) (by omega)
      have hxm := List.mem_of_getElem? hx
      obtain ⟨b61, cs62, ho63, hb64, hc65, hF66, hq68, hl69⟩ := rl_open (h58.inv.get (j := 1) rfl) mkC_len hx
      subst ho63 hF66
      have h67 := h58.open_ hb64 (h58.notinL (by simp [Ff]) (kcons (fun _ => (fun hq => hsep (by have hq2 : bl = b61 := hq; rw [hq2]; simp [Hd.F]))) (kcons (by intro hq; cases hq) (kcons (by intro hq; cases hq) knil))))
      clear h58
      refine wp_skip ?_
      refine hK59 _ _ ?_
      clear hK59
      refine wp_seq_k fun K70 hK70 => ?_
      refine wp_block ?_
      refine wp_seq_k fun K71 hK71 => ?_
      refine nd_start (l := [0, 1, 2, 3]) rfl ?_
      refine nd_batch tabOk tabZ_ok [(0, {}), (1, {k := 3, m := 1, vs := [.int .i64 x.idx, .int .u64 x.sum]})] [0, 5, 6, 7, 23, 24, 25, 28] (T' := [(0, .pointer (some ⟨bl, 0, none⟩)), (5, .pointer (some ⟨b16, 0, none⟩)), (6, .pointer (some ⟨b22, 0, none⟩)), (7, .int .i64 i), (23, .slice (some ⟨b61, 0, none⟩) lg.mks.length mc), (24, .int .i64 ((lg.mks.length : Nat) : Int)), (25, .int .i64 ((k : Nat) : Int)), (28, .agg #[.int .i64 x.idx, .int .u64 x.sum])]) (φ := (0 ≤ ((k : Nat) : Int) ∧ ((k : Nat) : Int) < ((lg.mks.length : Nat) : Int)) ∧ (b61 = b61 ∧ cellsAre cs62 (0 + (k * 2)) [.int .i64 x.idx, .int .u64 x.sum]) ∧ True) (rest := [2, 3]) h67 (by kernel_rfl) rfl ⟨⟨by omega, by omega⟩, ⟨rfl, (by rw [Nat.zero_add]; exact hc65)⟩, trivial⟩ fun a72 h73 => ?_
      clear h67
      refine nd_op ?_
      refine op_new tabOk (cells := [.int .i64 0, .int .u64 0]) (ty := 78) (ln := none) (L1 := fun b74 => [(bl, ⟨logC lg.base (.slice eo lg.evs.length ec) (.slice (some ⟨b61, 0, none⟩) lg.mks.length mc) (.slice so lg.sns.length sc), 69, true⟩), (b16, ⟨machC m', 46, false⟩), (b22, ⟨outC o', 39, false⟩), (b61, ⟨cs62, 78, true⟩), (b74, ⟨[.int .i64 0, .int .u64 0], 78, false⟩)]) h73 rfl rfl rfl rfl (by kernel_rfl) (fun _ => rfl) fun b74 w75 a76 h77 hf78 hn79 => ?_
      clear h73
      refine nd_op ?_
      refine op_store tabOk {k := 4} (L' := [(bl, ⟨logC lg.base (.slice eo lg.evs.length ec) (.slice (some ⟨b61, 0, none⟩) lg.mks.length mc) (.slice so lg.sns.length sc), 69, true⟩), (b16, ⟨machC m', 46, false⟩), (b22, ⟨outC o', 39, false⟩), (b61, ⟨cs62, 78, true⟩), (b74, ⟨[.int .i64 x.idx, .int .u64 x.sum], 78, false⟩)]) (φ := b74 = b74 ∧ Nat.ble (0 + 2) 2 = true) h77 rfl rfl rfl (by kernel_rfl) ⟨rfl, rfl⟩ fun w80 h81 => ?_
      clear h77
      refine nd_done ?_
      refine hK71 _ _ ?_
      clear hK71
      refine wp_seq_k fun K82 hK82 => ?_
      rcases Bool.eq_false_or_eq_true ((x.idx == i)) with hb83 | hb83
      ·
        have hb83f : x.idx = i := by simpa using hb83
        have hxi : x.idx = i := hb83f
        refine dr_start (KB := [bl, b16, b22, b61, b74]) (Bi := [[0, 1, 2, 3, 4], [0, 1, 2, 3, 4], [0, 1, 2, 3, 4], [0, 1, 2, 3, 4], [0, 1, 2, 3, 4], [0, 1, 2, 3, 4], [0, 1, 2, 3, 4], [4], [0, 1, 2, 3, 4], [0, 1, 2, 3, 4]]) mixed h81 fun w84 h85 => ?_
        clear h81
        refine dr_batch tabOk tabZ_ok (by repeat (first | exact PF.body | with_reducible apply PF.inB | with_reducible apply PF.next)) [(0, {}), (1, {k := 4, p := 4}), (2, {}), (3, {f := 2}), (4, {}), (5, {}), (6, {k := 4, p := 4})] [9, 0, 5, 6, 7, 23, 24, 25, 33, 35] (T' := [(9, .pointer (some ⟨b74, 0, none⟩)), (0, .pointer (some ⟨bl, 0, none⟩)), (5, .pointer (some ⟨b16, 0, none⟩)), (6, .pointer (some ⟨b22, 0, none⟩)), (7, .int .i64 i), (23, .slice (some ⟨b61, 0, none⟩) lg.mks.length mc), (24, .int .i64 ((lg.mks.length : Nat) : Int)), (25, .int .i64 ((k : Nat) : Int)), (33, .bool true), (35, .int .u64 x.sum)]) (φ := (b74 = b74 ∧ Nat.ble (0 + 1) 2 = true) ∧ ((x.idx == i)) = true ∧ (b74 = b74 ∧ Nat.ble (1 + 1) 2 = true) ∧ True) (fuel := 3) h85 (by kernel_rfl) rfl (by kernel_rfl) (by kernel_rfl) ⟨trivial, rfl, trivial, trivial, trivial, trivial, rfl, trivial⟩ ⟨⟨rfl, rfl⟩, hb83, ⟨rfl, rfl⟩, trivial⟩ fun a87 h88 => ?_
        clear h85
        refine wpAnyK_one (i := 7) (fuel := 2) (by kernel_rfl) ?_
        refine op_call h88 rfl rfl rfl (callOk Try.func52 (by decide) rfl) (args := [.pointer (some ⟨b16, 0, none⟩)]) rfl (digest_ok [] [] m' hmo b16 46 false _ (h88.kn (k := 1) (blk := ⟨machC m', 46, false⟩) rfl)) ?_
        rintro _ w89 ⟨rfl, hf91⟩
        refine ⟨_, rfl, ?_⟩
        have h90 := (h88.grow hf91).put (d := some 36) (v := .int .u64 (dig m')) (T' := [(36, .int .u64 (dig m')), (9, .pointer (some ⟨b74, 0, none⟩)), (0, .pointer (some ⟨bl, 0, none⟩)), (5, .pointer (some ⟨b16, 0, none⟩)), (6, .pointer (some ⟨b22, 0, none⟩)), (7, .int .i64 i), (23, .slice (some ⟨b61, 0, none⟩) lg.mks.length mc), (24, .int .i64 ((lg.mks.length : Nat) : Int)), (25, .int .i64 ((k : Nat) : Int)), (33, .bool true), (35, .int .u64 x.sum)]) rfl
        refine ⟨(h88.keepFr hf91 (kcons (by simp) knil)), ?_⟩
        clear h88
        refine dr_batch tabOk tabZ_ok (by repeat (first | exact PF.body | with_reducible apply PF.inB | with_reducible apply PF.next)) [(8, {}), (9, {})] [9, 0, 5, 6, 7, 23, 24, 25, 38] (T' := [(9, .pointer (some ⟨b74, 0, none⟩)), (0, .pointer (some ⟨bl, 0, none⟩)), (5, .pointer (some ⟨b16, 0, none⟩)), (6, .pointer (some ⟨b22, 0, none⟩)), (7, .int .i64 i), (23, .slice (some ⟨b61, 0, none⟩) lg.mks.length mc), (24, .int .i64 ((lg.mks.length : Nat) : Int)), (25, .int .i64 ((k : Nat) : Int)), (38, .bool (x.sum != (dig m')))]) (φ := True) (fuel := 0) h90 (by kernel_rfl) rfl (by kernel_rfl) (by kernel_rfl) ⟨trivial, trivial, trivial⟩ trivial fun a92 h93 => ?_
        clear h90
        refine wpAnyK_done (by kernel_rfl) ?_ _
        refine hK82 _ _ ?_
        clear hK82
        refine c_split h93 (b := (x.sum != (dig m'))) rfl (fun hc94 => ?_) (fun hc94 => ?_)
        ·
          have hc94f : x.sum ≠ (dig m') := by simpa using hc94
          refine wp_seq_k fun K95 hK95 => ?_
          refine nd_start (l := [0, 1]) rfl ?_
          refine nd_batch tabOk tabZ_ok [(0, {}), (1, {})] [9, 0, 5, 6, 7, 23, 24, 25, 4] (T' := [(9, .pointer (some ⟨b74, 0, none⟩)), (0, .pointer (some ⟨bl, 0, none⟩)), (5, .pointer (some ⟨b16, 0, none⟩)), (6, .pointer (some ⟨b22, 0, none⟩)), (7, .int .i64 i), (23, .slice (some ⟨b61, 0, none⟩) lg.mks.length mc), (24, .int .i64 ((lg.mks.length : Nat) : Int)), (25, .int .i64 ((k : Nat) : Int)), (4, .int .i64 i)]) (φ := True) (rest := []) h93 (by kernel_rfl) rfl trivial fun a96 h97 => ?_
          clear h93
          refine nd_done ?_
          refine hK95 _ _ ?_
          clear hK95
          refine wp_ret ?_
          try simp only [Exit.then, Exit.inBlock]
          try rw [if_pos trivial]
          exact s_ret tabOk tabZ_ok h97 [(.tmp 4, {})] (vs := [.int .i64 i]) (φ := True) rfl (by kernel_rfl) trivial ⟨_, rfl, (fd_here hi1 hi2 (badM hs hxm hxi hc94f) hno), h97.frame⟩
        ·
          have hc94f : x.sum = (dig m') := by simpa using hc94
          refine wp_skip ?_
          refine hK70 _ _ ?_
          clear hK70
          refine nd_start (l := [0, 1]) rfl ?_
          refine nd_batch tabOk tabZ_ok [(0, {}), (1, {})] [9, 0, 5, 6, 7, 23, 24, 25] (T' := [(9, .pointer (some ⟨b74, 0, none⟩)), (0, .pointer (some ⟨bl, 0, none⟩)), (5, .pointer (some ⟨b16, 0, none⟩)), (6, .pointer (some ⟨b22, 0, none⟩)), (7, .int .i64 i), (23, .slice (some ⟨b61, 0, none⟩) lg.mks.length mc), (24, .int .i64 ((lg.mks.length : Nat) : Int)), (25, .int .i64 (((k : Nat) : Int) + 1))]) (φ := inR .i64 (((k : Nat) : Int) + 1) ∧ True) (rest := []) h93 (by kernel_rfl) rfl ⟨⟨by omega, by omega⟩, trivial⟩ fun a98 h99 => ?_
          clear h93
          refine nd_done ?_
          have h100 := h99.memMono (L' := [(bl, ⟨logC lg.base (.slice eo lg.evs.length ec) (.slice (some ⟨b61, 0, none⟩) lg.mks.length mc) (.slice so lg.sns.length sc), 69, true⟩), (b16, ⟨machC m', 46, false⟩), (b22, ⟨outC o', 39, false⟩)]) (List.Sublist.cons_cons _ (List.Sublist.cons_cons _ (List.Sublist.cons_cons _ (List.Sublist.cons _ (List.Sublist.cons _ List.Sublist.slnil)))))
          clear h99
          exact ⟨(gg - 1), by omega, (k + 1), by omega, by omega, (by intro z hz1 hz2; rw [Sx.take_snoc hx] at hz1; rcases List.mem_append.1 hz1 with h1 | h1; exact hz z h1 hz2; simp at h1; subst h1; exact hc94f), (h100.slotsMono (restr_spec (keep := [0, 5, 6, 7, 23, 24, 25]) rfl))⟩
      ·
        have hb83f : x.idx ≠ i := by simpa using hb83
        refine dr_start (KB := [bl, b16, b22, b61, b74]) (Bi := [[0, 1, 2, 3, 4], [0, 1, 2, 3, 4], [0, 1, 2, 3, 4], [0, 1, 2, 3, 4], [0, 1, 2, 3, 4], [0, 1, 2, 3, 4], [0, 1, 2, 3, 4], [0], [0, 1, 2, 3, 4], [0, 1, 2, 3, 4]]) mixed h81 fun w101 h102 => ?_
        clear h81
        refine dr_batch tabOk tabZ_ok (by repeat (first | exact PF.body | with_reducible apply PF.inB | with_reducible apply PF.next)) [(0, {}), (1, {k := 4, p := 4}), (2, {}), (3, {f := 1}), (4, {}), (5, {}), (6, {k := 0, p := 0})] [9, 0, 5, 6, 7, 23, 24, 25, 33, 35] (T' := [(9, .pointer (some ⟨b74, 0, none⟩)), (0, .pointer (some ⟨bl, 0, none⟩)), (5, .pointer (some ⟨b16, 0, none⟩)), (6, .pointer (some ⟨b22, 0, none⟩)), (7, .int .i64 i), (23, .slice (some ⟨b61, 0, none⟩) lg.mks.length mc), (24, .int .i64 ((lg.mks.length : Nat) : Int)), (25, .int .i64 ((k : Nat) : Int)), (33, .bool false), (35, .tuple #[])]) (φ := (b74 = b74 ∧ Nat.ble (0 + 1) 2 = true) ∧ ((x.idx == i)) = false ∧ True) (fuel := 3) h102 (by kernel_rfl) rfl (by kernel_rfl) (by kernel_rfl) ⟨trivial, rfl, trivial, trivial, trivial, trivial, rfl, trivial⟩ ⟨⟨rfl, rfl⟩, hb83, trivial⟩ fun a104 h105 => ?_
        clear h102
        refine dr_batch tabOk tabZ_ok (by repeat (first | exact PF.body | with_reducible apply PF.inB | with_reducible apply PF.next)) [(7, {})] [9, 0, 5, 6, 7, 23, 24, 25, 33, 35, 36] (T' := [(9, .pointer (some ⟨b74, 0, none⟩)), (0, .pointer (some ⟨bl, 0, none⟩)), (5, .pointer (some ⟨b16, 0, none⟩)), (6, .pointer (some ⟨b22, 0, none⟩)), (7, .int .i64 i), (23, .slice (some ⟨b61, 0, none⟩) lg.mks.length mc), (24, .int .i64 ((lg.mks.length : Nat) : Int)), (25, .int .i64 ((k : Nat) : Int)), (33, .bool false), (35, .tuple #[]), (36, .tuple #[])]) (φ := True) (fuel := 2) h105 (by kernel_rfl) rfl (by kernel_rfl) (by kernel_rfl) ⟨trivial, trivial⟩ trivial fun a106 h107 => ?_
        clear h105
        refine dr_batch tabOk tabZ_ok (by repeat (first | exact PF.body | with_reducible apply PF.inB | with_reducible apply PF.next)) [(8, {}), (9, {})] [9, 0, 5, 6, 7, 23, 24, 25, 38] (T' := [(9, .pointer (some ⟨b74, 0, none⟩)), (0, .pointer (some ⟨bl, 0, none⟩)), (5, .pointer (some ⟨b16, 0, none⟩)), (6, .pointer (some ⟨b22, 0, none⟩)), (7, .int .i64 i), (23, .slice (some ⟨b61, 0, none⟩) lg.mks.length mc), (24, .int .i64 ((lg.mks.length : Nat) : Int)), (25, .int .i64 ((k : Nat) : Int)), (38, .bool false)]) (φ := True) (fuel := 0) h107 (by kernel_rfl) rfl (by kernel_rfl) (by kernel_rfl) ⟨trivial, trivial, trivial⟩ trivial fun a108 h109 => ?_
        clear h107
        refine wpAnyK_done (by kernel_rfl) ?_ _
        refine hK82 _ _ ?_
        clear hK82
        refine c_false h109 rfl ?_
        refine wp_skip ?_
        refine hK70 _ _ ?_
        clear hK70
        refine nd_start (l := [0, 1]) rfl ?_
        refine nd_batch tabOk tabZ_ok [(0, {}), (1, {})] [9, 0, 5, 6, 7, 23, 24, 25] (T' := [(9, .pointer (some ⟨b74, 0, none⟩)), (0, .pointer (some ⟨bl, 0, none⟩)), (5, .pointer (some ⟨b16, 0, none⟩)), (6, .pointer (some ⟨b22, 0, none⟩)), (7, .int .i64 i), (23, .slice (some ⟨b61, 0, none⟩) lg.mks.length mc), (24, .int .i64 ((lg.mks.length : Nat) : Int)), (25, .int .i64 (((k : Nat) : Int) + 1))]) (φ := inR .i64 (((k : Nat) : Int) + 1) ∧ True) (rest := []) h109 (by kernel_rfl) rfl ⟨⟨by omega, by omega⟩, trivial⟩ fun a110 h111 => ?_
        clear h109
        refine nd_done ?_
        have h112 := h111.memMono (L' := [(bl, ⟨logC lg.base (.slice eo lg.evs.length ec) (.slice (some ⟨b61, 0, none⟩) lg.mks.length mc) (.slice so lg.sns.length sc), 69, true⟩), (b16, ⟨machC m', 46, false⟩), (b22, ⟨outC o', 39, false⟩)]) (List.Sublist.cons_cons _ (List.Sublist.cons_cons _ (List.Sublist.cons_cons _ (List.Sublist.cons _ (List.Sublist.cons _ List.Sublist.slnil)))))
        clear h111
        exact ⟨(gg - 1), by omega, (k + 1), by omega, by omega, (by intro z hz1 hz2; rw [Sx.take_snoc hx] at hz1; rcases List.mem_append.1 hz1 with h1 | h1; exact hz z h1 hz2; simp at h1; subst h1; exact absurd hz2 hb83f), (h112.slotsMono (restr_spec (keep := [0, 5, 6, 7, 23, 24, 25]) rfl))⟩
    ·
      have hc60f : ¬ ((k : Nat) : Int) < ((lg.mks.length : Nat) : Int) := by simpa using hc60
      have h113 := h58.slotsMono (T' := [(0, .pointer (some ⟨bl, 0, none⟩)), (5, .pointer (some ⟨b16, 0, none⟩)), (6, .pointer (some ⟨b22, 0, none⟩)), (7, .int .i64 i)]) (restr_spec (keep := [0, 5, 6, 7]) rfl)
      clear h58
      have hkk : k = lg.mks.length := by omega
      subst hkk
      rw [List.take_length] at hz
      have hmks := hz
      refine wp_exit ?_
      refine hK46 _ _ ?_
      clear hK46
      refine wp_seq_k fun K114 hK114 => ?_
      refine wp_seq_k fun K115 hK115 => ?_
      refine nd_start (l := [0, 1, 2, 3, 4, 5]) rfl ?_
      refine nd_batch tabOk tabZ_ok [(0, {}), (1, {}), (2, {}), (3, {k := 0}), (4, {}), (5, {})] [0, 5, 6, 7, 44, 45, 46] (T' := [(0, .pointer (some ⟨bl, 0, none⟩)), (5, .pointer (some ⟨b16, 0, none⟩)), (6, .pointer (some ⟨b22, 0, none⟩)), (7, .int .i64 i), (44, .slice so lg.sns.length sc), (45, .int .i64 ((lg.sns.length : Nat) : Int)), (46, .int .i64 0)]) (φ := (bl = bl ∧ Nat.ble (17 + 1) 18 = true) ∧ True) (rest := []) h113 (by kernel_rfl) rfl ⟨⟨rfl, rfl⟩, trivial⟩ fun a116 h117 => ?_
      clear h113
      refine nd_done ?_
      refine hK115 _ _ ?_
      clear hK115
      refine wp_block ?_
      refine wp_loop_ghost (fun gg ga gw => ∃ (k : Nat), (k ≤ lg.sns.length) ∧ (gg = lg.sns.length - k) ∧ (∀ z ∈ lg.sns.take k, z.idx = i → z.st = m' ∧ z.out = o') ∧ St ⟨76, [], w, Rws [rl evC 33 3 lg.evs eo ec eF, rl mkC 78 2 lg.mks mo mc mF, rl ptC 66 15 lg.sns so sc sF], Ff [rl evC 33 3 lg.evs eo ec eF, rl mkC 78 2 lg.mks mo mc mF, rl ptC 66 15 lg.sns so sc sF]⟩ [(0, .pointer (some ⟨bl, 0, none⟩)), (5, .pointer (some ⟨b16, 0, none⟩)), (6, .pointer (some ⟨b22, 0, none⟩)), (7, .int .i64 i), (44, .slice so lg.sns.length sc), (45, .int .i64 ((lg.sns.length : Nat) : Int)), (46, .int .i64 ((k : Nat) : Int))] [(bl, ⟨logC lg.base (.slice eo lg.evs.length ec) (.slice mo lg.mks.length mc) (.slice so lg.sns.length sc), 69, true⟩), (b16, ⟨machC m', 46, false⟩), (b22, ⟨outC o', 39, false⟩)] ga gw) lg.sns.length ⟨0, Nat.zero_le _, rfl, (fun z hz => by simp at hz), (h117.slotsMono (restr_spec (keep := [0, 5, 6, 7, 44, 45, 46]) rfl))⟩ ?_
      clear h117
      rintro gg a118 w119 ⟨k, hi121, hi122, hi123, h120⟩
      have hk := hi121
      have hg2 := hi122
      have hz := hi123
      refine wp_seq_k fun K124 hK124 => ?_
      refine nd_start (l := [0]) rfl ?_
      refine nd_batch tabOk tabZ_ok [(0, {})] [0, 5, 6, 7, 44, 45, 46, 47] (T' := [(0, .pointer (some ⟨bl, 0, none⟩)), (5, .pointer (some ⟨b16, 0, none⟩)), (6, .pointer (some ⟨b22, 0, none⟩)), (7, .int .i64 i), (44, .slice so lg.sns.length sc), (45, .int .i64 ((lg.sns.length : Nat) : Int)), (46, .int .i64 ((k : Nat) : Int)), (47, .bool (decide (((k : Nat) : Int) < ((lg.sns.length : Nat) : Int))))]) (φ := True) (rest := []) h120 (by kernel_rfl) rfl trivial fun a125 h126 => ?_
      clear h120
      refine nd_done ?_
      refine hK124 _ _ ?_
      clear hK124
      refine wp_seq_k fun K127 hK127 => ?_
      refine c_split h126 (b := decide (((k : Nat) : Int) < ((lg.sns.length : Nat) : Int))) rfl (fun hc128 => ?_) (fun hc128 => ?_)
      ·
        have hc128f : ((k : Nat) : Int) < ((lg.sns.length : Nat) : Int) := by simpa using hc128
        obtain ⟨x, hx⟩ := Sx.get_some (xs := lg.sns) (i := k) (by omega)
        have hxm := List.mem_of_getElem? hx
        obtain ⟨b129, cs130, ho131, hb132, hc133, hF134, hq136, hl137⟩ := rl_open (h126.inv.get (j := 2) rfl) ptC_len hx
        subst ho131 hF134
        have h135 := h126.open_ hb132 (h126.notinL (by simp [Ff]) (kcons (fun _ => (fun hq => hsep (by have hq2 : bl = b129 := hq; rw [hq2]; simp [Hd.F]))) (kcons (by intro hq; cases hq) (kcons (by intro hq; cases hq) knil))))
        clear h126
        refine wp_skip ?_
        refine hK127 _ _ ?_
        clear hK127
        refine wp_seq_k fun K138 hK138 => ?_
        refine wp_block ?_
        refine wp_seq_k fun K139 hK139 => ?_
        refine nd_start (l := [0, 1, 2, 3]) rfl ?_
        refine nd_batch tabOk tabZ_ok [(0, {}), (1, {k := 3, m := 1, vs := [.int .i64 x.idx, .int .u64 x.st.now, .int .i8 x.st.cur, .int .u8 x.st.s0, .int .u8 x.st.s1, .int .u8 x.st.s2, .int .u8 x.st.s3, .int .u64 x.st.r0, .int .u64 x.st.r1, .int .u64 x.st.r2, .int .u64 x.st.r3, .int .u64 x.st.word, .bool x.out.refused, .int .i8 x.out.running, .int .u64 x.out.value]})] [0, 5, 6, 7, 44, 45, 46, 49] (T' := [(0, .pointer (some ⟨bl, 0, none⟩)), (5, .pointer (some ⟨b16, 0, none⟩)), (6, .pointer (some ⟨b22, 0, none⟩)), (7, .int .i64 i), (44, .slice (some ⟨b129, 0, none⟩) lg.sns.length sc), (45, .int .i64 ((lg.sns.length : Nat) : Int)), (46, .int .i64 ((k : Nat) : Int)), (49, .agg #[.int .i64 x.idx, .int .u64 x.st.now, .int .i8 x.st.cur, .int .u8 x.st.s0, .int .u8 x.st.s1, .int .u8 x.st.s2, .int .u8 x.st.s3, .int .u64 x.st.r0, .int .u64 x.st.r1, .int .u64 x.st.r2, .int .u64 x.st.r3, .int .u64 x.st.word, .bool x.out.refused, .int .i8 x.out.running, .int .u64 x.out.value])]) (φ := (0 ≤ ((k : Nat) : Int) ∧ ((k : Nat) : Int) < ((lg.sns.length : Nat) : Int)) ∧ (b129 = b129 ∧ cellsAre cs130 (0 + (k * 15)) [.int .i64 x.idx, .int .u64 x.st.now, .int .i8 x.st.cur, .int .u8 x.st.s0, .int .u8 x.st.s1, .int .u8 x.st.s2, .int .u8 x.st.s3, .int .u64 x.st.r0, .int .u64 x.st.r1, .int .u64 x.st.r2, .int .u64 x.st.r3, .int .u64 x.st.word, .bool x.out.refused, .int .i8 x.out.running, .int .u64 x.out.value]) ∧ True) (rest := [2, 3]) h135 (by kernel_rfl) rfl ⟨⟨by omega, by omega⟩, ⟨rfl, (by rw [Nat.zero_add]; exact hc133)⟩, trivial⟩ fun a140 h141 => ?_
        clear h135
        refine nd_op ?_
        refine op_new tabOk (cells := [.int .i64 0, .int .u64 0, .int .i8 0, .int .u8 0, .int .u8 0, .int .u8 0, .int .u8 0, .int .u64 0, .int .u64 0, .int .u64 0, .int .u64 0, .int .u64 0, .bool false, .int .i8 0, .int .u64 0]) (ty := 66) (ln := none) (L1 := fun b142 => [(bl, ⟨logC lg.base (.slice eo lg.evs.length ec) (.slice mo lg.mks.length mc) (.slice (some ⟨b129, 0, none⟩) lg.sns.length sc), 69, true⟩), (b16, ⟨machC m', 46, false⟩), (b22, ⟨outC o', 39, false⟩), (b129, ⟨cs130, 66, true⟩), (b142, ⟨[.int .i64 0, .int .u64 0, .int .i8 0, .int .u8 0, .int .u8 0, .int .u8 0, .int .u8 0, .int .u64 0, .int .u64 0, .int .u64 0, .int .u64 0, .int .u64 0, .bool false, .int .i8 0, .int .u64 0], 66, false⟩)]) h141 rfl rfl rfl rfl (by kernel_rfl) (fun _ => rfl) fun b142 w143 a144 h145 hf146 hn147 => ?_
        clear h141
        refine nd_op ?_
        refine op_store tabOk {k := 4} (L' := [(bl, ⟨logC lg.base (.slice eo lg.evs.length ec) (.slice mo lg.mks.length mc) (.slice (some ⟨b129, 0, none⟩) lg.sns.length sc), 69, true⟩), (b16, ⟨machC m', 46, false⟩), (b22, ⟨outC o', 39, false⟩), (b129, ⟨cs130, 66, true⟩), (b142, ⟨[.int .i64 x.idx, .int .u64 x.st.now, .int .i8 x.st.cur, .int .u8 x.st.s0, .int .u8 x.st.s1, .int .u8 x.st.s2, .int .u8 x.st.s3, .int .u64 x.st.r0, .int .u64 x.st.r1, .int .u64 x.st.r2, .int .u64 x.st.r3, .int .u64 x.st.word, .bool x.out.refused, .int .i8 x.out.running, .int .u64 x.out.value], 66, false⟩)]) (φ := b142 = b142 ∧ Nat.ble (0 + 15) 15 = true) h145 rfl rfl rfl (by kernel_rfl) ⟨rfl, rfl⟩ fun w148 h149 => ?_
        clear h145
        refine nd_done ?_
        refine hK139 _ _ ?_
        clear hK139
        refine wp_seq_k fun K150 hK150 => ?_
        rcases Bool.eq_false_or_eq_true ((x.idx == i)) with hb151 | hb151
        ·
          have hb151f : x.idx = i := by simpa using hb151
          have hxi : x.idx = i := hb151f
          rcases Bool.eq_false_or_eq_true ((Bool.xor true (machEq x.st m'))) with hb152 | hb152
          ·
            have hne : x.st ≠ m' := fun hq => by rw [hq, machEq_iff.2 rfl] at hb152; simp at hb152
            refine nd_start (l := [0, 1, 2, 3, 4, 5, 6, 7, 8, 9, 10, 11, 12, 13, 14, 15]) rfl ?_
            refine nd_batch tabOk tabZ_ok [(0, {}), (1, {k := 4}), (2, {}), (3, {f := 2}), (4, {}), (5, {}), (6, {k := 4}), (7, {k := 1}), (8, {f := 2}), (9, {}), (10, {}), (11, {}), (12, {}), (13, {}), (14, {}), (15, {})] [11, 0, 5, 6, 7, 44, 45, 46, 65] (T' := [(11, .pointer (some ⟨b142, 0, none⟩)), (0, .pointer (some ⟨bl, 0, none⟩)), (5, .pointer (some ⟨b16, 0, none⟩)), (6, .pointer (some ⟨b22, 0, none⟩)), (7, .int .i64 i), (44, .slice (some ⟨b129, 0, none⟩) lg.sns.length sc), (45, .int .i64 ((lg.sns.length : Nat) : Int)), (46, .int .i64 ((k : Nat) : Int)), (65, .bool true)]) (φ := (b142 = b142 ∧ Nat.ble (0 + 1) 15 = true) ∧ ((x.idx == i)) = true ∧ (b142 = b142 ∧ Nat.ble (1 + 11) 15 = true) ∧ (b16 = b16 ∧ Nat.ble (0 + 11) 11 = true) ∧ EqRun Try.prog 46 (.agg #[.int .u64 x.st.now, .int .i8 x.st.cur, .int .u8 x.st.s0, .int .u8 x.st.s1, .int .u8 x.st.s2, .int .u8 x.st.s3, .int .u64 x.st.r0, .int .u64 x.st.r1, .int .u64 x.st.r2, .int .u64 x.st.r3, .int .u64 x.st.word]) (.agg #[.int .u64 m'.now, .int .i8 m'.cur, .int .u8 m'.s0, .int .u8 m'.s1, .int .u8 m'.s2, .int .u8 m'.s3, .int .u64 m'.r0, .int .u64 m'.r1, .int .u64 m'.r2, .int .u64 m'.r3, .int .u64 m'.word]) false ∧ True) (rest := []) h149 (by kernel_rfl) rfl ⟨⟨rfl, rfl⟩, hb151, ⟨rfl, rfl⟩, ⟨rfl, rfl⟩, (by have hq := run46 x.st m'; rw [show machEq x.st m' = false by simpa using hb152] at hq; exact hq), trivial⟩ fun a153 h154 => ?_
            clear h149
            refine nd_done ?_
            refine hK150 _ _ ?_
            clear hK150
            refine c_true h154 rfl ?_
            refine wp_seq_k fun K155 hK155 => ?_
            refine nd_start (l := [0, 1]) rfl ?_
            refine nd_batch tabOk tabZ_ok [(0, {}), (1, {})] [11, 0, 5, 6, 7, 44, 45, 46, 4] (T' := [(11, .pointer (some ⟨b142, 0, none⟩)), (0, .pointer (some ⟨bl, 0, none⟩)), (5, .pointer (some ⟨b16, 0, none⟩)), (6, .pointer (some ⟨b22, 0, none⟩)), (7, .int .i64 i), (44, .slice (some ⟨b129, 0, none⟩) lg.sns.length sc), (45, .int .i64 ((lg.sns.length : Nat) : Int)), (46, .int .i64 ((k : Nat) : Int)), (4, .int .i64 i)]) (φ := True) (rest := []) h154 (by kernel_rfl) rfl trivial fun a156 h157 => ?_
            clear h154
            refine nd_done ?_
            refine hK155 _ _ ?_
            clear hK155
            refine wp_ret ?_
            try simp only [Exit.then, Exit.inBlock]
            try rw [if_pos trivial]
            exact s_ret tabOk tabZ_ok h157 [(.tmp 4, {})] (vs := [.int .i64 i]) (φ := True) rfl (by kernel_rfl) trivial ⟨_, rfl, (fd_here hi1 hi2 (badP hs hxm hxi (.inl hne)) hno), h157.frame⟩
          ·
            have hse : x.st = m' := machEq_iff.1 (by simpa using hb152)
            refine nd_start (l := [0, 1, 2, 3, 4, 5, 6, 7, 8, 9, 10, 11, 12, 13, 14, 15]) rfl ?_
            refine nd_batch tabOk tabZ_ok [(0, {}), (1, {k := 4}), (2, {}), (3, {f := 2}), (4, {}), (5, {}), (6, {k := 4}), (7, {k := 1}), (8, {f := 1}), (9, {}), (10, {}), (11, {k := 4}), (12, {k := 2}), (13, {vs := [.bool (otEq x.out o')]}), (14, {}), (15, {})] [11, 0, 5, 6, 7, 44, 45, 46, 65] (T' := [(11, .pointer (some ⟨b142, 0, none⟩)), (0, .pointer (some ⟨bl, 0, none⟩)), (5, .pointer (some ⟨b16, 0, none⟩)), (6, .pointer (some ⟨b22, 0, none⟩)), (7, .int .i64 i), (44, .slice (some ⟨b129, 0, none⟩) lg.sns.length sc), (45, .int .i64 ((lg.sns.length : Nat) : Int)), (46, .int .i64 ((k : Nat) : Int)), (65, .bool (Bool.xor true (otEq x.out o')))]) (φ := (b142 = b142 ∧ Nat.ble (0 + 1) 15 = true) ∧ ((x.idx == i)) = true ∧ (b142 = b142 ∧ Nat.ble (1 + 11) 15 = true) ∧ (b16 = b16 ∧ Nat.ble (0 + 11) 11 = true) ∧ EqRun Try.prog 46 (.agg #[.int .u64 x.st.now, .int .i8 x.st.cur, .int .u8 x.st.s0, .int .u8 x.st.s1, .int .u8 x.st.s2, .int .u8 x.st.s3, .int .u64 x.st.r0, .int .u64 x.st.r1, .int .u64 x.st.r2, .int .u64 x.st.r3, .int .u64 x.st.word]) (.agg #[.int .u64 m'.now, .int .i8 m'.cur, .int .u8 m'.s0, .int .u8 m'.s1, .int .u8 m'.s2, .int .u8 m'.s3, .int .u64 m'.r0, .int .u64 m'.r1, .int .u64 m'.r2, .int .u64 m'.r3, .int .u64 m'.word]) true ∧ (b142 = b142 ∧ Nat.ble (12 + 3) 15 = true) ∧ (b22 = b22 ∧ Nat.ble (0 + 3) 3 = true) ∧ EqRun Try.prog 39 (.agg #[.bool x.out.refused, .int .i8 x.out.running, .int .u64 x.out.value]) (.agg #[.bool o'.refused, .int .i8 o'.running, .int .u64 o'.value]) (otEq x.out o') ∧ True) (rest := []) h149 (by kernel_rfl) rfl ⟨⟨rfl, rfl⟩, hb151, ⟨rfl, rfl⟩, ⟨rfl, rfl⟩, (by have hq := run46 x.st m'; rw [show machEq x.st m' = true by simpa using hb152] at hq; exact hq), ⟨rfl, rfl⟩, ⟨rfl, rfl⟩, run39 x.out o', trivial⟩ fun a158 h159 => ?_
            clear h149
            refine nd_done ?_
            refine hK150 _ _ ?_
            clear hK150
            refine c_split h159 (b := (Bool.xor true (otEq x.out o'))) rfl (fun hc160 => ?_) (fun hc160 => ?_)
            ·
              have hne : x.out ≠ o' := fun hq => by rw [hq, otEq_iff.2 rfl] at hc160; simp at hc160
              refine wp_seq_k fun K161 hK161 => ?_
              refine nd_start (l := [0, 1]) rfl ?_
              refine nd_batch tabOk tabZ_ok [(0, {}), (1, {})] [11, 0, 5, 6, 7, 44, 45, 46, 4] (T' := [(11, .pointer (some ⟨b142, 0, none⟩)), (0, .pointer (some ⟨bl, 0, none⟩)), (5, .pointer (some ⟨b16, 0, none⟩)), (6, .pointer (some ⟨b22, 0, none⟩)), (7, .int .i64 i), (44, .slice (some ⟨b129, 0, none⟩) lg.sns.length sc), (45, .int .i64 ((lg.sns.length : Nat) : Int)), (46, .int .i64 ((k : Nat) : Int)), (4, .int .i64 i)]) (φ := True) (rest := []) h159 (by kernel_rfl) rfl trivial fun a162 h163 => ?_
              clear h159
              refine nd_done ?_
              refine hK161 _ _ ?_
              clear hK161
              refine wp_ret ?_
              try simp only [Exit.then, Exit.inBlock]
              try rw [if_pos trivial]
              exact s_ret tabOk tabZ_ok h163 [(.tmp 4, {})] (vs := [.int .i64 i]) (φ := True) rfl (by kernel_rfl) trivial ⟨_, rfl, (fd_here hi1 hi2 (badP hs hxm hxi (.inr hne)) hno), h163.frame⟩
            ·
              have hoe : x.out = o' := otEq_iff.1 (by simpa using hc160)
              refine wp_skip ?_
              refine hK138 _ _ ?_
              clear hK138
              refine nd_start (l := [0, 1]) rfl ?_
              refine nd_batch tabOk tabZ_ok [(0, {}), (1, {})] [11, 0, 5, 6, 7, 44, 45, 46] (T' := [(11, .pointer (some ⟨b142, 0, none⟩)), (0, .pointer (some ⟨bl, 0, none⟩)), (5, .pointer (some ⟨b16, 0, none⟩)), (6, .pointer (some ⟨b22, 0, none⟩)), (7, .int .i64 i), (44, .slice (some ⟨b129, 0, none⟩) lg.sns.length sc), (45, .int .i64 ((lg.sns.length : Nat) : Int)), (46, .int .i64 (((k : Nat) : Int) + 1))]) (φ := inR .i64 (((k : Nat) : Int) + 1) ∧ True) (rest := []) h159 (by kernel_rfl) rfl ⟨⟨by omega, by omega⟩, trivial⟩ fun a164 h165 => ?_
              clear h159
              refine nd_done ?_
              have h166 := h165.memMono (L' := [(bl, ⟨logC lg.base (.slice eo lg.evs.length ec) (.slice mo lg.mks.length mc) (.slice (some ⟨b129, 0, none⟩) lg.sns.length sc), 69, true⟩), (b16, ⟨machC m', 46, false⟩), (b22, ⟨outC o', 39, false⟩)]) (List.Sublist.cons_cons _ (List.Sublist.cons_cons _ (List.Sublist.cons_cons _ (List.Sublist.cons _ (List.Sublist.cons _ List.Sublist.slnil)))))
              clear h165
              exact ⟨(gg - 1), by omega, (k + 1), by omega, by omega, (by intro z hz1 hz2; rw [Sx.take_snoc hx] at hz1; rcases List.mem_append.1 hz1 with h1 | h1; exact hz z h1 hz2; simp at h1; subst h1; exact ⟨hse, hoe⟩), (h166.slotsMono (restr_spec (keep := [0, 5, 6, 7, 44, 45, 46]) rfl))⟩
        ·
          have hb151f : x.idx ≠ i := by simpa using hb151
          refine nd_start (l := [0, 1, 2, 3, 4, 5, 6, 7, 8, 9, 10, 11, 12, 13, 14, 15]) rfl ?_
          refine nd_batch tabOk tabZ_ok [(0, {}), (1, {k := 4}), (2, {}), (3, {f := 1}), (4, {}), (5, {}), (6, {}), (7, {}), (8, {}), (9, {}), (10, {}), (11, {}), (12, {}), (13, {}), (14, {}), (15, {})] [11, 0, 5, 6, 7, 44, 45, 46, 65] (T' := [(11, .pointer (some ⟨b142, 0, none⟩)), (0, .pointer (some ⟨bl, 0, none⟩)), (5, .pointer (some ⟨b16, 0, none⟩)), (6, .pointer (some ⟨b22, 0, none⟩)), (7, .int .i64 i), (44, .slice (some ⟨b129, 0, none⟩) lg.sns.length sc), (45, .int .i64 ((lg.sns.length : Nat) : Int)), (46, .int .i64 ((k : Nat) : Int)), (65, .bool false)]) (φ := (b142 = b142 ∧ Nat.ble (0 + 1) 15 = true) ∧ ((x.idx == i)) = false ∧ True) (rest := []) h149 (by kernel_rfl) rfl ⟨⟨rfl, rfl⟩, hb151, trivial⟩ fun a167 h168 => ?_
          clear h149
          refine nd_done ?_
          refine hK150 _ _ ?_
          clear hK150
          refine c_false h168 rfl ?_
          refine wp_skip ?_
          refine hK138 _ _ ?_
          clear hK138
          refine nd_start (l := [0, 1]) rfl ?_
          refine nd_batch tabOk tabZ_ok [(0, {}), (1, {})] [11, 0, 5, 6, 7, 44, 45, 46] (T' := [(11, .pointer (some ⟨b142, 0, none⟩)), (0, .pointer (some ⟨bl, 0, none⟩)), (5, .pointer (some ⟨b16, 0, none⟩)), (6, .pointer (some ⟨b22, 0, none⟩)), (7, .int .i64 i), (44, .slice (some ⟨b129, 0, none⟩) lg.sns.length sc), (45, .int .i64 ((lg.sns.length : Nat) : Int)), (46, .int .i64 (((k : Nat) : Int) + 1))]) (φ := inR .i64 (((k : Nat) : Int) + 1) ∧ True) (rest := []) h168 (by kernel_rfl) rfl ⟨⟨by omega, by omega⟩, trivial⟩ fun a169 h170 => ?_
          clear h168
          refine nd_done ?_
          have h171 := h170.memMono (L' := [(bl, ⟨logC lg.base (.slice eo lg.evs.length ec) (.slice mo lg.mks.length mc) (.slice (some ⟨b129, 0, none⟩) lg.sns.length sc), 69, true⟩), (b16, ⟨machC m', 46, false⟩), (b22, ⟨outC o', 39, false⟩)]) (List.Sublist.cons_cons _ (List.Sublist.cons_cons _ (List.Sublist.cons_cons _ (List.Sublist.cons _ (List.Sublist.cons _ List.Sublist.slnil)))))
          clear h170
          exact ⟨(gg - 1), by omega, (k + 1), by omega, by omega, (by intro z hz1 hz2; rw [Sx.take_snoc hx] at hz1; rcases List.mem_append.1 hz1 with h1 | h1; exact hz z h1 hz2; simp at h1; subst h1; exact absurd hz2 hb151f), (h171.slotsMono (restr_spec (keep := [0, 5, 6, 7, 44, 45, 46]) rfl))⟩
      ·
        have hc128f : ¬ ((k : Nat) : Int) < ((lg.sns.length : Nat) : Int) := by simpa using hc128
        have h172 := h126.slotsMono (T' := [(0, .pointer (some ⟨bl, 0, none⟩)), (5, .pointer (some ⟨b16, 0, none⟩)), (6, .pointer (some ⟨b22, 0, none⟩)), (7, .int .i64 i)]) (restr_spec (keep := [0, 5, 6, 7]) rfl)
        clear h126
        have hkk : k = lg.sns.length := by omega
        subst hkk
        rw [List.take_length] at hz
        have hsns := hz
        refine wp_exit ?_
        refine hK114 _ _ ?_
        clear hK114
        refine wp_seq_k fun K173 hK173 => ?_
        refine wp_seq_k fun K174 hK174 => ?_
        refine nd_start (l := [0, 1, 2, 3]) rfl ?_
        refine nd_batch tabOk tabZ_ok [(0, {}), (1, {})] [0, 5, 6, 7, 68, 69] (T' := [(0, .pointer (some ⟨bl, 0, none⟩)), (5, .pointer (some ⟨b16, 0, none⟩)), (6, .pointer (some ⟨b22, 0, none⟩)), (7, .int .i64 i), (68, .int .i64 i), (69, .pointer (some ⟨bl, 0, none⟩))]) (φ := True) (rest := [2, 3]) h172 (by kernel_rfl) rfl trivial fun a175 h176 => ?_
        clear h172
        refine nd_op ?_
        refine op_call h176 rfl rfl rfl (callOk Try.func20 (by decide) rfl) (args := [.pointer (some ⟨bl, 0, none⟩)]) rfl (end_ok bl lg.base eo lg.evs.length ec _ _ true _ (h176.kn (k := 0) rfl) hwf.b0 (by omega) (by omega)) ?_
        rintro _ w177 ⟨rfl, hf179⟩
        refine ⟨_, rfl, ?_⟩
        have h178 := (h176.grow hf179).put (d := some 70) (v := .int .i64 (lg.base.idx + (lg.evs.length : Int))) (T' := [(70, .int .i64 (lg.base.idx + (lg.evs.length : Int))), (0, .pointer (some ⟨bl, 0, none⟩)), (5, .pointer (some ⟨b16, 0, none⟩)), (6, .pointer (some ⟨b22, 0, none⟩)), (7, .int .i64 i), (68, .int .i64 i), (69, .pointer (some ⟨bl, 0, none⟩))]) rfl
        clear h176
        refine nd_batch tabOk tabZ_ok [(3, {})] [0, 5, 6, 7, 71] (T' := [(0, .pointer (some ⟨bl, 0, none⟩)), (5, .pointer (some ⟨b16, 0, none⟩)), (6, .pointer (some ⟨b22, 0, none⟩)), (7, .int .i64 i), (71, .bool (i == (lg.base.idx + (lg.evs.length : Int))))]) (φ := True) (rest := []) h178 (by kernel_rfl) rfl trivial fun a180 h181 => ?_
        clear h178
        refine nd_done ?_
        refine hK174 _ _ ?_
        clear hK174
        refine c_split h181 (b := (i == (lg.base.idx + (lg.evs.length : Int)))) rfl (fun hc182 => ?_) (fun hc182 => ?_)
        ·
          have hc182f : i = (lg.base.idx + (lg.evs.length : Int)) := by simpa using hc182
          have hnb := notBad hs hmks hsns
          refine wp_seq_k fun K183 hK183 => ?_
          refine nd_start (l := [0]) rfl ?_
          refine nd_batch tabOk tabZ_ok [(0, {})] [0, 5, 6, 7, 4] (T' := [(0, .pointer (some ⟨bl, 0, none⟩)), (5, .pointer (some ⟨b16, 0, none⟩)), (6, .pointer (some ⟨b22, 0, none⟩)), (7, .int .i64 i), (4, .int .i64 (-1))]) (φ := True) (rest := []) h181 (by kernel_rfl) rfl trivial fun a184 h185 => ?_
          clear h181
          refine nd_done ?_
          refine hK183 _ _ ?_
          clear hK183
          refine wp_ret ?_
          try simp only [Exit.then, Exit.inBlock]
          try rw [if_pos trivial]
          exact s_ret tabOk tabZ_ok h185 [(.tmp 4, {})] (vs := [.int .i64 (-1)]) (φ := True) rfl (by kernel_rfl) trivial ⟨_, rfl, (fd_none hc182f hnb hno), h185.frame⟩
        ·
          have hc182f : i ≠ (lg.base.idx + (lg.evs.length : Int)) := by simpa using hc182
          have hnb := notBad hs hmks hsns
          have hne : i ≠ lg.base.idx + (lg.evs.length : Int) := hc182f
          obtain ⟨e, he⟩ := Sx.get_some (xs := lg.evs) (i := (i - lg.base.idx).toNat) (by omega)
          have heo := hwf.evs e (List.mem_of_getElem? he)
          refine wp_skip ?_
          refine hK173 _ _ ?_
          clear hK173
          refine nd_start (l := [0, 1, 2, 3, 4]) rfl ?_
          refine nd_batch tabOk tabZ_ok [(0, {}), (1, {})] [0, 5, 6, 7, 72, 73] (T' := [(0, .pointer (some ⟨bl, 0, none⟩)), (5, .pointer (some ⟨b16, 0, none⟩)), (6, .pointer (some ⟨b22, 0, none⟩)), (7, .int .i64 i), (72, .pointer (some ⟨bl, 0, none⟩)), (73, .int .i64 i)]) (φ := True) (rest := [2, 3, 4]) h181 (by kernel_rfl) rfl trivial fun a186 h187 => ?_
          clear h181
          refine nd_op ?_
          refine op_call h187 rfl rfl rfl (callOk Try.func29 (by decide) rfl) (args := [.pointer (some ⟨bl, 0, none⟩), .int .i64 i]) rfl (event_ok bl ⟨eo, ec, eF, mo, mc, mF, so, sc, sF⟩ lg _ (LogAt.of (h187.kn (k := 0) rfl) h187.inv hsep) i (i - lg.base.idx).toNat e (by omega) he (by omega)) ?_
          rintro _ w188 ⟨rfl, hf190⟩
          refine ⟨_, rfl, ?_⟩
          have h189 := (h187.grow hf190).put (d := some 74) (v := .agg #[.int .u8 e.kind, .int .u32 e.pick, .int .u64 e.arg]) (T' := [(74, .agg #[.int .u8 e.kind, .int .u32 e.pick, .int .u64 e.arg]), (0, .pointer (some ⟨bl, 0, none⟩)), (5, .pointer (some ⟨b16, 0, none⟩)), (6, .pointer (some ⟨b22, 0, none⟩)), (7, .int .i64 i), (72, .pointer (some ⟨bl, 0, none⟩)), (73, .int .i64 i)]) rfl
          clear h187
          refine nd_op ?_
          refine op_call h189 rfl rfl rfl (callOk Try.func49 (by decide) rfl) (args := [.pointer (some ⟨b16, 0, none⟩), .agg #[.int .u8 e.kind, .int .u32 e.pick, .int .u64 e.arg]]) rfl (step_calls [] [] m' hmo e heo b16 46 false _ (h189.kn (k := 1) (blk := ⟨machC m', 46, false⟩) rfl)) ?_
          rintro _ w191 ⟨rfl, hbs, hf193⟩
          refine ⟨_, rfl, ?_⟩
          have h192 := (h189.setBlk (k := 1) rfl rfl hf193 hbs (L' := [(bl, ⟨logC lg.base (.slice eo lg.evs.length ec) (.slice mo lg.mks.length mc) (.slice so lg.sns.length sc), 69, true⟩), (b16, ⟨machC ((kstep m' e).1), 46, false⟩), (b22, ⟨outC o', 39, false⟩)]) rfl).put (d := some 75) (v := .agg #[.bool ((kstep m' e).2.refused), .int .i8 ((kstep m' e).2.running), .int .u64 ((kstep m' e).2.value)]) (T' := [(75, .agg #[.bool ((kstep m' e).2.refused), .int .i8 ((kstep m' e).2.running), .int .u64 ((kstep m' e).2.value)]), (74, .agg #[.int .u8 e.kind, .int .u32 e.pick, .int .u64 e.arg]), (0, .pointer (some ⟨bl, 0, none⟩)), (5, .pointer (some ⟨b16, 0, none⟩)), (6, .pointer (some ⟨b22, 0, none⟩)), (7, .int .i64 i), (72, .pointer (some ⟨bl, 0, none⟩)), (73, .int .i64 i)]) rfl
          clear h189
          refine nd_op ?_
          refine op_store tabOk {k := 2} (L' := [(bl, ⟨logC lg.base (.slice eo lg.evs.length ec) (.slice mo lg.mks.length mc) (.slice so lg.sns.length sc), 69, true⟩), (b16, ⟨machC ((kstep m' e).1), 46, false⟩), (b22, ⟨[.bool ((kstep m' e).2.refused), .int .i8 ((kstep m' e).2.running), .int .u64 ((kstep m' e).2.value)], 39, false⟩)]) (φ := b22 = b22 ∧ Nat.ble (0 + 3) 3 = true) h192 rfl rfl rfl (by kernel_rfl) ⟨rfl, rfl⟩ fun w194 h195 => ?_
          clear h192
          refine nd_done ?_
          refine hK45 _ _ ?_
          clear hK45
          refine nd_start (l := [0, 1, 2]) rfl ?_
          refine nd_batch tabOk tabZ_ok [(0, {}), (1, {}), (2, {})] [0, 5, 6, 7] (T' := [(0, .pointer (some ⟨bl, 0, none⟩)), (5, .pointer (some ⟨b16, 0, none⟩)), (6, .pointer (some ⟨b22, 0, none⟩)), (7, .int .i64 (i + 1))]) (φ := inR .i64 (i + 1) ∧ True) (rest := []) h195 (by kernel_rfl) rfl ⟨⟨by omega, by omega⟩, trivial⟩ fun a196 h197 => ?_
          clear h195
          refine nd_done ?_
          exact ⟨(g - 1), by omega, (i + 1), (kstep m' e).1, (kstep m' e).2, by omega, by omega, by omega, (by rw [sAt_succ hwf hp1 hi1 he, hs]), (kstep_ok hmo heo), (by intro j hj1 hj2; by_cases hj : j = i; subst hj; exact hnb; exact hno j hj1 (by omega)), (h197.slotsMono (restr_spec (keep := [0, 5, 6, 7]) rfl))⟩
  ·
    refine op_new tabOk (cells := [.bool false, .int .i8 0, .int .u64 0]) (ty := 39) (ln := none) (L1 := fun b198 => [(bl, ⟨logC lg.base (.slice eo lg.evs.length ec) (.slice mo lg.mks.length mc) (.slice so lg.sns.length sc), 69, true⟩), (b2, ⟨[.int .i64 p.idx, .int .u64 p.st.now, .int .i8 p.st.cur, .int .u8 p.st.s0, .int .u8 p.st.s1, .int .u8 p.st.s2, .int .u8 p.st.s3, .int .u64 p.st.r0, .int .u64 p.st.r1, .int .u64 p.st.r2, .int .u64 p.st.r3, .int .u64 p.st.word, .bool p.out.refused, .int .i8 p.out.running, .int .u64 p.out.value], 66, false⟩), (b198, ⟨[.bool false, .int .i8 0, .int .u64 0], 39, false⟩)]) h15 rfl rfl rfl rfl (by kernel_rfl) (fun _ => rfl) fun b198 w199 a200 h201 hf202 hn203 => ?_
    refine ⟨(h15.keepFr hf202 (kcons (by simp) (kcons (by simp) knil))), ?_⟩
    clear h15
    refine wpAnyK_one (i := 4) (fuel := 2) (by kernel_rfl) ?_
    refine op_new tabOk (cells := [.int .u64 0, .int .i8 0, .int .u8 0, .int .u8 0, .int .u8 0, .int .u8 0, .int .u64 0, .int .u64 0, .int .u64 0, .int .u64 0, .int .u64 0]) (ty := 46) (ln := none) (L1 := fun b204 => [(bl, ⟨logC lg.base (.slice eo lg.evs.length ec) (.slice mo lg.mks.length mc) (.slice so lg.sns.length sc), 69, true⟩), (b2, ⟨[.int .i64 p.idx, .int .u64 p.st.now, .int .i8 p.st.cur, .int .u8 p.st.s0, .int .u8 p.st.s1, .int .u8 p.st.s2, .int .u8 p.st.s3, .int .u64 p.st.r0, .int .u64 p.st.r1, .int .u64 p.st.r2, .int .u64 p.st.r3, .int .u64 p.st.word, .bool p.out.refused, .int .i8 p.out.running, .int .u64 p.out.value], 66, false⟩), (b198, ⟨[.bool false, .int .i8 0, .int .u64 0], 39, false⟩), (b204, ⟨[.int .u64 0, .int .i8 0, .int .u8 0, .int .u8 0, .int .u8 0, .int .u8 0, .int .u64 0, .int .u64 0, .int .u64 0, .int .u64 0, .int .u64 0], 46, false⟩)]) h201 rfl rfl rfl rfl (by kernel_rfl) (fun _ => rfl) fun b204 w205 a206 h207 hf208 hn209 => ?_
    refine ⟨(h201.keepFr hf208 (kcons (by simp) (kcons (by simp) knil))), ?_⟩
    clear h201
    refine wpAnyK_one (i := 6) (fuel := 1) (by kernel_rfl) ?_
    refine op_store tabOk {k := 3} (L' := [(bl, ⟨logC lg.base (.slice eo lg.evs.length ec) (.slice mo lg.mks.length mc) (.slice so lg.sns.length sc), 69, true⟩), (b2, ⟨[.int .i64 p.idx, .int .u64 p.st.now, .int .i8 p.st.cur, .int .u8 p.st.s0, .int .u8 p.st.s1, .int .u8 p.st.s2, .int .u8 p.st.s3, .int .u64 p.st.r0, .int .u64 p.st.r1, .int .u64 p.st.r2, .int .u64 p.st.r3, .int .u64 p.st.word, .bool p.out.refused, .int .i8 p.out.running, .int .u64 p.out.value], 66, false⟩), (b198, ⟨[.bool false, .int .i8 0, .int .u64 0], 39, false⟩), (b204, ⟨[.int .u64 p.st.now, .int .i8 p.st.cur, .int .u8 p.st.s0, .int .u8 p.st.s1, .int .u8 p.st.s2, .int .u8 p.st.s3, .int .u64 p.st.r0, .int .u64 p.st.r1, .int .u64 p.st.r2, .int .u64 p.st.r3, .int .u64 p.st.word], 46, false⟩)]) (φ := b204 = b204 ∧ Nat.ble (0 + 11) 11 = true) h207 rfl rfl rfl (by kernel_rfl) ⟨rfl, rfl⟩ fun w210 h211 => ?_
    have hkh211 := h207.known
    refine ⟨(keepOf hkh211 h211.known (kcons (keepAt (q := 1) (q' := 1) rfl rfl) knil)), ?_⟩
    clear h207
    refine wpAnyK_one (i := 7) (fuel := 0) (by kernel_rfl) ?_
    refine op_store tabOk {k := 2} (L' := [(bl, ⟨logC lg.base (.slice eo lg.evs.length ec) (.slice mo lg.mks.length mc) (.slice so lg.sns.length sc), 69, true⟩), (b2, ⟨[.int .i64 p.idx, .int .u64 p.st.now, .int .i8 p.st.cur, .int .u8 p.st.s0, .int .u8 p.st.s1, .int .u8 p.st.s2, .int .u8 p.st.s3, .int .u64 p.st.r0, .int .u64 p.st.r1, .int .u64 p.st.r2, .int .u64 p.st.r3, .int .u64 p.st.word, .bool p.out.refused, .int .i8 p.out.running, .int .u64 p.out.value], 66, false⟩), (b198, ⟨[.bool p.out.refused, .int .i8 p.out.running, .int .u64 p.out.value], 39, false⟩), (b204, ⟨[.int .u64 p.st.now, .int .i8 p.st.cur, .int .u8 p.st.s0, .int .u8 p.st.s1, .int .u8 p.st.s2, .int .u8 p.st.s3, .int .u64 p.st.r0, .int .u64 p.st.r1, .int .u64 p.st.r2, .int .u64 p.st.r3, .int .u64 p.st.word], 46, false⟩)]) (φ := b198 = b198 ∧ Nat.ble (0 + 3) 3 = true) h211 rfl rfl rfl (by kernel_rfl) ⟨rfl, rfl⟩ fun w212 h213 => ?_
    have hkh213 := h211.known
    refine ⟨keepNil, ?_⟩
    clear h211
    refine wpAnyK_done (by kernel_rfl) ?_ _
    refine hK10 _ _ ?_
    clear hK10
    refine wp_seq_k fun K214 hK214 => ?_
    refine nd_start (l := [0, 1, 2]) rfl ?_
    refine nd_batch tabOk tabZ_ok [(0, {}), (1, {k := 1}), (2, {})] [5, 6, 3, 0, 1, 4, 7] (T' := [(5, .pointer (some ⟨b204, 0, none⟩)), (6, .pointer (some ⟨b198, 0, none⟩)), (3, .pointer (some ⟨b2, 0, none⟩)), (0, .pointer (some ⟨bl, 0, none⟩)), (1, .agg #[.int .i64 p.idx, .int .u64 p.st.now, .int .i8 p.st.cur, .int .u8 p.st.s0, .int .u8 p.st.s1, .int .u8 p.st.s2, .int .u8 p.st.s3, .int .u64 p.st.r0, .int .u64 p.st.r1, .int .u64 p.st.r2, .int .u64 p.st.r3, .int .u64 p.st.word, .bool p.out.refused, .int .i8 p.out.running, .int .u64 p.out.value]), (4, .int .i64 0), (7, .int .i64 p.idx)]) (φ := (b2 = b2 ∧ Nat.ble (0 + 1) 15 = true) ∧ True) (rest := []) h213 (by kernel_rfl) rfl ⟨⟨rfl, rfl⟩, trivial⟩ fun a215 h216 => ?_
    clear h213
    refine nd_done ?_
    refine hK214 _ _ ?_
    clear hK214
    refine wp_block ?_
    have h217 := h216.memMono (L' := [(bl, ⟨logC lg.base (.slice eo lg.evs.length ec) (.slice mo lg.mks.length mc) (.slice so lg.sns.length sc), 69, true⟩), (b198, ⟨[.bool p.out.refused, .int .i8 p.out.running, .int .u64 p.out.value], 39, false⟩), (b204, ⟨[.int .u64 p.st.now, .int .i8 p.st.cur, .int .u8 p.st.s0, .int .u8 p.st.s1, .int .u8 p.st.s2, .int .u8 p.st.s3, .int .u64 p.st.r0, .int .u64 p.st.r1, .int .u64 p.st.r2, .int .u64 p.st.r3, .int .u64 p.st.word], 46, false⟩)]) (List.Sublist.cons_cons _ (List.Sublist.cons _ (List.Sublist.cons_cons _ (List.Sublist.cons_cons _ List.Sublist.slnil))))
    clear h216
    refine wp_loop_ghost (fun g ga gw => ∃ (i : Int) (m' : Mach) (o' : Ot), (p.idx ≤ i) ∧ (i ≤ lg.fin) ∧ (g = (lg.fin - i).toNat) ∧ (sAt lg p i = (m', o')) ∧ (m'.ok) ∧ (∀ j, p.idx ≤ j → j < i → ¬ Bad lg p j) ∧ St ⟨76, [], w, Rws [rl evC 33 3 lg.evs eo ec eF, rl mkC 78 2 lg.mks mo mc mF, rl ptC 66 15 lg.sns so sc sF], Ff [rl evC 33 3 lg.evs eo ec eF, rl mkC 78 2 lg.mks mo mc mF, rl ptC 66 15 lg.sns so sc sF]⟩ [(0, .pointer (some ⟨bl, 0, none⟩)), (5, .pointer (some ⟨b204, 0, none⟩)), (6, .pointer (some ⟨b198, 0, none⟩)), (7, .int .i64 i)] [(bl, ⟨logC lg.base (.slice eo lg.evs.length ec) (.slice mo lg.mks.length mc) (.slice so lg.sns.length sc), 69, true⟩), (b198, ⟨outC o', 39, false⟩), (b204, ⟨machC m', 46, false⟩)] ga gw) (lg.fin - p.idx).toNat ⟨p.idx, p.st, p.out, Int.le_refl _, hp2, rfl, sAt_zero lg p, hpok, (fun j h1 h2 => by omega), (h217.slotsMono (restr_spec (keep := [0, 5, 6, 7]) rfl))⟩ ?_
    clear h217
    rintro g a218 w219 ⟨i, m', o', hi221, hi222, hi223, hi224, hi225, hi226, h220⟩
    have hi1 := hi221
    have hi2 := hi222
    have hg := hi223
    have hs := hi224
    have hmo := hi225
    have hno := hi226
    refine wp_seq_k fun K227 hK227 => ?_
    refine wp_block ?_
    refine wp_seq_k fun K228 hK228 => ?_
    refine wp_seq_k fun K229 hK229 => ?_
    refine nd_start (l := [0, 1, 2, 3, 4, 5]) rfl ?_
    refine nd_batch tabOk tabZ_ok [(0, {}), (1, {}), (2, {}), (3, {k := 0}), (4, {}), (5, {})] [0, 5, 6, 7, 23, 24, 25] (T' := [(0, .pointer (some ⟨bl, 0, none⟩)), (5, .pointer (some ⟨b204, 0, none⟩)), (6, .pointer (some ⟨b198, 0, none⟩)), (7, .int .i64 i), (23, .slice mo lg.mks.length mc), (24, .int .i64 ((lg.mks.length : Nat) : Int)), (25, .int .i64 0)]) (φ := (bl = bl ∧ Nat.ble (16 + 1) 18 = true) ∧ True) (rest := []) h220 (by kernel_rfl) rfl ⟨⟨rfl, rfl⟩, trivial⟩ fun a230 h231 => ?_
    clear h220
    refine nd_done ?_
    refine hK229 _ _ ?_
    clear hK229
    refine wp_block ?_
    refine wp_loop_ghost (fun gg ga gw => ∃ (k : Nat), (k ≤ lg.mks.length) ∧ (gg = lg.mks.length - k) ∧ (∀ z ∈ lg.mks.take k, z.idx = i → z.sum = dig m') ∧ St ⟨76, [], w, Rws [rl evC 33 3 lg.evs eo ec eF, rl mkC 78 2 lg.mks mo mc mF, rl ptC 66 15 lg.sns so sc sF], Ff [rl evC 33 3 lg.evs eo ec eF, rl mkC 78 2 lg.mks mo mc mF, rl ptC 66 15 lg.sns so sc sF]⟩ [(0, .pointer (some ⟨bl, 0, none⟩)), (5, .pointer (some ⟨b204, 0, none⟩)), (6, .pointer (some ⟨b198, 0, none⟩)), (7, .int .i64 i), (23, .slice mo lg.mks.length mc), (24, .int .i64 ((lg.mks.length : Nat) : Int)), (25, .int .i64 ((k : Nat) : Int))] [(bl, ⟨logC lg.base (.slice eo lg.evs.length ec) (.slice mo lg.mks.length mc) (.slice so lg.sns.length sc), 69, true⟩), (b198, ⟨outC o', 39, false⟩), (b204, ⟨machC m', 46, false⟩)] ga gw) lg.mks.length ⟨0, Nat.zero_le _, rfl, (fun z hz => by simp at hz), (h231.slotsMono (restr_spec (keep := [0, 5, 6, 7, 23, 24, 25]) rfl))⟩ ?_
    clear h231
    rintro gg a232 w233 ⟨k, hi235, hi236, hi237, h234⟩
    have hk := hi235
    have hg2 := hi236
    have hz := hi237
    refine wp_seq_k fun K238 hK238 => ?_
    refine nd_start (l := [0]) rfl ?_
    refine nd_batch tabOk tabZ_ok [(0, {})] [0, 5, 6, 7, 23, 24, 25, 26] (T' := [(0, .pointer (some ⟨bl, 0, none⟩)), (5, .pointer (some ⟨b204, 0, none⟩)), (6, .pointer (some ⟨b198, 0, none⟩)), (7, .int .i64 i), (23, .slice mo lg.mks.length mc), (24, .int .i64 ((lg.mks.length : Nat) : Int)), (25, .int .i64 ((k : Nat) : Int)), (26, .bool (decide (((k : Nat) : Int) < ((lg.mks.length : Nat) : Int))))]) (φ := True) (rest := []) h234 (by kernel_rfl) rfl trivial fun a239 h240 => ?_
    clear h234
    refine nd_done ?_
    refine hK238 _ _ ?_
    clear hK238
    refine wp_seq_k fun K241 hK241 => ?_
    refine c_split h240 (b := decide (((k : Nat) : Int) < ((lg.mks.length : Nat) : Int))) rfl (fun hc242 => ?_) (fun hc242 => ?_)
    ·
      have hc242f : ((k : Nat) : Int) < ((lg.mks.length : Nat) : Int) := by simpa using hc242
      obtain ⟨x, hx⟩ := Sx.get_some (xs := lg.mks) (i := k) (by omega)
      have hxm := List.mem_of_getElem? hx
      obtain ⟨b243, cs244, ho245, hb246, hc247, hF248, hq250, hl251⟩ := rl_open (h240.inv.get (j := 1) rfl) mkC_len hx
      subst ho245 hF248
      have h249 := h240.open_ hb246 (h240.notinL (by simp [Ff]) (kcons (fun _ => (fun hq => hsep (by have hq2 : bl = b243 := hq; rw [hq2]; simp [Hd.F]))) (kcons (by intro hq; cases hq) (kcons (by intro hq; cases hq) knil))))
      clear h240
      refine wp_skip ?_
      refine hK241 _ _ ?_
      clear hK241
      refine wp_seq_k fun K252 hK252 => ?_
      refine wp_block ?_
      refine wp_seq_k fun K253 hK253 => ?_
      refine nd_start (l := [0, 1, 2, 3]) rfl ?_
      refine nd_batch tabOk tabZ_ok [(0, {}), (1, {k := 3, m := 1, vs := [.int .i64 x.idx, .int .u64 x.sum]})] [0, 5, 6, 7, 23, 24, 25, 28] (T' := [(0, .pointer (some ⟨bl, 0, none⟩)), (5, .pointer (some ⟨b204, 0, none⟩)), (6, .pointer (some ⟨b198, 0, none⟩)), (7, .int .i64 i), (23, .slice (some ⟨b243, 0, none⟩) lg.mks.length mc), (24, .int .i64 ((lg.mks.length : Nat) : Int)), (25, .int .i64 ((k : Nat) : Int)), (28, .agg #[.int .i64 x.idx, .int .u64 x.sum])]) (φ := (0 ≤ ((k : Nat) : Int) ∧ ((k : Nat) : Int) < ((lg.mks.length : Nat) : Int)) ∧ (b243 = b243 ∧ cellsAre cs244 (0 + (k * 2)) [.int .i64 x.idx, .int .u64 x.sum]) ∧ True) (rest := [2, 3]) h249 (by kernel_rfl) rfl ⟨⟨by omega, by omega⟩, ⟨rfl, (by rw [Nat.zero_add]; exact hc247)⟩, trivial⟩ fun a254 h255 => ?_
      clear h249
      refine nd_op ?_
      refine op_new tabOk (cells := [.int .i64 0, .int .u64 0]) (ty := 78) (ln := none) (L1 := fun b256 => [(bl, ⟨logC lg.base (.slice eo lg.evs.length ec) (.slice (some ⟨b243, 0, none⟩) lg.mks.length mc) (.slice so lg.sns.length sc), 69, true⟩), (b198, ⟨outC o', 39, false⟩), (b204, ⟨machC m', 46, false⟩), (b243, ⟨cs244, 78, true⟩), (b256, ⟨[.int .i64 0, .int .u64 0], 78, false⟩)]) h255 rfl rfl rfl rfl (by kernel_rfl) (fun _ => rfl) fun b256 w257 a258 h259 hf260 hn261 => ?_
      clear h255
      refine nd_op ?_
      refine op_store tabOk {k := 4} (L' := [(bl, ⟨logC lg.base (.slice eo lg.evs.length ec) (.slice (some ⟨b243, 0, none⟩) lg.mks.length mc) (.slice so lg.sns.length sc), 69, true⟩), (b198, ⟨outC o', 39, false⟩), (b204, ⟨machC m', 46, false⟩), (b243, ⟨cs244, 78, true⟩), (b256, ⟨[.int .i64 x.idx, .int .u64 x.sum], 78, false⟩)]) (φ := b256 = b256 ∧ Nat.ble (0 + 2) 2 = true) h259 rfl rfl rfl (by kernel_rfl) ⟨rfl, rfl⟩ fun w262 h263 => ?_
      clear h259
      refine nd_done ?_
      refine hK253 _ _ ?_
      clear hK253
      refine wp_seq_k fun K264 hK264 => ?_
      rcases Bool.eq_false_or_eq_true ((x.idx == i)) with hb265 | hb265
      ·
        have hb265f : x.idx = i := by simpa using hb265
        have hxi : x.idx = i := hb265f
        refine dr_start (KB := [bl, b198, b204, b243, b256]) (Bi := [[0, 1, 2, 3, 4], [0, 1, 2, 3, 4], [0, 1, 2, 3, 4], [0, 1, 2, 3, 4], [0, 1, 2, 3, 4], [0, 1, 2, 3, 4], [0, 1, 2, 3, 4], [4], [0, 1, 2, 3, 4], [0, 1, 2, 3, 4]]) mixed h263 fun w266 h267 => ?_
        clear h263
        refine dr_batch tabOk tabZ_ok (by repeat (first | exact PF.body | with_reducible apply PF.inB | with_reducible apply PF.next)) [(0, {}), (1, {k := 4, p := 4}), (2, {}), (3, {f := 2}), (4, {}), (5, {}), (6, {k := 4, p := 4})] [9, 0, 5, 6, 7, 23, 24, 25, 33, 35] (T' := [(9, .pointer (some ⟨b256, 0, none⟩)), (0, .pointer (some ⟨bl, 0, none⟩)), (5, .pointer (some ⟨b204, 0, none⟩)), (6, .pointer (some ⟨b198, 0, none⟩)), (7, .int .i64 i), (23, .slice (some ⟨b243, 0, none⟩) lg.mks.length mc), (24, .int .i64 ((lg.mks.length : Nat) : Int)), (25, .int .i64 ((k : Nat) : Int)), (33, .bool true), (35, .int .u64 x.sum)]) (φ := (b256 = b256 ∧ Nat.ble (0 + 1) 2 = true) ∧ ((x.idx == i)) = true ∧ (b256 = b256 ∧ Nat.ble (1 + 1) 2 = true) ∧ True) (fuel := 3) h267 (by kernel_rfl) rfl (by kernel_rfl) (by kernel_rfl) ⟨trivial, rfl, trivial, trivial, trivial, trivial, rfl, trivial⟩ ⟨⟨rfl, rfl⟩, hb265, ⟨rfl, rfl⟩, trivial⟩ fun a269 h270 => ?_
        clear h267
        refine wpAnyK_one (i := 7) (fuel := 2) (by kernel_rfl) ?_
        refine op_call h270 rfl rfl rfl (callOk Try.func52 (by decide) rfl) (args := [.pointer (some ⟨b204, 0, none⟩)]) rfl (digest_ok [] [] m' hmo b204 46 false _ (h270.kn (k := 2) (blk := ⟨machC m', 46, false⟩) rfl)) ?_
        rintro _ w271 ⟨rfl, hf273⟩
        refine ⟨_, rfl, ?_⟩
        have h272 := (h270.grow hf273).put (d := some 36) (v := .int .u64 (dig m')) (T' := [(36, .int .u64 (dig m')), (9, .pointer (some ⟨b256, 0, none⟩)), (0, .pointer (some ⟨bl, 0, none⟩)), (5, .pointer (some ⟨b204, 0, none⟩)), (6, .pointer (some ⟨b198, 0, none⟩)), (7, .int .i64 i), (23, .slice (some ⟨b243, 0, none⟩) lg.mks.length mc), (24, .int .i64 ((lg.mks.length : Nat) : Int)), (25, .int .i64 ((k : Nat) : Int)), (33, .bool true), (35, .int .u64 x.sum)]) rfl
        refine ⟨(h270.keepFr hf273 (kcons (by simp) knil)), ?_⟩
        clear h270
        refine dr_batch tabOk tabZ_ok (by repeat (first | exact PF.body | with_reducible apply PF.inB | with_reducible apply PF.next)) [(8, {}), (9, {})] [9, 0, 5, 6, 7, 23, 24, 25, 38] (T' := [(9, .pointer (some ⟨b256, 0, none⟩)), (0, .pointer (some ⟨bl, 0, none⟩)), (5, .pointer (some ⟨b204, 0, none⟩)), (6, .pointer (some ⟨b198, 0, none⟩)), (7, .int .i64 i), (23, .slice (some ⟨b243, 0, none⟩) lg.mks.length mc), (24, .int .i64 ((lg.mks.length : Nat) : Int)), (25, .int .i64 ((k : Nat) : Int)), (38, .bool (x.sum != (dig m')))]) (φ := True) (fuel := 0) h272 (by kernel_rfl) rfl (by kernel_rfl) (by kernel_rfl) ⟨trivial, trivial, trivial⟩ trivial fun a274 h275 => ?_
        clear h272
        refine wpAnyK_done (by kernel_rfl) ?_ _
        refine hK264 _ _ ?_
        clear hK264
        refine c_split h275 (b := (x.sum != (dig m'))) rfl (fun hc276 => ?_) (fun hc276 => ?_)
        ·
          have hc276f : x.sum ≠ (dig m') := by simpa using hc276
          refine wp_seq_k fun K277 hK277 => ?_
          refine nd_start (l := [0, 1]) rfl ?_
          refine nd_batch tabOk tabZ_ok [(0, {}), (1, {})] [9, 0, 5, 6, 7, 23, 24, 25, 4] (T' := [(9, .pointer (some ⟨b256, 0, none⟩)), (0, .pointer (some ⟨bl, 0, none⟩)), (5, .pointer (some ⟨b204, 0, none⟩)), (6, .pointer (some ⟨b198, 0, none⟩)), (7, .int .i64 i), (23, .slice (some ⟨b243, 0, none⟩) lg.mks.length mc), (24, .int .i64 ((lg.mks.length : Nat) : Int)), (25, .int .i64 ((k : Nat) : Int)), (4, .int .i64 i)]) (φ := True) (rest := []) h275 (by kernel_rfl) rfl trivial fun a278 h279 => ?_
          clear h275
          refine nd_done ?_
          refine hK277 _ _ ?_
          clear hK277
          refine wp_ret ?_
          try simp only [Exit.then, Exit.inBlock]
          try rw [if_pos trivial]
          exact s_ret tabOk tabZ_ok h279 [(.tmp 4, {})] (vs := [.int .i64 i]) (φ := True) rfl (by kernel_rfl) trivial ⟨_, rfl, (fd_here hi1 hi2 (badM hs hxm hxi hc276f) hno), h279.frame⟩
        ·
          have hc276f : x.sum = (dig m') := by simpa using hc276
          refine wp_skip ?_
          refine hK252 _ _ ?_
          clear hK252
          refine nd_start (l := [0, 1]) rfl ?_
          refine nd_batch tabOk tabZ_ok [(0, {}), (1, {})] [9, 0, 5, 6, 7, 23, 24, 25] (T' := [(9, .pointer (some ⟨b256, 0, none⟩)), (0, .pointer (some ⟨bl, 0, none⟩)), (5, .pointer (some ⟨b204, 0, none⟩)), (6, .pointer (some ⟨b198, 0, none⟩)), (7, .int .i64 i), (23, .slice (some ⟨b243, 0, none⟩) lg.mks.length mc), (24, .int .i64 ((lg.mks.length : Nat) : Int)), (25, .int .i64 (((k : Nat) : Int) + 1))]) (φ := inR .i64 (((k : Nat) : Int) + 1) ∧ True) (rest := []) h275 (by kernel_rfl) rfl ⟨⟨by omega, by omega⟩, trivial⟩ fun a280 h281 => ?_
          clear h275
          refine nd_done ?_
          have h282 := h281.memMono (L' := [(bl, ⟨logC lg.base (.slice eo lg.evs.length ec) (.slice (some ⟨b243, 0, none⟩) lg.mks.length mc) (.slice so lg.sns.length sc), 69, true⟩), (b198, ⟨outC o', 39, false⟩), (b204, ⟨machC m', 46, false⟩)]) (List.Sublist.cons_cons _ (List.Sublist.cons_cons _ (List.Sublist.cons_cons _ (List.Sublist.cons _ (List.Sublist.cons _ List.Sublist.slnil)))))
          clear h281
          exact ⟨(gg - 1), by omega, (k + 1), by omega, by omega, (by intro z hz1 hz2; rw [Sx.take_snoc hx] at hz1; rcases List.mem_append.1 hz1 with h1 | h1; exact hz z h1 hz2; simp at h1; subst h1; exact hc276f), (h282.slotsMono (restr_spec (keep := [0, 5, 6, 7, 23, 24, 25]) rfl))⟩
      ·
        have hb265f : x.idx ≠ i := by simpa using hb265
        refine dr_start (KB := [bl, b198, b204, b243, b256]) (Bi := [[0, 1, 2, 3, 4], [0, 1, 2, 3, 4], [0, 1, 2, 3, 4], [0, 1, 2, 3, 4], [0, 1, 2, 3, 4], [0, 1, 2, 3, 4], [0, 1, 2, 3, 4], [0], [0, 1, 2, 3, 4], [0, 1, 2, 3, 4]]) mixed h263 fun w283 h284 => ?_
        clear h263
        refine dr_batch tabOk tabZ_ok (by repeat (first | exact PF.body | with_reducible apply PF.inB | with_reducible apply PF.next)) [(0, {}), (1, {k := 4, p := 4}), (2, {}), (3, {f := 1}), (4, {}), (5, {}), (6, {k := 0, p := 0})] [9, 0, 5, 6, 7, 23, 24, 25, 33, 35] (T' := [(9, .pointer (some ⟨b256, 0, none⟩)), (0, .pointer (some ⟨bl, 0, none⟩)), (5, .pointer (some ⟨b204, 0, none⟩)), (6, .pointer (some ⟨b198, 0, none⟩)), (7, .int .i64 i), (23, .slice (some ⟨b243, 0, none⟩) lg.mks.length mc), (24, .int .i64 ((lg.mks.length : Nat) : Int)), (25, .int .i64 ((k : Nat) : Int)), (33, .bool false), (35, .tuple #[])]) (φ := (b256 = b256 ∧ Nat.ble (0 + 1) 2 = true) ∧ ((x.idx == i)) = false ∧ True) (fuel := 3) h284 (by kernel_rfl) rfl (by kernel_rfl) (by kernel_rfl) ⟨trivial, rfl, trivial, trivial, trivial, trivial, rfl, trivial⟩ ⟨⟨rfl, rfl⟩, hb265, trivial⟩ fun a286 h287 => ?_
        clear h284
        refine dr_batch tabOk tabZ_ok (by repeat (first | exact PF.body | with_reducible apply PF.inB | with_reducible apply PF.next)) [(7, {})] [9, 0, 5, 6, 7, 23, 24, 25, 33, 35, 36] (T' := [(9, .pointer (some ⟨b256, 0, none⟩)), (0, .pointer (some ⟨bl, 0, none⟩)), (5, .pointer (some ⟨b204, 0, none⟩)), (6, .pointer (some ⟨b198, 0, none⟩)), (7, .int .i64 i), (23, .slice (some ⟨b243, 0, none⟩) lg.mks.length mc), (24, .int .i64 ((lg.mks.length : Nat) : Int)), (25, .int .i64 ((k : Nat) : Int)), (33, .bool false), (35, .tuple #[]), (36, .tuple #[])]) (φ := True) (fuel := 2) h287 (by kernel_rfl) rfl (by kernel_rfl) (by kernel_rfl) ⟨trivial, trivial⟩ trivial fun a288 h289 => ?_
        clear h287
        refine dr_batch tabOk tabZ_ok (by repeat (first | exact PF.body | with_reducible apply PF.inB | with_reducible apply PF.next)) [(8, {}), (9, {})] [9, 0, 5, 6, 7, 23, 24, 25, 38] (T' := [(9, .pointer (some ⟨b256, 0, none⟩)), (0, .pointer (some ⟨bl, 0, none⟩)), (5, .pointer (some ⟨b204, 0, none⟩)), (6, .pointer (some ⟨b198, 0, none⟩)), (7, .int .i64 i), (23, .slice (some ⟨b243, 0, none⟩) lg.mks.length mc), (24, .int .i64 ((lg.mks.length : Nat) : Int)), (25, .int .i64 ((k : Nat) : Int)), (38, .bool false)]) (φ := True) (fuel := 0) h289 (by kernel_rfl) rfl (by kernel_rfl) (by kernel_rfl) ⟨trivial, trivial, trivial⟩ trivial fun a290 h291 => ?_
        clear h289
        refine wpAnyK_done (by kernel_rfl) ?_ _
        refine hK264 _ _ ?_
        clear hK264
        refine c_false h291 rfl ?_
        refine wp_skip ?_
        refine hK252 _ _ ?_
        clear hK252
        refine nd_start (l := [0, 1]) rfl ?_
        refine nd_batch tabOk tabZ_ok [(0, {}), (1, {})] [9, 0, 5, 6, 7, 23, 24, 25] (T' := [(9, .pointer (some ⟨b256, 0, none⟩)), (0, .pointer (some ⟨bl, 0, none⟩)), (5, .pointer (some ⟨b204, 0, none⟩)), (6, .pointer (some ⟨b198, 0, none⟩)), (7, .int .i64 i), (23, .slice (some ⟨b243, 0, none⟩) lg.mks.length mc), (24, .int .i64 ((lg.mks.length : Nat) : Int)), (25, .int .i64 (((k : Nat) : Int) + 1))]) (φ := inR .i64 (((k : Nat) : Int) + 1) ∧ True) (rest := []) h291 (by kernel_rfl) rfl ⟨⟨by omega, by omega⟩, trivial⟩ fun a292 h293 => ?_
        clear h291
        refine nd_done ?_
        have h294 := h293.memMono (L' := [(bl, ⟨logC lg.base (.slice eo lg.evs.length ec) (.slice (some ⟨b243, 0, none⟩) lg.mks.length mc) (.slice so lg.sns.length sc), 69, true⟩), (b198, ⟨outC o', 39, false⟩), (b204, ⟨machC m', 46, false⟩)]) (List.Sublist.cons_cons _ (List.Sublist.cons_cons _ (List.Sublist.cons_cons _ (List.Sublist.cons _ (List.Sublist.cons _ List.Sublist.slnil)))))
        clear h293
        exact ⟨(gg - 1), by omega, (k + 1), by omega, by omega, (by intro z hz1 hz2; rw [Sx.take_snoc hx] at hz1; rcases List.mem_append.1 hz1 with h1 | h1; exact hz z h1 hz2; simp at h1; subst h1; exact absurd hz2 hb265f), (h294.slotsMono (restr_spec (keep := [0, 5, 6, 7, 23, 24, 25]) rfl))⟩
    ·
      have hc242f : ¬ ((k : Nat) : Int) < ((lg.mks.length : Nat) : Int) := by simpa using hc242
      have h295 := h240.slotsMono (T' := [(0, .pointer (some ⟨bl, 0, none⟩)), (5, .pointer (some ⟨b204, 0, none⟩)), (6, .pointer (some ⟨b198, 0, none⟩)), (7, .int .i64 i)]) (restr_spec (keep := [0, 5, 6, 7]) rfl)
      clear h240
      have hkk : k = lg.mks.length := by omega
      subst hkk
      rw [List.take_length] at hz
      have hmks := hz
      refine wp_exit ?_
      refine hK228 _ _ ?_
      clear hK228
      refine wp_seq_k fun K296 hK296 => ?_
      refine wp_seq_k fun K297 hK297 => ?_
      refine nd_start (l := [0, 1, 2, 3, 4, 5]) rfl ?_
      refine nd_batch tabOk tabZ_ok [(0, {}), (1, {}), (2, {}), (3, {k := 0}), (4, {}), (5, {})] [0, 5, 6, 7, 44, 45, 46] (T' := [(0, .pointer (some ⟨bl, 0, none⟩)), (5, .pointer (some ⟨b204, 0, none⟩)), (6, .pointer (some ⟨b198, 0, none⟩)), (7, .int .i64 i), (44, .slice so lg.sns.length sc), (45, .int .i64 ((lg.sns.length : Nat) : Int)), (46, .int .i64 0)]) (φ := (bl = bl ∧ Nat.ble (17 + 1) 18 = true) ∧ True) (rest := []) h295 (by kernel_rfl) rfl ⟨⟨rfl, rfl⟩, trivial⟩ fun a298 h299 => ?_
      clear h295
      refine nd_done ?_
      refine hK297 _ _ ?_
      clear hK297
      refine wp_block ?_
      refine wp_loop_ghost (fun gg ga gw => ∃ (k : Nat), (k ≤ lg.sns.length) ∧ (gg = lg.sns.length - k) ∧ (∀ z ∈ lg.sns.take k, z.idx = i → z.st = m' ∧ z.out = o') ∧ St ⟨76, [], w, Rws [rl evC 33 3 lg.evs eo ec eF, rl mkC 78 2 lg.mks mo mc mF, rl ptC 66 15 lg.sns so sc sF], Ff [rl evC 33 3 lg.evs eo ec eF, rl mkC 78 2 lg.mks mo mc mF, rl ptC 66 15 lg.sns so sc sF]⟩ [(0, .pointer (some ⟨bl, 0, none⟩)), (5, .pointer (some ⟨b204, 0, none⟩)), (6, .pointer (some ⟨b198, 0, none⟩)), (7, .int .i64 i), (44, .slice so lg.sns.length sc), (45, .int .i64 ((lg.sns.length : Nat) : Int)), (46, .int .i64 ((k : Nat) : Int))] [(bl, ⟨logC lg.base (.slice eo lg.evs.length ec) (.slice mo lg.mks.length mc) (.slice so lg.sns.length sc), 69, true⟩), (b198, ⟨outC o', 39, false⟩), (b204, ⟨machC m', 46, false⟩)] ga gw) lg.sns.length ⟨0, Nat.zero_le _, rfl, (fun z hz => by simp at hz), (h299.slotsMono (restr_spec (keep := [0, 5, 6, 7, 44, 45, 46]) rfl))⟩ ?_
      clear h299
      rintro gg a300 w301 ⟨k, hi303, hi304, hi305, h302⟩
      have hk := hi303
      have hg2 := hi304
      have hz := hi305
      refine wp_seq_k fun K306 hK306 => ?_
      refine nd_start (l := [0]) rfl ?_
      refine nd_batch tabOk tabZ_ok [(0, {})] [0, 5, 6, 7, 44, 45, 46, 47] (T' := [(0, .pointer (some ⟨bl, 0, none⟩)), (5, .pointer (some ⟨b204, 0, none⟩)), (6, .pointer (some ⟨b198, 0, none⟩)), (7, .int .i64 i), (44, .slice so lg.sns.length sc), (45, .int .i64 ((lg.sns.length : Nat) : Int)), (46, .int .i64 ((k : Nat) : Int)), (47, .bool (decide (((k : Nat) : Int) < ((lg.sns.length : Nat) : Int))))]) (φ := True) (rest := []) h302 (by kernel_rfl) rfl trivial fun a307 h308 => ?_
      clear h302
      refine nd_done ?_
      refine hK306 _ _ ?_
      clear hK306
      refine wp_seq_k fun K309 hK309 => ?_
      refine c_split h308 (b := decide (((k : Nat) : Int) < ((lg.sns.length : Nat) : Int))) rfl (fun hc310 => ?_) (fun hc310 => ?_)
      ·
        have hc310f : ((k : Nat) : Int) < ((lg.sns.length : Nat) : Int) := by simpa using hc310
        obtain ⟨x, hx⟩ := Sx.get_some (xs := lg.sns) (i := k) (by omega)
        have hxm := List.mem_of_getElem? hx
        obtain ⟨b311, cs312, ho313, hb314, hc315, hF316, hq318, hl319⟩ := rl_open (h308.inv.get (j := 2) rfl) ptC_len hx
        subst ho313 hF316
        have h317 := h308.open_ hb314 (h308.notinL (by simp [Ff]) (kcons (fun _ => (fun hq => hsep (by have hq2 : bl = b311 := hq; rw [hq2]; simp [Hd.F]))) (kcons (by intro hq; cases hq) (kcons (by intro hq; cases hq) knil))))
        clear h308
        refine wp_skip ?_
        refine hK309 _ _ ?_
        clear hK309
        refine wp_seq_k fun K320 hK320 => ?_
        refine wp_block ?_
        refine wp_seq_k fun K321 hK321 => ?_
        refine nd_start (l := [0, 1, 2, 3]) rfl ?_
        refine nd_batch tabOk tabZ_ok [(0, {}), (1, {k := 3, m := 1, vs := [.int .i64 x.idx, .int .u64 x.st.now, .int .i8 x.st.cur, .int .u8 x.st.s0, .int .u8 x.st.s1, .int .u8 x.st.s2, .int .u8 x.st.s3, .int .u64 x.st.r0, .int .u64 x.st.r1, .int .u64 x.st.r2, .int .u64 x.st.r3, .int .u64 x.st.word, .bool x.out.refused, .int .i8 x.out.running, .int .u64 x.out.value]})] [0, 5, 6, 7, 44, 45, 46, 49] (T' := [(0, .pointer (some ⟨bl, 0, none⟩)), (5, .pointer (some ⟨b204, 0, none⟩)), (6, .pointer (some ⟨b198, 0, none⟩)), (7, .int .i64 i), (44, .slice (some ⟨b311, 0, none⟩) lg.sns.length sc), (45, .int .i64 ((lg.sns.length : Nat) : Int)), (46, .int .i64 ((k : Nat) : Int)), (49, .agg #[.int .i64 x.idx, .int .u64 x.st.now, .int .i8 x.st.cur, .int .u8 x.st.s0, .int .u8 x.st.s1, .int .u8 x.st.s2, .int .u8 x.st.s3, .int .u64 x.st.r0, .int .u64 x.st.r1, .int .u64 x.st.r2, .int .u64 x.st.r3, .int .u64 x.st.word, .bool x.out.refused, .int .i8 x.out.running, .int .u64 x.out.value])]) (φ := (0 ≤ ((k : Nat) : Int) ∧ ((k : Nat) : Int) < ((lg.sns.length : Nat) : Int)) ∧ (b311 = b311 ∧ cellsAre cs312 (0 + (k * 15)) [.int .i64 x.idx, .int .u64 x.st.now, .int .i8 x.st.cur, .int .u8 x.st.s0, .int .u8 x.st.s1, .int .u8 x.st.s2, .int .u8 x.st.s3, .int .u64 x.st.r0, .int .u64 x.st.r1, .int .u64 x.st.r2, .int .u64 x.st.r3, .int .u64 x.st.word, .bool x.out.refused, .int .i8 x.out.running, .int .u64 x.out.value]) ∧ True) (rest := [2, 3]) h317 (by kernel_rfl) rfl ⟨⟨by omega, by omega⟩, ⟨rfl, (by rw [Nat.zero_add]; exact hc315)⟩, trivial⟩ fun a322 h323 => ?_
        clear h317
        refine nd_op ?_
        refine op_new tabOk (cells := [.int .i64 0, .int .u64 0, .int .i8 0, .int .u8 0, .int .u8 0, .int .u8 0, .int .u8 0, .int .u64 0, .int .u64 0, .int .u64 0, .int .u64 0, .int .u64 0, .bool false, .int .i8 0, .int .u64 0]) (ty := 66) (ln := none) (L1 := fun b324 => [(bl, ⟨logC lg.base (.slice eo lg.evs.length ec) (.slice mo lg.mks.length mc) (.slice (some ⟨b311, 0, none⟩) lg.sns.length sc), 69, true⟩), (b198, ⟨outC o', 39, false⟩), (b204, ⟨machC m', 46, false⟩), (b311, ⟨cs312, 66, true⟩), (b324, ⟨[.int .i64 0, .int .u64 0, .int .i8 0, .int .u8 0, .int .u8 0, .int .u8 0, .int .u8 0, .int .u64 0, .int .u64 0, .int .u64 0, .int .u64 0, .int .u64 0, .bool false, .int .i8 0, .int .u64 0], 66, false⟩)]) h323 rfl rfl rfl rfl (by kernel_rfl) (fun _ => rfl) fun b324 w325 a326 h327 hf328 hn329 => ?_
        clear h323
        refine nd_op ?_
        refine op_store tabOk {k := 4} (L' := [(bl, ⟨logC lg.base (.slice eo lg.evs.length ec) (.slice mo lg.mks.length mc) (.slice (some ⟨b311, 0, none⟩) lg.sns.length sc), 69, true⟩), (b198, ⟨outC o', 39, false⟩), (b204, ⟨machC m', 46, false⟩), (b311, ⟨cs312, 66, true⟩), (b324, ⟨[.int .i64 x.idx, .int .u64 x.st.now, .int .i8 x.st.cur, .int .u8 x.st.s0, .int .u8 x.st.s1, .int .u8 x.st.s2, .int .u8 x.st.s3, .int .u64 x.st.r0, .int .u64 x.st.r1, .int .u64 x.st.r2, .int .u64 x.st.r3, .int .u64 x.st.word, .bool x.out.refused, .int .i8 x.out.running, .int .u64 x.out.value], 66, false⟩)]) (φ := b324 = b324 ∧ Nat.ble (0 + 15) 15 = true) h327 rfl rfl rfl (by kernel_rfl) ⟨rfl, rfl⟩ fun w330 h331 => ?_
        clear h327
        refine nd_done ?_
        refine hK321 _ _ ?_
        clear hK321
        refine wp_seq_k fun K332 hK332 => ?_
        rcases Bool.eq_false_or_eq_true ((x.idx == i)) with hb333 | hb333
        ·
          have hb333f : x.idx = i := by simpa using hb333
          have hxi : x.idx = i := hb333f
          rcases Bool.eq_false_or_eq_true ((Bool.xor true (machEq x.st m'))) with hb334 | hb334
          ·
            have hne : x.st ≠ m' := fun hq => by rw [hq, machEq_iff.2 rfl] at hb334; simp at hb334
            refine nd_start (l := [0, 1, 2, 3, 4, 5, 6, 7, 8, 9, 10, 11, 12, 13, 14, 15]) rfl ?_
            refine nd_batch tabOk tabZ_ok [(0, {}), (1, {k := 4}), (2, {}), (3, {f := 2}), (4, {}), (5, {}), (6, {k := 4}), (7, {k := 2}), (8, {f := 2}), (9, {}), (10, {}), (11, {}), (12, {}), (13, {}), (14, {}), (15, {})] [11, 0, 5, 6, 7, 44, 45, 46, 65] (T' := [(11, .pointer (some ⟨b324, 0, none⟩)), (0, .pointer (some ⟨bl, 0, none⟩)), (5, .pointer (some ⟨b204, 0, none⟩)), (6, .pointer (some ⟨b198, 0, none⟩)), (7, .int .i64 i), (44, .slice (some ⟨b311, 0, none⟩) lg.sns.length sc), (45, .int .i64 ((lg.sns.length : Nat) : Int)), (46, .int .i64 ((k : Nat) : Int)), (65, .bool true)]) (φ := (b324 = b324 ∧ Nat.ble (0 + 1) 15 = true) ∧ ((x.idx == i)) = true ∧ (b324 = b324 ∧ Nat.ble (1 + 11) 15 = true) ∧ (b204 = b204 ∧ Nat.ble (0 + 11) 11 = true) ∧ EqRun Try.prog 46 (.agg #[.int .u64 x.st.now, .int .i8 x.st.cur, .int .u8 x.st.s0, .int .u8 x.st.s1, .int .u8 x.st.s2, .int .u8 x.st.s3, .int .u64 x.st.r0, .int .u64 x.st.r1, .int .u64 x.st.r2, .int .u64 x.st.r3, .int .u64 x.st.word]) (.agg #[.int .u64 m'.now, .int .i8 m'.cur, .int .u8 m'.s0, .int .u8 m'.s1, .int .u8 m'.s2, .int .u8 m'.s3, .int .u64 m'.r0, .int .u64 m'.r1, .int .u64 m'.r2, .int .u64 m'.r3, .int .u64 m'.word]) false ∧ True) (rest := []) h331 (by kernel_rfl) rfl ⟨⟨rfl, rfl⟩, hb333, ⟨rfl, rfl⟩, ⟨rfl, rfl⟩, (by have hq := run46 x.st m'; rw [show machEq x.st m' = false by simpa using hb334] at hq; exact hq), trivial⟩ fun a335 h336 => ?_
            clear h331
            refine nd_done ?_
            refine hK332 _ _ ?_
            clear hK332
            refine c_true h336 rfl ?_
            refine wp_seq_k fun K337 hK337 => ?_
            refine nd_start (l := [0, 1]) rfl ?_
            refine nd_batch tabOk tabZ_ok [(0, {}), (1, {})] [11, 0, 5, 6, 7, 44, 45, 46, 4] (T' := [(11, .pointer (some ⟨b324, 0, none⟩)), (0, .pointer (some ⟨bl, 0, none⟩)), (5, .pointer (some ⟨b204, 0, none⟩)), (6, .pointer (some ⟨b198, 0, none⟩)), (7, .int .i64 i), (44, .slice (some ⟨b311, 0, none⟩) lg.sns.length sc), (45, .int .i64 ((lg.sns.length : Nat) : Int)), (46, .int .i64 ((k : Nat) : Int)), (4, .int .i64 i)]) (φ := True) (rest := []) h336 (by kernel_rfl) rfl trivial fun a338 h339 => ?_
            clear h336
            refine nd_done ?_
            refine hK337 _ _ ?_
            clear hK337
            refine wp_ret ?_
            try simp only [Exit.then, Exit.inBlock]
            try rw [if_pos trivial]
            exact s_ret tabOk tabZ_ok h339 [(.tmp 4, {})] (vs := [.int .i64 i]) (φ := True) rfl (by kernel_rfl) trivial ⟨_, rfl, (fd_here hi1 hi2 (badP hs hxm hxi (.inl hne)) hno), h339.frame⟩
          ·
            have hse : x.st = m' := machEq_iff.1 (by simpa using hb334)
            refine nd_start (l := [0, 1, 2, 3, 4, 5, 6, 7, 8, 9, 10, 11, 12, 13, 14, 15]) rfl ?_
            refine nd_batch tabOk tabZ_ok [(0, {}), (1, {k := 4}), (2, {}), (3, {f := 2}), (4, {}), (5, {}), (6, {k := 4}), (7, {k := 2}), (8, {f := 1}), (9, {}), (10, {}), (11, {k := 4}), (12, {k := 1}), (13, {vs := [.bool (otEq x.out o')]}), (14, {}), (15, {})] [11, 0, 5, 6, 7, 44, 45, 46, 65] (T' := [(11, .pointer (some ⟨b324, 0, none⟩)), (0, .pointer (some ⟨bl, 0, none⟩)), (5, .pointer (some ⟨b204, 0, none⟩)), (6, .pointer (some ⟨b198, 0, none⟩)), (7, .int .i64 i), (44, .slice (some ⟨b311, 0, none⟩) lg.sns.length sc), (45, .int .i64 ((lg.sns.length : Nat) : Int)), (46, .int .i64 ((k : Nat) : Int)), (65, .bool (Bool.xor true (otEq x.out o')))]) (φ := (b324 = b324 ∧ Nat.ble (0 + 1) 15 = true) ∧ ((x.idx == i)) = true ∧ (b324 = b324 ∧ Nat.ble (1 + 11) 15 = true) ∧ (b204 = b204 ∧ Nat.ble (0 + 11) 11 = true) ∧ EqRun Try.prog 46 (.agg #[.int .u64 x.st.now, .int .i8 x.st.cur, .int .u8 x.st.s0, .int .u8 x.st.s1, .int .u8 x.st.s2, .int .u8 x.st.s3, .int .u64 x.st.r0, .int .u64 x.st.r1, .int .u64 x.st.r2, .int .u64 x.st.r3, .int .u64 x.st.word]) (.agg #[.int .u64 m'.now, .int .i8 m'.cur, .int .u8 m'.s0, .int .u8 m'.s1, .int .u8 m'.s2, .int .u8 m'.s3, .int .u64 m'.r0, .int .u64 m'.r1, .int .u64 m'.r2, .int .u64 m'.r3, .int .u64 m'.word]) true ∧ (b324 = b324 ∧ Nat.ble (12 + 3) 15 = true) ∧ (b198 = b198 ∧ Nat.ble (0 + 3) 3 = true) ∧ EqRun Try.prog 39 (.agg #[.bool x.out.refused, .int .i8 x.out.running, .int .u64 x.out.value]) (.agg #[.bool o'.refused, .int .i8 o'.running, .int .u64 o'.value]) (otEq x.out o') ∧ True) (rest := []) h331 (by kernel_rfl) rfl ⟨⟨rfl, rfl⟩, hb333, ⟨rfl, rfl⟩, ⟨rfl, rfl⟩, (by have hq := run46 x.st m'; rw [show machEq x.st m' = true by simpa using hb334] at hq; exact hq), ⟨rfl, rfl⟩, ⟨rfl, rfl⟩, run39 x.out o', trivial⟩ fun a340 h341 => ?_
            clear h331
            refine nd_done ?_
            refine hK332 _ _ ?_
            clear hK332
            refine c_split h341 (b := (Bool.xor true (otEq x.out o'))) rfl (fun hc342 => ?_) (fun hc342 => ?_)
            ·
              have hne : x.out ≠ o' := fun hq => by rw [hq, otEq_iff.2 rfl] at hc342; simp at hc342
              refine wp_seq_k fun K343 hK343 => ?_
              refine nd_start (l := [0, 1]) rfl ?_
              refine nd_batch tabOk tabZ_ok [(0, {}), (1, {})] [11, 0, 5, 6, 7, 44, 45, 46, 4] (T' := [(11, .pointer (some ⟨b324, 0, none⟩)), (0, .pointer (some ⟨bl, 0, none⟩)), (5, .pointer (some ⟨b204, 0, none⟩)), (6, .pointer (some ⟨b198, 0, none⟩)), (7, .int .i64 i), (44, .slice (some ⟨b311, 0, none⟩) lg.sns.length sc), (45, .int .i64 ((lg.sns.length : Nat) : Int)), (46, .int .i64 ((k : Nat) : Int)), (4, .int .i64 i)]) (φ := True) (rest := []) h341 (by kernel_rfl) rfl trivial fun a344 h345 => ?_
              clear h341
              refine nd_done ?_
              refine hK343 _ _ ?_
              clear hK343
              refine wp_ret ?_
              try simp only [Exit.then, Exit.inBlock]
              try rw [if_pos trivial]
              exact s_ret tabOk tabZ_ok h345 [(.tmp 4, {})] (vs := [.int .i64 i]) (φ := True) rfl (by kernel_rfl) trivial ⟨_, rfl, (fd_here hi1 hi2 (badP hs hxm hxi (.inr hne)) hno), h345.frame⟩
            ·
              have hoe : x.out = o' := otEq_iff.1 (by simpa using hc342)
              refine wp_skip ?_
              refine hK320 _ _ ?_
              clear hK320
              refine nd_start (l := [0, 1]) rfl ?_
              refine nd_batch tabOk tabZ_ok [(0, {}), (1, {})] [11, 0, 5, 6, 7, 44, 45, 46] (T' := [(11, .pointer (some ⟨b324, 0, none⟩)), (0, .pointer (some ⟨bl, 0, none⟩)), (5, .pointer (some ⟨b204, 0, none⟩)), (6, .pointer (some ⟨b198, 0, none⟩)), (7, .int .i64 i), (44, .slice (some ⟨b311, 0, none⟩) lg.sns.length sc), (45, .int .i64 ((lg.sns.length : Nat) : Int)), (46, .int .i64 (((k : Nat) : Int) + 1))]) (φ := inR .i64 (((k : Nat) : Int) + 1) ∧ True) (rest := []) h341 (by kernel_rfl) rfl ⟨⟨by omega, by omega⟩, trivial⟩ fun a346 h347 => ?_
              clear h341
              refine nd_done ?_
              have h348 := h347.memMono (L' := [(bl, ⟨logC lg.base (.slice eo lg.evs.length ec) (.slice mo lg.mks.length mc) (.slice (some ⟨b311, 0, none⟩) lg.sns.length sc), 69, true⟩), (b198, ⟨outC o', 39, false⟩), (b204, ⟨machC m', 46, false⟩)]) (List.Sublist.cons_cons _ (List.Sublist.cons_cons _ (List.Sublist.cons_cons _ (List.Sublist.cons _ (List.Sublist.cons _ List.Sublist.slnil)))))
              clear h347
              exact ⟨(gg - 1), by omega, (k + 1), by omega, by omega, (by intro z hz1 hz2; rw [Sx.take_snoc hx] at hz1; rcases List.mem_append.1 hz1 with h1 | h1; exact hz z h1 hz2; simp at h1; subst h1; exact ⟨hse, hoe⟩), (h348.slotsMono (restr_spec (keep := [0, 5, 6, 7, 44, 45, 46]) rfl))⟩
        ·
          have hb333f : x.idx ≠ i := by simpa using hb333
          refine nd_start (l := [0, 1, 2, 3, 4, 5, 6, 7, 8, 9, 10, 11, 12, 13, 14, 15]) rfl ?_
          refine nd_batch tabOk tabZ_ok [(0, {}), (1, {k := 4}), (2, {}), (3, {f := 1}), (4, {}), (5, {}), (6, {}), (7, {}), (8, {}), (9, {}), (10, {}), (11, {}), (12, {}), (13, {}), (14, {}), (15, {})] [11, 0, 5, 6, 7, 44, 45, 46, 65] (T' := [(11, .pointer (some ⟨b324, 0, none⟩)), (0, .pointer (some ⟨bl, 0, none⟩)), (5, .pointer (some ⟨b204, 0, none⟩)), (6, .pointer (some ⟨b198, 0, none⟩)), (7, .int .i64 i), (44, .slice (some ⟨b311, 0, none⟩) lg.sns.length sc), (45, .int .i64 ((lg.sns.length : Nat) : Int)), (46, .int .i64 ((k : Nat) : Int)), (65, .bool false)]) (φ := (b324 = b324 ∧ Nat.ble (0 + 1) 15 = true) ∧ ((x.idx == i)) = false ∧ True) (rest := []) h331 (by kernel_rfl) rfl ⟨⟨rfl, rfl⟩, hb333, trivial⟩ fun a349 h350 => ?_
          clear h331
          refine nd_done ?_
          refine hK332 _ _ ?_
          clear hK332
          refine c_false h350 rfl ?_
          refine wp_skip ?_
          refine hK320 _ _ ?_
          clear hK320
          refine nd_start (l := [0, 1]) rfl ?_
          refine nd_batch tabOk tabZ_ok [(0, {}), (1, {})] [11, 0, 5, 6, 7, 44, 45, 46] (T' := [(11, .pointer (some ⟨b324, 0, none⟩)), (0, .pointer (some ⟨bl, 0, none⟩)), (5, .pointer (some ⟨b204, 0, none⟩)), (6, .pointer (some ⟨b198, 0, none⟩)), (7, .int .i64 i), (44, .slice (some ⟨b311, 0, none⟩) lg.sns.length sc), (45, .int .i64 ((lg.sns.length : Nat) : Int)), (46, .int .i64 (((k : Nat) : Int) + 1))]) (φ := inR .i64 (((k : Nat) : Int) + 1) ∧ True) (rest := []) h350 (by kernel_rfl) rfl ⟨⟨by omega, by omega⟩, trivial⟩ fun a351 h352 => ?_
          clear h350
          refine nd_done ?_
          have h353 := h352.memMono (L' := [(bl, ⟨logC lg.base (.slice eo lg.evs.length ec) (.slice mo lg.mks.length mc) (.slice (some ⟨b311, 0, none⟩) lg.sns.length sc), 69, true⟩), (b198, ⟨outC o', 39, false⟩), (b204, ⟨machC m', 46, false⟩)]) (List.Sublist.cons_cons _ (List.Sublist.cons_cons _ (List.Sublist.cons_cons _ (List.Sublist.cons _ (List.Sublist.cons _ List.Sublist.slnil)))))
          clear h352
          exact ⟨(gg - 1), by omega, (k + 1), by omega, by omega, (by intro z hz1 hz2; rw [Sx.take_snoc hx] at hz1; rcases List.mem_append.1 hz1 with h1 | h1; exact hz z h1 hz2; simp at h1; subst h1; exact absurd hz2 hb333f), (h353.slotsMono (restr_spec (keep := [0, 5, 6, 7, 44, 45, 46]) rfl))⟩
      ·
        have hc310f : ¬ ((k : Nat) : Int) < ((lg.sns.length : Nat) : Int) := by simpa using hc310
        have h354 := h308.slotsMono (T' := [(0, .pointer (some ⟨bl, 0, none⟩)), (5, .pointer (some ⟨b204, 0, none⟩)), (6, .pointer (some ⟨b198, 0, none⟩)), (7, .int .i64 i)]) (restr_spec (keep := [0, 5, 6, 7]) rfl)
        clear h308
        have hkk : k = lg.sns.length := by omega
        subst hkk
        rw [List.take_length] at hz
        have hsns := hz
        refine wp_exit ?_
        refine hK296 _ _ ?_
        clear hK296
        refine wp_seq_k fun K355 hK355 => ?_
        refine wp_seq_k fun K356 hK356 => ?_
        refine nd_start (l := [0, 1, 2, 3]) rfl ?_
        refine nd_batch tabOk tabZ_ok [(0, {}), (1, {})] [0, 5, 6, 7, 68, 69] (T' := [(0, .pointer (some ⟨bl, 0, none⟩)), (5, .pointer (some ⟨b204, 0, none⟩)), (6, .pointer (some ⟨b198, 0, none⟩)), (7, .int .i64 i), (68, .int .i64 i), (69, .pointer (some ⟨bl, 0, none⟩))]) (φ := True) (rest := [2, 3]) h354 (by kernel_rfl) rfl trivial fun a357 h358 => ?_
        clear h354
        refine nd_op ?_
        refine op_call h358 rfl rfl rfl (callOk Try.func20 (by decide) rfl) (args := [.pointer (some ⟨bl, 0, none⟩)]) rfl (end_ok bl lg.base eo lg.evs.length ec _ _ true _ (h358.kn (k := 0) rfl) hwf.b0 (by omega) (by omega)) ?_
        rintro _ w359 ⟨rfl, hf361⟩
        refine ⟨_, rfl, ?_⟩
        have h360 := (h358.grow hf361).put (d := some 70) (v := .int .i64 (lg.base.idx + (lg.evs.length : Int))) (T' := [(70, .int .i64 (lg.base.idx + (lg.evs.length : Int))), (0, .pointer (some ⟨bl, 0, none⟩)), (5, .pointer (some ⟨b204, 0, none⟩)), (6, .pointer (some ⟨b198, 0, none⟩)), (7, .int .i64 i), (68, .int .i64 i), (69, .pointer (some ⟨bl, 0, none⟩))]) rfl
        clear h358
        refine nd_batch tabOk tabZ_ok [(3, {})] [0, 5, 6, 7, 71] (T' := [(0, .pointer (some ⟨bl, 0, none⟩)), (5, .pointer (some ⟨b204, 0, none⟩)), (6, .pointer (some ⟨b198, 0, none⟩)), (7, .int .i64 i), (71, .bool (i == (lg.base.idx + (lg.evs.length : Int))))]) (φ := True) (rest := []) h360 (by kernel_rfl) rfl trivial fun a362 h363 => ?_
        clear h360
        refine nd_done ?_
        refine hK356 _ _ ?_
        clear hK356
        refine c_split h363 (b := (i == (lg.base.idx + (lg.evs.length : Int)))) rfl (fun hc364 => ?_) (fun hc364 => ?_)
        ·
          have hc364f : i = (lg.base.idx + (lg.evs.length : Int)) := by simpa using hc364
          have hnb := notBad hs hmks hsns
          refine wp_seq_k fun K365 hK365 => ?_
          refine nd_start (l := [0]) rfl ?_
          refine nd_batch tabOk tabZ_ok [(0, {})] [0, 5, 6, 7, 4] (T' := [(0, .pointer (some ⟨bl, 0, none⟩)), (5, .pointer (some ⟨b204, 0, none⟩)), (6, .pointer (some ⟨b198, 0, none⟩)), (7, .int .i64 i), (4, .int .i64 (-1))]) (φ := True) (rest := []) h363 (by kernel_rfl) rfl trivial fun a366 h367 => ?_
          clear h363
          refine nd_done ?_
          refine hK365 _ _ ?_
          clear hK365
          refine wp_ret ?_
          try simp only [Exit.then, Exit.inBlock]
          try rw [if_pos trivial]
          exact s_ret tabOk tabZ_ok h367 [(.tmp 4, {})] (vs := [.int .i64 (-1)]) (φ := True) rfl (by kernel_rfl) trivial ⟨_, rfl, (fd_none hc364f hnb hno), h367.frame⟩
        ·
          have hc364f : i ≠ (lg.base.idx + (lg.evs.length : Int)) := by simpa using hc364
          have hnb := notBad hs hmks hsns
          have hne : i ≠ lg.base.idx + (lg.evs.length : Int) := hc364f
          obtain ⟨e, he⟩ := Sx.get_some (xs := lg.evs) (i := (i - lg.base.idx).toNat) (by omega)
          have heo := hwf.evs e (List.mem_of_getElem? he)
          refine wp_skip ?_
          refine hK355 _ _ ?_
          clear hK355
          refine nd_start (l := [0, 1, 2, 3, 4]) rfl ?_
          refine nd_batch tabOk tabZ_ok [(0, {}), (1, {})] [0, 5, 6, 7, 72, 73] (T' := [(0, .pointer (some ⟨bl, 0, none⟩)), (5, .pointer (some ⟨b204, 0, none⟩)), (6, .pointer (some ⟨b198, 0, none⟩)), (7, .int .i64 i), (72, .pointer (some ⟨bl, 0, none⟩)), (73, .int .i64 i)]) (φ := True) (rest := [2, 3, 4]) h363 (by kernel_rfl) rfl trivial fun a368 h369 => ?_
          clear h363
          refine nd_op ?_
          refine op_call h369 rfl rfl rfl (callOk Try.func29 (by decide) rfl) (args := [.pointer (some ⟨bl, 0, none⟩), .int .i64 i]) rfl (event_ok bl ⟨eo, ec, eF, mo, mc, mF, so, sc, sF⟩ lg _ (LogAt.of (h369.kn (k := 0) rfl) h369.inv hsep) i (i - lg.base.idx).toNat e (by omega) he (by omega)) ?_
          rintro _ w370 ⟨rfl, hf372⟩
          refine ⟨_, rfl, ?_⟩
          have h371 := (h369.grow hf372).put (d := some 74) (v := .agg #[.int .u8 e.kind, .int .u32 e.pick, .int .u64 e.arg]) (T' := [(74, .agg #[.int .u8 e.kind, .int .u32 e.pick, .int .u64 e.arg]), (0, .pointer (some ⟨bl, 0, none⟩)), (5, .pointer (some ⟨b204, 0, none⟩)), (6, .pointer (some ⟨b198, 0, none⟩)), (7, .int .i64 i), (72, .pointer (some ⟨bl, 0, none⟩)), (73, .int .i64 i)]) rfl
          clear h369
          refine nd_op ?_
          refine op_call h371 rfl rfl rfl (callOk Try.func49 (by decide) rfl) (args := [.pointer (some ⟨b204, 0, none⟩), .agg #[.int .u8 e.kind, .int .u32 e.pick, .int .u64 e.arg]]) rfl (step_calls [] [] m' hmo e heo b204 46 false _ (h371.kn (k := 2) (blk := ⟨machC m', 46, false⟩) rfl)) ?_
          rintro _ w373 ⟨rfl, hbs, hf375⟩
          refine ⟨_, rfl, ?_⟩
          have h374 := (h371.setBlk (k := 2) rfl rfl hf375 hbs (L' := [(bl, ⟨logC lg.base (.slice eo lg.evs.length ec) (.slice mo lg.mks.length mc) (.slice so lg.sns.length sc), 69, true⟩), (b198, ⟨outC o', 39, false⟩), (b204, ⟨machC ((kstep m' e).1), 46, false⟩)]) rfl).put (d := some 75) (v := .agg #[.bool ((kstep m' e).2.refused), .int .i8 ((kstep m' e).2.running), .int .u64 ((kstep m' e).2.value)]) (T' := [(75, .agg #[.bool ((kstep m' e).2.refused), .int .i8 ((kstep m' e).2.running), .int .u64 ((kstep m' e).2.value)]), (74, .agg #[.int .u8 e.kind, .int .u32 e.pick, .int .u64 e.arg]), (0, .pointer (some ⟨bl, 0, none⟩)), (5, .pointer (some ⟨b204, 0, none⟩)), (6, .pointer (some ⟨b198, 0, none⟩)), (7, .int .i64 i), (72, .pointer (some ⟨bl, 0, none⟩)), (73, .int .i64 i)]) rfl
          clear h371
          refine nd_op ?_
          refine op_store tabOk {k := 1} (L' := [(bl, ⟨logC lg.base (.slice eo lg.evs.length ec) (.slice mo lg.mks.length mc) (.slice so lg.sns.length sc), 69, true⟩), (b198, ⟨[.bool ((kstep m' e).2.refused), .int .i8 ((kstep m' e).2.running), .int .u64 ((kstep m' e).2.value)], 39, false⟩), (b204, ⟨machC ((kstep m' e).1), 46, false⟩)]) (φ := b198 = b198 ∧ Nat.ble (0 + 3) 3 = true) h374 rfl rfl rfl (by kernel_rfl) ⟨rfl, rfl⟩ fun w376 h377 => ?_
          clear h374
          refine nd_done ?_
          refine hK227 _ _ ?_
          clear hK227
          refine nd_start (l := [0, 1, 2]) rfl ?_
          refine nd_batch tabOk tabZ_ok [(0, {}), (1, {}), (2, {})] [0, 5, 6, 7] (T' := [(0, .pointer (some ⟨bl, 0, none⟩)), (5, .pointer (some ⟨b204, 0, none⟩)), (6, .pointer (some ⟨b198, 0, none⟩)), (7, .int .i64 (i + 1))]) (φ := inR .i64 (i + 1) ∧ True) (rest := []) h377 (by kernel_rfl) rfl ⟨⟨by omega, by omega⟩, trivial⟩ fun a378 h379 => ?_
          clear h377
          refine nd_done ?_
          exact ⟨(g - 1), by omega, (i + 1), (kstep m' e).1, (kstep m' e).2, by omega, by omega, by omega, (by rw [sAt_succ hwf hp1 hi1 he, hs]), (kstep_ok hmo heo), (by intro j hj1 hj2; by_cases hj : j = i; subst hj; exact hnb; exact hno j hj1 (by omega)), (h379.slotsMono (restr_spec (keep := [0, 5, 6, 7]) rfl))⟩

end Go.Proofs.Qxb6500919a
