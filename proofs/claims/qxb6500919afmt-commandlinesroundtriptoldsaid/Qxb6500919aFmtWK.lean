/-
  slices.Equal of equal lists; two logs that hold the same. (Made by program: a symbolic walk that prints its steps.)
-/
import Derived.Test.Qxb6500919aFmtTab
import Derived.Test.Qxb6500919aFmtLib
import Derived.Test.Qxb6500919aFmtEq2
import Derived.Test.Qxb6500919aFmtPc
import Derived.Test.Qxb6500919aFmtW1
import Derived.Test.Qxb6500919aFmtW2
import Derived.Test.Qxb6500919aFmtW3
import Derived.Test.Qxb6500919aFmtW4
namespace Go.Proofs.Qxb6500919aFmt
open Go.Sx Go.Rp
set_option maxRecDepth 100000
set_option maxHeartbeats 4000000
set_option linter.unusedVariables false
set_option linter.unusedSimpArgs false

theorem equalE_ok (xs : List Ev) (o1 o2 : Option Addr) (c1 c2 : Nat) (F1 F2 : List Nat) (w : World) (hA : Rws [rl evC 31 3 xs o1 c1 F1, rl evC 31 3 xs o2 c2 F2] w) (hn : xs.length ≤ 1000000) :
    Calls Tryf.prog 30 #[.slice o1 xs.length c1, .slice o2 xs.length c2] w fun e w' => e = .returned (.bool true) ∧ Fr [] w w' := by
  refine enter (n := 26) (K := []) (A := Rws [rl evC 31 3 xs o1 c1 F1, rl evC 31 3 xs o2 c2 F2]) (F := Ff [rl evC 31 3 xs o1 c1 F1, rl evC 31 3 xs o2 c2 F2]) (T := [(0, .slice o1 xs.length c1), (1, .slice o2 xs.length c2)]) (L := []) (args := [.slice o1 xs.length c1, .slice o2 xs.length c2]) Tryf.func30 rfl rfl rfl rfl knil (by simp) knil hA Rws.stable (hA).low knil ?_
  intro a h
  refine wp_seq_k fun K1 hK1 => ?_
  refine nd_start (l := [0]) rfl ?_
  refine nd_batch tabOk tabZ_ok [(0, {})] [0, 1, 4] (T' := [(0, .slice o1 xs.length c1), (1, .slice o2 xs.length c2), (4, .bool false)]) (φ := True) (rest := []) h (by kernel_rfl) rfl trivial fun a2 h3 => ?_
  clear h
  refine nd_done ?_
  refine hK1 _ _ ?_
  clear hK1
  refine wp_seq_k fun K4 hK4 => ?_
  refine wp_seq_k fun K5 hK5 => ?_
  refine nd_start (l := [0, 1, 2, 3, 4]) rfl ?_
  refine nd_batch tabOk tabZ_ok [(0, {}), (1, {}), (2, {}), (3, {}), (4, {f := 1})] [0, 1, 4, 10] (T' := [(0, .slice o1 xs.length c1), (1, .slice o2 xs.length c2), (4, .bool false), (10, .bool false)]) (φ := ((((xs.length : Nat) : Int) != ((xs.length : Nat) : Int))) = false ∧ True) (rest := []) h3 (by kernel_rfl) rfl ⟨(by simp), trivial⟩ fun a6 h7 => ?_
  clear h3
  refine nd_done ?_
  refine hK5 _ _ ?_
  clear hK5
  refine c_false h7 rfl ?_
  refine wp_skip ?_
  refine hK4 _ _ ?_
  clear hK4
  refine wp_seq_k fun K8 hK8 => ?_
  refine wp_seq_k fun K9 hK9 => ?_
  refine nd_start (l := [0, 1, 2]) rfl ?_
  refine nd_batch tabOk tabZ_ok [(0, {}), (1, {}), (2, {})] [0, 1, 4, 12, 13] (T' := [(0, .slice o1 xs.length c1), (1, .slice o2 xs.length c2), (4, .bool false), (12, .int .i64 ((xs.length : Nat) : Int)), (13, .int .i64 0)]) (φ := True) (rest := []) h7 (by kernel_rfl) rfl trivial fun a10 h11 => ?_
  clear h7
  refine nd_done ?_
  refine hK9 _ _ ?_
  clear hK9
  refine wp_block ?_
  refine wp_loop_ghost (fun g ga gw => ∃ (i : Nat), (i ≤ xs.length) ∧ (g = xs.length - i) ∧ St ⟨26, [], w, Rws [rl evC 31 3 xs o1 c1 F1, rl evC 31 3 xs o2 c2 F2], Ff [rl evC 31 3 xs o1 c1 F1, rl evC 31 3 xs o2 c2 F2]⟩ [(0, .slice o1 xs.length c1), (1, .slice o2 xs.length c2), (12, .int .i64 ((xs.length : Nat) : Int)), (13, .int .i64 ((i : Nat) : Int))] [] ga gw) xs.length ⟨0, Nat.zero_le _, rfl, (h11.slotsMono (restr_spec (keep := [0, 1, 12, 13]) rfl))⟩ ?_
  clear h11
  rintro g a12 w13 ⟨i, hi15, hi16, h14⟩
  have hi := hi15
  have hg := hi16
  refine wp_seq_k fun K17 hK17 => ?_
  refine nd_start (l := [0]) rfl ?_
  refine nd_batch tabOk tabZ_ok [(0, {})] [0, 1, 12, 13, 14] (T' := [(0, .slice o1 xs.length c1), (1, .slice o2 xs.length c2), (12, .int .i64 ((xs.length : Nat) : Int)), (13, .int .i64 ((i : Nat) : Int)), (14, .bool (decide (((i : Nat) : Int) < ((xs.length : Nat) : Int))))]) (φ := True) (rest := []) h14 (by kernel_rfl) rfl trivial fun a18 h19 => ?_
  clear h14
  refine nd_done ?_
  refine hK17 _ _ ?_
  clear hK17
  refine wp_seq_k fun K20 hK20 => ?_
  refine c_split h19 (b := decide (((i : Nat) : Int) < ((xs.length : Nat) : Int))) rfl (fun hc21 => ?_) (fun hc21 => ?_)
  ·
    have hc21f : ((i : Nat) : Int) < ((xs.length : Nat) : Int) := by simpa using hc21
    obtain ⟨x, hx⟩ := Sx.get_some (xs := xs) (i := i) (by omega)
    obtain ⟨b22, cs23, ho24, hb25, hc26, hF27, hq29, hl30⟩ := rl_open (h19.inv.get (j := 0) rfl) evC_len hx
    subst ho24 hF27
    have h28 := h19.open_ hb25 (h19.notinL (by simp [Ff]) knil)
    clear h19
    obtain ⟨b31, cs32, ho33, hb34, hc35, hF36, hq38, hl39⟩ := rl_open (h28.inv.get (j := 1) rfl) evC_len hx
    subst ho33 hF36
    have h37 := h28.open_ hb34 (h28.notinL (by simp [Ff]) (kcons (fun _ => (fun hq => (Ff_nodup h28.inv.1 (i := 0) (j := 1) rfl rfl (by decide) _ (List.mem_singleton.2 rfl)) (by have hq2 : b22 = b31 := hq; rw [hq2]; simp))) knil))
    clear h28
    refine wp_skip ?_
    refine hK20 _ _ ?_
    clear hK20
    refine wp_seq_k fun K40 hK40 => ?_
    refine wp_block ?_
    refine wp_seq_k fun K41 hK41 => ?_
    refine nd_start (l := [0, 1]) rfl ?_
    refine nd_batch tabOk tabZ_ok [(0, {}), (1, {})] [0, 1, 12, 13, 5] (T' := [(0, .slice (some ⟨b22, 0, none⟩) xs.length c1), (1, .slice (some ⟨b31, 0, none⟩) xs.length c2), (12, .int .i64 ((xs.length : Nat) : Int)), (13, .int .i64 ((i : Nat) : Int)), (5, .int .i64 ((i : Nat) : Int))]) (φ := True) (rest := []) h37 (by kernel_rfl) rfl trivial fun a42 h43 => ?_
    clear h37
    refine nd_done ?_
    refine hK41 _ _ ?_
    clear hK41
    refine wp_seq_k fun K44 hK44 => ?_
    refine dr_start (KB := [b22, b31]) (Bi := [[0, 1], [0, 1], [0, 1], [0, 1], [0, 1], [0, 1], [0, 1], [0, 1], [0, 1]]) mixed h43 fun w45 h46 => ?_
    clear h43
    refine dr_batch tabOk tabZ_ok (by repeat (first | exact PF.body | with_reducible apply PF.inB | with_reducible apply PF.next)) [(0, {}), (1, {}), (2, {}), (3, {k := 0, m := 1, vs := [.int .u8 x.kind, .int .u32 x.pick, .int .u64 x.arg], p := 0}), (4, {}), (5, {}), (6, {}), (7, {k := 1, m := 1, vs := [.int .u8 x.kind, .int .u32 x.pick, .int .u64 x.arg], p := 1}), (8, {f := 1})] [0, 1, 12, 13, 5, 24] (T' := [(0, .slice (some ⟨b22, 0, none⟩) xs.length c1), (1, .slice (some ⟨b31, 0, none⟩) xs.length c2), (12, .int .i64 ((xs.length : Nat) : Int)), (13, .int .i64 ((i : Nat) : Int)), (5, .int .i64 ((i : Nat) : Int)), (24, .bool false)]) (φ := (0 ≤ ((i : Nat) : Int) ∧ ((i : Nat) : Int) < ((xs.length : Nat) : Int)) ∧ (b22 = b22 ∧ cellsAre cs23 (0 + (i * 3)) [.int .u8 x.kind, .int .u32 x.pick, .int .u64 x.arg]) ∧ (0 ≤ ((i : Nat) : Int) ∧ ((i : Nat) : Int) < ((xs.length : Nat) : Int)) ∧ (b31 = b31 ∧ cellsAre cs32 (0 + (i * 3)) [.int .u8 x.kind, .int .u32 x.pick, .int .u64 x.arg]) ∧ EqRun Tryf.prog 31 (.agg #[.int .u8 x.kind, .int .u32 x.pick, .int .u64 x.arg]) (.agg #[.int .u8 x.kind, .int .u32 x.pick, .int .u64 x.arg]) true ∧ True) (fuel := 0) h46 (by kernel_rfl) rfl (by kernel_rfl) (by kernel_rfl) ⟨trivial, trivial, trivial, rfl, trivial, trivial, trivial, rfl, trivial, trivial⟩ ⟨⟨by omega, by omega⟩, ⟨rfl, (by rw [Nat.zero_add]; exact hc26)⟩, ⟨by omega, by omega⟩, ⟨rfl, (by rw [Nat.zero_add]; exact hc35)⟩, (run33s x), trivial⟩ fun a48 h49 => ?_
    clear h46
    refine wpAnyK_done (by kernel_rfl) ?_ _
    refine hK44 _ _ ?_
    clear hK44
    refine c_false h49 rfl ?_
    refine wp_skip ?_
    refine hK40 _ _ ?_
    clear hK40
    refine nd_start (l := [0, 1]) rfl ?_
    refine nd_batch tabOk tabZ_ok [(0, {}), (1, {})] [0, 1, 12, 5, 13] (T' := [(0, .slice (some ⟨b22, 0, none⟩) xs.length c1), (1, .slice (some ⟨b31, 0, none⟩) xs.length c2), (12, .int .i64 ((xs.length : Nat) : Int)), (5, .int .i64 ((i : Nat) : Int)), (13, .int .i64 (((i : Nat) : Int) + 1))]) (φ := inR .i64 (((i : Nat) : Int) + 1) ∧ True) (rest := []) h49 (by kernel_rfl) rfl ⟨⟨by omega, by omega⟩, trivial⟩ fun a50 h51 => ?_
    clear h49
    refine nd_done ?_
    have h52 := h51.memMono (L' := []) (List.Sublist.cons _ (List.Sublist.cons _ List.Sublist.slnil))
    clear h51
    exact ⟨(g - 1), by omega, (i + 1), by omega, by omega, (h52.slotsMono (restr_spec (keep := [0, 1, 12, 13]) rfl))⟩
  ·
    have hc21f : ¬ ((i : Nat) : Int) < ((xs.length : Nat) : Int) := by simpa using hc21
    refine wp_exit ?_
    refine hK8 _ _ ?_
    clear hK8
    refine wp_seq_k fun K53 hK53 => ?_
    refine nd_start (l := [0]) rfl ?_
    refine nd_batch tabOk tabZ_ok [(0, {})] [0, 1, 12, 13, 4] (T' := [(0, .slice o1 xs.length c1), (1, .slice o2 xs.length c2), (12, .int .i64 ((xs.length : Nat) : Int)), (13, .int .i64 ((i : Nat) : Int)), (4, .bool true)]) (φ := True) (rest := []) h19 (by kernel_rfl) rfl trivial fun a54 h55 => ?_
    clear h19
    refine nd_done ?_
    refine hK53 _ _ ?_
    clear hK53
    refine wp_ret ?_
    try simp only [Exit.then, Exit.inBlock]
    try rw [if_pos trivial]
    exact s_ret tabOk tabZ_ok h55 [(.tmp 4, {})] (vs := [.bool true]) (φ := True) rfl (by kernel_rfl) trivial ⟨rfl, h55.frame⟩

theorem equalM_ok (xs : List Mk) (o1 o2 : Option Addr) (c1 c2 : Nat) (F1 F2 : List Nat) (w : World) (hA : Rws [rl mkC 93 2 xs o1 c1 F1, rl mkC 93 2 xs o2 c2 F2] w) (hn : xs.length ≤ 1000000) :
    Calls Tryf.prog 31 #[.slice o1 xs.length c1, .slice o2 xs.length c2] w fun e w' => e = .returned (.bool true) ∧ Fr [] w w' := by
  refine enter (n := 26) (K := []) (A := Rws [rl mkC 93 2 xs o1 c1 F1, rl mkC 93 2 xs o2 c2 F2]) (F := Ff [rl mkC 93 2 xs o1 c1 F1, rl mkC 93 2 xs o2 c2 F2]) (T := [(0, .slice o1 xs.length c1), (1, .slice o2 xs.length c2)]) (L := []) (args := [.slice o1 xs.length c1, .slice o2 xs.length c2]) Tryf.func31 rfl rfl rfl rfl knil (by simp) knil hA Rws.stable (hA).low knil ?_
  intro a h
  refine wp_seq_k fun K1 hK1 => ?_
  refine nd_start (l := [0]) rfl ?_
  refine nd_batch tabOk tabZ_ok [(0, {})] [0, 1, 4] (T' := [(0, .slice o1 xs.length c1), (1, .slice o2 xs.length c2), (4, .bool false)]) (φ := True) (rest := []) h (by kernel_rfl) rfl trivial fun a2 h3 => ?_
  clear h
  refine nd_done ?_
  refine hK1 _ _ ?_
  clear hK1
  refine wp_seq_k fun K4 hK4 => ?_
  refine wp_seq_k fun K5 hK5 => ?_
  refine nd_start (l := [0, 1, 2, 3, 4]) rfl ?_
  refine nd_batch tabOk tabZ_ok [(0, {}), (1, {}), (2, {}), (3, {}), (4, {f := 1})] [0, 1, 4, 10] (T' := [(0, .slice o1 xs.length c1), (1, .slice o2 xs.length c2), (4, .bool false), (10, .bool false)]) (φ := ((((xs.length : Nat) : Int) != ((xs.length : Nat) : Int))) = false ∧ True) (rest := []) h3 (by kernel_rfl) rfl ⟨(by simp), trivial⟩ fun a6 h7 => ?_
  clear h3
  refine nd_done ?_
  refine hK5 _ _ ?_
  clear hK5
  refine c_false h7 rfl ?_
  refine wp_skip ?_
  refine hK4 _ _ ?_
  clear hK4
  refine wp_seq_k fun K8 hK8 => ?_
  refine wp_seq_k fun K9 hK9 => ?_
  refine nd_start (l := [0, 1, 2]) rfl ?_
  refine nd_batch tabOk tabZ_ok [(0, {}), (1, {}), (2, {})] [0, 1, 4, 12, 13] (T' := [(0, .slice o1 xs.length c1), (1, .slice o2 xs.length c2), (4, .bool false), (12, .int .i64 ((xs.length : Nat) : Int)), (13, .int .i64 0)]) (φ := True) (rest := []) h7 (by kernel_rfl) rfl trivial fun a10 h11 => ?_
  clear h7
  refine nd_done ?_
  refine hK9 _ _ ?_
  clear hK9
  refine wp_block ?_
  refine wp_loop_ghost (fun g ga gw => ∃ (i : Nat), (i ≤ xs.length) ∧ (g = xs.length - i) ∧ St ⟨26, [], w, Rws [rl mkC 93 2 xs o1 c1 F1, rl mkC 93 2 xs o2 c2 F2], Ff [rl mkC 93 2 xs o1 c1 F1, rl mkC 93 2 xs o2 c2 F2]⟩ [(0, .slice o1 xs.length c1), (1, .slice o2 xs.length c2), (12, .int .i64 ((xs.length : Nat) : Int)), (13, .int .i64 ((i : Nat) : Int))] [] ga gw) xs.length ⟨0, Nat.zero_le _, rfl, (h11.slotsMono (restr_spec (keep := [0, 1, 12, 13]) rfl))⟩ ?_
  clear h11
  rintro g a12 w13 ⟨i, hi15, hi16, h14⟩
  have hi := hi15
  have hg := hi16
  refine wp_seq_k fun K17 hK17 => ?_
  refine nd_start (l := [0]) rfl ?_
  refine nd_batch tabOk tabZ_ok [(0, {})] [0, 1, 12, 13, 14] (T' := [(0, .slice o1 xs.length c1), (1, .slice o2 xs.length c2), (12, .int .i64 ((xs.length : Nat) : Int)), (13, .int .i64 ((i : Nat) : Int)), (14, .bool (decide (((i : Nat) : Int) < ((xs.length : Nat) : Int))))]) (φ := True) (rest := []) h14 (by kernel_rfl) rfl trivial fun a18 h19 => ?_
  clear h14
  refine nd_done ?_
  refine hK17 _ _ ?_
  clear hK17
  refine wp_seq_k fun K20 hK20 => ?_
  refine c_split h19 (b := decide (((i : Nat) : Int) < ((xs.length : Nat) : Int))) rfl (fun hc21 => ?_) (fun hc21 => ?_)
  ·
    have hc21f : ((i : Nat) : Int) < ((xs.length : Nat) : Int) := by simpa using hc21
    obtain ⟨x, hx⟩ := Sx.get_some (xs := xs) (i := i) (by omega)
    obtain ⟨b22, cs23, ho24, hb25, hc26, hF27, hq29, hl30⟩ := rl_open (h19.inv.get (j := 0) rfl) mkC_len hx
    subst ho24 hF27
    have h28 := h19.open_ hb25 (h19.notinL (by simp [Ff]) knil)
    clear h19
    obtain ⟨b31, cs32, ho33, hb34, hc35, hF36, hq38, hl39⟩ := rl_open (h28.inv.get (j := 1) rfl) mkC_len hx
    subst ho33 hF36
    have h37 := h28.open_ hb34 (h28.notinL (by simp [Ff]) (kcons (fun _ => (fun hq => (Ff_nodup h28.inv.1 (i := 0) (j := 1) rfl rfl (by decide) _ (List.mem_singleton.2 rfl)) (by have hq2 : b22 = b31 := hq; rw [hq2]; simp))) knil))
    clear h28
    refine wp_skip ?_
    refine hK20 _ _ ?_
    clear hK20
    refine wp_seq_k fun K40 hK40 => ?_
    refine wp_block ?_
    refine wp_seq_k fun K41 hK41 => ?_
    refine nd_start (l := [0, 1]) rfl ?_
    refine nd_batch tabOk tabZ_ok [(0, {}), (1, {})] [0, 1, 12, 13, 5] (T' := [(0, .slice (some ⟨b22, 0, none⟩) xs.length c1), (1, .slice (some ⟨b31, 0, none⟩) xs.length c2), (12, .int .i64 ((xs.length : Nat) : Int)), (13, .int .i64 ((i : Nat) : Int)), (5, .int .i64 ((i : Nat) : Int))]) (φ := True) (rest := []) h37 (by kernel_rfl) rfl trivial fun a42 h43 => ?_
    clear h37
    refine nd_done ?_
    refine hK41 _ _ ?_
    clear hK41
    refine wp_seq_k fun K44 hK44 => ?_
    refine dr_start (KB := [b22, b31]) (Bi := [[0, 1], [0, 1], [0, 1], [0, 1], [0, 1], [0, 1], [0, 1], [0, 1], [0, 1]]) mixed h43 fun w45 h46 => ?_
    clear h43
    refine dr_batch tabOk tabZ_ok (by repeat (first | exact PF.body | with_reducible apply PF.inB | with_reducible apply PF.next)) [(0, {}), (1, {}), (2, {}), (3, {k := 0, m := 1, vs := [.int .i64 x.idx, .int .u64 x.sum], p := 0}), (4, {}), (5, {}), (6, {}), (7, {k := 1, m := 1, vs := [.int .i64 x.idx, .int .u64 x.sum], p := 1}), (8, {f := 1})] [0, 1, 12, 13, 5, 24] (T' := [(0, .slice (some ⟨b22, 0, none⟩) xs.length c1), (1, .slice (some ⟨b31, 0, none⟩) xs.length c2), (12, .int .i64 ((xs.length : Nat) : Int)), (13, .int .i64 ((i : Nat) : Int)), (5, .int .i64 ((i : Nat) : Int)), (24, .bool false)]) (φ := (0 ≤ ((i : Nat) : Int) ∧ ((i : Nat) : Int) < ((xs.length : Nat) : Int)) ∧ (b22 = b22 ∧ cellsAre cs23 (0 + (i * 2)) [.int .i64 x.idx, .int .u64 x.sum]) ∧ (0 ≤ ((i : Nat) : Int) ∧ ((i : Nat) : Int) < ((xs.length : Nat) : Int)) ∧ (b31 = b31 ∧ cellsAre cs32 (0 + (i * 2)) [.int .i64 x.idx, .int .u64 x.sum]) ∧ EqRun Tryf.prog 93 (.agg #[.int .i64 x.idx, .int .u64 x.sum]) (.agg #[.int .i64 x.idx, .int .u64 x.sum]) true ∧ True) (fuel := 0) h46 (by kernel_rfl) rfl (by kernel_rfl) (by kernel_rfl) ⟨trivial, trivial, trivial, rfl, trivial, trivial, trivial, rfl, trivial, trivial⟩ ⟨⟨by omega, by omega⟩, ⟨rfl, (by rw [Nat.zero_add]; exact hc26)⟩, ⟨by omega, by omega⟩, ⟨rfl, (by rw [Nat.zero_add]; exact hc35)⟩, (run78s x), trivial⟩ fun a48 h49 => ?_
    clear h46
    refine wpAnyK_done (by kernel_rfl) ?_ _
    refine hK44 _ _ ?_
    clear hK44
    refine c_false h49 rfl ?_
    refine wp_skip ?_
    refine hK40 _ _ ?_
    clear hK40
    refine nd_start (l := [0, 1]) rfl ?_
    refine nd_batch tabOk tabZ_ok [(0, {}), (1, {})] [0, 1, 12, 5, 13] (T' := [(0, .slice (some ⟨b22, 0, none⟩) xs.length c1), (1, .slice (some ⟨b31, 0, none⟩) xs.length c2), (12, .int .i64 ((xs.length : Nat) : Int)), (5, .int .i64 ((i : Nat) : Int)), (13, .int .i64 (((i : Nat) : Int) + 1))]) (φ := inR .i64 (((i : Nat) : Int) + 1) ∧ True) (rest := []) h49 (by kernel_rfl) rfl ⟨⟨by omega, by omega⟩, trivial⟩ fun a50 h51 => ?_
    clear h49
    refine nd_done ?_
    have h52 := h51.memMono (L' := []) (List.Sublist.cons _ (List.Sublist.cons _ List.Sublist.slnil))
    clear h51
    exact ⟨(g - 1), by omega, (i + 1), by omega, by omega, (h52.slotsMono (restr_spec (keep := [0, 1, 12, 13]) rfl))⟩
  ·
    have hc21f : ¬ ((i : Nat) : Int) < ((xs.length : Nat) : Int) := by simpa using hc21
    refine wp_exit ?_
    refine hK8 _ _ ?_
    clear hK8
    refine wp_seq_k fun K53 hK53 => ?_
    refine nd_start (l := [0]) rfl ?_
    refine nd_batch tabOk tabZ_ok [(0, {})] [0, 1, 12, 13, 4] (T' := [(0, .slice o1 xs.length c1), (1, .slice o2 xs.length c2), (12, .int .i64 ((xs.length : Nat) : Int)), (13, .int .i64 ((i : Nat) : Int)), (4, .bool true)]) (φ := True) (rest := []) h19 (by kernel_rfl) rfl trivial fun a54 h55 => ?_
    clear h19
    refine nd_done ?_
    refine hK53 _ _ ?_
    clear hK53
    refine wp_ret ?_
    try simp only [Exit.then, Exit.inBlock]
    try rw [if_pos trivial]
    exact s_ret tabOk tabZ_ok h55 [(.tmp 4, {})] (vs := [.bool true]) (φ := True) rfl (by kernel_rfl) trivial ⟨rfl, h55.frame⟩

theorem equalP_ok (xs : List Pt) (o1 o2 : Option Addr) (c1 c2 : Nat) (F1 F2 : List Nat) (w : World) (hA : Rws [rl ptC 84 15 xs o1 c1 F1, rl ptC 84 15 xs o2 c2 F2] w) (hn : xs.length ≤ 1000000) :
    Calls Tryf.prog 32 #[.slice o1 xs.length c1, .slice o2 xs.length c2] w fun e w' => e = .returned (.bool true) ∧ Fr [] w w' := by
  refine enter (n := 26) (K := []) (A := Rws [rl ptC 84 15 xs o1 c1 F1, rl ptC 84 15 xs o2 c2 F2]) (F := Ff [rl ptC 84 15 xs o1 c1 F1, rl ptC 84 15 xs o2 c2 F2]) (T := [(0, .slice o1 xs.length c1), (1, .slice o2 xs.length c2)]) (L := []) (args := [.slice o1 xs.length c1, .slice o2 xs.length c2]) Tryf.func32 rfl rfl rfl rfl knil (by simp) knil hA Rws.stable (hA).low knil ?_
  intro a h
  refine wp_seq_k fun K1 hK1 => ?_
  refine nd_start (l := [0]) rfl ?_
  refine nd_batch tabOk tabZ_ok [(0, {})] [0, 1, 4] (T' := [(0, .slice o1 xs.length c1), (1, .slice o2 xs.length c2), (4, .bool false)]) (φ := True) (rest := []) h (by kernel_rfl) rfl trivial fun a2 h3 => ?_
  clear h
  refine nd_done ?_
  refine hK1 _ _ ?_
  clear hK1
  refine wp_seq_k fun K4 hK4 => ?_
  refine wp_seq_k fun K5 hK5 => ?_
  refine nd_start (l := [0, 1, 2, 3, 4]) rfl ?_
  refine nd_batch tabOk tabZ_ok [(0, {}), (1, {}), (2, {}), (3, {}), (4, {f := 1})] [0, 1, 4, 10] (T' := [(0, .slice o1 xs.length c1), (1, .slice o2 xs.length c2), (4, .bool false), (10, .bool false)]) (φ := ((((xs.length : Nat) : Int) != ((xs.length : Nat) : Int))) = false ∧ True) (rest := []) h3 (by kernel_rfl) rfl ⟨(by simp), trivial⟩ fun a6 h7 => ?_
  clear h3
  refine nd_done ?_
  refine hK5 _ _ ?_
  clear hK5
  refine c_false h7 rfl ?_
  refine wp_skip ?_
  refine hK4 _ _ ?_
  clear hK4
  refine wp_seq_k fun K8 hK8 => ?_
  refine wp_seq_k fun K9 hK9 => ?_
  refine nd_start (l := [0, 1, 2]) rfl ?_
  refine nd_batch tabOk tabZ_ok [(0, {}), (1, {}), (2, {})] [0, 1, 4, 12, 13] (T' := [(0, .slice o1 xs.length c1), (1, .slice o2 xs.length c2), (4, .bool false), (12, .int .i64 ((xs.length : Nat) : Int)), (13, .int .i64 0)]) (φ := True) (rest := []) h7 (by kernel_rfl) rfl trivial fun a10 h11 => ?_
  clear h7
  refine nd_done ?_
  refine hK9 _ _ ?_
  clear hK9
  refine wp_block ?_
  refine wp_loop_ghost (fun g ga gw => ∃ (i : Nat), (i ≤ xs.length) ∧ (g = xs.length - i) ∧ St ⟨26, [], w, Rws [rl ptC 84 15 xs o1 c1 F1, rl ptC 84 15 xs o2 c2 F2], Ff [rl ptC 84 15 xs o1 c1 F1, rl ptC 84 15 xs o2 c2 F2]⟩ [(0, .slice o1 xs.length c1), (1, .slice o2 xs.length c2), (12, .int .i64 ((xs.length : Nat) : Int)), (13, .int .i64 ((i : Nat) : Int))] [] ga gw) xs.length ⟨0, Nat.zero_le _, rfl, (h11.slotsMono (restr_spec (keep := [0, 1, 12, 13]) rfl))⟩ ?_
  clear h11
  rintro g a12 w13 ⟨i, hi15, hi16, h14⟩
  have hi := hi15
  have hg := hi16
  refine wp_seq_k fun K17 hK17 => ?_
  refine nd_start (l := [0]) rfl ?_
  refine nd_batch tabOk tabZ_ok [(0, {})] [0, 1, 12, 13, 14] (T' := [(0, .slice o1 xs.length c1), (1, .slice o2 xs.length c2), (12, .int .i64 ((xs.length : Nat) : Int)), (13, .int .i64 ((i : Nat) : Int)), (14, .bool (decide (((i : Nat) : Int) < ((xs.length : Nat) : Int))))]) (φ := True) (rest := []) h14 (by kernel_rfl) rfl trivial fun a18 h19 => ?_
  clear h14
  refine nd_done ?_
  refine hK17 _ _ ?_
  clear hK17
  refine wp_seq_k fun K20 hK20 => ?_
  refine c_split h19 (b := decide (((i : Nat) : Int) < ((xs.length : Nat) : Int))) rfl (fun hc21 => ?_) (fun hc21 => ?_)
  ·
    have hc21f : ((i : Nat) : Int) < ((xs.length : Nat) : Int) := by simpa using hc21
    obtain ⟨x, hx⟩ := Sx.get_some (xs := xs) (i := i) (by omega)
    obtain ⟨b22, cs23, ho24, hb25, hc26, hF27, hq29, hl30⟩ := rl_open (h19.inv.get (j := 0) rfl) ptC_len hx
    subst ho24 hF27
    have h28 := h19.open_ hb25 (h19.notinL (by simp [Ff]) knil)
    clear h19
    obtain ⟨b31, cs32, ho33, hb34, hc35, hF36, hq38, hl39⟩ := rl_open (h28.inv.get (j := 1) rfl) ptC_len hx
    subst ho33 hF36
    have h37 := h28.open_ hb34 (h28.notinL (by simp [Ff]) (kcons (fun _ => (fun hq => (Ff_nodup h28.inv.1 (i := 0) (j := 1) rfl rfl (by decide) _ (List.mem_singleton.2 rfl)) (by have hq2 : b22 = b31 := hq; rw [hq2]; simp))) knil))
    clear h28
    refine wp_skip ?_
    refine hK20 _ _ ?_
    clear hK20
    refine wp_seq_k fun K40 hK40 => ?_
    refine wp_block ?_
    refine wp_seq_k fun K41 hK41 => ?_
    refine nd_start (l := [0, 1]) rfl ?_
    refine nd_batch tabOk tabZ_ok [(0, {}), (1, {})] [0, 1, 12, 13, 5] (T' := [(0, .slice (some ⟨b22, 0, none⟩) xs.length c1), (1, .slice (some ⟨b31, 0, none⟩) xs.length c2), (12, .int .i64 ((xs.length : Nat) : Int)), (13, .int .i64 ((i : Nat) : Int)), (5, .int .i64 ((i : Nat) : Int))]) (φ := True) (rest := []) h37 (by kernel_rfl) rfl trivial fun a42 h43 => ?_
    clear h37
    refine nd_done ?_
    refine hK41 _ _ ?_
    clear hK41
    refine wp_seq_k fun K44 hK44 => ?_
    refine dr_start (KB := [b22, b31]) (Bi := [[0, 1], [0, 1], [0, 1], [0, 1], [0, 1], [0, 1], [0, 1], [0, 1], [0, 1]]) mixed h43 fun w45 h46 => ?_
    clear h43
    refine dr_batch tabOk tabZ_ok (by repeat (first | exact PF.body | with_reducible apply PF.inB | with_reducible apply PF.next)) [(0, {}), (1, {}), (2, {}), (3, {k := 0, m := 1, vs := [.int .i64 x.idx, .int .u64 x.st.now, .int .i8 x.st.cur, .int .u8 x.st.s0, .int .u8 x.st.s1, .int .u8 x.st.s2, .int .u8 x.st.s3, .int .u64 x.st.r0, .int .u64 x.st.r1, .int .u64 x.st.r2, .int .u64 x.st.r3, .int .u64 x.st.word, .bool x.out.refused, .int .i8 x.out.running, .int .u64 x.out.value], p := 0}), (4, {}), (5, {}), (6, {}), (7, {k := 1, m := 1, vs := [.int .i64 x.idx, .int .u64 x.st.now, .int .i8 x.st.cur, .int .u8 x.st.s0, .int .u8 x.st.s1, .int .u8 x.st.s2, .int .u8 x.st.s3, .int .u64 x.st.r0, .int .u64 x.st.r1, .int .u64 x.st.r2, .int .u64 x.st.r3, .int .u64 x.st.word, .bool x.out.refused, .int .i8 x.out.running, .int .u64 x.out.value], p := 1}), (8, {f := 1})] [0, 1, 12, 13, 5, 24] (T' := [(0, .slice (some ⟨b22, 0, none⟩) xs.length c1), (1, .slice (some ⟨b31, 0, none⟩) xs.length c2), (12, .int .i64 ((xs.length : Nat) : Int)), (13, .int .i64 ((i : Nat) : Int)), (5, .int .i64 ((i : Nat) : Int)), (24, .bool false)]) (φ := (0 ≤ ((i : Nat) : Int) ∧ ((i : Nat) : Int) < ((xs.length : Nat) : Int)) ∧ (b22 = b22 ∧ cellsAre cs23 (0 + (i * 15)) [.int .i64 x.idx, .int .u64 x.st.now, .int .i8 x.st.cur, .int .u8 x.st.s0, .int .u8 x.st.s1, .int .u8 x.st.s2, .int .u8 x.st.s3, .int .u64 x.st.r0, .int .u64 x.st.r1, .int .u64 x.st.r2, .int .u64 x.st.r3, .int .u64 x.st.word, .bool x.out.refused, .int .i8 x.out.running, .int .u64 x.out.value]) ∧ (0 ≤ ((i : Nat) : Int) ∧ ((i : Nat) : Int) < ((xs.length : Nat) : Int)) ∧ (b31 = b31 ∧ cellsAre cs32 (0 + (i * 15)) [.int .i64 x.idx, .int .u64 x.st.now, .int .i8 x.st.cur, .int .u8 x.st.s0, .int .u8 x.st.s1, .int .u8 x.st.s2, .int .u8 x.st.s3, .int .u64 x.st.r0, .int .u64 x.st.r1, .int .u64 x.st.r2, .int .u64 x.st.r3, .int .u64 x.st.word, .bool x.out.refused, .int .i8 x.out.running, .int .u64 x.out.value]) ∧ EqRun Tryf.prog 84 (.agg #[.int .i64 x.idx, .int .u64 x.st.now, .int .i8 x.st.cur, .int .u8 x.st.s0, .int .u8 x.st.s1, .int .u8 x.st.s2, .int .u8 x.st.s3, .int .u64 x.st.r0, .int .u64 x.st.r1, .int .u64 x.st.r2, .int .u64 x.st.r3, .int .u64 x.st.word, .bool x.out.refused, .int .i8 x.out.running, .int .u64 x.out.value]) (.agg #[.int .i64 x.idx, .int .u64 x.st.now, .int .i8 x.st.cur, .int .u8 x.st.s0, .int .u8 x.st.s1, .int .u8 x.st.s2, .int .u8 x.st.s3, .int .u64 x.st.r0, .int .u64 x.st.r1, .int .u64 x.st.r2, .int .u64 x.st.r3, .int .u64 x.st.word, .bool x.out.refused, .int .i8 x.out.running, .int .u64 x.out.value]) true ∧ True) (fuel := 0) h46 (by kernel_rfl) rfl (by kernel_rfl) (by kernel_rfl) ⟨trivial, trivial, trivial, rfl, trivial, trivial, trivial, rfl, trivial, trivial⟩ ⟨⟨by omega, by omega⟩, ⟨rfl, (by rw [Nat.zero_add]; exact hc26)⟩, ⟨by omega, by omega⟩, ⟨rfl, (by rw [Nat.zero_add]; exact hc35)⟩, (run66s x), trivial⟩ fun a48 h49 => ?_
    clear h46
    refine wpAnyK_done (by kernel_rfl) ?_ _
    refine hK44 _ _ ?_
    clear hK44
    refine c_false h49 rfl ?_
    refine wp_skip ?_
    refine hK40 _ _ ?_
    clear hK40
    refine nd_start (l := [0, 1]) rfl ?_
    refine nd_batch tabOk tabZ_ok [(0, {}), (1, {})] [0, 1, 12, 5, 13] (T' := [(0, .slice (some ⟨b22, 0, none⟩) xs.length c1), (1, .slice (some ⟨b31, 0, none⟩) xs.length c2), (12, .int .i64 ((xs.length : Nat) : Int)), (5, .int .i64 ((i : Nat) : Int)), (13, .int .i64 (((i : Nat) : Int) + 1))]) (φ := inR .i64 (((i : Nat) : Int) + 1) ∧ True) (rest := []) h49 (by kernel_rfl) rfl ⟨⟨by omega, by omega⟩, trivial⟩ fun a50 h51 => ?_
    clear h49
    refine nd_done ?_
    have h52 := h51.memMono (L' := []) (List.Sublist.cons _ (List.Sublist.cons _ List.Sublist.slnil))
    clear h51
    exact ⟨(g - 1), by omega, (i + 1), by omega, by omega, (h52.slotsMono (restr_spec (keep := [0, 1, 12, 13]) rfl))⟩
  ·
    have hc21f : ¬ ((i : Nat) : Int) < ((xs.length : Nat) : Int) := by simpa using hc21
    refine wp_exit ?_
    refine hK8 _ _ ?_
    clear hK8
    refine wp_seq_k fun K53 hK53 => ?_
    refine nd_start (l := [0]) rfl ?_
    refine nd_batch tabOk tabZ_ok [(0, {})] [0, 1, 12, 13, 4] (T' := [(0, .slice o1 xs.length c1), (1, .slice o2 xs.length c2), (12, .int .i64 ((xs.length : Nat) : Int)), (13, .int .i64 ((i : Nat) : Int)), (4, .bool true)]) (φ := True) (rest := []) h19 (by kernel_rfl) rfl trivial fun a54 h55 => ?_
    clear h19
    refine nd_done ?_
    refine hK53 _ _ ?_
    clear hK53
    refine wp_ret ?_
    try simp only [Exit.then, Exit.inBlock]
    try rw [if_pos trivial]
    exact s_ret tabOk tabZ_ok h55 [(.tmp 4, {})] (vs := [.bool true]) (φ := True) rfl (by kernel_rfl) trivial ⟨rfl, h55.frame⟩

theorem sameLog_ok (bl b2 : Nat) (d d2 : Hd) (lg : Lg) (w : World) (hl : LogAt w bl d lg) (hl2 : LogAt w b2 d2 lg) (hap : ∀ b ∈ bl :: d.F, b ∉ b2 :: d2.F) (he : lg.evs.length ≤ 1000000) (hm : lg.mks.length ≤ 1000000) (hs : lg.sns.length ≤ 1000000) :
    Calls Tryf.prog 12 #[.pointer (some ⟨bl, 0, none⟩), .pointer (some ⟨b2, 0, none⟩)] w fun e w' => e = .returned (.bool true) ∧ Fr [] w w' := by
  have hne : bl ≠ b2 := fun hq => hap bl (by simp) (by simp [hq])
  have hR : Rws (d.rows lg ++ d2.rows lg) w := by
    refine ⟨?_, fun r hr => ?_⟩
    · show ((d.rows lg ++ d2.rows lg).flatMap (·.F)).Nodup
      rw [List.flatMap_append, List.nodup_append]
      refine ⟨hl.rows.1, hl2.rows.1, fun x hx y hy he => ?_⟩
      subst he
      have h1 : x ∈ d.F := by rw [Hd.F_rows d lg]; exact hx
      have h2 : x ∈ d2.F := by rw [Hd.F_rows d2 lg]; exact hy
      exact hap x (List.mem_cons_of_mem _ h1) (List.mem_cons_of_mem _ h2)
    · rcases List.mem_append.1 hr with h | h
      · exact hl.rows.2 r h
      · exact hl2.rows.2 r h
  obtain ⟨eo, ec, eF, mo, mc, mF, so, sc, sF⟩ := d
  obtain ⟨hbl, hA, hsep⟩ := hl
  obtain ⟨eo2, ec2, eF2, mo2, mc2, mF2, so2, sc2, sF2⟩ := d2
  obtain ⟨hb2, hA2, hsep2⟩ := hl2
  refine enter (n := 47) (K := []) (A := Rws [rl evC 31 3 lg.evs eo ec eF, rl mkC 93 2 lg.mks mo mc mF, rl ptC 84 15 lg.sns so sc sF, rl evC 31 3 lg.evs eo2 ec2 eF2, rl mkC 93 2 lg.mks mo2 mc2 mF2, rl ptC 84 15 lg.sns so2 sc2 sF2]) (F := Ff [rl evC 31 3 lg.evs eo ec eF, rl mkC 93 2 lg.mks mo mc mF, rl ptC 84 15 lg.sns so sc sF, rl evC 31 3 lg.evs eo2 ec2 eF2, rl mkC 93 2 lg.mks mo2 mc2 mF2, rl ptC 84 15 lg.sns so2 sc2 sF2]) (T := [(0, .pointer (some ⟨bl, 0, none⟩)), (1, .pointer (some ⟨b2, 0, none⟩))]) (L := [(bl, ⟨logC lg.base (.slice eo lg.evs.length ec) (.slice mo lg.mks.length mc) (.slice so lg.sns.length sc), 89, true⟩), (b2, ⟨logC lg.base (.slice eo2 lg.evs.length ec2) (.slice mo2 lg.mks.length mc2) (.slice so2 lg.sns.length sc2), 89, true⟩)]) (args := [.pointer (some ⟨bl, 0, none⟩), .pointer (some ⟨b2, 0, none⟩)]) Tryf.func12 rfl rfl rfl rfl (kcons hbl (kcons hb2 knil)) (by simp [hne]) (kcons (by intro hq; cases hq) (kcons (by intro hq; cases hq) knil)) hR Rws.stable (hR).low (kcons (by intro hq; cases hq) (kcons (by intro hq; cases hq) knil)) ?_
  intro a h
  refine wp_seq_k fun K1 hK1 => ?_
  refine nd_start (l := [0]) rfl ?_
  refine nd_batch tabOk tabZ_ok [(0, {})] [0, 1, 4] (T' := [(0, .pointer (some ⟨bl, 0, none⟩)), (1, .pointer (some ⟨b2, 0, none⟩)), (4, .bool false)]) (φ := True) (rest := []) h (by kernel_rfl) rfl trivial fun a2 h3 => ?_
  clear h
  refine nd_done ?_
  refine hK1 _ _ ?_
  clear hK1
  refine wp_seq_k fun K4 hK4 => ?_
  refine dr_start (KB := [bl, b2]) (Bi := [[0, 1], [0, 1], [0, 1], [0, 1], [0, 1], [0, 1], [0, 1], [0, 1], [0, 1], [0, 1], [0, 1], [0, 1], [0, 1], [0, 1], [0, 1], [0, 1], [0, 1], [0, 1], [], [0, 1], [0, 1], [0, 1], [0, 1], [0, 1], [0, 1], [0, 1], [0, 1], [0, 1], [0, 1], [], [0, 1], [0, 1], [0, 1], [0, 1], [0, 1], [0, 1], [0, 1], [0, 1], [0, 1], [0, 1], [], [0, 1], [0, 1]]) mixed h3 fun w5 h6 => ?_
  clear h3
  refine dr_batch tabOk tabZ_ok (by repeat (first | exact PF.body | with_reducible apply PF.inB | with_reducible apply PF.next)) [(0, {}), (1, {}), (2, {}), (3, {k := 0, p := 0}), (4, {}), (5, {}), (6, {}), (7, {k := 1, p := 1}), (8, {f := 2}), (9, {}), (10, {}), (11, {}), (12, {}), (13, {k := 0, p := 0}), (14, {}), (15, {}), (16, {}), (17, {k := 1, p := 1})] [0, 1, 4, 14, 18, 22] (T' := [(0, .pointer (some ⟨bl, 0, none⟩)), (1, .pointer (some ⟨b2, 0, none⟩)), (4, .bool false), (14, .bool true), (18, .slice eo lg.evs.length ec), (22, .slice eo2 lg.evs.length ec2)]) (φ := (bl = bl ∧ Nat.ble (0 + 15) 18 = true) ∧ (b2 = b2 ∧ Nat.ble (0 + 15) 18 = true) ∧ EqRun Tryf.prog 84 (.agg #[.int .i64 lg.base.idx, .int .u64 lg.base.st.now, .int .i8 lg.base.st.cur, .int .u8 lg.base.st.s0, .int .u8 lg.base.st.s1, .int .u8 lg.base.st.s2, .int .u8 lg.base.st.s3, .int .u64 lg.base.st.r0, .int .u64 lg.base.st.r1, .int .u64 lg.base.st.r2, .int .u64 lg.base.st.r3, .int .u64 lg.base.st.word, .bool lg.base.out.refused, .int .i8 lg.base.out.running, .int .u64 lg.base.out.value]) (.agg #[.int .i64 lg.base.idx, .int .u64 lg.base.st.now, .int .i8 lg.base.st.cur, .int .u8 lg.base.st.s0, .int .u8 lg.base.st.s1, .int .u8 lg.base.st.s2, .int .u8 lg.base.st.s3, .int .u64 lg.base.st.r0, .int .u64 lg.base.st.r1, .int .u64 lg.base.st.r2, .int .u64 lg.base.st.r3, .int .u64 lg.base.st.word, .bool lg.base.out.refused, .int .i8 lg.base.out.running, .int .u64 lg.base.out.value]) true ∧ (bl = bl ∧ Nat.ble (15 + 1) 18 = true) ∧ (b2 = b2 ∧ Nat.ble (15 + 1) 18 = true) ∧ True) (fuel := 25) h6 (by kernel_rfl) rfl (by kernel_rfl) (by kernel_rfl) ⟨trivial, trivial, trivial, rfl, trivial, trivial, trivial, rfl, trivial, trivial, trivial, trivial, trivial, rfl, trivial, trivial, trivial, rfl, trivial⟩ ⟨⟨rfl, rfl⟩, ⟨rfl, rfl⟩, (run66s lg.base), ⟨rfl, rfl⟩, ⟨rfl, rfl⟩, trivial⟩ fun a8 h9 => ?_
  clear h6
  refine wpAnyK_one (i := 18) (fuel := 24) (by kernel_rfl) ?_
  refine op_call h9 rfl rfl rfl (callOk Tryf.func30 (by decide) rfl) (args := [.slice eo lg.evs.length ec, .slice eo2 lg.evs.length ec2]) rfl (equalE_ok lg.evs eo eo2 ec ec2 eF eF2 _ (h9.inv.sub (List.Sublist.cons_cons _ (List.Sublist.cons _ (List.Sublist.cons _ (List.Sublist.cons_cons _ (List.Sublist.cons _ (List.Sublist.cons _ List.Sublist.slnil))))))) (by omega)) ?_
  rintro _ w10 ⟨rfl, hf12⟩
  refine ⟨_, rfl, ?_⟩
  have h11 := (h9.grow hf12).put (d := some 23) (v := .bool true) (T' := [(23, .bool true), (0, .pointer (some ⟨bl, 0, none⟩)), (1, .pointer (some ⟨b2, 0, none⟩)), (4, .bool false), (14, .bool true), (18, .slice eo lg.evs.length ec), (22, .slice eo2 lg.evs.length ec2)]) rfl
  refine ⟨keepNil, ?_⟩
  clear h9
  refine dr_batch tabOk tabZ_ok (by repeat (first | exact PF.body | with_reducible apply PF.inB | with_reducible apply PF.next)) [(19, {}), (20, {}), (21, {}), (22, {}), (23, {}), (24, {k := 0, p := 0}), (25, {}), (26, {}), (27, {}), (28, {k := 1, p := 1})] [0, 1, 4, 25, 29, 33] (T' := [(0, .pointer (some ⟨bl, 0, none⟩)), (1, .pointer (some ⟨b2, 0, none⟩)), (4, .bool false), (25, .bool true), (29, .slice mo lg.mks.length mc), (33, .slice mo2 lg.mks.length mc2)]) (φ := (bl = bl ∧ Nat.ble (16 + 1) 18 = true) ∧ (b2 = b2 ∧ Nat.ble (16 + 1) 18 = true) ∧ True) (fuel := 14) h11 (by kernel_rfl) rfl (by kernel_rfl) (by kernel_rfl) ⟨trivial, trivial, trivial, trivial, trivial, rfl, trivial, trivial, trivial, rfl, trivial⟩ ⟨⟨rfl, rfl⟩, ⟨rfl, rfl⟩, trivial⟩ fun a13 h14 => ?_
  clear h11
  refine wpAnyK_one (i := 29) (fuel := 13) (by kernel_rfl) ?_
  refine op_call h14 rfl rfl rfl (callOk Tryf.func31 (by decide) rfl) (args := [.slice mo lg.mks.length mc, .slice mo2 lg.mks.length mc2]) rfl (equalM_ok lg.mks mo mo2 mc mc2 mF mF2 _ (h14.inv.sub (List.Sublist.cons _ (List.Sublist.cons_cons _ (List.Sublist.cons _ (List.Sublist.cons _ (List.Sublist.cons_cons _ (List.Sublist.cons _ List.Sublist.slnil))))))) (by omega)) ?_
  rintro _ w15 ⟨rfl, hf17⟩
  refine ⟨_, rfl, ?_⟩
  have h16 := (h14.grow hf17).put (d := some 34) (v := .bool true) (T' := [(34, .bool true), (0, .pointer (some ⟨bl, 0, none⟩)), (1, .pointer (some ⟨b2, 0, none⟩)), (4, .bool false), (25, .bool true), (29, .slice mo lg.mks.length mc), (33, .slice mo2 lg.mks.length mc2)]) rfl
  refine ⟨keepNil, ?_⟩
  clear h14
  refine dr_batch tabOk tabZ_ok (by repeat (first | exact PF.body | with_reducible apply PF.inB | with_reducible apply PF.next)) [(30, {}), (31, {}), (32, {}), (33, {}), (34, {}), (35, {k := 0, p := 0}), (36, {}), (37, {}), (38, {}), (39, {k := 1, p := 1})] [0, 1, 4, 36, 40, 44] (T' := [(0, .pointer (some ⟨bl, 0, none⟩)), (1, .pointer (some ⟨b2, 0, none⟩)), (4, .bool false), (36, .bool true), (40, .slice so lg.sns.length sc), (44, .slice so2 lg.sns.length sc2)]) (φ := (bl = bl ∧ Nat.ble (17 + 1) 18 = true) ∧ (b2 = b2 ∧ Nat.ble (17 + 1) 18 = true) ∧ True) (fuel := 3) h16 (by kernel_rfl) rfl (by kernel_rfl) (by kernel_rfl) ⟨trivial, trivial, trivial, trivial, trivial, rfl, trivial, trivial, trivial, rfl, trivial⟩ ⟨⟨rfl, rfl⟩, ⟨rfl, rfl⟩, trivial⟩ fun a18 h19 => ?_
  clear h16
  refine wpAnyK_one (i := 40) (fuel := 2) (by kernel_rfl) ?_
  refine op_call h19 rfl rfl rfl (callOk Tryf.func32 (by decide) rfl) (args := [.slice so lg.sns.length sc, .slice so2 lg.sns.length sc2]) rfl (equalP_ok lg.sns so so2 sc sc2 sF sF2 _ (h19.inv.sub (List.Sublist.cons _ (List.Sublist.cons _ (List.Sublist.cons_cons _ (List.Sublist.cons _ (List.Sublist.cons _ (List.Sublist.cons_cons _ List.Sublist.slnil))))))) (by omega)) ?_
  rintro _ w20 ⟨rfl, hf22⟩
  refine ⟨_, rfl, ?_⟩
  have h21 := (h19.grow hf22).put (d := some 45) (v := .bool true) (T' := [(45, .bool true), (0, .pointer (some ⟨bl, 0, none⟩)), (1, .pointer (some ⟨b2, 0, none⟩)), (4, .bool false), (36, .bool true), (40, .slice so lg.sns.length sc), (44, .slice so2 lg.sns.length sc2)]) rfl
  refine ⟨keepNil, ?_⟩
  clear h19
  refine dr_batch tabOk tabZ_ok (by repeat (first | exact PF.body | with_reducible apply PF.inB | with_reducible apply PF.next)) [(41, {}), (42, {})] [0, 1, 4] (T' := [(0, .pointer (some ⟨bl, 0, none⟩)), (1, .pointer (some ⟨b2, 0, none⟩)), (4, .bool true)]) (φ := True) (fuel := 0) h21 (by kernel_rfl) rfl (by kernel_rfl) (by kernel_rfl) ⟨trivial, trivial, trivial⟩ trivial fun a23 h24 => ?_
  clear h21
  refine wpAnyK_done (by kernel_rfl) ?_ _
  refine hK4 _ _ ?_
  clear hK4
  refine wp_ret ?_
  try simp only [Exit.then, Exit.inBlock]
  try rw [if_pos trivial]
  exact s_ret tabOk tabZ_ok h24 [(.tmp 4, {})] (vs := [.bool true]) (φ := True) rfl (by kernel_rfl) trivial ⟨rfl, h24.frame⟩

end Go.Proofs.Qxb6500919aFmt
