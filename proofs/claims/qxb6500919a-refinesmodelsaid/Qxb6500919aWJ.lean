/-
  The log copied; a session opened on a log. (Made by program: a symbolic walk that prints its steps.)
-/
import Derived.Test.Qxb6500919aTab
import Derived.Test.Qxb6500919aL6
import Derived.Test.Qxb6500919aW1
import Derived.Test.Qxb6500919aW2
import Derived.Test.Qxb6500919aW3
import Derived.Test.Qxb6500919aW4
namespace Go.Proofs.Qxb6500919a
open Go.Sx Go.Rp
set_option maxRecDepth 100000
set_option maxHeartbeats 4000000
set_option linter.unusedVariables false
set_option linter.unusedSimpArgs false

theorem clone_ok (bl : Nat) (d : Hd) (lg : Lg) (w : World) (hl : LogAt w bl d lg) (he : lg.evs.length ≤ 1000000) (hm : lg.mks.length ≤ 1000000) (hsn : lg.sns.length ≤ 1000000) :
    Calls Try.prog 18 #[.pointer (some ⟨bl, 0, none⟩)] w fun e w' => ∃ b2 d2, e = .returned (.pointer (some ⟨b2, 0, none⟩)) ∧ LogAt w' b2 d2 lg ∧ Fr [] w w' ∧ ∀ b ∈ b2 :: d2.F, w.heap.size ≤ b := by
  obtain ⟨eo, ec, eF, mo, mc, mF, so, sc, sF⟩ := d
  obtain ⟨hbl, hA, hsep⟩ := hl
  refine enter (n := 24) (K := []) (A := Rws [rl evC 33 3 lg.evs eo ec eF, rl mkC 78 2 lg.mks mo mc mF, rl ptC 66 15 lg.sns so sc sF]) (F := Ff [rl evC 33 3 lg.evs eo ec eF, rl mkC 78 2 lg.mks mo mc mF, rl ptC 66 15 lg.sns so sc sF]) (T := [(0, .pointer (some ⟨bl, 0, none⟩))]) (L := [(bl, ⟨logC lg.base (.slice eo lg.evs.length ec) (.slice mo lg.mks.length mc) (.slice so lg.sns.length sc), 69, true⟩)]) (args := [.pointer (some ⟨bl, 0, none⟩)]) Try.func18 rfl rfl rfl rfl (kcons hbl knil) (by simp) (kcons (by intro hq; cases hq) knil) hA Rws.stable (hA).low (kcons (by intro hq; cases hq) knil) ?_
  intro a h
  refine wp_seq_k fun K1 hK1 => ?_
  refine nd_start (l := [0]) rfl ?_
  refine nd_batch tabOk tabZ_ok [(0, {})] [0, 2] (T' := [(0, .pointer (some ⟨bl, 0, none⟩)), (2, .pointer none)]) (φ := True) (rest := []) h (by kernel_rfl) rfl trivial fun a2 h3 => ?_
  clear h
  refine nd_done ?_
  refine hK1 _ _ ?_
  clear hK1
  refine wp_seq_k fun K4 hK4 => ?_
  refine dr_start (KB := [bl]) (Bi := [[0], [0], [0], [0], [0], [0], [0], [0], [0], [0], [0], [0], [0], [0], [0], [0], [0], [0], [0], [0], [0], [0]]) mixed h3 fun w5 h6 => ?_
  clear h3
  refine dr_batch tabOk tabZ_ok (by repeat (first | exact PF.body | with_reducible apply PF.inB | with_reducible apply PF.next)) [(0, {}), (1, {}), (2, {}), (3, {k := 0, p := 0}), (4, {}), (5, {}), (6, {}), (7, {k := 0, p := 0}), (9, {}), (10, {}), (11, {}), (12, {k := 0, p := 0}), (14, {}), (15, {}), (16, {}), (17, {k := 0, p := 0})] [0, 2, 6, 10, 15, 20] (T' := [(0, .pointer (some ⟨bl, 0, none⟩)), (2, .pointer none), (6, .agg #[.int .i64 lg.base.idx, .int .u64 lg.base.st.now, .int .i8 lg.base.st.cur, .int .u8 lg.base.st.s0, .int .u8 lg.base.st.s1, .int .u8 lg.base.st.s2, .int .u8 lg.base.st.s3, .int .u64 lg.base.st.r0, .int .u64 lg.base.st.r1, .int .u64 lg.base.st.r2, .int .u64 lg.base.st.r3, .int .u64 lg.base.st.word, .bool lg.base.out.refused, .int .i8 lg.base.out.running, .int .u64 lg.base.out.value]), (10, .slice eo lg.evs.length ec), (15, .slice mo lg.mks.length mc), (20, .slice so lg.sns.length sc)]) (φ := (bl = bl ∧ Nat.ble (0 + 15) 18 = true) ∧ (bl = bl ∧ Nat.ble (15 + 1) 18 = true) ∧ (bl = bl ∧ Nat.ble (16 + 1) 18 = true) ∧ (bl = bl ∧ Nat.ble (17 + 1) 18 = true) ∧ True) (fuel := 6) h6 (by kernel_rfl) rfl (by kernel_rfl) (by kernel_rfl) ⟨trivial, trivial, trivial, rfl, trivial, trivial, trivial, rfl, trivial, trivial, trivial, rfl, trivial, trivial, trivial, rfl, trivial⟩ ⟨⟨rfl, rfl⟩, ⟨rfl, rfl⟩, ⟨rfl, rfl⟩, ⟨rfl, rfl⟩, trivial⟩ fun a8 h9 => ?_
  clear h6
  refine wpAnyK_one (i := 8) (fuel := 5) (by kernel_rfl) ?_
  have h10 := h9.rowNil 33 3
  clear h9
  have h10r : St ⟨24, [], w, Rws [rl evC 33 3 lg.evs eo ec eF, rl mkC 78 2 lg.mks mo mc mF, rl ptC 66 15 lg.sns so sc sF, rl evC 33 3 ([] : List Ev) none 0 ([])], Ff [rl evC 33 3 lg.evs eo ec eF, rl mkC 78 2 lg.mks mo mc mF, rl ptC 66 15 lg.sns so sc sF, rl evC 33 3 ([] : List Ev) none 0 ([])]⟩ [(0, .pointer (some ⟨bl, 0, none⟩)), (2, .pointer none), (6, .agg #[.int .i64 lg.base.idx, .int .u64 lg.base.st.now, .int .i8 lg.base.st.cur, .int .u8 lg.base.st.s0, .int .u8 lg.base.st.s1, .int .u8 lg.base.st.s2, .int .u8 lg.base.st.s3, .int .u64 lg.base.st.r0, .int .u64 lg.base.st.r1, .int .u64 lg.base.st.r2, .int .u64 lg.base.st.r3, .int .u64 lg.base.st.word, .bool lg.base.out.refused, .int .i8 lg.base.out.running, .int .u64 lg.base.out.value]), (10, .slice eo lg.evs.length ec), (15, .slice mo lg.mks.length mc), (20, .slice so lg.sns.length sc)] [(bl, ⟨logC lg.base (.slice eo lg.evs.length ec) (.slice mo lg.mks.length mc) (.slice so lg.sns.length sc), 69, true⟩)] _ _ := h10
  clear h10
  refine op_append tabOk (e := 33) (so := none) (n := 0) (c := 0) (xo := eo) (m := lg.evs.length) (cx := ec) (vals := []) (vs := lg.evs.flatMap evC) (F := []) h10r rfl rfl rfl rfl rfl rfl rfl rfl rfl rfl rfl rfl (Row.nil _ 33 3) (src_row (h10r.inv.get (j := 0) rfl)) (by omega) (allOne_flat evC_one _) ?_
  intro o11 c12 F13 w14 hr15 hf16 hF17
  have hr152 : (rl evC 33 3 lg.evs o11 c12 F13).at w14 := by simpa [RS.at] using hr15
  have hKh18 := row1_keys (K := []) (fun _ hq => by cases hq) h10r.frame.size hF17
  rw [show 0 + lg.evs.length = lg.evs.length by simp]
  have h18 := (h10r.rowSet (j := 3) (r := rl evC 33 3 ([] : List Ev) none 0 ([])) (r' := rl evC 33 3 lg.evs o11 c12 F13) (R' := [rl evC 33 3 lg.evs eo ec eF, rl mkC 78 2 lg.mks mo mc mF, rl ptC 66 15 lg.sns so sc sF, rl evC 33 3 lg.evs o11 c12 F13]) rfl hr152 hf16 hF17 (fun _ hq => by cases hq) (fun _ _ _ hq => by cases hq) rfl).put (d := some 11) (v := .slice o11 lg.evs.length c12) (T' := [(11, .slice o11 lg.evs.length c12), (0, .pointer (some ⟨bl, 0, none⟩)), (2, .pointer none), (6, .agg #[.int .i64 lg.base.idx, .int .u64 lg.base.st.now, .int .i8 lg.base.st.cur, .int .u8 lg.base.st.s0, .int .u8 lg.base.st.s1, .int .u8 lg.base.st.s2, .int .u8 lg.base.st.s3, .int .u64 lg.base.st.r0, .int .u64 lg.base.st.r1, .int .u64 lg.base.st.r2, .int .u64 lg.base.st.r3, .int .u64 lg.base.st.word, .bool lg.base.out.refused, .int .i8 lg.base.out.running, .int .u64 lg.base.out.value]), (10, .slice eo lg.evs.length ec), (15, .slice mo lg.mks.length mc), (20, .slice so lg.sns.length sc)]) rfl
  have hkh18 := h10r.known
  refine ⟨(keepOf hkh18 h18.known (kcons (keepAt (q := 0) (q' := 0) rfl rfl) knil)), ?_⟩
  clear h10r
  refine wpAnyK_one (i := 13) (fuel := 4) (by kernel_rfl) ?_
  have h19 := h18.rowNil 78 2
  clear h18
  have h19r : St ⟨24, [], w, Rws [rl evC 33 3 lg.evs eo ec eF, rl mkC 78 2 lg.mks mo mc mF, rl ptC 66 15 lg.sns so sc sF, rl evC 33 3 lg.evs o11 c12 F13, rl mkC 78 2 ([] : List Mk) none 0 ([])], Ff [rl evC 33 3 lg.evs eo ec eF, rl mkC 78 2 lg.mks mo mc mF, rl ptC 66 15 lg.sns so sc sF, rl evC 33 3 lg.evs o11 c12 F13, rl mkC 78 2 ([] : List Mk) none 0 ([])]⟩ [(11, .slice o11 lg.evs.length c12), (0, .pointer (some ⟨bl, 0, none⟩)), (2, .pointer none), (6, .agg #[.int .i64 lg.base.idx, .int .u64 lg.base.st.now, .int .i8 lg.base.st.cur, .int .u8 lg.base.st.s0, .int .u8 lg.base.st.s1, .int .u8 lg.base.st.s2, .int .u8 lg.base.st.s3, .int .u64 lg.base.st.r0, .int .u64 lg.base.st.r1, .int .u64 lg.base.st.r2, .int .u64 lg.base.st.r3, .int .u64 lg.base.st.word, .bool lg.base.out.refused, .int .i8 lg.base.out.running, .int .u64 lg.base.out.value]), (10, .slice eo lg.evs.length ec), (15, .slice mo lg.mks.length mc), (20, .slice so lg.sns.length sc)] [(bl, ⟨logC lg.base (.slice eo lg.evs.length ec) (.slice mo lg.mks.length mc) (.slice so lg.sns.length sc), 69, true⟩)] _ _ := h19
  clear h19
  refine op_append tabOk (e := 78) (so := none) (n := 0) (c := 0) (xo := mo) (m := lg.mks.length) (cx := mc) (vals := []) (vs := lg.mks.flatMap mkC) (F := []) h19r rfl rfl rfl rfl rfl rfl rfl rfl rfl rfl rfl rfl (Row.nil _ 78 2) (src_row (h19r.inv.get (j := 1) rfl)) (by omega) (allOne_flat mkC_one _) ?_
  intro o20 c21 F22 w23 hr24 hf25 hF26
  have hr242 : (rl mkC 78 2 lg.mks o20 c21 F22).at w23 := by simpa [RS.at] using hr24
  have hKh27 := row1_keys (K := []) (fun _ hq => by cases hq) h19r.frame.size hF26
  rw [show 0 + lg.mks.length = lg.mks.length by simp]
  have h27 := (h19r.rowSet (j := 4) (r := rl mkC 78 2 ([] : List Mk) none 0 ([])) (r' := rl mkC 78 2 lg.mks o20 c21 F22) (R' := [rl evC 33 3 lg.evs eo ec eF, rl mkC 78 2 lg.mks mo mc mF, rl ptC 66 15 lg.sns so sc sF, rl evC 33 3 lg.evs o11 c12 F13, rl mkC 78 2 lg.mks o20 c21 F22]) rfl hr242 hf25 hF26 (fun _ hq => by cases hq) (fun _ _ _ hq => by cases hq) rfl).put (d := some 16) (v := .slice o20 lg.mks.length c21) (T' := [(16, .slice o20 lg.mks.length c21), (11, .slice o11 lg.evs.length c12), (0, .pointer (some ⟨bl, 0, none⟩)), (2, .pointer none), (6, .agg #[.int .i64 lg.base.idx, .int .u64 lg.base.st.now, .int .i8 lg.base.st.cur, .int .u8 lg.base.st.s0, .int .u8 lg.base.st.s1, .int .u8 lg.base.st.s2, .int .u8 lg.base.st.s3, .int .u64 lg.base.st.r0, .int .u64 lg.base.st.r1, .int .u64 lg.base.st.r2, .int .u64 lg.base.st.r3, .int .u64 lg.base.st.word, .bool lg.base.out.refused, .int .i8 lg.base.out.running, .int .u64 lg.base.out.value]), (10, .slice eo lg.evs.length ec), (15, .slice mo lg.mks.length mc), (20, .slice so lg.sns.length sc)]) rfl
  have hkh27 := h19r.known
  refine ⟨(keepOf hkh27 h27.known (kcons (keepAt (q := 0) (q' := 0) rfl rfl) knil)), ?_⟩
  clear h19r
  refine wpAnyK_one (i := 18) (fuel := 3) (by kernel_rfl) ?_
  have h28 := h27.rowNil 66 15
  clear h27
  have h28r : St ⟨24, [], w, Rws [rl evC 33 3 lg.evs eo ec eF, rl mkC 78 2 lg.mks mo mc mF, rl ptC 66 15 lg.sns so sc sF, rl evC 33 3 lg.evs o11 c12 F13, rl mkC 78 2 lg.mks o20 c21 F22, rl ptC 66 15 ([] : List Pt) none 0 ([])], Ff [rl evC 33 3 lg.evs eo ec eF, rl mkC 78 2 lg.mks mo mc mF, rl ptC 66 15 lg.sns so sc sF, rl evC 33 3 lg.evs o11 c12 F13, rl mkC 78 2 lg.mks o20 c21 F22, rl ptC 66 15 ([] : List Pt) none 0 ([])]⟩ [(16, .slice o20 lg.mks.length c21), (11, .slice o11 lg.evs.length c12), (0, .pointer (some ⟨bl, 0, none⟩)), (2, .pointer none), (6, .agg #[.int .i64 lg.base.idx, .int .u64 lg.base.st.now, .int .i8 lg.base.st.cur, .int .u8 lg.base.st.s0, .int .u8 lg.base.st.s1, .int .u8 lg.base.st.s2, .int .u8 lg.base.st.s3, .int .u64 lg.base.st.r0, .int .u64 lg.base.st.r1, .int .u64 lg.base.st.r2, .int .u64 lg.base.st.r3, .int .u64 lg.base.st.word, .bool lg.base.out.refused, .int .i8 lg.base.out.running, .int .u64 lg.base.out.value]), (10, .slice eo lg.evs.length ec), (15, .slice mo lg.mks.length mc), (20, .slice so lg.sns.length sc)] [(bl, ⟨logC lg.base (.slice eo lg.evs.length ec) (.slice mo lg.mks.length mc) (.slice so lg.sns.length sc), 69, true⟩)] _ _ := h28
  clear h28
  refine op_append tabOk (e := 66) (so := none) (n := 0) (c := 0) (xo := so) (m := lg.sns.length) (cx := sc) (vals := []) (vs := lg.sns.flatMap ptC) (F := []) h28r rfl rfl rfl rfl rfl rfl rfl rfl rfl rfl rfl rfl (Row.nil _ 66 15) (src_row (h28r.inv.get (j := 2) rfl)) (by omega) (allOne_flat ptC_one _) ?_
  intro o29 c30 F31 w32 hr33 hf34 hF35
  have hr332 : (rl ptC 66 15 lg.sns o29 c30 F31).at w32 := by simpa [RS.at] using hr33
  have hKh36 := row1_keys (K := []) (fun _ hq => by cases hq) h28r.frame.size hF35
  rw [show 0 + lg.sns.length = lg.sns.length by simp]
  have h36 := (h28r.rowSet (j := 5) (r := rl ptC 66 15 ([] : List Pt) none 0 ([])) (r' := rl ptC 66 15 lg.sns o29 c30 F31) (R' := [rl evC 33 3 lg.evs eo ec eF, rl mkC 78 2 lg.mks mo mc mF, rl ptC 66 15 lg.sns so sc sF, rl evC 33 3 lg.evs o11 c12 F13, rl mkC 78 2 lg.mks o20 c21 F22, rl ptC 66 15 lg.sns o29 c30 F31]) rfl hr332 hf34 hF35 (fun _ hq => by cases hq) (fun _ _ _ hq => by cases hq) rfl).put (d := some 21) (v := .slice o29 lg.sns.length c30) (T' := [(21, .slice o29 lg.sns.length c30), (16, .slice o20 lg.mks.length c21), (11, .slice o11 lg.evs.length c12), (0, .pointer (some ⟨bl, 0, none⟩)), (2, .pointer none), (6, .agg #[.int .i64 lg.base.idx, .int .u64 lg.base.st.now, .int .i8 lg.base.st.cur, .int .u8 lg.base.st.s0, .int .u8 lg.base.st.s1, .int .u8 lg.base.st.s2, .int .u8 lg.base.st.s3, .int .u64 lg.base.st.r0, .int .u64 lg.base.st.r1, .int .u64 lg.base.st.r2, .int .u64 lg.base.st.r3, .int .u64 lg.base.st.word, .bool lg.base.out.refused, .int .i8 lg.base.out.running, .int .u64 lg.base.out.value]), (10, .slice eo lg.evs.length ec), (15, .slice mo lg.mks.length mc), (20, .slice so lg.sns.length sc)]) rfl
  have hkh36 := h28r.known
  refine ⟨(keepOf hkh36 h36.known (kcons (keepAt (q := 0) (q' := 0) rfl rfl) knil)), ?_⟩
  clear h28r
  refine dr_batch tabOk tabZ_ok (by repeat (first | exact PF.body | with_reducible apply PF.inB | with_reducible apply PF.next)) [(19, {})] [0, 2, 22] (T' := [(0, .pointer (some ⟨bl, 0, none⟩)), (2, .pointer none), (22, .agg #[.int .i64 lg.base.idx, .int .u64 lg.base.st.now, .int .i8 lg.base.st.cur, .int .u8 lg.base.st.s0, .int .u8 lg.base.st.s1, .int .u8 lg.base.st.s2, .int .u8 lg.base.st.s3, .int .u64 lg.base.st.r0, .int .u64 lg.base.st.r1, .int .u64 lg.base.st.r2, .int .u64 lg.base.st.r3, .int .u64 lg.base.st.word, .bool lg.base.out.refused, .int .i8 lg.base.out.running, .int .u64 lg.base.out.value, .slice o11 lg.evs.length c12, .slice o20 lg.mks.length c21, .slice o29 lg.sns.length c30])]) (φ := True) (fuel := 2) h36 (by kernel_rfl) rfl (by kernel_rfl) (by kernel_rfl) ⟨trivial, trivial⟩ trivial fun a37 h38 => ?_
  clear h36
  refine wpAnyK_one (i := 20) (fuel := 1) (by kernel_rfl) ?_
  refine op_new tabOk (cells := [.int .i64 lg.base.idx, .int .u64 lg.base.st.now, .int .i8 lg.base.st.cur, .int .u8 lg.base.st.s0, .int .u8 lg.base.st.s1, .int .u8 lg.base.st.s2, .int .u8 lg.base.st.s3, .int .u64 lg.base.st.r0, .int .u64 lg.base.st.r1, .int .u64 lg.base.st.r2, .int .u64 lg.base.st.r3, .int .u64 lg.base.st.word, .bool lg.base.out.refused, .int .i8 lg.base.out.running, .int .u64 lg.base.out.value, .slice o11 lg.evs.length c12, .slice o20 lg.mks.length c21, .slice o29 lg.sns.length c30]) (ty := 69) (ln := none) (L1 := fun b39 => [(bl, ⟨logC lg.base (.slice eo lg.evs.length ec) (.slice mo lg.mks.length mc) (.slice so lg.sns.length sc), 69, true⟩), (b39, ⟨[.int .i64 lg.base.idx, .int .u64 lg.base.st.now, .int .i8 lg.base.st.cur, .int .u8 lg.base.st.s0, .int .u8 lg.base.st.s1, .int .u8 lg.base.st.s2, .int .u8 lg.base.st.s3, .int .u64 lg.base.st.r0, .int .u64 lg.base.st.r1, .int .u64 lg.base.st.r2, .int .u64 lg.base.st.r3, .int .u64 lg.base.st.word, .bool lg.base.out.refused, .int .i8 lg.base.out.running, .int .u64 lg.base.out.value, .slice o11 lg.evs.length c12, .slice o20 lg.mks.length c21, .slice o29 lg.sns.length c30], 69, false⟩)]) h38 rfl rfl rfl rfl (by kernel_rfl) (fun _ => rfl) fun b39 w40 a41 h42 hf43 hn44 => ?_
  refine ⟨(h38.keepFr hf43 (kcons (by simp) knil)), ?_⟩
  clear h38
  refine dr_batch tabOk tabZ_ok (by repeat (first | exact PF.body | with_reducible apply PF.inB | with_reducible apply PF.next)) [(21, {})] [0, 2] (T' := [(0, .pointer (some ⟨bl, 0, none⟩)), (2, .pointer (some ⟨b39, 0, none⟩))]) (φ := True) (fuel := 0) h42 (by kernel_rfl) rfl (by kernel_rfl) (by kernel_rfl) ⟨trivial, trivial⟩ trivial fun a45 h46 => ?_
  clear h42
  refine wpAnyK_done (by kernel_rfl) ?_ _
  refine hK4 _ _ ?_
  clear hK4
  refine wp_ret ?_
  try simp only [Exit.then, Exit.inBlock]
  try rw [if_pos trivial]
  exact s_ret tabOk tabZ_ok h46 [(.tmp 2, {})] (vs := [.pointer (some ⟨b39, 0, none⟩)]) (φ := True) rfl (by kernel_rfl) trivial ⟨b39, ⟨o11, c12, F13, o20, c21, F22, o29, c30, F31⟩, rfl, LogAt.ofSt' h46 (k := 1) (R2 := [rl evC 33 3 lg.evs o11 c12 F13, rl mkC 78 2 lg.mks o20 c21 F22, rl ptC 66 15 lg.sns o29 c30 F31]) rfl (List.Sublist.cons _ (List.Sublist.cons _ (List.Sublist.cons _ (List.Sublist.cons_cons _ (List.Sublist.cons_cons _ (List.Sublist.cons_cons _ List.Sublist.slnil)))))) (List.Perm.refl _), h46.frame, fun x hx => by simp only [Hd.F, List.mem_cons, List.mem_append, List.append_nil] at hx; rcases hx with rfl | hx | hx | hx; exact h46.newer (k := 1) rfl rfl; simpa using hKh18 x hx; simpa using hKh27 x hx; simpa using hKh36 x hx⟩

theorem openS_ok (bl : Nat) (d : Hd) (lg : Lg) (w : World) (hl : LogAt w bl d lg) :
    Calls Try.prog 21 #[.pointer (some ⟨bl, 0, none⟩)] w fun e w' => ∃ b, e = .returned (.pointer (some ⟨b, 0, none⟩)) ∧ SessAt w' b bl d (ssOf lg) ∧ Fr [] w w' ∧ w.heap.size ≤ b := by
  refine (open_ok bl lg.base _ _ _ false w hl.blk).mono ?_
  rintro e w' ⟨b, rfl, hb, hfr, hn⟩
  refine ⟨b, rfl, ⟨hb, hl.fr hfr (fun _ _ h => by cases h), ?_, ?_⟩, hfr, hn⟩
  · intro hq; subst hq; have := lt_of_heap hl.blk; omega
  · intro hq; have := hl.rows.low b (by rw [← Hd.F_rows]; exact hq); omega


end Go.Proofs.Qxb6500919a
