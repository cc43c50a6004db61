/-
  Small functions. (Made by program: a symbolic walk that prints its steps.)
-/
import Derived.Test.Qxb6500919aFmtTab
import Derived.Test.Qxb6500919aFmtFun
import Derived.Test.Qxb6500919aFmtW1
namespace Go.Proofs.Qxb6500919aFmt
open Go.Sx Go.Rp
set_option maxRecDepth 100000
set_option linter.unusedVariables false

theorem knew_ok (w : World) : Calls Tryf.prog 33 #[] w fun e w' => e = .returned (.agg (machC mach0).toArray) ∧ Fr [] w w' := by
  refine enter0 (n := 6) (K := []) (T := []) (L := []) (args := []) Tryf.func33 rfl rfl rfl rfl knil (by simp) knil ?_
  intro a h
  refine wp_seq_k fun K1 hK1 => ?_
  refine nd_start (l := [0]) rfl ?_
  refine nd_op ?_
  refine op_new tabOk (cells := [.int .u64 0, .int .i8 0, .int .u8 0, .int .u8 0, .int .u8 0, .int .u8 0, .int .u64 0, .int .u64 0, .int .u64 0, .int .u64 0, .int .u64 0]) (ty := 58) (ln := none) (L1 := fun b2 => [(b2, ⟨[.int .u64 0, .int .i8 0, .int .u8 0, .int .u8 0, .int .u8 0, .int .u8 0, .int .u64 0, .int .u64 0, .int .u64 0, .int .u64 0, .int .u64 0], 58, false⟩)]) h rfl rfl rfl rfl (by kernel_rfl) (fun _ => rfl) fun b2 w3 a4 h5 hf6 hn7 => ?_
  clear h
  refine nd_done ?_
  refine hK1 _ _ ?_
  clear hK1
  refine wp_seq_k fun K8 hK8 => ?_
  refine nd_start (l := [0, 1, 2]) rfl ?_
  refine nd_batch tabOk tabZ_ok [(0, {})] [0, 2] (T' := [(0, .pointer (some ⟨b2, 0, none⟩)), (2, .agg #[.int .u64 0, .int .i8 0, .int .u8 0, .int .u8 0, .int .u8 0, .int .u8 0, .int .u64 0, .int .u64 0, .int .u64 0, .int .u64 0, .int .u64 0])]) (φ := True) (rest := [1, 2]) h5 (by kernel_rfl) rfl trivial fun a9 h10 => ?_
  clear h5
  refine nd_op ?_
  refine op_new tabOk (cells := [.int .u64 0, .int .i8 0, .int .u8 0, .int .u8 0, .int .u8 0, .int .u8 0, .int .u64 0, .int .u64 0, .int .u64 0, .int .u64 0, .int .u64 0]) (ty := 58) (ln := none) (L1 := fun b11 => [(b2, ⟨[.int .u64 0, .int .i8 0, .int .u8 0, .int .u8 0, .int .u8 0, .int .u8 0, .int .u64 0, .int .u64 0, .int .u64 0, .int .u64 0, .int .u64 0], 58, false⟩), (b11, ⟨[.int .u64 0, .int .i8 0, .int .u8 0, .int .u8 0, .int .u8 0, .int .u8 0, .int .u64 0, .int .u64 0, .int .u64 0, .int .u64 0, .int .u64 0], 58, false⟩)]) h10 rfl rfl rfl rfl (by kernel_rfl) (fun _ => rfl) fun b11 w12 a13 h14 hf15 hn16 => ?_
  clear h10
  refine nd_op ?_
  refine op_store tabOk {k := 1} (L' := [(b2, ⟨[.int .u64 0, .int .i8 0, .int .u8 0, .int .u8 0, .int .u8 0, .int .u8 0, .int .u64 0, .int .u64 0, .int .u64 0, .int .u64 0, .int .u64 0], 58, false⟩), (b11, ⟨[.int .u64 0, .int .i8 0, .int .u8 0, .int .u8 0, .int .u8 0, .int .u8 0, .int .u64 0, .int .u64 0, .int .u64 0, .int .u64 0, .int .u64 0], 58, false⟩)]) (φ := b11 = b11 ∧ Nat.ble (0 + 11) 11 = true) h14 rfl rfl rfl (by kernel_rfl) ⟨rfl, rfl⟩ fun w17 h18 => ?_
  clear h14
  refine nd_done ?_
  refine hK8 _ _ ?_
  clear hK8
  refine wp_seq_k fun K19 hK19 => ?_
  refine nd_start (l := [0, 1, 2]) rfl ?_
  refine nd_batch tabOk tabZ_ok [(0, {}), (1, {})] [1, 0, 2, 4] (T' := [(1, .pointer (some ⟨b11, 0, none⟩)), (0, .pointer (some ⟨b2, 0, none⟩)), (2, .agg #[.int .u64 0, .int .i8 0, .int .u8 0, .int .u8 0, .int .u8 0, .int .u8 0, .int .u64 0, .int .u64 0, .int .u64 0, .int .u64 0, .int .u64 0]), (4, .pointer (some ⟨b11, 2, none⟩))]) (φ := (0 ≤ (0 : Int) ∧ (0 : Int) < 4) ∧ True) (rest := [2]) h18 (by kernel_rfl) rfl ⟨⟨by decide, by decide⟩, trivial⟩ fun a20 h21 => ?_
  clear h18
  refine nd_op ?_
  refine op_store tabOk {k := 1} (L' := [(b2, ⟨[.int .u64 0, .int .i8 0, .int .u8 0, .int .u8 0, .int .u8 0, .int .u8 0, .int .u64 0, .int .u64 0, .int .u64 0, .int .u64 0, .int .u64 0], 58, false⟩), (b11, ⟨[.int .u64 0, .int .i8 0, .int .u8 1, .int .u8 0, .int .u8 0, .int .u8 0, .int .u64 0, .int .u64 0, .int .u64 0, .int .u64 0, .int .u64 0], 58, false⟩)]) (φ := b11 = b11 ∧ Nat.ble (2 + 1) 11 = true) h21 rfl rfl rfl (by kernel_rfl) ⟨rfl, rfl⟩ fun w22 h23 => ?_
  clear h21
  refine nd_done ?_
  refine hK19 _ _ ?_
  clear hK19
  refine wp_seq_k fun K24 hK24 => ?_
  refine nd_start (l := [0, 1]) rfl ?_
  refine nd_batch tabOk tabZ_ok [(0, {k := 1})] [1, 0, 2, 4, 5] (T' := [(1, .pointer (some ⟨b11, 0, none⟩)), (0, .pointer (some ⟨b2, 0, none⟩)), (2, .agg #[.int .u64 0, .int .i8 0, .int .u8 0, .int .u8 0, .int .u8 0, .int .u8 0, .int .u64 0, .int .u64 0, .int .u64 0, .int .u64 0, .int .u64 0]), (4, .pointer (some ⟨b11, 2, none⟩)), (5, .agg #[.int .u64 0, .int .i8 0, .int .u8 1, .int .u8 0, .int .u8 0, .int .u8 0, .int .u64 0, .int .u64 0, .int .u64 0, .int .u64 0, .int .u64 0])]) (φ := (b11 = b11 ∧ Nat.ble (0 + 11) 11 = true) ∧ True) (rest := [1]) h23 (by kernel_rfl) rfl ⟨⟨rfl, rfl⟩, trivial⟩ fun a25 h26 => ?_
  clear h23
  refine nd_op ?_
  refine op_store tabOk {k := 0} (L' := [(b2, ⟨[.int .u64 0, .int .i8 0, .int .u8 1, .int .u8 0, .int .u8 0, .int .u8 0, .int .u64 0, .int .u64 0, .int .u64 0, .int .u64 0, .int .u64 0], 58, false⟩), (b11, ⟨[.int .u64 0, .int .i8 0, .int .u8 1, .int .u8 0, .int .u8 0, .int .u8 0, .int .u64 0, .int .u64 0, .int .u64 0, .int .u64 0, .int .u64 0], 58, false⟩)]) (φ := b2 = b2 ∧ Nat.ble (0 + 11) 11 = true) h26 rfl rfl rfl (by kernel_rfl) ⟨rfl, rfl⟩ fun w27 h28 => ?_
  clear h26
  refine nd_done ?_
  refine hK24 _ _ ?_
  clear hK24
  refine wp_ret ?_
  exact s_ret tabOk tabZ_ok h28 [(.cell 0 58, {k := 0})] (vs := [.agg #[.int .u64 0, .int .i8 0, .int .u8 1, .int .u8 0, .int .u8 0, .int .u8 0, .int .u64 0, .int .u64 0, .int .u64 0, .int .u64 0, .int .u64 0]]) (φ := (b2 = b2 ∧ Nat.ble (0 + 11) 11 = true) ∧ True) rfl (by kernel_rfl) ⟨⟨rfl, rfl⟩, trivial⟩ ⟨rfl, h28.frame⟩

theorem lnew_ok (w : World) : Calls Tryf.prog 15 #[] w fun e w' => ∃ b, e = .returned (.pointer (some ⟨b, 0, none⟩)) ∧ w'.heap[b]? = some (Blk.obj ⟨logC pt0 (.slice none 0 0) (.slice none 0 0) (.slice none 0 0), 89, false⟩) ∧ Fr [] w w' ∧ w.heap.size ≤ b := by
  refine enter0 (n := 5) (K := []) (T := []) (L := []) (args := []) Tryf.func15 rfl rfl rfl rfl knil (by simp) knil ?_
  intro a h
  refine wp_seq_k fun K1 hK1 => ?_
  refine nd_start (l := [0]) rfl ?_
  refine nd_batch tabOk tabZ_ok [(0, {})] [0] (T' := [(0, .pointer none)]) (φ := True) (rest := []) h (by kernel_rfl) rfl trivial fun a2 h3 => ?_
  clear h
  refine nd_done ?_
  refine hK1 _ _ ?_
  clear hK1
  refine wp_seq_k fun K4 hK4 => ?_
  refine nd_start (l := [0, 1, 2, 3, 4]) rfl ?_
  refine nd_op ?_
  refine op_call h3 rfl rfl rfl (callOk Tryf.func33 (by decide) rfl) (args := []) rfl (knew_ok _) ?_
  rintro _ w5 ⟨rfl, hf7⟩
  refine ⟨_, rfl, ?_⟩
  have h6 := (h3.grow hf7).put (d := some 1) (v := .agg #[.int .u64 0, .int .i8 0, .int .u8 1, .int .u8 0, .int .u8 0, .int .u8 0, .int .u64 0, .int .u64 0, .int .u64 0, .int .u64 0, .int .u64 0]) (T' := [(1, .agg #[.int .u64 0, .int .i8 0, .int .u8 1, .int .u8 0, .int .u8 0, .int .u8 0, .int .u64 0, .int .u64 0, .int .u64 0, .int .u64 0, .int .u64 0]), (0, .pointer none)]) rfl
  clear h3
  refine nd_batch tabOk tabZ_ok [(1, {}), (2, {})] [0, 3] (T' := [(0, .pointer none), (3, .agg #[.int .i64 0, .int .u64 0, .int .i8 0, .int .u8 1, .int .u8 0, .int .u8 0, .int .u8 0, .int .u64 0, .int .u64 0, .int .u64 0, .int .u64 0, .int .u64 0, .bool false, .int .i8 0, .int .u64 0, .slice none 0 0, .slice none 0 0, .slice none 0 0])]) (φ := True) (rest := [3, 4]) h6 (by kernel_rfl) rfl trivial fun a8 h9 => ?_
  clear h6
  refine nd_op ?_
  refine op_new tabOk (cells := [.int .i64 0, .int .u64 0, .int .i8 0, .int .u8 1, .int .u8 0, .int .u8 0, .int .u8 0, .int .u64 0, .int .u64 0, .int .u64 0, .int .u64 0, .int .u64 0, .bool false, .int .i8 0, .int .u64 0, .slice none 0 0, .slice none 0 0, .slice none 0 0]) (ty := 89) (ln := none) (L1 := fun b10 => [(b10, ⟨[.int .i64 0, .int .u64 0, .int .i8 0, .int .u8 1, .int .u8 0, .int .u8 0, .int .u8 0, .int .u64 0, .int .u64 0, .int .u64 0, .int .u64 0, .int .u64 0, .bool false, .int .i8 0, .int .u64 0, .slice none 0 0, .slice none 0 0, .slice none 0 0], 89, false⟩)]) h9 rfl rfl rfl rfl (by kernel_rfl) (fun _ => rfl) fun b10 w11 a12 h13 hf14 hn15 => ?_
  clear h9
  refine nd_batch tabOk tabZ_ok [(4, {})] [0] (T' := [(0, .pointer (some ⟨b10, 0, none⟩))]) (φ := True) (rest := []) h13 (by kernel_rfl) rfl trivial fun a16 h17 => ?_
  clear h13
  refine nd_done ?_
  refine hK4 _ _ ?_
  clear hK4
  refine wp_ret ?_
  exact s_ret tabOk tabZ_ok h17 [(.tmp 0, {})] (vs := [.pointer (some ⟨b10, 0, none⟩)]) (φ := True) rfl (by kernel_rfl) trivial ⟨b10, rfl, h17.kn (k := 0) rfl, h17.frame, h17.newer (k := 0) rfl rfl⟩

theorem open_ok (bl : Nat) (base : Pt) (ev mv sv : Value) (ro : Bool) (w : World) (hb : w.heap[bl]? = some (Blk.obj ⟨logC base ev mv sv, 89, ro⟩)) :
    Calls Tryf.prog 14 #[.pointer (some ⟨bl, 0, none⟩)] w fun e w' => ∃ b, e = .returned (.pointer (some ⟨b, 0, none⟩)) ∧ w'.heap[b]? = some (Blk.obj ⟨sessC (.pointer (some ⟨bl, 0, none⟩)) base.st base.out base.idx false, 60, false⟩) ∧ Fr [] w w' ∧ w.heap.size ≤ b := by
  refine enter0 (n := 21) (K := []) (T := [(0, .pointer (some ⟨bl, 0, none⟩))]) (L := [(bl, ⟨logC base (ev) (mv) (sv), 89, true⟩)]) (args := [.pointer (some ⟨bl, 0, none⟩)]) Tryf.func14 rfl rfl rfl rfl (kcons hb knil) (by simp) (kcons (by intro hq; cases hq) knil) ?_
  intro a h
  refine wp_seq_k fun K1 hK1 => ?_
  refine nd_start (l := [0]) rfl ?_
  refine nd_batch tabOk tabZ_ok [(0, {})] [0, 2] (T' := [(0, .pointer (some ⟨bl, 0, none⟩)), (2, .pointer none)]) (φ := True) (rest := []) h (by kernel_rfl) rfl trivial fun a2 h3 => ?_
  clear h
  refine nd_done ?_
  refine hK1 _ _ ?_
  clear hK1
  refine wp_seq_k fun K4 hK4 => ?_
  refine dr_start (KB := [bl]) (Bi := [[0], [0], [0], [0], [0], [0], [0], [0], [0], [0], [0], [0], [0], [0], [0], [0], [0], [0], [0]]) mixed h3 fun w5 h6 => ?_
  clear h3
  refine dr_batch tabOk tabZ_ok (by repeat (first | exact PF.body | apply PF.next | apply PF.inB)) [(0, {}), (1, {}), (2, {}), (3, {}), (4, {}), (5, {k := 0, p := 0}), (6, {}), (7, {}), (8, {}), (9, {}), (10, {k := 0, p := 0}), (11, {}), (12, {}), (13, {}), (14, {}), (15, {k := 0, p := 0}), (16, {})] [0, 2, 19] (T' := [(0, .pointer (some ⟨bl, 0, none⟩)), (2, .pointer none), (19, .agg #[.pointer (some ⟨bl, 0, none⟩), .int .u64 base.st.now, .int .i8 base.st.cur, .int .u8 base.st.s0, .int .u8 base.st.s1, .int .u8 base.st.s2, .int .u8 base.st.s3, .int .u64 base.st.r0, .int .u64 base.st.r1, .int .u64 base.st.r2, .int .u64 base.st.r3, .int .u64 base.st.word, .bool base.out.refused, .int .i8 base.out.running, .int .u64 base.out.value, .int .i64 base.idx, .bool false])]) (φ := (bl = bl ∧ Nat.ble (1 + 11) 18 = true) ∧ (bl = bl ∧ Nat.ble (12 + 3) 18 = true) ∧ (bl = bl ∧ Nat.ble (0 + 1) 18 = true) ∧ True) (fuel := 2) h6 (by kernel_rfl) rfl (by kernel_rfl) (by kernel_rfl) ⟨trivial, trivial, trivial, trivial, trivial, rfl, trivial, trivial, trivial, trivial, rfl, trivial, trivial, trivial, trivial, rfl, trivial, trivial⟩ ⟨⟨rfl, rfl⟩, ⟨rfl, rfl⟩, ⟨rfl, rfl⟩, trivial⟩ fun a8 h9 => ?_
  clear h6
  refine wpAnyK_one (i := 17) (fuel := 1) (by kernel_rfl) ?_
  refine op_new tabOk (cells := [.pointer (some ⟨bl, 0, none⟩), .int .u64 base.st.now, .int .i8 base.st.cur, .int .u8 base.st.s0, .int .u8 base.st.s1, .int .u8 base.st.s2, .int .u8 base.st.s3, .int .u64 base.st.r0, .int .u64 base.st.r1, .int .u64 base.st.r2, .int .u64 base.st.r3, .int .u64 base.st.word, .bool base.out.refused, .int .i8 base.out.running, .int .u64 base.out.value, .int .i64 base.idx, .bool false]) (ty := 60) (ln := none) (L1 := fun b10 => [(bl, ⟨logC base (ev) (mv) (sv), 89, true⟩), (b10, ⟨[.pointer (some ⟨bl, 0, none⟩), .int .u64 base.st.now, .int .i8 base.st.cur, .int .u8 base.st.s0, .int .u8 base.st.s1, .int .u8 base.st.s2, .int .u8 base.st.s3, .int .u64 base.st.r0, .int .u64 base.st.r1, .int .u64 base.st.r2, .int .u64 base.st.r3, .int .u64 base.st.word, .bool base.out.refused, .int .i8 base.out.running, .int .u64 base.out.value, .int .i64 base.idx, .bool false], 60, false⟩)]) h9 rfl rfl rfl rfl (by kernel_rfl) (fun _ => rfl) fun b10 w11 a12 h13 hf14 hn15 => ?_
  refine ⟨(h9.keepFr hf14 (kcons (by simp) knil)), ?_⟩
  clear h9
  refine dr_batch tabOk tabZ_ok (by repeat (first | exact PF.body | apply PF.next | apply PF.inB)) [(18, {})] [0, 2] (T' := [(0, .pointer (some ⟨bl, 0, none⟩)), (2, .pointer (some ⟨b10, 0, none⟩))]) (φ := True) (fuel := 0) h13 (by kernel_rfl) rfl (by kernel_rfl) (by kernel_rfl) ⟨trivial, trivial⟩ trivial fun a16 h17 => ?_
  clear h13
  refine wpAnyK_done (by kernel_rfl) ?_ _
  refine hK4 _ _ ?_
  clear hK4
  refine wp_ret ?_
  exact s_ret tabOk tabZ_ok h17 [(.tmp 2, {})] (vs := [.pointer (some ⟨b10, 0, none⟩)]) (φ := True) rfl (by kernel_rfl) trivial ⟨b10, rfl, h17.kn (k := 1) rfl, h17.frame, h17.newer (k := 1) rfl rfl⟩

theorem slog_ok (bs : Nat) (lv : Value) (m : Mach) (o : Ot) (pos : Int) (live ro : Bool) (w : World) (hb : w.heap[bs]? = some (Blk.obj ⟨sessC lv m o pos live, 60, ro⟩)) :
    Calls Tryf.prog 13 #[.pointer (some ⟨bs, 0, none⟩)] w fun e w' => e = .returned lv ∧ Fr [] w w' := by
  refine enter0 (n := 7) (K := []) (T := [(0, .pointer (some ⟨bs, 0, none⟩))]) (L := [(bs, ⟨sessC (lv) m o pos live, 60, true⟩)]) (args := [.pointer (some ⟨bs, 0, none⟩)]) Tryf.func13 rfl rfl rfl rfl (kcons hb knil) (by simp) (kcons (by intro hq; cases hq) knil) ?_
  intro a h
  refine wp_seq_k fun K1 hK1 => ?_
  refine nd_start (l := [0]) rfl ?_
  refine nd_batch tabOk tabZ_ok [(0, {})] [0, 2] (T' := [(0, .pointer (some ⟨bs, 0, none⟩)), (2, .pointer none)]) (φ := True) (rest := []) h (by kernel_rfl) rfl trivial fun a2 h3 => ?_
  clear h
  refine nd_done ?_
  refine hK1 _ _ ?_
  clear hK1
  refine wp_seq_k fun K4 hK4 => ?_
  refine nd_start (l := [0, 1, 2, 3, 4]) rfl ?_
  refine nd_batch tabOk tabZ_ok [(0, {}), (1, {}), (2, {}), (3, {k := 0}), (4, {})] [0, 2] (T' := [(0, .pointer (some ⟨bs, 0, none⟩)), (2, lv)]) (φ := (bs = bs ∧ Nat.ble (0 + 1) 17 = true) ∧ True) (rest := []) h3 (by kernel_rfl) rfl ⟨⟨rfl, rfl⟩, trivial⟩ fun a5 h6 => ?_
  clear h3
  refine nd_done ?_
  refine hK4 _ _ ?_
  clear hK4
  refine wp_ret ?_
  exact s_ret tabOk tabZ_ok h6 [(.tmp 2, {})] (vs := [lv]) (φ := True) rfl (by kernel_rfl) trivial ⟨rfl, h6.frame⟩

theorem startAt_ok (b off : Nat) (cs : List Value) (ty : TypeId) (ro : Bool) (p : Pt) (w : World) (hb : w.heap[b]? = some (Blk.obj ⟨cs, ty, ro⟩)) (hp : cellsAre cs off (ptC p)) :
    Calls Tryf.prog 42 #[.pointer (some ⟨b, off, none⟩)] w fun e w' => e = .returned (.agg (curC p.st p.out p.idx).toArray) ∧ Fr [] w w' := by
  refine enter0 (n := 16) (K := []) (T := [(0, .pointer (some ⟨b, off, none⟩))]) (L := [(b, ⟨cs, ty, true⟩)]) (args := [.pointer (some ⟨b, off, none⟩)]) Tryf.func42 rfl rfl rfl rfl (kcons hb knil) (by simp) (kcons (by intro hq; cases hq) knil) ?_
  intro a h
  refine wp_seq_k fun K1 hK1 => ?_
  refine nd_start (l := [0]) rfl ?_
  refine nd_op ?_
  refine op_new tabOk (cells := [.int .u64 0, .int .i8 0, .int .u8 0, .int .u8 0, .int .u8 0, .int .u8 0, .int .u64 0, .int .u64 0, .int .u64 0, .int .u64 0, .int .u64 0, .bool false, .int .i8 0, .int .u64 0, .int .i64 0]) (ty := 105) (ln := none) (L1 := fun b2 => [(b, ⟨cs, ty, true⟩), (b2, ⟨[.int .u64 0, .int .i8 0, .int .u8 0, .int .u8 0, .int .u8 0, .int .u8 0, .int .u64 0, .int .u64 0, .int .u64 0, .int .u64 0, .int .u64 0, .bool false, .int .i8 0, .int .u64 0, .int .i64 0], 105, false⟩)]) h rfl rfl rfl rfl (by kernel_rfl) (fun _ => rfl) fun b2 w3 a4 h5 hf6 hn7 => ?_
  clear h
  refine nd_done ?_
  refine hK1 _ _ ?_
  clear hK1
  refine wp_seq_k fun K8 hK8 => ?_
  refine dr_start (KB := [b, b2]) (Bi := [[0, 1], [0, 1], [0, 1], [0, 1], [0, 1], [0, 1], [0, 1], [0, 1], [0, 1], [0, 1], [0, 1], [0, 1], [0, 1], []]) mixed h5 fun w9 h10 => ?_
  clear h5
  refine dr_batch tabOk tabZ_ok (by repeat (first | exact PF.body | apply PF.next | apply PF.inB)) [(0, {}), (1, {}), (2, {}), (3, {k := 0, m := 1, vs := [.int .u64 p.st.now, .int .i8 p.st.cur, .int .u8 p.st.s0, .int .u8 p.st.s1, .int .u8 p.st.s2, .int .u8 p.st.s3, .int .u64 p.st.r0, .int .u64 p.st.r1, .int .u64 p.st.r2, .int .u64 p.st.r3, .int .u64 p.st.word], p := 0}), (4, {}), (5, {}), (6, {}), (7, {k := 0, m := 1, vs := [.bool p.out.refused, .int .i8 p.out.running, .int .u64 p.out.value], p := 0}), (8, {}), (9, {}), (10, {}), (11, {k := 0, m := 1, vs := [.int .i64 p.idx], p := 0}), (12, {})] [2, 0, 15] (T' := [(2, .pointer (some ⟨b2, 0, none⟩)), (0, .pointer (some ⟨b, off, none⟩)), (15, .agg #[.int .u64 p.st.now, .int .i8 p.st.cur, .int .u8 p.st.s0, .int .u8 p.st.s1, .int .u8 p.st.s2, .int .u8 p.st.s3, .int .u64 p.st.r0, .int .u64 p.st.r1, .int .u64 p.st.r2, .int .u64 p.st.r3, .int .u64 p.st.word, .bool p.out.refused, .int .i8 p.out.running, .int .u64 p.out.value, .int .i64 p.idx])]) (φ := (b = b ∧ cellsAre cs (off + 1) [.int .u64 p.st.now, .int .i8 p.st.cur, .int .u8 p.st.s0, .int .u8 p.st.s1, .int .u8 p.st.s2, .int .u8 p.st.s3, .int .u64 p.st.r0, .int .u64 p.st.r1, .int .u64 p.st.r2, .int .u64 p.st.r3, .int .u64 p.st.word]) ∧ (b = b ∧ cellsAre cs (off + 12) [.bool p.out.refused, .int .i8 p.out.running, .int .u64 p.out.value]) ∧ (b = b ∧ cellsAre cs off [.int .i64 p.idx]) ∧ True) (fuel := 1) h10 (by kernel_rfl) rfl (by kernel_rfl) (by kernel_rfl) ⟨trivial, trivial, trivial, rfl, trivial, trivial, trivial, rfl, trivial, trivial, trivial, rfl, trivial, trivial⟩ ⟨⟨rfl, (pt_st hp)⟩, ⟨rfl, (pt_out hp)⟩, ⟨rfl, (pt_idx hp)⟩, trivial⟩ fun a12 h13 => ?_
  clear h10
  refine wpAnyK_one (i := 13) (fuel := 0) (by kernel_rfl) ?_
  refine op_store tabOk {k := 1} (L' := [(b, ⟨cs, ty, true⟩), (b2, ⟨[.int .u64 p.st.now, .int .i8 p.st.cur, .int .u8 p.st.s0, .int .u8 p.st.s1, .int .u8 p.st.s2, .int .u8 p.st.s3, .int .u64 p.st.r0, .int .u64 p.st.r1, .int .u64 p.st.r2, .int .u64 p.st.r3, .int .u64 p.st.word, .bool p.out.refused, .int .i8 p.out.running, .int .u64 p.out.value, .int .i64 p.idx], 105, false⟩)]) (φ := b2 = b2 ∧ Nat.ble (0 + 15) 15 = true) h13 rfl rfl rfl (by kernel_rfl) ⟨rfl, rfl⟩ fun w14 h15 => ?_
  have hkh15 := h13.known
  refine ⟨keepNil, ?_⟩
  clear h13
  refine wpAnyK_done (by kernel_rfl) ?_ _
  refine hK8 _ _ ?_
  clear hK8
  refine wp_ret ?_
  exact s_ret tabOk tabZ_ok h15 [(.cell 2 105, {k := 1})] (vs := [.agg #[.int .u64 p.st.now, .int .i8 p.st.cur, .int .u8 p.st.s0, .int .u8 p.st.s1, .int .u8 p.st.s2, .int .u8 p.st.s3, .int .u64 p.st.r0, .int .u64 p.st.r1, .int .u64 p.st.r2, .int .u64 p.st.r3, .int .u64 p.st.word, .bool p.out.refused, .int .i8 p.out.running, .int .u64 p.out.value, .int .i64 p.idx]]) (φ := (b2 = b2 ∧ Nat.ble (0 + 15) 15 = true) ∧ True) rfl (by kernel_rfl) ⟨⟨rfl, rfl⟩, trivial⟩ ⟨rfl, h15.frame⟩

end Go.Proofs.Qxb6500919aFmt
