/-
  The store and the space, read. (Made by program: a symbolic walk that prints its steps.)
-/
import Derived.Test.Qxb6500918aDoorK3
import Derived.Test.Qxb6500918aDoorKc
namespace Go.Proofs.Qxb6500918aDoor
open Go.Sx Go.Kn
set_option maxRecDepth 100000
set_option maxHeartbeats 4000000
set_option linter.unusedVariables false
set_option linter.unusedSimpArgs false

theorem typeOf_ok (bo : Nat) (E : Nat → Ent) (r : Rf) (hr : 0 ≤ r.idx ∧ r.idx ≤ 65535) (w : World) (hb : w.heap[bo]? = some (Blk.obj ⟨stC E, 131, false⟩)) :
    Calls Tryd.prog 53 #[.pointer (some ⟨bo, 0, none⟩), .agg #[.int .u16 r.idx, .int .u32 r.gen]] w fun e w' => e = .returned (.int .u8 (typeOfP E r)) ∧ Fr [] w w' := by
  refine enter0 (n := 30) (K := []) (T := [(0, .pointer (some ⟨bo, 0, none⟩)), (1, .agg #[.int .u16 r.idx, .int .u32 r.gen])]) (L := [(bo, ⟨stC E, 131, true⟩)]) (args := [.pointer (some ⟨bo, 0, none⟩), .agg #[.int .u16 r.idx, .int .u32 r.gen]]) Tryd.func53 rfl rfl rfl rfl (kcons hb knil) (by simp) (kcons (by intro hq; cases hq) knil) ?_
  intro a h
  refine wp_seq_k fun K1 hK1 => ?_
  refine nd_start (l := [0, 1]) rfl ?_
  refine nd_op ?_
  refine op_new tabOk (cells := [.int .u16 r.idx, .int .u32 r.gen]) (ty := 39) (ln := none) (L1 := fun b2 => [(bo, ⟨stC E, 131, true⟩), (b2, ⟨[.int .u16 r.idx, .int .u32 r.gen], 39, false⟩)]) h rfl rfl rfl rfl (by kernel_rfl) (fun _ => rfl) fun b2 w3 a4 h5 hf6 hn7 => ?_
  clear h
  refine nd_batch tabOk tabZ_ok [(1, {})] [3, 0, 1, 4] (T' := [(3, .pointer (some ⟨b2, 0, none⟩)), (0, .pointer (some ⟨bo, 0, none⟩)), (1, .agg #[.int .u16 r.idx, .int .u32 r.gen]), (4, .int .u8 0)]) (φ := True) (rest := []) h5 (by kernel_rfl) rfl trivial fun a8 h9 => ?_
  clear h5
  refine nd_done ?_
  refine hK1 _ _ ?_
  clear hK1
  refine wp_seq_k fun K10 hK10 => ?_
  refine wp_seq_k fun K11 hK11 => ?_
  rcases Bool.eq_false_or_eq_true (decide (r.idx ≥ 257)) with hb12 | hb12
  ·
    have hb12f : r.idx ≥ 257 := by simpa using hb12
    refine dr_start (KB := [bo, b2]) (Bi := [[0, 1], [0, 1], [0, 1], [0, 1], [0, 1], [0, 1], [0, 1], [0, 1], [0, 1], [0, 1], [0, 1], [0, 1], [0, 1], [0, 1], [0, 1], [0, 1], [0, 1]]) mixed h9 fun w13 h14 => ?_
    clear h9
    refine dr_batch tabOk tabZ_ok (by repeat (first | with_reducible exact PF.body | with_reducible apply PF.inB | with_reducible apply PF.next)) [(0, {}), (1, {k := 1, p := 1}), (2, {}), (3, {f := 2}), (4, {}), (5, {}), (6, {}), (7, {k := 0, p := 0}), (8, {}), (9, {}), (10, {}), (11, {}), (12, {k := 0, p := 0}), (13, {}), (14, {k := 0, p := 0}), (15, {}), (16, {})] [3, 0, 1, 4, 21] (T' := [(3, .pointer (some ⟨b2, 0, none⟩)), (0, .pointer (some ⟨bo, 0, none⟩)), (1, .agg #[.int .u16 r.idx, .int .u32 r.gen]), (4, .int .u8 0), (21, .bool true)]) (φ := (b2 = b2 ∧ Nat.ble (0 + 1) 2 = true) ∧ inR .i64 r.idx ∧ (decide (r.idx ≥ 257)) = true ∧ True) (fuel := 0) h14 (by kernel_rfl) rfl (by kernel_rfl) (by kernel_rfl) ⟨trivial, rfl, trivial, trivial, trivial, trivial, trivial, rfl, trivial, trivial, trivial, trivial, rfl, trivial, rfl, trivial, trivial, trivial⟩ ⟨⟨rfl, rfl⟩, ⟨by omega, by omega⟩, hb12, trivial⟩ fun a16 h17 => ?_
    clear h14
    refine wpAnyK_done (by kernel_rfl) ?_ _
    refine hK11 _ _ ?_
    clear hK11
    refine c_true h17 rfl ?_
    refine wp_seq_k fun K18 hK18 => ?_
    refine nd_start (l := [0]) rfl ?_
    refine nd_batch tabOk tabZ_ok [(0, {})] [3, 0, 1, 4] (T' := [(3, .pointer (some ⟨b2, 0, none⟩)), (0, .pointer (some ⟨bo, 0, none⟩)), (1, .agg #[.int .u16 r.idx, .int .u32 r.gen]), (4, .int .u8 0)]) (φ := True) (rest := []) h17 (by kernel_rfl) rfl trivial fun a19 h20 => ?_
    clear h17
    refine nd_done ?_
    refine hK18 _ _ ?_
    clear hK18
    refine wp_ret ?_
    try simp only [Exit.then, Exit.inBlock]
    try rw [if_pos trivial]
    exact s_ret tabOk tabZ_ok h20 [(.tmp 4, {})] (vs := [.int .u8 0]) (φ := True) rfl (by kernel_rfl) trivial ⟨(by unfold typeOfP; rw [if_pos hb12f]; rfl), h20.frame⟩
  ·
    have hb12f : ¬ (r.idx ≥ 257) := by simpa using hb12
    refine dr_start (KB := [bo, b2]) (Bi := [[0, 1], [0, 1], [0, 1], [0, 1], [0, 1], [0, 1], [0, 1], [0, 1], [0, 1], [0, 1], [0, 1], [0, 1], [0, 1], [0, 1], [0, 1], [0, 1], [0, 1]]) mixed h9 fun w21 h22 => ?_
    clear h9
    refine dr_batch tabOk tabZ_ok (by repeat (first | with_reducible exact PF.body | with_reducible apply PF.inB | with_reducible apply PF.next)) [(0, {}), (1, {k := 1, p := 1}), (2, {}), (3, {f := 1}), (4, {}), (5, {}), (6, {}), (7, {k := 1, p := 1}), (8, {}), (9, {}), (10, {}), (11, {}), (12, {k := 0, m := 1, vs := [.int .u32 ((E r.idx.toNat).gen)], p := 0}), (13, {}), (14, {k := 1, p := 1}), (15, {}), (16, {})] [3, 0, 1, 4, 21] (T' := [(3, .pointer (some ⟨b2, 0, none⟩)), (0, .pointer (some ⟨bo, 0, none⟩)), (1, .agg #[.int .u16 r.idx, .int .u32 r.gen]), (4, .int .u8 0), (21, .bool ((E r.idx.toNat).gen != r.gen))]) (φ := (b2 = b2 ∧ Nat.ble (0 + 1) 2 = true) ∧ inR .i64 r.idx ∧ (decide (r.idx ≥ 257)) = false ∧ (b2 = b2 ∧ Nat.ble (0 + 1) 2 = true) ∧ (0 ≤ r.idx ∧ r.idx < 257) ∧ (bo = bo ∧ cellsAre (stC E) (0 + (r.idx.toNat * 4) + 1) [.int .u32 ((E r.idx.toNat).gen)]) ∧ (b2 = b2 ∧ Nat.ble (1 + 1) 2 = true) ∧ True) (fuel := 0) h22 (by kernel_rfl) rfl (by kernel_rfl) (by kernel_rfl) ⟨trivial, rfl, trivial, trivial, trivial, trivial, trivial, rfl, trivial, trivial, trivial, trivial, rfl, trivial, rfl, trivial, trivial, trivial⟩ ⟨⟨rfl, rfl⟩, ⟨by omega, by omega⟩, hb12, ⟨rfl, rfl⟩, ⟨by omega, by omega⟩, ⟨rfl, (st_read (i := r.idx.toNat) (k := 1) (by omega) (by omega) ⟨rfl, trivial⟩)⟩, ⟨rfl, rfl⟩, trivial⟩ fun a24 h25 => ?_
    clear h22
    refine wpAnyK_done (by kernel_rfl) ?_ _
    refine hK11 _ _ ?_
    clear hK11
    refine c_split h25 (b := ((E r.idx.toNat).gen != r.gen)) rfl (fun hc26 => ?_) (fun hc26 => ?_)
    ·
      have hc26f : (E r.idx.toNat).gen ≠ r.gen := by simpa using hc26
      refine wp_seq_k fun K27 hK27 => ?_
      refine nd_start (l := [0]) rfl ?_
      refine nd_batch tabOk tabZ_ok [(0, {})] [3, 0, 1, 4] (T' := [(3, .pointer (some ⟨b2, 0, none⟩)), (0, .pointer (some ⟨bo, 0, none⟩)), (1, .agg #[.int .u16 r.idx, .int .u32 r.gen]), (4, .int .u8 0)]) (φ := True) (rest := []) h25 (by kernel_rfl) rfl trivial fun a28 h29 => ?_
      clear h25
      refine nd_done ?_
      refine hK27 _ _ ?_
      clear hK27
      refine wp_ret ?_
      try simp only [Exit.then, Exit.inBlock]
      try rw [if_pos trivial]
      exact s_ret tabOk tabZ_ok h29 [(.tmp 4, {})] (vs := [.int .u8 0]) (φ := True) rfl (by kernel_rfl) trivial ⟨(by unfold typeOfP; rw [if_neg hb12f, if_pos hc26f]; rfl), h29.frame⟩
    ·
      have hc26f : (E r.idx.toNat).gen = r.gen := by simpa using hc26
      refine wp_skip ?_
      refine hK10 _ _ ?_
      clear hK10
      refine wp_seq_k fun K30 hK30 => ?_
      refine dr_start (KB := [bo, b2]) (Bi := [[0, 1], [0, 1], [0, 1], [0, 1], [0, 1], [0, 1], [0, 1], [0, 1], [0, 1]]) mixed h25 fun w31 h32 => ?_
      clear h25
      refine dr_batch tabOk tabZ_ok (by repeat (first | with_reducible exact PF.body | with_reducible apply PF.inB | with_reducible apply PF.next)) [(0, {}), (1, {}), (2, {k := 1, p := 1}), (3, {}), (4, {}), (5, {}), (6, {}), (7, {k := 0, m := 1, vs := [.int .u8 ((E r.idx.toNat).ty)], p := 0}), (8, {})] [3, 0, 1, 4] (T' := [(3, .pointer (some ⟨b2, 0, none⟩)), (0, .pointer (some ⟨bo, 0, none⟩)), (1, .agg #[.int .u16 r.idx, .int .u32 r.gen]), (4, .int .u8 ((E r.idx.toNat).ty))]) (φ := (b2 = b2 ∧ Nat.ble (0 + 1) 2 = true) ∧ (0 ≤ r.idx ∧ r.idx < 257) ∧ (bo = bo ∧ cellsAre (stC E) (0 + (r.idx.toNat * 4)) [.int .u8 ((E r.idx.toNat).ty)]) ∧ True) (fuel := 0) h32 (by kernel_rfl) rfl (by kernel_rfl) (by kernel_rfl) ⟨trivial, trivial, rfl, trivial, trivial, trivial, trivial, rfl, trivial, trivial⟩ ⟨⟨rfl, rfl⟩, ⟨by omega, by omega⟩, ⟨rfl, (st_read (i := r.idx.toNat) (k := 0) (by omega) (by omega) ⟨rfl, trivial⟩)⟩, trivial⟩ fun a34 h35 => ?_
      clear h32
      refine wpAnyK_done (by kernel_rfl) ?_ _
      refine hK30 _ _ ?_
      clear hK30
      refine wp_ret ?_
      try simp only [Exit.then, Exit.inBlock]
      try rw [if_pos trivial]
      exact s_ret tabOk tabZ_ok h35 [(.tmp 4, {})] (vs := [.int .u8 ((E r.idx.toNat).ty)]) (φ := True) rfl (by kernel_rfl) trivial ⟨(by unfold typeOfP; rw [if_neg hb12f, if_neg (fun hq => hq hc26f)]; rfl), h35.frame⟩

theorem refAt_ok (bo : Nat) (E : Nat → Ent) (i : Int) (hi : 0 ≤ i ∧ i < 257) (w : World) (hb : w.heap[bo]? = some (Blk.obj ⟨stC E, 131, false⟩)) :
    Calls Tryd.prog 41 #[.pointer (some ⟨bo, 0, none⟩), .int .i64 i] w fun e w' => e = .returned (.agg #[.int .u16 (refAtP E i).idx, .int .u32 (refAtP E i).gen]) ∧ Fr [] w w' := by
  refine enter0 (n := 15) (K := []) (T := [(0, .pointer (some ⟨bo, 0, none⟩)), (1, .int .i64 i)]) (L := [(bo, ⟨stC E, 131, true⟩)]) (args := [.pointer (some ⟨bo, 0, none⟩), .int .i64 i]) Tryd.func41 rfl rfl rfl rfl (kcons hb knil) (by simp) (kcons (by intro hq; cases hq) knil) ?_
  intro a h
  refine wp_seq_k fun K1 hK1 => ?_
  refine nd_start (l := [0]) rfl ?_
  refine nd_op ?_
  refine op_new tabOk (cells := [.int .u16 0, .int .u32 0]) (ty := 39) (ln := none) (L1 := fun b2 => [(bo, ⟨stC E, 131, true⟩), (b2, ⟨[.int .u16 0, .int .u32 0], 39, false⟩)]) h rfl rfl rfl rfl (by kernel_rfl) (fun _ => rfl) fun b2 w3 a4 h5 hf6 hn7 => ?_
  clear h
  refine nd_done ?_
  refine hK1 _ _ ?_
  clear hK1
  refine wp_seq_k fun K8 hK8 => ?_
  refine nd_start (l := [0, 1, 2, 3, 4, 5, 6, 7, 8, 9, 10]) rfl ?_
  refine nd_batch tabOk tabZ_ok [(0, {}), (1, {m := 1}), (2, {}), (3, {}), (4, {}), (5, {}), (6, {}), (7, {}), (8, {k := 0, m := 1, vs := [.int .u32 ((E i.toNat).gen)]}), (9, {})] [4, 0, 1, 14] (T' := [(4, .pointer (some ⟨b2, 0, none⟩)), (0, .pointer (some ⟨bo, 0, none⟩)), (1, .int .i64 i), (14, .agg #[.int .u16 (IntKind.wrap .u16 i), .int .u32 ((E i.toNat).gen)])]) (φ := (0 ≤ i ∧ i < 257) ∧ (bo = bo ∧ cellsAre (stC E) (0 + (i.toNat * 4) + 1) [.int .u32 ((E i.toNat).gen)]) ∧ True) (rest := [10]) h5 (by kernel_rfl) rfl ⟨⟨by omega, by omega⟩, ⟨rfl, (st_read (i := i.toNat) (k := 1) (by omega) (by omega) ⟨rfl, trivial⟩)⟩, trivial⟩ fun a9 h10 => ?_
  clear h5
  refine nd_op ?_
  refine op_store tabOk {k := 1} (L' := [(bo, ⟨stC E, 131, true⟩), (b2, ⟨[.int .u16 (IntKind.wrap .u16 i), .int .u32 ((E i.toNat).gen)], 39, false⟩)]) (φ := b2 = b2 ∧ Nat.ble (0 + 2) 2 = true) h10 rfl rfl rfl (by kernel_rfl) ⟨rfl, rfl⟩ fun w11 h12 => ?_
  clear h10
  refine nd_done ?_
  refine hK8 _ _ ?_
  clear hK8
  refine wp_ret ?_
  try simp only [Exit.then, Exit.inBlock]
  try rw [if_pos trivial]
  exact s_ret tabOk tabZ_ok h12 [(.cell 4 39, {k := 1})] (vs := [.agg #[.int .u16 (IntKind.wrap .u16 i), .int .u32 ((E i.toNat).gen)]]) (φ := (b2 = b2 ∧ Nat.ble (0 + 2) 2 = true) ∧ True) rfl (by kernel_rfl) ⟨⟨rfl, rfl⟩, trivial⟩ ⟨rfl, h12.frame⟩

theorem ref_ok (kb bo bc : Nat) (S : KP) (E : Nat → Ent) (t : Int) (ht : lk t) (w : World) (hb : w.heap[kb]? = some (Blk.obj ⟨kC bo bc S, 90, false⟩)) (hs : w.heap[bo]? = some (Blk.obj ⟨stC E, 131, false⟩)) (hne : kb ≠ bo) :
    Calls Tryd.prog 51 #[.pointer (some ⟨kb, 0, none⟩), .int .i16 t] w fun e w' => e = .returned (.agg #[.int .u16 (refP E t).idx, .int .u32 (refP E t).gen]) ∧ Fr [] w w' := by
  refine enter0 (n := 15) (K := []) (T := [(0, .pointer (some ⟨kb, 0, none⟩)), (1, .int .i16 t)]) (L := [(kb, ⟨kC bo bc S, 90, true⟩), (bo, ⟨stC E, 131, true⟩)]) (args := [.pointer (some ⟨kb, 0, none⟩), .int .i16 t]) Tryd.func51 rfl rfl rfl rfl (kcons hb (kcons hs knil)) (by simp; exact hne) (kcons (by intro hq; cases hq) (kcons (by intro hq; cases hq) knil)) ?_
  intro a h
  refine wp_seq_k fun K1 hK1 => ?_
  refine nd_start (l := [0]) rfl ?_
  refine nd_op ?_
  refine op_new tabOk (cells := [.int .u16 0, .int .u32 0]) (ty := 39) (ln := none) (L1 := fun b2 => [(kb, ⟨kC bo bc S, 90, true⟩), (bo, ⟨stC E, 131, true⟩), (b2, ⟨[.int .u16 0, .int .u32 0], 39, false⟩)]) h rfl rfl rfl rfl (by kernel_rfl) (fun _ => rfl) fun b2 w3 a4 h5 hf6 hn7 => ?_
  clear h
  refine nd_done ?_
  refine hK1 _ _ ?_
  clear hK1
  refine wp_seq_k fun K8 hK8 => ?_
  refine wp_seq_k fun K9 hK9 => ?_
  refine nd_start (l := [0, 1]) rfl ?_
  refine nd_batch tabOk tabZ_ok [(0, {}), (1, {})] [4, 0, 1, 6] (T' := [(4, .pointer (some ⟨b2, 0, none⟩)), (0, .pointer (some ⟨kb, 0, none⟩)), (1, .int .i16 t), (6, .bool (t == -1))]) (φ := True) (rest := []) h5 (by kernel_rfl) rfl trivial fun a10 h11 => ?_
  clear h5
  refine nd_done ?_
  refine hK9 _ _ ?_
  clear hK9
  refine c_split h11 (b := (t == -1)) rfl (fun hc12 => ?_) (fun hc12 => ?_)
  ·
    have hc12f : t = -1 := by simpa using hc12
    refine wp_seq_k fun K13 hK13 => ?_
    refine nd_start (l := [0, 1]) rfl ?_
    refine nd_batch tabOk tabZ_ok [(0, {})] [4, 0, 1, 7] (T' := [(4, .pointer (some ⟨b2, 0, none⟩)), (0, .pointer (some ⟨kb, 0, none⟩)), (1, .int .i16 t), (7, .agg #[.int .u16 0, .int .u32 0])]) (φ := True) (rest := [1]) h11 (by kernel_rfl) rfl trivial fun a14 h15 => ?_
    clear h11
    refine nd_op ?_
    refine op_store tabOk {k := 2} (L' := [(kb, ⟨kC bo bc S, 90, true⟩), (bo, ⟨stC E, 131, true⟩), (b2, ⟨[.int .u16 0, .int .u32 0], 39, false⟩)]) (φ := b2 = b2 ∧ Nat.ble (0 + 2) 2 = true) h15 rfl rfl rfl (by kernel_rfl) ⟨rfl, rfl⟩ fun w16 h17 => ?_
    clear h15
    refine nd_done ?_
    refine hK13 _ _ ?_
    clear hK13
    refine wp_ret ?_
    try simp only [Exit.then, Exit.inBlock]
    try rw [if_pos trivial]
    exact s_ret tabOk tabZ_ok h17 [(.cell 4 39, {k := 2})] (vs := [.agg #[.int .u16 0, .int .u32 0]]) (φ := (b2 = b2 ∧ Nat.ble (0 + 2) 2 = true) ∧ True) rfl (by kernel_rfl) ⟨⟨rfl, rfl⟩, trivial⟩ ⟨(by unfold refP; rw [if_pos hc12f]; rfl), h17.frame⟩
  ·
    have hc12f : t ≠ -1 := by simpa using hc12
    have ht2 := lk_nat ht hc12f
    refine wp_skip ?_
    refine hK8 _ _ ?_
    clear hK8
    refine wp_seq_k fun K18 hK18 => ?_
    refine nd_start (l := [0, 1, 2, 3, 4, 5, 6, 7]) rfl ?_
    refine nd_batch tabOk tabZ_ok [(0, {}), (1, {}), (2, {}), (3, {k := 0, m := 1, vs := [.pointer (some ⟨bo, 0, none⟩)]}), (4, {}), (5, {})] [4, 0, 1, 11, 13] (T' := [(4, .pointer (some ⟨b2, 0, none⟩)), (0, .pointer (some ⟨kb, 0, none⟩)), (1, .int .i16 t), (11, .pointer (some ⟨bo, 0, none⟩)), (13, .int .i64 t)]) (φ := (kb = kb ∧ cellsAre (kC bo bc S) 0 [.pointer (some ⟨bo, 0, none⟩)]) ∧ inR .i64 t ∧ True) (rest := [6, 7]) h11 (by kernel_rfl) rfl ⟨⟨rfl, k_objs⟩, ⟨by omega, by omega⟩, trivial⟩ fun a19 h20 => ?_
    clear h11
    refine nd_op ?_
    refine op_call h20 rfl rfl rfl (callOk Tryd.func41 (by decide) rfl) (args := [.pointer (some ⟨bo, 0, none⟩), .int .i64 t]) rfl (refAt_ok bo E t ⟨by omega, by omega⟩ _ (h20.kn (k := 1) (blk := ⟨stC E, 131, true⟩) rfl)) ?_
    rintro _ w21 ⟨rfl, hf23⟩
    refine ⟨_, rfl, ?_⟩
    have h22 := (h20.grow hf23).put (d := some 14) (v := .agg #[.int .u16 ((refAtP E t).idx), .int .u32 ((refAtP E t).gen)]) (T' := [(14, .agg #[.int .u16 ((refAtP E t).idx), .int .u32 ((refAtP E t).gen)]), (4, .pointer (some ⟨b2, 0, none⟩)), (0, .pointer (some ⟨kb, 0, none⟩)), (1, .int .i16 t), (11, .pointer (some ⟨bo, 0, none⟩)), (13, .int .i64 t)]) rfl
    clear h20
    refine nd_op ?_
    refine op_store tabOk {k := 2} (L' := [(kb, ⟨kC bo bc S, 90, true⟩), (bo, ⟨stC E, 131, true⟩), (b2, ⟨[.int .u16 ((refAtP E t).idx), .int .u32 ((refAtP E t).gen)], 39, false⟩)]) (φ := b2 = b2 ∧ Nat.ble (0 + 2) 2 = true) h22 rfl rfl rfl (by kernel_rfl) ⟨rfl, rfl⟩ fun w24 h25 => ?_
    clear h22
    refine nd_done ?_
    refine hK18 _ _ ?_
    clear hK18
    refine wp_ret ?_
    try simp only [Exit.then, Exit.inBlock]
    try rw [if_pos trivial]
    exact s_ret tabOk tabZ_ok h25 [(.cell 4 39, {k := 2})] (vs := [.agg #[.int .u16 ((refAtP E t).idx), .int .u32 ((refAtP E t).gen)]]) (φ := (b2 = b2 ∧ Nat.ble (0 + 2) 2 = true) ∧ True) rfl (by kernel_rfl) ⟨⟨rfl, rfl⟩, trivial⟩ ⟨(by unfold refP; rw [if_neg hc12f]; rfl), h25.frame⟩

theorem cell_ok (bo bc : Nat) (nd : Nat → Nat) (pr : Nat → Bool) (i j : Nat) (hi : i < 256) (hj : j < 16) (hp : pr i = true) (w : World) (hb : w.heap[bc]? = some (Blk.obj ⟨spC bo nd pr, 142, false⟩)) :
    Calls Tryd.prog 69 #[.pointer (some ⟨bc, 0, none⟩), .int .i64 ((i * 16 + j : Nat) : Int)] w fun e w' => e = .returned (.pointer (some ⟨nd i, j * 6, none⟩)) ∧ Fr [] w w' := by
  refine enter0 (n := 16) (K := []) (T := [(0, .pointer (some ⟨bc, 0, none⟩)), (1, .int .i64 ((i * 16 + j : Nat) : Int))]) (L := [(bc, ⟨spC bo nd pr, 142, true⟩)]) (args := [.pointer (some ⟨bc, 0, none⟩), .int .i64 ((i * 16 + j : Nat) : Int)]) Tryd.func69 rfl rfl rfl rfl (kcons hb knil) (by simp) (kcons (by intro hq; cases hq) knil) ?_
  intro a h
  refine wp_seq_k fun K1 hK1 => ?_
  refine nd_start (l := [0]) rfl ?_
  refine nd_batch tabOk tabZ_ok [(0, {})] [0, 1, 4] (T' := [(0, .pointer (some ⟨bc, 0, none⟩)), (1, .int .i64 ((i * 16 + j : Nat) : Int)), (4, .pointer none)]) (φ := True) (rest := []) h (by kernel_rfl) rfl trivial fun a2 h3 => ?_
  clear h
  refine nd_done ?_
  refine hK1 _ _ ?_
  clear hK1
  refine wp_seq_k fun K4 hK4 => ?_
  refine nd_start (l := [0, 1, 2, 3, 4, 5, 6, 7, 8, 9, 10, 11]) rfl ?_
  refine nd_batch tabOk tabZ_ok [(0, {}), (1, {}), (2, {}), (3, {}), (4, {}), (5, {}), (6, {k := 0, m := 1, vs := [.pointer (some ⟨(nd i), 0, none⟩)]}), (7, {}), (8, {}), (9, {}), (10, {}), (11, {})] [0, 1, 4] (T' := [(0, .pointer (some ⟨bc, 0, none⟩)), (1, .int .i64 ((i * 16 + j : Nat) : Int)), (4, .pointer (some ⟨(nd i), 0 + (((((i * 16 + j : Nat) : Int) % 16).toNat) * 6), none⟩))]) (φ := (0 ≤ ((i * 16 + j : Nat) : Int) ∧ 0 < (16 : Int) ∧ inR .i64 (((i * 16 + j : Nat) : Int) / 16)) ∧ (0 ≤ (((i * 16 + j : Nat) : Int) / 16) ∧ (((i * 16 + j : Nat) : Int) / 16) < 256) ∧ (bc = bc ∧ cellsAre (spC bo nd pr) (1 + (((((i * 16 + j : Nat) : Int) / 16).toNat) * 1)) [.pointer (some ⟨(nd i), 0, none⟩)]) ∧ (0 ≤ ((i * 16 + j : Nat) : Int) ∧ 0 < (16 : Int)) ∧ (0 ≤ (((i * 16 + j : Nat) : Int) % 16) ∧ (((i * 16 + j : Nat) : Int) % 16) < 16) ∧ True) (rest := []) h3 (by kernel_rfl) rfl ⟨⟨by omega, by decide, by omega, by omega⟩, ⟨by omega, by omega⟩, ⟨rfl, (sp_read (i := i) hi (by omega) hp)⟩, ⟨by omega, by omega⟩, ⟨by omega, by omega⟩, trivial⟩ fun a5 h6 => ?_
  clear h3
  refine nd_done ?_
  refine hK4 _ _ ?_
  clear hK4
  refine wp_ret ?_
  try simp only [Exit.then, Exit.inBlock]
  try rw [if_pos trivial]
  exact s_ret tabOk tabZ_ok h6 [(.tmp 4, {})] (vs := [.pointer (some ⟨(nd i), 0 + (((((i * 16 + j : Nat) : Int) % 16).toNat) * 6), none⟩)]) (φ := True) rfl (by kernel_rfl) trivial ⟨(by show Ending.returned (.pointer (some ⟨nd i, _, none⟩)) = _; rw [show 0 + (((((i * 16 + j : Nat) : Int) % 16).toNat) * 6) = j * 6 by omega]), h6.frame⟩

theorem at_ok (bo bc : Nat) (nd : Nat → Nat) (pr : Nat → Bool) (cel : Nat → Cel) (i j : Nat) (hi : i < 256) (hj : j < 16) (hp : pr i = true) (w : World) (hb : w.heap[bc]? = some (Blk.obj ⟨spC bo nd pr, 142, false⟩)) (hn : w.heap[nd i]? = some (Blk.obj ⟨ndC cel i, 146, false⟩)) (hne : bc ≠ nd i) :
    Calls Tryd.prog 62 #[.pointer (some ⟨bc, 0, none⟩), .int .i64 ((i * 16 + j : Nat) : Int)] w fun e w' => e = .returned (.agg (cpC (cel (i * 16 + j)).cap).toArray) ∧ Fr [] w w' := by
  refine enter0 (n := 11) (K := []) (T := [(0, .pointer (some ⟨bc, 0, none⟩)), (1, .int .i64 ((i * 16 + j : Nat) : Int))]) (L := [(bc, ⟨spC bo nd pr, 142, true⟩), ((nd i), ⟨ndC cel i, 146, true⟩)]) (args := [.pointer (some ⟨bc, 0, none⟩), .int .i64 ((i * 16 + j : Nat) : Int)]) Tryd.func62 rfl rfl rfl rfl (kcons hb (kcons hn knil)) (by simp; exact hne) (kcons (by intro hq; cases hq) (kcons (by intro hq; cases hq) knil)) ?_
  intro a h
  refine wp_seq_k fun K1 hK1 => ?_
  refine nd_start (l := [0]) rfl ?_
  refine nd_op ?_
  refine op_new tabOk (cells := [.int .u8 0, .int .u16 0, .int .u32 0, .int .u8 0, .int .u64 0]) (ty := 49) (ln := none) (L1 := fun b2 => [(bc, ⟨spC bo nd pr, 142, true⟩), ((nd i), ⟨ndC cel i, 146, true⟩), (b2, ⟨[.int .u8 0, .int .u16 0, .int .u32 0, .int .u8 0, .int .u64 0], 49, false⟩)]) h rfl rfl rfl rfl (by kernel_rfl) (fun _ => rfl) fun b2 w3 a4 h5 hf6 hn7 => ?_
  clear h
  refine nd_done ?_
  refine hK1 _ _ ?_
  clear hK1
  refine wp_seq_k fun K8 hK8 => ?_
  refine nd_start (l := [0, 1, 2, 3, 4, 5, 6]) rfl ?_
  refine nd_batch tabOk tabZ_ok [(0, {}), (1, {})] [4, 0, 1, 5, 6] (T' := [(4, .pointer (some ⟨b2, 0, none⟩)), (0, .pointer (some ⟨bc, 0, none⟩)), (1, .int .i64 ((i * 16 + j : Nat) : Int)), (5, .pointer (some ⟨bc, 0, none⟩)), (6, .int .i64 ((i * 16 + j : Nat) : Int))]) (φ := True) (rest := [2, 3, 4, 5, 6]) h5 (by kernel_rfl) rfl trivial fun a9 h10 => ?_
  clear h5
  refine nd_op ?_
  refine op_call h10 rfl rfl rfl (callOk Tryd.func69 (by decide) rfl) (args := [.pointer (some ⟨bc, 0, none⟩), .int .i64 ((i * 16 + j : Nat) : Int)]) rfl (cell_ok bo bc nd pr i j hi hj hp _ (h10.kn (k := 0) (blk := ⟨spC bo nd pr, 142, true⟩) rfl)) ?_
  rintro _ w11 ⟨rfl, hf13⟩
  refine ⟨_, rfl, ?_⟩
  have h12 := (h10.grow hf13).put (d := some 7) (v := .pointer (some ⟨(nd i), (j * 6), none⟩)) (T' := [(7, .pointer (some ⟨(nd i), (j * 6), none⟩)), (4, .pointer (some ⟨b2, 0, none⟩)), (0, .pointer (some ⟨bc, 0, none⟩)), (1, .int .i64 ((i * 16 + j : Nat) : Int)), (5, .pointer (some ⟨bc, 0, none⟩)), (6, .int .i64 ((i * 16 + j : Nat) : Int))]) rfl
  clear h10
  refine nd_batch tabOk tabZ_ok [(3, {}), (4, {}), (5, {k := 1, m := 1, vs := [.int .u8 ((cel (i * 16 + j)).cap.ty), .int .u16 ((cel (i * 16 + j)).cap.obj.idx), .int .u32 ((cel (i * 16 + j)).cap.obj.gen), .int .u8 ((cel (i * 16 + j)).cap.rights), .int .u64 ((cel (i * 16 + j)).cap.badge)]})] [4, 0, 1, 10] (T' := [(4, .pointer (some ⟨b2, 0, none⟩)), (0, .pointer (some ⟨bc, 0, none⟩)), (1, .int .i64 ((i * 16 + j : Nat) : Int)), (10, .agg #[.int .u8 ((cel (i * 16 + j)).cap.ty), .int .u16 ((cel (i * 16 + j)).cap.obj.idx), .int .u32 ((cel (i * 16 + j)).cap.obj.gen), .int .u8 ((cel (i * 16 + j)).cap.rights), .int .u64 ((cel (i * 16 + j)).cap.badge)])]) (φ := ((nd i) = (nd i) ∧ cellsAre (ndC cel i) (j * 6) [.int .u8 ((cel (i * 16 + j)).cap.ty), .int .u16 ((cel (i * 16 + j)).cap.obj.idx), .int .u32 ((cel (i * 16 + j)).cap.obj.gen), .int .u8 ((cel (i * 16 + j)).cap.rights), .int .u64 ((cel (i * 16 + j)).cap.badge)]) ∧ True) (rest := [6]) h12 (by kernel_rfl) rfl ⟨⟨rfl, (nd_read (j := j) (k := 0) hj (by omega) ⟨rfl, rfl, rfl, rfl, rfl, trivial⟩)⟩, trivial⟩ fun a14 h15 => ?_
  clear h12
  refine nd_op ?_
  refine op_store tabOk {k := 2} (L' := [(bc, ⟨spC bo nd pr, 142, true⟩), ((nd i), ⟨ndC cel i, 146, true⟩), (b2, ⟨[.int .u8 ((cel (i * 16 + j)).cap.ty), .int .u16 ((cel (i * 16 + j)).cap.obj.idx), .int .u32 ((cel (i * 16 + j)).cap.obj.gen), .int .u8 ((cel (i * 16 + j)).cap.rights), .int .u64 ((cel (i * 16 + j)).cap.badge)], 49, false⟩)]) (φ := b2 = b2 ∧ Nat.ble (0 + 5) 5 = true) h15 rfl rfl rfl (by kernel_rfl) ⟨rfl, rfl⟩ fun w16 h17 => ?_
  clear h15
  refine nd_done ?_
  refine hK8 _ _ ?_
  clear hK8
  refine wp_ret ?_
  try simp only [Exit.then, Exit.inBlock]
  try rw [if_pos trivial]
  exact s_ret tabOk tabZ_ok h17 [(.cell 4 49, {k := 2})] (vs := [.agg #[.int .u8 ((cel (i * 16 + j)).cap.ty), .int .u16 ((cel (i * 16 + j)).cap.obj.idx), .int .u32 ((cel (i * 16 + j)).cap.obj.gen), .int .u8 ((cel (i * 16 + j)).cap.rights), .int .u64 ((cel (i * 16 + j)).cap.badge)]]) (φ := (b2 = b2 ∧ Nat.ble (0 + 5) 5 = true) ∧ True) rfl (by kernel_rfl) ⟨⟨rfl, rfl⟩, trivial⟩ ⟨rfl, h17.frame⟩

theorem parent_ok (bo bc : Nat) (nd : Nat → Nat) (pr : Nat → Bool) (cel : Nat → Cel) (i j : Nat) (hi : i < 256) (hj : j < 16) (hp : pr i = true) (w : World) (hb : w.heap[bc]? = some (Blk.obj ⟨spC bo nd pr, 142, false⟩)) (hn : w.heap[nd i]? = some (Blk.obj ⟨ndC cel i, 146, false⟩)) (hne : bc ≠ nd i) :
    Calls Tryd.prog 115 #[.pointer (some ⟨bc, 0, none⟩), .int .i64 ((i * 16 + j : Nat) : Int)] w fun e w' => e = .returned (.int .i64 (cel (i * 16 + j)).parent) ∧ Fr [] w w' := by
  refine enter0 (n := 11) (K := []) (T := [(0, .pointer (some ⟨bc, 0, none⟩)), (1, .int .i64 ((i * 16 + j : Nat) : Int))]) (L := [(bc, ⟨spC bo nd pr, 142, true⟩), ((nd i), ⟨ndC cel i, 146, true⟩)]) (args := [.pointer (some ⟨bc, 0, none⟩), .int .i64 ((i * 16 + j : Nat) : Int)]) Tryd.func115 rfl rfl rfl rfl (kcons hb (kcons hn knil)) (by simp; exact hne) (kcons (by intro hq; cases hq) (kcons (by intro hq; cases hq) knil)) ?_
  intro a h
  refine wp_seq_k fun K1 hK1 => ?_
  refine nd_start (l := [0]) rfl ?_
  refine nd_batch tabOk tabZ_ok [(0, {})] [0, 1, 4] (T' := [(0, .pointer (some ⟨bc, 0, none⟩)), (1, .int .i64 ((i * 16 + j : Nat) : Int)), (4, .int .i64 0)]) (φ := True) (rest := []) h (by kernel_rfl) rfl trivial fun a2 h3 => ?_
  clear h
  refine nd_done ?_
  refine hK1 _ _ ?_
  clear hK1
  refine wp_seq_k fun K4 hK4 => ?_
  refine nd_start (l := [0, 1, 2, 3, 4, 5, 6]) rfl ?_
  refine nd_batch tabOk tabZ_ok [(0, {}), (1, {})] [0, 1, 4, 5, 6] (T' := [(0, .pointer (some ⟨bc, 0, none⟩)), (1, .int .i64 ((i * 16 + j : Nat) : Int)), (4, .int .i64 0), (5, .pointer (some ⟨bc, 0, none⟩)), (6, .int .i64 ((i * 16 + j : Nat) : Int))]) (φ := True) (rest := [2, 3, 4, 5, 6]) h3 (by kernel_rfl) rfl trivial fun a5 h6 => ?_
  clear h3
  refine nd_op ?_
  refine op_call h6 rfl rfl rfl (callOk Tryd.func69 (by decide) rfl) (args := [.pointer (some ⟨bc, 0, none⟩), .int .i64 ((i * 16 + j : Nat) : Int)]) rfl (cell_ok bo bc nd pr i j hi hj hp _ (h6.kn (k := 0) (blk := ⟨spC bo nd pr, 142, true⟩) rfl)) ?_
  rintro _ w7 ⟨rfl, hf9⟩
  refine ⟨_, rfl, ?_⟩
  have h8 := (h6.grow hf9).put (d := some 7) (v := .pointer (some ⟨(nd i), (j * 6), none⟩)) (T' := [(7, .pointer (some ⟨(nd i), (j * 6), none⟩)), (0, .pointer (some ⟨bc, 0, none⟩)), (1, .int .i64 ((i * 16 + j : Nat) : Int)), (4, .int .i64 0), (5, .pointer (some ⟨bc, 0, none⟩)), (6, .int .i64 ((i * 16 + j : Nat) : Int))]) rfl
  clear h6
  refine nd_batch tabOk tabZ_ok [(3, {}), (4, {}), (5, {k := 1, m := 1, vs := [.int .i64 ((cel (i * 16 + j)).parent)]}), (6, {})] [0, 1, 4] (T' := [(0, .pointer (some ⟨bc, 0, none⟩)), (1, .int .i64 ((i * 16 + j : Nat) : Int)), (4, .int .i64 ((cel (i * 16 + j)).parent))]) (φ := ((nd i) = (nd i) ∧ cellsAre (ndC cel i) ((j * 6) + 5) [.int .i64 ((cel (i * 16 + j)).parent)]) ∧ True) (rest := []) h8 (by kernel_rfl) rfl ⟨⟨rfl, (nd_read (j := j) (k := 5) hj (by omega) ⟨rfl, trivial⟩)⟩, trivial⟩ fun a10 h11 => ?_
  clear h8
  refine nd_done ?_
  refine hK4 _ _ ?_
  clear hK4
  refine wp_ret ?_
  try simp only [Exit.then, Exit.inBlock]
  try rw [if_pos trivial]
  exact s_ret tabOk tabZ_ok h11 [(.tmp 4, {})] (vs := [.int .i64 ((cel (i * 16 + j)).parent)]) (φ := True) rfl (by kernel_rfl) trivial ⟨rfl, h11.frame⟩

theorem lookup_ok (bo bc : Nat) (nd : Nat → Nat) (pr : Nat → Bool) (E : Nat → Ent) (r : Rf) (ad : Int) (hr : 0 ≤ r.idx ∧ r.idx < 65536) (ha : 0 ≤ ad ∧ ad < 4294967296) (w : World) (hb : w.heap[bc]? = some (Blk.obj ⟨spC bo nd pr, 142, false⟩)) (hs : w.heap[bo]? = some (Blk.obj ⟨stC E, 131, false⟩)) (hne : bc ≠ bo) :
    Calls Tryd.prog 39 #[.pointer (some ⟨bc, 0, none⟩), .agg #[.int .u16 r.idx, .int .u32 r.gen], .int .u32 ad] w fun e w' => e = .returned (.tuple #[.int .i64 (lookP E r ad).1, .int .u8 (lookP E r ad).2]) ∧ Fr [] w w' := by
  refine enter0 (n := 26) (K := []) (T := [(0, .pointer (some ⟨bc, 0, none⟩)), (1, .agg #[.int .u16 r.idx, .int .u32 r.gen]), (2, .int .u32 ad)]) (L := [(bc, ⟨spC bo nd pr, 142, true⟩), (bo, ⟨stC E, 131, true⟩)]) (args := [.pointer (some ⟨bc, 0, none⟩), .agg #[.int .u16 r.idx, .int .u32 r.gen], .int .u32 ad]) Tryd.func39 rfl rfl rfl rfl (kcons hb (kcons hs knil)) (by simp; exact hne) (kcons (by intro hq; cases hq) (kcons (by intro hq; cases hq) knil)) ?_
  intro a h
  refine wp_seq_k fun K1 hK1 => ?_
  refine nd_start (l := [0, 1, 2]) rfl ?_
  refine nd_op ?_
  refine op_new tabOk (cells := [.int .u16 r.idx, .int .u32 r.gen]) (ty := 39) (ln := none) (L1 := fun b2 => [(bc, ⟨spC bo nd pr, 142, true⟩), (bo, ⟨stC E, 131, true⟩), (b2, ⟨[.int .u16 r.idx, .int .u32 r.gen], 39, false⟩)]) h rfl rfl rfl rfl (by kernel_rfl) (fun _ => rfl) fun b2 w3 a4 h5 hf6 hn7 => ?_
  clear h
  refine nd_batch tabOk tabZ_ok [(1, {}), (2, {})] [4, 0, 1, 2, 6, 7] (T' := [(4, .pointer (some ⟨b2, 0, none⟩)), (0, .pointer (some ⟨bc, 0, none⟩)), (1, .agg #[.int .u16 r.idx, .int .u32 r.gen]), (2, .int .u32 ad), (6, .int .i64 0), (7, .int .u8 0)]) (φ := True) (rest := []) h5 (by kernel_rfl) rfl trivial fun a8 h9 => ?_
  clear h5
  refine nd_done ?_
  refine hK1 _ _ ?_
  clear hK1
  refine wp_seq_k fun K10 hK10 => ?_
  refine wp_seq_k fun K11 hK11 => ?_
  rcases Bool.eq_false_or_eq_true (((typeOfP E r) != 2)) with hb12 | hb12
  ·
    have hb12f : (typeOfP E r) ≠ 2 := by simpa using hb12
    refine dr_start (KB := [bc, bo, b2]) (Bi := [[0, 1, 2], [0, 1, 2], [0, 1, 2], [0, 1, 2], [0, 1, 2], [], [0, 1, 2], [0, 1, 2], [0, 1, 2], [0, 1, 2], [0, 1, 2]]) mixed h9 fun w13 h14 => ?_
    clear h9
    refine dr_batch tabOk tabZ_ok (by repeat (first | with_reducible exact PF.body | with_reducible apply PF.inB | with_reducible apply PF.next)) [(0, {}), (1, {}), (2, {}), (3, {k := 0, m := 1, vs := [.pointer (some ⟨bo, 0, none⟩)], p := 0}), (4, {k := 2, p := 2})] [4, 0, 1, 2, 6, 7, 11, 12] (T' := [(4, .pointer (some ⟨b2, 0, none⟩)), (0, .pointer (some ⟨bc, 0, none⟩)), (1, .agg #[.int .u16 r.idx, .int .u32 r.gen]), (2, .int .u32 ad), (6, .int .i64 0), (7, .int .u8 0), (11, .pointer (some ⟨bo, 0, none⟩)), (12, .agg #[.int .u16 r.idx, .int .u32 r.gen])]) (φ := (bc = bc ∧ cellsAre (spC bo nd pr) 0 [.pointer (some ⟨bo, 0, none⟩)]) ∧ (b2 = b2 ∧ Nat.ble (0 + 2) 2 = true) ∧ True) (fuel := 6) h14 (by kernel_rfl) rfl (by kernel_rfl) (by kernel_rfl) ⟨trivial, trivial, trivial, rfl, rfl, trivial⟩ ⟨⟨rfl, sp_store⟩, ⟨rfl, rfl⟩, trivial⟩ fun a16 h17 => ?_
    clear h14
    refine wpAnyK_one (i := 5) (fuel := 5) (by kernel_rfl) ?_
    refine op_call h17 rfl rfl rfl (callOk Tryd.func53 (by decide) rfl) (args := [.pointer (some ⟨bo, 0, none⟩), .agg #[.int .u16 r.idx, .int .u32 r.gen]]) rfl (typeOf_ok bo E r ⟨by omega, by omega⟩ _ (h17.kn (k := 1) (blk := ⟨stC E, 131, true⟩) rfl)) ?_
    rintro _ w18 ⟨rfl, hf20⟩
    refine ⟨_, rfl, ?_⟩
    have h19 := (h17.grow hf20).put (d := some 13) (v := .int .u8 (typeOfP E r)) (T' := [(13, .int .u8 (typeOfP E r)), (4, .pointer (some ⟨b2, 0, none⟩)), (0, .pointer (some ⟨bc, 0, none⟩)), (1, .agg #[.int .u16 r.idx, .int .u32 r.gen]), (2, .int .u32 ad), (6, .int .i64 0), (7, .int .u8 0), (11, .pointer (some ⟨bo, 0, none⟩)), (12, .agg #[.int .u16 r.idx, .int .u32 r.gen])]) rfl
    refine ⟨keepNil, ?_⟩
    clear h17
    refine dr_batch tabOk tabZ_ok (by repeat (first | with_reducible exact PF.body | with_reducible apply PF.inB | with_reducible apply PF.next)) [(6, {f := 2}), (7, {}), (8, {}), (9, {}), (10, {})] [4, 0, 1, 2, 6, 7, 18] (T' := [(4, .pointer (some ⟨b2, 0, none⟩)), (0, .pointer (some ⟨bc, 0, none⟩)), (1, .agg #[.int .u16 r.idx, .int .u32 r.gen]), (2, .int .u32 ad), (6, .int .i64 0), (7, .int .u8 0), (18, .bool true)]) (φ := (((typeOfP E r) != 2)) = true ∧ True) (fuel := 0) h19 (by kernel_rfl) rfl (by kernel_rfl) (by kernel_rfl) ⟨trivial, trivial, trivial, trivial, trivial, trivial⟩ ⟨hb12, trivial⟩ fun a21 h22 => ?_
    clear h19
    refine wpAnyK_done (by kernel_rfl) ?_ _
    refine hK11 _ _ ?_
    clear hK11
    refine c_true h22 rfl ?_
    refine wp_seq_k fun K23 hK23 => ?_
    refine nd_start (l := [0, 1]) rfl ?_
    refine nd_batch tabOk tabZ_ok [(0, {}), (1, {})] [4, 0, 1, 2, 6, 7] (T' := [(4, .pointer (some ⟨b2, 0, none⟩)), (0, .pointer (some ⟨bc, 0, none⟩)), (1, .agg #[.int .u16 r.idx, .int .u32 r.gen]), (2, .int .u32 ad), (6, .int .i64 (-1)), (7, .int .u8 2)]) (φ := True) (rest := []) h22 (by kernel_rfl) rfl trivial fun a24 h25 => ?_
    clear h22
    refine nd_done ?_
    refine hK23 _ _ ?_
    clear hK23
    refine wp_ret ?_
    try simp only [Exit.then, Exit.inBlock]
    try rw [if_pos trivial]
    exact s_ret tabOk tabZ_ok h25 [(.tmp 6, {}), (.tmp 7, {})] (vs := [.int .i64 (-1), .int .u8 2]) (φ := True) rfl (by kernel_rfl) trivial ⟨(by unfold lookP; rw [if_pos (.inl hb12f)]; rfl), h25.frame⟩
  ·
    have hb12f : (typeOfP E r) = 2 := by simpa using hb12
    refine dr_start (KB := [bc, bo, b2]) (Bi := [[0, 1, 2], [0, 1, 2], [0, 1, 2], [0, 1, 2], [0, 1, 2], [], [0, 1, 2], [0, 1, 2], [0, 1, 2], [0, 1, 2], [0, 1, 2]]) mixed h9 fun w26 h27 => ?_
    clear h9
    refine dr_batch tabOk tabZ_ok (by repeat (first | with_reducible exact PF.body | with_reducible apply PF.inB | with_reducible apply PF.next)) [(0, {}), (1, {}), (2, {}), (3, {k := 0, m := 1, vs := [.pointer (some ⟨bo, 0, none⟩)], p := 0}), (4, {k := 2, p := 2})] [4, 0, 1, 2, 6, 7, 11, 12] (T' := [(4, .pointer (some ⟨b2, 0, none⟩)), (0, .pointer (some ⟨bc, 0, none⟩)), (1, .agg #[.int .u16 r.idx, .int .u32 r.gen]), (2, .int .u32 ad), (6, .int .i64 0), (7, .int .u8 0), (11, .pointer (some ⟨bo, 0, none⟩)), (12, .agg #[.int .u16 r.idx, .int .u32 r.gen])]) (φ := (bc = bc ∧ cellsAre (spC bo nd pr) 0 [.pointer (some ⟨bo, 0, none⟩)]) ∧ (b2 = b2 ∧ Nat.ble (0 + 2) 2 = true) ∧ True) (fuel := 6) h27 (by kernel_rfl) rfl (by kernel_rfl) (by kernel_rfl) ⟨trivial, trivial, trivial, rfl, rfl, trivial⟩ ⟨⟨rfl, sp_store⟩, ⟨rfl, rfl⟩, trivial⟩ fun a29 h30 => ?_
    clear h27
    refine wpAnyK_one (i := 5) (fuel := 5) (by kernel_rfl) ?_
    refine op_call h30 rfl rfl rfl (callOk Tryd.func53 (by decide) rfl) (args := [.pointer (some ⟨bo, 0, none⟩), .agg #[.int .u16 r.idx, .int .u32 r.gen]]) rfl (typeOf_ok bo E r ⟨by omega, by omega⟩ _ (h30.kn (k := 1) (blk := ⟨stC E, 131, true⟩) rfl)) ?_
    rintro _ w31 ⟨rfl, hf33⟩
    refine ⟨_, rfl, ?_⟩
    have h32 := (h30.grow hf33).put (d := some 13) (v := .int .u8 (typeOfP E r)) (T' := [(13, .int .u8 (typeOfP E r)), (4, .pointer (some ⟨b2, 0, none⟩)), (0, .pointer (some ⟨bc, 0, none⟩)), (1, .agg #[.int .u16 r.idx, .int .u32 r.gen]), (2, .int .u32 ad), (6, .int .i64 0), (7, .int .u8 0), (11, .pointer (some ⟨bo, 0, none⟩)), (12, .agg #[.int .u16 r.idx, .int .u32 r.gen])]) rfl
    refine ⟨keepNil, ?_⟩
    clear h30
    refine dr_batch tabOk tabZ_ok (by repeat (first | with_reducible exact PF.body | with_reducible apply PF.inB | with_reducible apply PF.next)) [(6, {f := 1}), (7, {}), (8, {}), (9, {}), (10, {})] [4, 0, 1, 2, 6, 7, 18] (T' := [(4, .pointer (some ⟨b2, 0, none⟩)), (0, .pointer (some ⟨bc, 0, none⟩)), (1, .agg #[.int .u16 r.idx, .int .u32 r.gen]), (2, .int .u32 ad), (6, .int .i64 0), (7, .int .u8 0), (18, .bool (decide (ad ≥ 16)))]) (φ := (((typeOfP E r) != 2)) = false ∧ True) (fuel := 0) h32 (by kernel_rfl) rfl (by kernel_rfl) (by kernel_rfl) ⟨trivial, trivial, trivial, trivial, trivial, trivial⟩ ⟨hb12, trivial⟩ fun a34 h35 => ?_
    clear h32
    refine wpAnyK_done (by kernel_rfl) ?_ _
    refine hK11 _ _ ?_
    clear hK11
    refine c_split h35 (b := decide (ad ≥ 16)) rfl (fun hc36 => ?_) (fun hc36 => ?_)
    ·
      have hc36f : ad ≥ 16 := by simpa using hc36
      refine wp_seq_k fun K37 hK37 => ?_
      refine nd_start (l := [0, 1]) rfl ?_
      refine nd_batch tabOk tabZ_ok [(0, {}), (1, {})] [4, 0, 1, 2, 6, 7] (T' := [(4, .pointer (some ⟨b2, 0, none⟩)), (0, .pointer (some ⟨bc, 0, none⟩)), (1, .agg #[.int .u16 r.idx, .int .u32 r.gen]), (2, .int .u32 ad), (6, .int .i64 (-1)), (7, .int .u8 2)]) (φ := True) (rest := []) h35 (by kernel_rfl) rfl trivial fun a38 h39 => ?_
      clear h35
      refine nd_done ?_
      refine hK37 _ _ ?_
      clear hK37
      refine wp_ret ?_
      try simp only [Exit.then, Exit.inBlock]
      try rw [if_pos trivial]
      exact s_ret tabOk tabZ_ok h39 [(.tmp 6, {}), (.tmp 7, {})] (vs := [.int .i64 (-1), .int .u8 2]) (φ := True) rfl (by kernel_rfl) trivial ⟨(by unfold lookP; rw [if_pos (.inr hc36f)]; rfl), h39.frame⟩
    ·
      have hc36f : ¬ ad ≥ 16 := by simpa using hc36
      refine wp_skip ?_
      refine hK10 _ _ ?_
      clear hK10
      refine wp_seq_k fun K40 hK40 => ?_
      refine nd_start (l := [0, 1, 2, 3, 4, 5, 6, 7, 8]) rfl ?_
      refine nd_batch tabOk tabZ_ok [(0, {}), (1, {k := 2}), (2, {}), (3, {}), (4, {}), (5, {}), (6, {}), (7, {}), (8, {})] [4, 0, 1, 2, 6, 7] (T' := [(4, .pointer (some ⟨b2, 0, none⟩)), (0, .pointer (some ⟨bc, 0, none⟩)), (1, .agg #[.int .u16 r.idx, .int .u32 r.gen]), (2, .int .u32 ad), (6, .int .i64 ((r.idx * 16) + ad)), (7, .int .u8 0)]) (φ := (b2 = b2 ∧ Nat.ble (0 + 1) 2 = true) ∧ inR .i64 r.idx ∧ inR .i64 (r.idx * 16) ∧ inR .i64 ad ∧ inR .i64 ((r.idx * 16) + ad) ∧ True) (rest := []) h35 (by kernel_rfl) rfl ⟨⟨rfl, rfl⟩, ⟨by omega, by omega⟩, ⟨by omega, by omega⟩, ⟨by omega, by omega⟩, ⟨by omega, by omega⟩, trivial⟩ fun a41 h42 => ?_
      clear h35
      refine nd_done ?_
      refine hK40 _ _ ?_
      clear hK40
      refine wp_ret ?_
      try simp only [Exit.then, Exit.inBlock]
      try rw [if_pos trivial]
      exact s_ret tabOk tabZ_ok h42 [(.tmp 6, {}), (.tmp 7, {})] (vs := [.int .i64 ((r.idx * 16) + ad), .int .u8 0]) (φ := True) rfl (by kernel_rfl) trivial ⟨(by unfold lookP; rw [if_neg (fun hq => hq.elim (fun h => h hb12f) hc36f)]; rfl), h42.frame⟩

end Go.Proofs.Qxb6500918aDoor
