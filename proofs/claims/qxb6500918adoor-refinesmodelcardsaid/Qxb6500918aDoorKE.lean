/-
  SizeOf, Retype. (Made by program: a symbolic walk that prints its steps.)
-/
import Derived.Test.Qxb6500918aDoorKD
import Derived.Test.Qxb6500918aDoorKr
namespace Go.Proofs.Qxb6500918aDoor
open Go.Sx Go.Kn
set_option maxRecDepth 100000
set_option maxHeartbeats 4000000
set_option linter.unusedVariables false
set_option linter.unusedSimpArgs false

theorem sizeOf_ok (t : Int) (w : World) : Calls Tryd.prog 68 #[.int .u8 t] w fun e w' => e = .returned (.int .u64 (sizeP t)) ∧ Fr [] w w' := by
  refine enter0 (n := 12) (K := []) (T := [(0, .int .u8 t)]) (L := []) (args := [.int .u8 t]) Tryd.func68 rfl rfl rfl rfl knil (by simp) knil ?_
  intro a h
  refine wp_seq_k fun K1 hK1 => ?_
  refine nd_start (l := [0]) rfl ?_
  refine nd_batch tabOk tabZ_ok [(0, {})] [0, 2] (T' := [(0, .int .u8 t), (2, .int .u64 0)]) (φ := True) (rest := []) h (by kernel_rfl) rfl trivial fun a2 h3 => ?_
  clear h
  refine nd_done ?_
  refine hK1 _ _ ?_
  clear hK1
  refine wp_seq_k fun K4 hK4 => ?_
  refine wp_seq_k fun K5 hK5 => ?_
  refine nd_start (l := [0]) rfl ?_
  refine nd_batch tabOk tabZ_ok [(0, {})] [0, 2, 3] (T' := [(0, .int .u8 t), (2, .int .u64 0), (3, .int .u8 t)]) (φ := True) (rest := []) h3 (by kernel_rfl) rfl trivial fun a6 h7 => ?_
  clear h3
  refine nd_done ?_
  refine hK5 _ _ ?_
  clear hK5
  refine wp_block ?_
  refine wp_seq_k fun K8 hK8 => ?_
  refine nd_start (l := [0, 1]) rfl ?_
  refine nd_batch tabOk tabZ_ok [(0, {}), (1, {})] [0, 2, 3, 4] (T' := [(0, .int .u8 t), (2, .int .u64 0), (3, .int .u8 t), (4, .bool (t == 2))]) (φ := True) (rest := []) h7 (by kernel_rfl) rfl trivial fun a9 h10 => ?_
  clear h7
  refine nd_done ?_
  refine hK8 _ _ ?_
  clear hK8
  refine c_split h10 (b := (t == 2)) rfl (fun hc11 => ?_) (fun hc11 => ?_)
  ·
    have hc11f : t = 2 := by simpa using hc11
    refine wp_seq_k fun K12 hK12 => ?_
    refine nd_start (l := [0]) rfl ?_
    refine nd_batch tabOk tabZ_ok [(0, {})] [0, 3, 2] (T' := [(0, .int .u8 t), (3, .int .u8 t), (2, .int .u64 512)]) (φ := True) (rest := []) h10 (by kernel_rfl) rfl trivial fun a13 h14 => ?_
    clear h10
    refine nd_done ?_
    refine hK12 _ _ ?_
    clear hK12
    refine wp_ret ?_
    try simp only [Exit.then, Exit.inBlock]
    try rw [if_pos trivial]
    exact s_ret tabOk tabZ_ok h14 [(.tmp 2, {})] (vs := [.int .u64 512]) (φ := True) rfl (by kernel_rfl) trivial ⟨(by rw [show sizeP t = 512 from (by unfold sizeP; (try dsimp only); (first | rw [if_pos hc11f] | rw [if_pos (fun hz => hz hc11f)]))]; rfl), h14.frame⟩
  ·
    have hc11f : t ≠ 2 := by simpa using hc11
    refine wp_seq_k fun K15 hK15 => ?_
    refine nd_start (l := [0, 1]) rfl ?_
    refine nd_batch tabOk tabZ_ok [(0, {}), (1, {})] [0, 2, 3, 6] (T' := [(0, .int .u8 t), (2, .int .u64 0), (3, .int .u8 t), (6, .bool (t == 3))]) (φ := True) (rest := []) h10 (by kernel_rfl) rfl trivial fun a16 h17 => ?_
    clear h10
    refine nd_done ?_
    refine hK15 _ _ ?_
    clear hK15
    refine c_split h17 (b := (t == 3)) rfl (fun hc18 => ?_) (fun hc18 => ?_)
    ·
      have hc18f : t = 3 := by simpa using hc18
      refine wp_seq_k fun K19 hK19 => ?_
      refine nd_start (l := [0]) rfl ?_
      refine nd_batch tabOk tabZ_ok [(0, {})] [0, 3, 2] (T' := [(0, .int .u8 t), (3, .int .u8 t), (2, .int .u64 1024)]) (φ := True) (rest := []) h17 (by kernel_rfl) rfl trivial fun a20 h21 => ?_
      clear h17
      refine nd_done ?_
      refine hK19 _ _ ?_
      clear hK19
      refine wp_ret ?_
      try simp only [Exit.then, Exit.inBlock]
      try rw [if_pos trivial]
      exact s_ret tabOk tabZ_ok h21 [(.tmp 2, {})] (vs := [.int .u64 1024]) (φ := True) rfl (by kernel_rfl) trivial ⟨(by rw [show sizeP t = 1024 from (by unfold sizeP; (try dsimp only); (first | rw [if_neg hc11f] | rw [if_neg (fun hz => hz hc11f)]); (first | rw [if_pos hc18f] | rw [if_pos (fun hz => hz hc18f)]))]; rfl), h21.frame⟩
    ·
      have hc18f : t ≠ 3 := by simpa using hc18
      refine wp_seq_k fun K22 hK22 => ?_
      refine nd_start (l := [0, 1]) rfl ?_
      refine nd_batch tabOk tabZ_ok [(0, {}), (1, {})] [0, 2, 3, 8] (T' := [(0, .int .u8 t), (2, .int .u64 0), (3, .int .u8 t), (8, .bool (t == 4))]) (φ := True) (rest := []) h17 (by kernel_rfl) rfl trivial fun a23 h24 => ?_
      clear h17
      refine nd_done ?_
      refine hK22 _ _ ?_
      clear hK22
      refine c_split h24 (b := (t == 4)) rfl (fun hc25 => ?_) (fun hc25 => ?_)
      ·
        have hc25f : t = 4 := by simpa using hc25
        refine wp_seq_k fun K26 hK26 => ?_
        refine nd_start (l := [0]) rfl ?_
        refine nd_batch tabOk tabZ_ok [(0, {})] [0, 3, 2] (T' := [(0, .int .u8 t), (3, .int .u8 t), (2, .int .u64 16)]) (φ := True) (rest := []) h24 (by kernel_rfl) rfl trivial fun a27 h28 => ?_
        clear h24
        refine nd_done ?_
        refine hK26 _ _ ?_
        clear hK26
        refine wp_ret ?_
        try simp only [Exit.then, Exit.inBlock]
        try rw [if_pos trivial]
        exact s_ret tabOk tabZ_ok h28 [(.tmp 2, {})] (vs := [.int .u64 16]) (φ := True) rfl (by kernel_rfl) trivial ⟨(by rw [show sizeP t = 16 from (by unfold sizeP; (try dsimp only); (first | rw [if_neg hc11f] | rw [if_neg (fun hz => hz hc11f)]); (first | rw [if_neg hc18f] | rw [if_neg (fun hz => hz hc18f)]); (first | rw [if_pos hc25f] | rw [if_pos (fun hz => hz hc25f)]))]; rfl), h28.frame⟩
      ·
        have hc25f : t ≠ 4 := by simpa using hc25
        refine wp_seq_k fun K29 hK29 => ?_
        refine nd_start (l := [0, 1]) rfl ?_
        refine nd_batch tabOk tabZ_ok [(0, {}), (1, {})] [0, 2, 3, 10] (T' := [(0, .int .u8 t), (2, .int .u64 0), (3, .int .u8 t), (10, .bool (t == 5))]) (φ := True) (rest := []) h24 (by kernel_rfl) rfl trivial fun a30 h31 => ?_
        clear h24
        refine nd_done ?_
        refine hK29 _ _ ?_
        clear hK29
        refine c_split h31 (b := (t == 5)) rfl (fun hc32 => ?_) (fun hc32 => ?_)
        ·
          have hc32f : t = 5 := by simpa using hc32
          refine wp_seq_k fun K33 hK33 => ?_
          refine nd_start (l := [0]) rfl ?_
          refine nd_batch tabOk tabZ_ok [(0, {})] [0, 3, 2] (T' := [(0, .int .u8 t), (3, .int .u8 t), (2, .int .u64 32)]) (φ := True) (rest := []) h31 (by kernel_rfl) rfl trivial fun a34 h35 => ?_
          clear h31
          refine nd_done ?_
          refine hK33 _ _ ?_
          clear hK33
          refine wp_ret ?_
          try simp only [Exit.then, Exit.inBlock]
          try rw [if_pos trivial]
          exact s_ret tabOk tabZ_ok h35 [(.tmp 2, {})] (vs := [.int .u64 32]) (φ := True) rfl (by kernel_rfl) trivial ⟨(by rw [show sizeP t = 32 from (by unfold sizeP; (try dsimp only); (first | rw [if_neg hc11f] | rw [if_neg (fun hz => hz hc11f)]); (first | rw [if_neg hc18f] | rw [if_neg (fun hz => hz hc18f)]); (first | rw [if_neg hc25f] | rw [if_neg (fun hz => hz hc25f)]); (first | rw [if_pos hc32f] | rw [if_pos (fun hz => hz hc32f)]))]; rfl), h35.frame⟩
        ·
          have hc32f : t ≠ 5 := by simpa using hc32
          refine wp_skip ?_
          refine hK4 _ _ ?_
          clear hK4
          refine wp_seq_k fun K36 hK36 => ?_
          refine nd_start (l := [0]) rfl ?_
          refine nd_batch tabOk tabZ_ok [(0, {})] [0, 3, 2] (T' := [(0, .int .u8 t), (3, .int .u8 t), (2, .int .u64 0)]) (φ := True) (rest := []) h31 (by kernel_rfl) rfl trivial fun a37 h38 => ?_
          clear h31
          refine nd_done ?_
          refine hK36 _ _ ?_
          clear hK36
          refine wp_ret ?_
          try simp only [Exit.then, Exit.inBlock]
          try rw [if_pos trivial]
          exact s_ret tabOk tabZ_ok h38 [(.tmp 2, {})] (vs := [.int .u64 0]) (φ := True) rfl (by kernel_rfl) trivial ⟨(by rw [show sizeP t = 0 from (by unfold sizeP; (try dsimp only); (first | rw [if_neg hc11f] | rw [if_neg (fun hz => hz hc11f)]); (first | rw [if_neg hc18f] | rw [if_neg (fun hz => hz hc18f)]); (first | rw [if_neg hc25f] | rw [if_neg (fun hz => hz hc25f)]); (first | rw [if_neg hc32f] | rw [if_neg (fun hz => hz hc32f)]))]; rfl), h38.frame⟩

theorem retype0_ok (bo : Nat) (E : Nat → Ent) (t : Int) (ht : 2 ≤ t ∧ t < 6) (w : World) (hb : w.heap[bo]? = some (Blk.obj ⟨stC E, 131, false⟩)) :
    Calls Tryd.prog 37 #[.pointer (some ⟨bo, 0, none⟩), .int .u8 t] w fun e w' => e = .returned (.tuple #[.agg #[.int .u16 (retype0 E t).2.1.idx, .int .u32 (retype0 E t).2.1.gen], .int .u8 (retype0 E t).2.2]) ∧ w'.heap[bo]? = some (Blk.obj ⟨stC (retype0 E t).1, 131, false⟩) ∧ Fr [bo] w w' := by
  have hz : 16 ≤ sizeP t ∧ sizeP t ≤ 1024 := by unfold sizeP; split; exact ⟨by decide, by decide⟩; split; exact ⟨by decide, by decide⟩; split; exact ⟨by decide, by decide⟩; split; exact ⟨by decide, by decide⟩; omega
  refine enter0 (n := 101) (K := [bo]) (T := [(0, .pointer (some ⟨bo, 0, none⟩)), (1, .int .u8 t)]) (L := [(bo, ⟨stC E, 131, false⟩)]) (args := [.pointer (some ⟨bo, 0, none⟩), .int .u8 t]) Tryd.func37 rfl rfl rfl rfl (kcons hb knil) (by simp) (kcons (by simp) knil) ?_
  intro a h
  refine wp_seq_k fun K1 hK1 => ?_
  refine nd_start (l := [0, 1]) rfl ?_
  refine nd_op ?_
  refine op_new tabOk (cells := [.int .u16 0, .int .u32 0]) (ty := 39) (ln := none) (L1 := fun b2 => [(bo, ⟨stC E, 131, false⟩), (b2, ⟨[.int .u16 0, .int .u32 0], 39, false⟩)]) h rfl rfl rfl rfl (by kernel_rfl) (fun _ => rfl) fun b2 w3 a4 h5 hf6 hn7 => ?_
  clear h
  refine nd_batch tabOk tabZ_ok [(1, {})] [4, 0, 1, 5] (T' := [(4, .pointer (some ⟨b2, 0, none⟩)), (0, .pointer (some ⟨bo, 0, none⟩)), (1, .int .u8 t), (5, .int .u8 0)]) (φ := True) (rest := []) h5 (by kernel_rfl) rfl trivial fun a8 h9 => ?_
  clear h5
  refine nd_done ?_
  refine hK1 _ _ ?_
  clear hK1
  refine wp_seq_k fun K10 hK10 => ?_
  refine nd_start (l := [0, 1, 2]) rfl ?_
  refine nd_batch tabOk tabZ_ok [(0, {})] [4, 0, 1, 5, 10] (T' := [(4, .pointer (some ⟨b2, 0, none⟩)), (0, .pointer (some ⟨bo, 0, none⟩)), (1, .int .u8 t), (5, .int .u8 0), (10, .int .u8 t)]) (φ := True) (rest := [1, 2]) h9 (by kernel_rfl) rfl trivial fun a11 h12 => ?_
  clear h9
  refine nd_op ?_
  refine op_call h12 rfl rfl rfl (callOk Tryd.func68 (by decide) rfl) (args := [.int .u8 t]) rfl (sizeOf_ok t _) ?_
  rintro _ w13 ⟨rfl, hf15⟩
  refine ⟨_, rfl, ?_⟩
  have h14 := (h12.grow hf15).put (d := some 11) (v := .int .u64 (sizeP t)) (T' := [(11, .int .u64 (sizeP t)), (4, .pointer (some ⟨b2, 0, none⟩)), (0, .pointer (some ⟨bo, 0, none⟩)), (1, .int .u8 t), (5, .int .u8 0), (10, .int .u8 t)]) rfl
  clear h12
  refine nd_batch tabOk tabZ_ok [(2, {})] [4, 0, 1, 5, 6] (T' := [(4, .pointer (some ⟨b2, 0, none⟩)), (0, .pointer (some ⟨bo, 0, none⟩)), (1, .int .u8 t), (5, .int .u8 0), (6, .int .u64 (sizeP t))]) (φ := True) (rest := []) h14 (by kernel_rfl) rfl trivial fun a16 h17 => ?_
  clear h14
  refine nd_done ?_
  refine hK10 _ _ ?_
  clear hK10
  refine wp_seq_k fun K18 hK18 => ?_
  refine nd_start (l := [0]) rfl ?_
  refine nd_batch tabOk tabZ_ok [(0, {})] [4, 0, 1, 5, 6, 7] (T' := [(4, .pointer (some ⟨b2, 0, none⟩)), (0, .pointer (some ⟨bo, 0, none⟩)), (1, .int .u8 t), (5, .int .u8 0), (6, .int .u64 (sizeP t)), (7, .int .u64 0)]) (φ := True) (rest := []) h17 (by kernel_rfl) rfl trivial fun a19 h20 => ?_
  clear h17
  refine nd_done ?_
  refine hK18 _ _ ?_
  clear hK18
  refine wp_seq_k fun K21 hK21 => ?_
  refine nd_start (l := [0]) rfl ?_
  refine nd_batch tabOk tabZ_ok [(0, {})] [4, 0, 1, 5, 6, 7, 8] (T' := [(4, .pointer (some ⟨b2, 0, none⟩)), (0, .pointer (some ⟨bo, 0, none⟩)), (1, .int .u8 t), (5, .int .u8 0), (6, .int .u64 (sizeP t)), (7, .int .u64 0), (8, .int .i64 (-1))]) (φ := True) (rest := []) h20 (by kernel_rfl) rfl trivial fun a22 h23 => ?_
  clear h20
  refine nd_done ?_
  refine hK21 _ _ ?_
  clear hK21
  refine wp_seq_k fun K24 hK24 => ?_
  refine wp_seq_k fun K25 hK25 => ?_
  refine nd_start (l := [0]) rfl ?_
  refine nd_batch tabOk tabZ_ok [(0, {})] [4, 0, 1, 5, 6, 7, 8, 9] (T' := [(4, .pointer (some ⟨b2, 0, none⟩)), (0, .pointer (some ⟨bo, 0, none⟩)), (1, .int .u8 t), (5, .int .u8 0), (6, .int .u64 (sizeP t)), (7, .int .u64 0), (8, .int .i64 (-1)), (9, .int .i64 255)]) (φ := True) (rest := []) h23 (by kernel_rfl) rfl trivial fun a26 h27 => ?_
  clear h23
  refine nd_done ?_
  refine hK25 _ _ ?_
  clear hK25
  refine wp_block ?_
  refine wp_loop_ghost (fun g ga gw => ∃ (a' s' i : Int), ((g : Int) = i + 1) ∧ (i ≤ 255) ∧ (scanP E (i + 1).toNat a' s' = scanP E 256 0 (-1)) ∧ (-1 ≤ s' ∧ s' < 256) ∧ (0 ≤ a') ∧ St ⟨101, [bo], w, fun _ => True, []⟩ [(4, .pointer (some ⟨b2, 0, none⟩)), (0, .pointer (some ⟨bo, 0, none⟩)), (1, .int .u8 t), (5, .int .u8 0), (6, .int .u64 (sizeP t)), (7, .int .u64 a'), (8, .int .i64 s'), (9, .int .i64 i)] [(bo, ⟨stC E, 131, false⟩), (b2, ⟨[.int .u16 0, .int .u32 0], 39, false⟩)] ga gw) 256 ⟨0, (-1), 255, by decide, by decide, rfl, ⟨by decide, by decide⟩, by decide, (h27.slotsMono (restr_spec (keep := [4, 0, 1, 5, 6, 7, 8, 9]) rfl))⟩ ?_
  clear h27
  rintro g a28 w29 ⟨a', s', i, hi31, hi32, hi33, hi34, hi35, h30⟩
  have hig := hi31
  have hii := hi32
  have hsc := hi33
  have hs1 := hi34
  have ha0 := hi35
  refine wp_seq_k fun K36 hK36 => ?_
  refine wp_seq_k fun K37 hK37 => ?_
  refine nd_start (l := [0, 1]) rfl ?_
  refine nd_batch tabOk tabZ_ok [(0, {}), (1, {})] [4, 0, 1, 5, 6, 7, 8, 9, 13] (T' := [(4, .pointer (some ⟨b2, 0, none⟩)), (0, .pointer (some ⟨bo, 0, none⟩)), (1, .int .u8 t), (5, .int .u8 0), (6, .int .u64 (sizeP t)), (7, .int .u64 a'), (8, .int .i64 s'), (9, .int .i64 i), (13, .bool (decide (i ≥ 0)))]) (φ := True) (rest := []) h30 (by kernel_rfl) rfl trivial fun a38 h39 => ?_
  clear h30
  refine nd_done ?_
  refine hK37 _ _ ?_
  clear hK37
  refine c_split h39 (b := decide (i ≥ 0)) rfl (fun hc40 => ?_) (fun hc40 => ?_)
  ·
    have hc40f : i ≥ 0 := by simpa using hc40
    rw [scan_step (by omega)] at hsc
    refine wp_skip ?_
    refine hK36 _ _ ?_
    clear hK36
    refine wp_seq_k fun K41 hK41 => ?_
    refine wp_block ?_
    refine wp_seq_k fun K42 hK42 => ?_
    refine nd_start (l := [0, 1, 2, 3, 4, 5, 6, 7]) rfl ?_
    refine nd_batch tabOk tabZ_ok [(0, {}), (1, {}), (2, {}), (3, {}), (4, {}), (5, {}), (6, {k := 0, m := 1, vs := [.int .u8 ((E i.toNat).ty)]}), (7, {})] [4, 0, 1, 5, 6, 7, 8, 9, 23] (T' := [(4, .pointer (some ⟨b2, 0, none⟩)), (0, .pointer (some ⟨bo, 0, none⟩)), (1, .int .u8 t), (5, .int .u8 0), (6, .int .u64 (sizeP t)), (7, .int .u64 a'), (8, .int .i64 s'), (9, .int .i64 i), (23, .bool ((E i.toNat).ty == 0))]) (φ := (0 ≤ i ∧ i < 257) ∧ (bo = bo ∧ cellsAre (stC E) (0 + (i.toNat * 4)) [.int .u8 ((E i.toNat).ty)]) ∧ True) (rest := []) h39 (by kernel_rfl) rfl ⟨⟨by omega, by omega⟩, ⟨rfl, (st_read (i := i.toNat) (k := 0) (by omega) (by omega) ⟨rfl, trivial⟩)⟩, trivial⟩ fun a43 h44 => ?_
    clear h39
    refine nd_done ?_
    refine hK42 _ _ ?_
    clear hK42
    refine c_split h44 (b := ((E i.toNat).ty == 0)) rfl (fun hc45 => ?_) (fun hc45 => ?_)
    ·
      have hc45f : (E i.toNat).ty = 0 := by simpa using hc45
      rw [if_pos hc45f] at hsc
      refine nd_start (l := [0, 1]) rfl ?_
      refine nd_batch tabOk tabZ_ok [(0, {}), (1, {})] [4, 0, 1, 5, 6, 7, 9, 8] (T' := [(4, .pointer (some ⟨b2, 0, none⟩)), (0, .pointer (some ⟨bo, 0, none⟩)), (1, .int .u8 t), (5, .int .u8 0), (6, .int .u64 (sizeP t)), (7, .int .u64 a'), (9, .int .i64 i), (8, .int .i64 i)]) (φ := True) (rest := []) h44 (by kernel_rfl) rfl trivial fun a46 h47 => ?_
      clear h44
      refine nd_done ?_
      refine hK41 _ _ ?_
      clear hK41
      refine nd_start (l := [0, 1, 2]) rfl ?_
      refine nd_batch tabOk tabZ_ok [(0, {}), (1, {}), (2, {})] [4, 0, 1, 5, 6, 7, 8, 9] (T' := [(4, .pointer (some ⟨b2, 0, none⟩)), (0, .pointer (some ⟨bo, 0, none⟩)), (1, .int .u8 t), (5, .int .u8 0), (6, .int .u64 (sizeP t)), (7, .int .u64 a'), (8, .int .i64 i), (9, .int .i64 (i - 1))]) (φ := inR .i64 (i - 1) ∧ True) (rest := []) h47 (by kernel_rfl) rfl ⟨⟨by omega, by omega⟩, trivial⟩ fun a48 h49 => ?_
      clear h47
      refine nd_done ?_
      exact ⟨(g - 1), by omega, a', i, (i - 1), by omega, by omega, (by rw [show (i - 1 + 1).toNat = i.toNat by omega]; exact hsc), ⟨by omega, by omega⟩, (by first | exact ha0 | exact (wrap64 _).1), (h49.slotsMono (restr_spec (keep := [4, 0, 1, 5, 6, 7, 8, 9]) rfl))⟩
    ·
      have hc45f : (E i.toNat).ty ≠ 0 := by simpa using hc45
      rw [if_neg hc45f] at hsc
      refine wp_seq_k fun K50 hK50 => ?_
      refine dr_start (KB := [bo, b2]) (Bi := [[0, 1], [0, 1], [0, 1], [0, 1], [0, 1], [0, 1], [0, 1], [0, 1], [0, 1], [0, 1], [0, 1], [0, 1], [0, 1], [0, 1], [0, 1], [0, 1], [0, 1]]) mixed h44 fun w51 h52 => ?_
      clear h44
      refine dr_batch tabOk tabZ_ok (by repeat (first | with_reducible exact PF.body | with_reducible apply PF.inB | with_reducible apply PF.next)) [(0, {}), (1, {}), (2, {}), (3, {}), (4, {}), (5, {}), (6, {k := 0, m := 1, vs := [.int .u64 ((E i.toNat).base)], p := 0}), (7, {}), (8, {}), (9, {}), (10, {}), (11, {}), (12, {}), (13, {k := 0, m := 1, vs := [.int .u64 ((E i.toNat).size)], p := 0}), (14, {m := 1}), (15, {}), (16, {})] [4, 0, 1, 5, 6, 7, 8, 9, 41] (T' := [(4, .pointer (some ⟨b2, 0, none⟩)), (0, .pointer (some ⟨bo, 0, none⟩)), (1, .int .u8 t), (5, .int .u8 0), (6, .int .u64 (sizeP t)), (7, .int .u64 a'), (8, .int .i64 s'), (9, .int .i64 i), (41, .bool (decide (IntKind.wrap .u64 (((E i.toNat).base) + ((E i.toNat).size)) > a')))]) (φ := (0 ≤ i ∧ i < 257) ∧ (bo = bo ∧ cellsAre (stC E) (0 + (i.toNat * 4) + 2) [.int .u64 ((E i.toNat).base)]) ∧ (0 ≤ i ∧ i < 257) ∧ (bo = bo ∧ cellsAre (stC E) (0 + (i.toNat * 4) + 3) [.int .u64 ((E i.toNat).size)]) ∧ True) (fuel := 0) h52 (by kernel_rfl) rfl (by kernel_rfl) (by kernel_rfl) ⟨trivial, trivial, trivial, trivial, trivial, trivial, rfl, trivial, trivial, trivial, trivial, trivial, trivial, rfl, trivial, trivial, trivial, trivial⟩ ⟨⟨by omega, by omega⟩, ⟨rfl, (st_read (i := i.toNat) (k := 2) (by omega) (by omega) ⟨rfl, trivial⟩)⟩, ⟨by omega, by omega⟩, ⟨rfl, (st_read (i := i.toNat) (k := 3) (by omega) (by omega) ⟨rfl, trivial⟩)⟩, trivial⟩ fun a54 h55 => ?_
      clear h52
      refine wpAnyK_done (by kernel_rfl) ?_ _
      refine hK50 _ _ ?_
      clear hK50
      refine c_split h55 (b := decide (IntKind.wrap .u64 (((E i.toNat).base) + ((E i.toNat).size)) > a')) rfl (fun hc56 => ?_) (fun hc56 => ?_)
      ·
        have hc56f : IntKind.wrap .u64 (((E i.toNat).base) + ((E i.toNat).size)) > a' := by simpa using hc56
        rw [if_pos hc56f] at hsc
        refine dr_start (KB := [bo, b2]) (Bi := [[0, 1], [0, 1], [0, 1], [0, 1], [0, 1], [0, 1], [0, 1], [0, 1], [0, 1], [0, 1], [0, 1], [0, 1], [0, 1], [0, 1], [0, 1], [0, 1]]) mixed h55 fun w57 h58 => ?_
        clear h55
        refine dr_batch tabOk tabZ_ok (by repeat (first | with_reducible exact PF.body | with_reducible apply PF.inB | with_reducible apply PF.next)) [(0, {}), (1, {}), (2, {}), (3, {}), (4, {}), (5, {}), (6, {k := 0, m := 1, vs := [.int .u64 ((E i.toNat).base)], p := 0}), (7, {}), (8, {}), (9, {}), (10, {}), (11, {}), (12, {}), (13, {k := 0, m := 1, vs := [.int .u64 ((E i.toNat).size)], p := 0}), (14, {m := 1}), (15, {})] [4, 0, 1, 5, 6, 8, 9, 7] (T' := [(4, .pointer (some ⟨b2, 0, none⟩)), (0, .pointer (some ⟨bo, 0, none⟩)), (1, .int .u8 t), (5, .int .u8 0), (6, .int .u64 (sizeP t)), (8, .int .i64 s'), (9, .int .i64 i), (7, .int .u64 (IntKind.wrap .u64 (((E i.toNat).base) + ((E i.toNat).size))))]) (φ := (0 ≤ i ∧ i < 257) ∧ (bo = bo ∧ cellsAre (stC E) (0 + (i.toNat * 4) + 2) [.int .u64 ((E i.toNat).base)]) ∧ (0 ≤ i ∧ i < 257) ∧ (bo = bo ∧ cellsAre (stC E) (0 + (i.toNat * 4) + 3) [.int .u64 ((E i.toNat).size)]) ∧ True) (fuel := 0) h58 (by kernel_rfl) rfl (by kernel_rfl) (by kernel_rfl) ⟨trivial, trivial, trivial, trivial, trivial, trivial, rfl, trivial, trivial, trivial, trivial, trivial, trivial, rfl, trivial, trivial, trivial⟩ ⟨⟨by omega, by omega⟩, ⟨rfl, (st_read (i := i.toNat) (k := 2) (by omega) (by omega) ⟨rfl, trivial⟩)⟩, ⟨by omega, by omega⟩, ⟨rfl, (st_read (i := i.toNat) (k := 3) (by omega) (by omega) ⟨rfl, trivial⟩)⟩, trivial⟩ fun a60 h61 => ?_
        clear h58
        refine wpAnyK_done (by kernel_rfl) ?_ _
        refine hK41 _ _ ?_
        clear hK41
        refine nd_start (l := [0, 1, 2]) rfl ?_
        refine nd_batch tabOk tabZ_ok [(0, {}), (1, {}), (2, {})] [4, 0, 1, 5, 6, 8, 7, 9] (T' := [(4, .pointer (some ⟨b2, 0, none⟩)), (0, .pointer (some ⟨bo, 0, none⟩)), (1, .int .u8 t), (5, .int .u8 0), (6, .int .u64 (sizeP t)), (8, .int .i64 s'), (7, .int .u64 (IntKind.wrap .u64 (((E i.toNat).base) + ((E i.toNat).size)))), (9, .int .i64 (i - 1))]) (φ := inR .i64 (i - 1) ∧ True) (rest := []) h61 (by kernel_rfl) rfl ⟨⟨by omega, by omega⟩, trivial⟩ fun a62 h63 => ?_
        clear h61
        refine nd_done ?_
        exact ⟨(g - 1), by omega, (IntKind.wrap .u64 (((E i.toNat).base) + ((E i.toNat).size))), s', (i - 1), by omega, by omega, (by rw [show (i - 1 + 1).toNat = i.toNat by omega]; exact hsc), ⟨by omega, by omega⟩, (by first | exact ha0 | exact (wrap64 _).1), (h63.slotsMono (restr_spec (keep := [4, 0, 1, 5, 6, 7, 8, 9]) rfl))⟩
      ·
        have hc56f : ¬ IntKind.wrap .u64 (((E i.toNat).base) + ((E i.toNat).size)) > a' := by simpa using hc56
        rw [if_neg hc56f] at hsc
        refine wp_skip ?_
        refine hK41 _ _ ?_
        clear hK41
        refine nd_start (l := [0, 1, 2]) rfl ?_
        refine nd_batch tabOk tabZ_ok [(0, {}), (1, {}), (2, {})] [4, 0, 1, 5, 6, 7, 8, 9] (T' := [(4, .pointer (some ⟨b2, 0, none⟩)), (0, .pointer (some ⟨bo, 0, none⟩)), (1, .int .u8 t), (5, .int .u8 0), (6, .int .u64 (sizeP t)), (7, .int .u64 a'), (8, .int .i64 s'), (9, .int .i64 (i - 1))]) (φ := inR .i64 (i - 1) ∧ True) (rest := []) h55 (by kernel_rfl) rfl ⟨⟨by omega, by omega⟩, trivial⟩ fun a64 h65 => ?_
        clear h55
        refine nd_done ?_
        exact ⟨(g - 1), by omega, a', s', (i - 1), by omega, by omega, (by rw [show (i - 1 + 1).toNat = i.toNat by omega]; exact hsc), ⟨by omega, by omega⟩, (by first | exact ha0 | exact (wrap64 _).1), (h65.slotsMono (restr_spec (keep := [4, 0, 1, 5, 6, 7, 8, 9]) rfl))⟩
  ·
    have hc40f : ¬ i ≥ 0 := by simpa using hc40
    have hfin : scanP E 256 0 (-1) = (a', s') := by rw [← hsc, show (i + 1).toNat = 0 by omega]; rfl
    obtain ⟨hfa, hfs⟩ : 0 ≤ a' ∧ a' = a' := ⟨ha0, rfl⟩
    refine wp_exit ?_
    refine hK24 _ _ ?_
    clear hK24
    refine wp_seq_k fun K66 hK66 => ?_
    refine wp_seq_k fun K67 hK67 => ?_
    refine nd_start (l := [0, 1, 2, 3]) rfl ?_
    refine nd_batch tabOk tabZ_ok [(0, {}), (1, {}), (2, {}), (3, {})] [4, 0, 1, 5, 6, 7, 8, 9, 60] (T' := [(4, .pointer (some ⟨b2, 0, none⟩)), (0, .pointer (some ⟨bo, 0, none⟩)), (1, .int .u8 t), (5, .int .u8 0), (6, .int .u64 (sizeP t)), (7, .int .u64 a'), (8, .int .i64 s'), (9, .int .i64 i), (60, .bool ((a' % (sizeP t)) != 0))]) (φ := (0 ≤ a' ∧ 0 < (sizeP t)) ∧ True) (rest := []) h39 (by kernel_rfl) rfl ⟨⟨by omega, by omega⟩, trivial⟩ fun a68 h69 => ?_
    clear h39
    refine nd_done ?_
    refine hK67 _ _ ?_
    clear hK67
    refine c_split h69 (b := ((a' % (sizeP t)) != 0)) rfl (fun hc70 => ?_) (fun hc70 => ?_)
    ·
      have hc70f : (a' % (sizeP t)) ≠ 0 := by simpa using hc70
      have hal : alignP a' (sizeP t) = IntKind.wrap .u64 (IntKind.wrap .u64 (a' + sizeP t) - a' % sizeP t) := by unfold alignP; rw [if_pos (by first | exact hc70f | (intro hq; exact hq hc70f) | (intro hq; exact hc70f hq))]
      refine nd_start (l := [0, 1, 2, 3, 4, 5, 6, 7]) rfl ?_
      refine nd_batch tabOk tabZ_ok [(0, {}), (1, {}), (2, {m := 1}), (3, {}), (4, {}), (5, {}), (6, {m := 1}), (7, {})] [4, 0, 1, 5, 6, 8, 9, 7] (T' := [(4, .pointer (some ⟨b2, 0, none⟩)), (0, .pointer (some ⟨bo, 0, none⟩)), (1, .int .u8 t), (5, .int .u8 0), (6, .int .u64 (sizeP t)), (8, .int .i64 s'), (9, .int .i64 i), (7, .int .u64 (IntKind.wrap .u64 ((IntKind.wrap .u64 (a' + (sizeP t))) - (a' % (sizeP t)))))]) (φ := (0 ≤ a' ∧ 0 < (sizeP t)) ∧ True) (rest := []) h69 (by kernel_rfl) rfl ⟨⟨by omega, by omega⟩, trivial⟩ fun a71 h72 => ?_
      clear h69
      refine nd_done ?_
      refine hK66 _ _ ?_
      clear hK66
      refine wp_seq_k fun K73 hK73 => ?_
      refine wp_seq_k fun K74 hK74 => ?_
      refine nd_start (l := [0, 1, 2, 3, 4, 5, 6, 7, 8, 9]) rfl ?_
      refine nd_batch tabOk tabZ_ok [(0, {}), (1, {}), (2, {m := 1}), (3, {}), (4, {}), (5, {}), (6, {}), (7, {}), (8, {k := 0, m := 1, vs := [.int .u64 ((E 256).size)]}), (9, {})] [4, 0, 1, 5, 6, 8, 9, 7, 77] (T' := [(4, .pointer (some ⟨b2, 0, none⟩)), (0, .pointer (some ⟨bo, 0, none⟩)), (1, .int .u8 t), (5, .int .u8 0), (6, .int .u64 (sizeP t)), (8, .int .i64 s'), (9, .int .i64 i), (7, .int .u64 (IntKind.wrap .u64 ((IntKind.wrap .u64 (a' + (sizeP t))) - (a' % (sizeP t))))), (77, .bool (decide (IntKind.wrap .u64 ((IntKind.wrap .u64 ((IntKind.wrap .u64 (a' + (sizeP t))) - (a' % (sizeP t)))) + (sizeP t)) > (E 256).size)))]) (φ := (0 ≤ (256 : Int) ∧ (256 : Int) < 257) ∧ (bo = bo ∧ cellsAre (stC E) 1027 [.int .u64 ((E 256).size)]) ∧ True) (rest := []) h72 (by kernel_rfl) rfl ⟨⟨by decide, by decide⟩, ⟨rfl, (st_read (i := 256) (k := 3) (by omega) (by omega) ⟨rfl, trivial⟩)⟩, trivial⟩ fun a75 h76 => ?_
      clear h72
      refine nd_done ?_
      refine hK74 _ _ ?_
      clear hK74
      refine c_split h76 (b := decide (IntKind.wrap .u64 ((IntKind.wrap .u64 ((IntKind.wrap .u64 (a' + (sizeP t))) - (a' % (sizeP t)))) + (sizeP t)) > (E 256).size)) rfl (fun hc77 => ?_) (fun hc77 => ?_)
      ·
        have hc77f : IntKind.wrap .u64 ((IntKind.wrap .u64 ((IntKind.wrap .u64 (a' + (sizeP t))) - (a' % (sizeP t)))) + (sizeP t)) > (E 256).size := by simpa using hc77
        refine wp_seq_k fun K78 hK78 => ?_
        refine nd_start (l := [0, 1, 2]) rfl ?_
        refine nd_batch tabOk tabZ_ok [(0, {})] [4, 0, 1, 5, 6, 8, 9, 7, 78] (T' := [(4, .pointer (some ⟨b2, 0, none⟩)), (0, .pointer (some ⟨bo, 0, none⟩)), (1, .int .u8 t), (5, .int .u8 0), (6, .int .u64 (sizeP t)), (8, .int .i64 s'), (9, .int .i64 i), (7, .int .u64 (IntKind.wrap .u64 ((IntKind.wrap .u64 (a' + (sizeP t))) - (a' % (sizeP t))))), (78, .agg #[.int .u16 0, .int .u32 0])]) (φ := True) (rest := [1, 2]) h76 (by kernel_rfl) rfl trivial fun a79 h80 => ?_
        clear h76
        refine nd_op ?_
        refine op_store tabOk {k := 1} (L' := [(bo, ⟨stC E, 131, false⟩), (b2, ⟨[.int .u16 0, .int .u32 0], 39, false⟩)]) (φ := b2 = b2 ∧ Nat.ble (0 + 2) 2 = true) h80 rfl rfl rfl (by kernel_rfl) ⟨rfl, rfl⟩ fun w81 h82 => ?_
        clear h80
        refine nd_batch tabOk tabZ_ok [(2, {})] [4, 0, 1, 6, 8, 9, 7, 5] (T' := [(4, .pointer (some ⟨b2, 0, none⟩)), (0, .pointer (some ⟨bo, 0, none⟩)), (1, .int .u8 t), (6, .int .u64 (sizeP t)), (8, .int .i64 s'), (9, .int .i64 i), (7, .int .u64 (IntKind.wrap .u64 ((IntKind.wrap .u64 (a' + (sizeP t))) - (a' % (sizeP t))))), (5, .int .u8 9)]) (φ := True) (rest := []) h82 (by kernel_rfl) rfl trivial fun a83 h84 => ?_
        clear h82
        refine nd_done ?_
        refine hK78 _ _ ?_
        clear hK78
        refine wp_ret ?_
        try simp only [Exit.then, Exit.inBlock]
        try rw [if_pos trivial]
        exact s_ret tabOk tabZ_ok h84 [(.cell 4 39, {k := 1}), (.tmp 5, {})] (vs := [.agg #[.int .u16 0, .int .u32 0], .int .u8 9]) (φ := (b2 = b2 ∧ Nat.ble (0 + 2) 2 = true) ∧ True) rfl (by kernel_rfl) ⟨⟨rfl, rfl⟩, trivial⟩ (by rw [show retype0 E t = (E, ⟨0, 0⟩, 9) from (by unfold retype0; dsimp only; rw [hfin]; dsimp only; rw [hal]; (first | rw [if_pos hc77f] | rw [if_pos (fun hz => hz hc77f)]))]; exact ⟨rfl, h84.kn (k := 0) rfl, h84.frame⟩)
      ·
        have hc77f : ¬ IntKind.wrap .u64 ((IntKind.wrap .u64 ((IntKind.wrap .u64 (a' + (sizeP t))) - (a' % (sizeP t)))) + (sizeP t)) > (E 256).size := by simpa using hc77
        refine wp_skip ?_
        refine hK73 _ _ ?_
        clear hK73
        refine wp_seq_k fun K85 hK85 => ?_
        refine wp_seq_k fun K86 hK86 => ?_
        refine nd_start (l := [0, 1]) rfl ?_
        refine nd_batch tabOk tabZ_ok [(0, {}), (1, {})] [4, 0, 1, 5, 6, 8, 9, 7, 80] (T' := [(4, .pointer (some ⟨b2, 0, none⟩)), (0, .pointer (some ⟨bo, 0, none⟩)), (1, .int .u8 t), (5, .int .u8 0), (6, .int .u64 (sizeP t)), (8, .int .i64 s'), (9, .int .i64 i), (7, .int .u64 (IntKind.wrap .u64 ((IntKind.wrap .u64 (a' + (sizeP t))) - (a' % (sizeP t))))), (80, .bool (decide (s' < 0)))]) (φ := True) (rest := []) h76 (by kernel_rfl) rfl trivial fun a87 h88 => ?_
        clear h76
        refine nd_done ?_
        refine hK86 _ _ ?_
        clear hK86
        refine c_split h88 (b := decide (s' < 0)) rfl (fun hc89 => ?_) (fun hc89 => ?_)
        ·
          have hc89f : s' < 0 := by simpa using hc89
          refine wp_seq_k fun K90 hK90 => ?_
          refine nd_start (l := [0, 1, 2]) rfl ?_
          refine nd_batch tabOk tabZ_ok [(0, {})] [4, 0, 1, 5, 6, 8, 9, 7, 81] (T' := [(4, .pointer (some ⟨b2, 0, none⟩)), (0, .pointer (some ⟨bo, 0, none⟩)), (1, .int .u8 t), (5, .int .u8 0), (6, .int .u64 (sizeP t)), (8, .int .i64 s'), (9, .int .i64 i), (7, .int .u64 (IntKind.wrap .u64 ((IntKind.wrap .u64 (a' + (sizeP t))) - (a' % (sizeP t))))), (81, .agg #[.int .u16 0, .int .u32 0])]) (φ := True) (rest := [1, 2]) h88 (by kernel_rfl) rfl trivial fun a91 h92 => ?_
          clear h88
          refine nd_op ?_
          refine op_store tabOk {k := 1} (L' := [(bo, ⟨stC E, 131, false⟩), (b2, ⟨[.int .u16 0, .int .u32 0], 39, false⟩)]) (φ := b2 = b2 ∧ Nat.ble (0 + 2) 2 = true) h92 rfl rfl rfl (by kernel_rfl) ⟨rfl, rfl⟩ fun w93 h94 => ?_
          clear h92
          refine nd_batch tabOk tabZ_ok [(2, {})] [4, 0, 1, 6, 8, 9, 7, 5] (T' := [(4, .pointer (some ⟨b2, 0, none⟩)), (0, .pointer (some ⟨bo, 0, none⟩)), (1, .int .u8 t), (6, .int .u64 (sizeP t)), (8, .int .i64 s'), (9, .int .i64 i), (7, .int .u64 (IntKind.wrap .u64 ((IntKind.wrap .u64 (a' + (sizeP t))) - (a' % (sizeP t))))), (5, .int .u8 10)]) (φ := True) (rest := []) h94 (by kernel_rfl) rfl trivial fun a95 h96 => ?_
          clear h94
          refine nd_done ?_
          refine hK90 _ _ ?_
          clear hK90
          refine wp_ret ?_
          try simp only [Exit.then, Exit.inBlock]
          try rw [if_pos trivial]
          exact s_ret tabOk tabZ_ok h96 [(.cell 4 39, {k := 1}), (.tmp 5, {})] (vs := [.agg #[.int .u16 0, .int .u32 0], .int .u8 10]) (φ := (b2 = b2 ∧ Nat.ble (0 + 2) 2 = true) ∧ True) rfl (by kernel_rfl) ⟨⟨rfl, rfl⟩, trivial⟩ (by rw [show retype0 E t = (E, ⟨0, 0⟩, 10) from (by unfold retype0; dsimp only; rw [hfin]; dsimp only; rw [hal]; (first | rw [if_neg hc77f] | rw [if_neg (fun hz => hz hc77f)]); (first | rw [if_pos hc89f] | rw [if_pos (fun hz => hz hc89f)]))]; exact ⟨rfl, h96.kn (k := 0) rfl, h96.frame⟩)
        ·
          have hc89f : ¬ s' < 0 := by simpa using hc89
          refine wp_skip ?_
          refine hK85 _ _ ?_
          clear hK85
          refine wp_seq_k fun K97 hK97 => ?_
          refine dr_start (KB := [bo, b2]) (Bi := [[0, 1], [0, 1], [0, 1], [0, 1], [0, 1], [0, 1], [0, 1], [0, 1], [0, 1], [0, 1], [0, 1], [0, 1], [0, 1], [0, 1], [0, 1], [0, 1], []]) mixed h88 fun w98 h99 => ?_
          clear h88
          refine dr_batch tabOk tabZ_ok (by repeat (first | with_reducible exact PF.body | with_reducible apply PF.inB | with_reducible apply PF.next)) [(0, {}), (1, {}), (2, {}), (3, {}), (4, {}), (5, {}), (6, {}), (7, {}), (8, {}), (9, {k := 0, m := 1, vs := [.int .u32 ((E s'.toNat).gen)], p := 0}), (10, {}), (11, {}), (12, {}), (13, {}), (14, {}), (15, {})] [4, 0, 1, 5, 6, 8, 9, 7, 94, 97] (T' := [(4, .pointer (some ⟨b2, 0, none⟩)), (0, .pointer (some ⟨bo, 0, none⟩)), (1, .int .u8 t), (5, .int .u8 0), (6, .int .u64 (sizeP t)), (8, .int .i64 s'), (9, .int .i64 i), (7, .int .u64 (IntKind.wrap .u64 ((IntKind.wrap .u64 (a' + (sizeP t))) - (a' % (sizeP t))))), (94, .agg #[.int .u8 t, .int .u32 ((E s'.toNat).gen), .int .u64 (IntKind.wrap .u64 ((IntKind.wrap .u64 (a' + (sizeP t))) - (a' % (sizeP t)))), .int .u64 (sizeP t)]), (97, .pointer (some ⟨bo, 0 + (s'.toNat * 4), none⟩))]) (φ := (0 ≤ s' ∧ s' < 257) ∧ (bo = bo ∧ cellsAre (stC E) (0 + (s'.toNat * 4) + 1) [.int .u32 ((E s'.toNat).gen)]) ∧ (0 ≤ s' ∧ s' < 257) ∧ True) (fuel := 1) h99 (by kernel_rfl) rfl (by kernel_rfl) (by kernel_rfl) ⟨trivial, trivial, trivial, trivial, trivial, trivial, trivial, trivial, trivial, rfl, trivial, trivial, trivial, trivial, trivial, trivial, trivial⟩ ⟨⟨by omega, by omega⟩, ⟨rfl, (st_read (i := s'.toNat) (k := 1) (by omega) (by omega) ⟨rfl, trivial⟩)⟩, ⟨by omega, by omega⟩, trivial⟩ fun a101 h102 => ?_
          clear h99
          refine wpAnyK_one (i := 16) (fuel := 0) (by kernel_rfl) ?_
          refine op_store tabOk {k := 0, m := 1, vs := stC (upd E s'.toNat (⟨t, (E s'.toNat).gen, IntKind.wrap .u64 ((IntKind.wrap .u64 (a' + (sizeP t))) - (a' % (sizeP t))), (sizeP t)⟩ : Ent))} (L' := [(bo, ⟨stC (upd E s'.toNat (⟨t, (E s'.toNat).gen, IntKind.wrap .u64 ((IntKind.wrap .u64 (a' + (sizeP t))) - (a' % (sizeP t))), (sizeP t)⟩ : Ent)), 131, false⟩), (b2, ⟨[.int .u16 0, .int .u32 0], 39, false⟩)]) (φ := bo = bo ∧ Nat.ble (0 + (s'.toNat * 4) + 4) (stC E).length = true ∧ splice (stC E) (0 + (s'.toNat * 4)) [.int .u8 t, .int .u32 ((E s'.toNat).gen), .int .u64 (IntKind.wrap .u64 ((IntKind.wrap .u64 (a' + (sizeP t))) - (a' % (sizeP t)))), .int .u64 (sizeP t)] = stC (upd E s'.toNat (⟨t, (E s'.toNat).gen, IntKind.wrap .u64 ((IntKind.wrap .u64 (a' + (sizeP t))) - (a' % (sizeP t))), (sizeP t)⟩ : Ent))) h102 rfl rfl rfl (by kernel_rfl) ⟨rfl, st_in (by omega), (st_write (i := s'.toNat) (k := 0) (by omega) (Nat.le_of_ble_eq_true rfl) (by omega) rfl)⟩ fun w103 h104 => ?_
          have hkh104 := h102.known
          refine ⟨keepNil, ?_⟩
          clear h102
          refine wpAnyK_done (by kernel_rfl) ?_ _
          refine hK97 _ _ ?_
          clear hK97
          refine wp_seq_k fun K105 hK105 => ?_
          refine nd_start (l := [0, 1, 2, 3, 4]) rfl ?_
          refine nd_batch tabOk tabZ_ok [(0, {}), (1, {})] [4, 0, 1, 5, 6, 8, 9, 7, 98, 99] (T' := [(4, .pointer (some ⟨b2, 0, none⟩)), (0, .pointer (some ⟨bo, 0, none⟩)), (1, .int .u8 t), (5, .int .u8 0), (6, .int .u64 (sizeP t)), (8, .int .i64 s'), (9, .int .i64 i), (7, .int .u64 (IntKind.wrap .u64 ((IntKind.wrap .u64 (a' + (sizeP t))) - (a' % (sizeP t))))), (98, .pointer (some ⟨bo, 0, none⟩)), (99, .int .i64 s')]) (φ := True) (rest := [2, 3, 4]) h104 (by kernel_rfl) rfl trivial fun a106 h107 => ?_
          clear h104
          refine nd_op ?_
          refine op_call h107 rfl rfl rfl (callOk Tryd.func41 (by decide) rfl) (args := [.pointer (some ⟨bo, 0, none⟩), .int .i64 s']) rfl (refAt_ok bo (upd E s'.toNat (⟨t, (E s'.toNat).gen, IntKind.wrap .u64 ((IntKind.wrap .u64 (a' + (sizeP t))) - (a' % (sizeP t))), (sizeP t)⟩ : Ent)) s' ⟨by omega, by omega⟩ _ (h107.kn (k := 0) (blk := ⟨stC (upd E s'.toNat (⟨t, (E s'.toNat).gen, IntKind.wrap .u64 ((IntKind.wrap .u64 (a' + (sizeP t))) - (a' % (sizeP t))), (sizeP t)⟩ : Ent)), 131, false⟩) rfl)) ?_
          rintro _ w108 ⟨rfl, hf110⟩
          refine ⟨_, rfl, ?_⟩
          have h109 := (h107.grow hf110).put (d := some 100) (v := .agg #[.int .u16 ((refAtP (upd E s'.toNat (⟨t, (E s'.toNat).gen, IntKind.wrap .u64 ((IntKind.wrap .u64 (a' + (sizeP t))) - (a' % (sizeP t))), (sizeP t)⟩ : Ent)) s').idx), .int .u32 ((refAtP (upd E s'.toNat (⟨t, (E s'.toNat).gen, IntKind.wrap .u64 ((IntKind.wrap .u64 (a' + (sizeP t))) - (a' % (sizeP t))), (sizeP t)⟩ : Ent)) s').gen)]) (T' := [(100, .agg #[.int .u16 ((refAtP (upd E s'.toNat (⟨t, (E s'.toNat).gen, IntKind.wrap .u64 ((IntKind.wrap .u64 (a' + (sizeP t))) - (a' % (sizeP t))), (sizeP t)⟩ : Ent)) s').idx), .int .u32 ((refAtP (upd E s'.toNat (⟨t, (E s'.toNat).gen, IntKind.wrap .u64 ((IntKind.wrap .u64 (a' + (sizeP t))) - (a' % (sizeP t))), (sizeP t)⟩ : Ent)) s').gen)]), (4, .pointer (some ⟨b2, 0, none⟩)), (0, .pointer (some ⟨bo, 0, none⟩)), (1, .int .u8 t), (5, .int .u8 0), (6, .int .u64 (sizeP t)), (8, .int .i64 s'), (9, .int .i64 i), (7, .int .u64 (IntKind.wrap .u64 ((IntKind.wrap .u64 (a' + (sizeP t))) - (a' % (sizeP t))))), (98, .pointer (some ⟨bo, 0, none⟩)), (99, .int .i64 s')]) rfl
          clear h107
          refine nd_op ?_
          refine op_store tabOk {k := 1} (L' := [(bo, ⟨stC (upd E s'.toNat (⟨t, (E s'.toNat).gen, IntKind.wrap .u64 ((IntKind.wrap .u64 (a' + (sizeP t))) - (a' % (sizeP t))), (sizeP t)⟩ : Ent)), 131, false⟩), (b2, ⟨[.int .u16 ((refAtP (upd E s'.toNat (⟨t, (E s'.toNat).gen, IntKind.wrap .u64 ((IntKind.wrap .u64 (a' + (sizeP t))) - (a' % (sizeP t))), (sizeP t)⟩ : Ent)) s').idx), .int .u32 ((refAtP (upd E s'.toNat (⟨t, (E s'.toNat).gen, IntKind.wrap .u64 ((IntKind.wrap .u64 (a' + (sizeP t))) - (a' % (sizeP t))), (sizeP t)⟩ : Ent)) s').gen)], 39, false⟩)]) (φ := b2 = b2 ∧ Nat.ble (0 + 2) 2 = true) h109 rfl rfl rfl (by kernel_rfl) ⟨rfl, rfl⟩ fun w111 h112 => ?_
          clear h109
          refine nd_batch tabOk tabZ_ok [(4, {})] [4, 0, 1, 6, 8, 9, 7, 5] (T' := [(4, .pointer (some ⟨b2, 0, none⟩)), (0, .pointer (some ⟨bo, 0, none⟩)), (1, .int .u8 t), (6, .int .u64 (sizeP t)), (8, .int .i64 s'), (9, .int .i64 i), (7, .int .u64 (IntKind.wrap .u64 ((IntKind.wrap .u64 (a' + (sizeP t))) - (a' % (sizeP t))))), (5, .int .u8 0)]) (φ := True) (rest := []) h112 (by kernel_rfl) rfl trivial fun a113 h114 => ?_
          clear h112
          refine nd_done ?_
          refine hK105 _ _ ?_
          clear hK105
          refine wp_ret ?_
          try simp only [Exit.then, Exit.inBlock]
          try rw [if_pos trivial]
          exact s_ret tabOk tabZ_ok h114 [(.cell 4 39, {k := 1}), (.tmp 5, {})] (vs := [.agg #[.int .u16 ((refAtP (upd E s'.toNat (⟨t, (E s'.toNat).gen, IntKind.wrap .u64 ((IntKind.wrap .u64 (a' + (sizeP t))) - (a' % (sizeP t))), (sizeP t)⟩ : Ent)) s').idx), .int .u32 ((refAtP (upd E s'.toNat (⟨t, (E s'.toNat).gen, IntKind.wrap .u64 ((IntKind.wrap .u64 (a' + (sizeP t))) - (a' % (sizeP t))), (sizeP t)⟩ : Ent)) s').gen)], .int .u8 0]) (φ := (b2 = b2 ∧ Nat.ble (0 + 2) 2 = true) ∧ True) rfl (by kernel_rfl) ⟨⟨rfl, rfl⟩, trivial⟩ (by rw [show retype0 E t = ((upd E s'.toNat (⟨t, (E s'.toNat).gen, IntKind.wrap .u64 ((IntKind.wrap .u64 (a' + (sizeP t))) - (a' % (sizeP t))), (sizeP t)⟩ : Ent)), (refAtP (upd E s'.toNat (⟨t, (E s'.toNat).gen, IntKind.wrap .u64 ((IntKind.wrap .u64 (a' + (sizeP t))) - (a' % (sizeP t))), (sizeP t)⟩ : Ent)) s'), 0) from (by unfold retype0; dsimp only; rw [hfin]; dsimp only; rw [hal]; (first | rw [if_neg hc77f] | rw [if_neg (fun hz => hz hc77f)]); (first | rw [if_neg hc89f] | rw [if_neg (fun hz => hz hc89f)]))]; exact ⟨rfl, h114.kn (k := 0) rfl, h114.frame⟩)
    ·
      have hc70f : (a' % (sizeP t)) = 0 := by simpa using hc70
      have hal : alignP a' (sizeP t) = a' := by unfold alignP; rw [if_neg (by first | exact hc70f | (intro hq; exact hq hc70f) | (intro hq; exact hc70f hq))]
      refine wp_skip ?_
      refine hK66 _ _ ?_
      clear hK66
      refine wp_seq_k fun K115 hK115 => ?_
      refine wp_seq_k fun K116 hK116 => ?_
      refine nd_start (l := [0, 1, 2, 3, 4, 5, 6, 7, 8, 9]) rfl ?_
      refine nd_batch tabOk tabZ_ok [(0, {}), (1, {}), (2, {m := 1}), (3, {}), (4, {}), (5, {}), (6, {}), (7, {}), (8, {k := 0, m := 1, vs := [.int .u64 ((E 256).size)]}), (9, {})] [4, 0, 1, 5, 6, 7, 8, 9, 77] (T' := [(4, .pointer (some ⟨b2, 0, none⟩)), (0, .pointer (some ⟨bo, 0, none⟩)), (1, .int .u8 t), (5, .int .u8 0), (6, .int .u64 (sizeP t)), (7, .int .u64 a'), (8, .int .i64 s'), (9, .int .i64 i), (77, .bool (decide (IntKind.wrap .u64 (a' + (sizeP t)) > (E 256).size)))]) (φ := (0 ≤ (256 : Int) ∧ (256 : Int) < 257) ∧ (bo = bo ∧ cellsAre (stC E) 1027 [.int .u64 ((E 256).size)]) ∧ True) (rest := []) h69 (by kernel_rfl) rfl ⟨⟨by decide, by decide⟩, ⟨rfl, (st_read (i := 256) (k := 3) (by omega) (by omega) ⟨rfl, trivial⟩)⟩, trivial⟩ fun a117 h118 => ?_
      clear h69
      refine nd_done ?_
      refine hK116 _ _ ?_
      clear hK116
      refine c_split h118 (b := decide (IntKind.wrap .u64 (a' + (sizeP t)) > (E 256).size)) rfl (fun hc119 => ?_) (fun hc119 => ?_)
      ·
        have hc119f : IntKind.wrap .u64 (a' + (sizeP t)) > (E 256).size := by simpa using hc119
        refine wp_seq_k fun K120 hK120 => ?_
        refine nd_start (l := [0, 1, 2]) rfl ?_
        refine nd_batch tabOk tabZ_ok [(0, {})] [4, 0, 1, 5, 6, 7, 8, 9, 78] (T' := [(4, .pointer (some ⟨b2, 0, none⟩)), (0, .pointer (some ⟨bo, 0, none⟩)), (1, .int .u8 t), (5, .int .u8 0), (6, .int .u64 (sizeP t)), (7, .int .u64 a'), (8, .int .i64 s'), (9, .int .i64 i), (78, .agg #[.int .u16 0, .int .u32 0])]) (φ := True) (rest := [1, 2]) h118 (by kernel_rfl) rfl trivial fun a121 h122 => ?_
        clear h118
        refine nd_op ?_
        refine op_store tabOk {k := 1} (L' := [(bo, ⟨stC E, 131, false⟩), (b2, ⟨[.int .u16 0, .int .u32 0], 39, false⟩)]) (φ := b2 = b2 ∧ Nat.ble (0 + 2) 2 = true) h122 rfl rfl rfl (by kernel_rfl) ⟨rfl, rfl⟩ fun w123 h124 => ?_
        clear h122
        refine nd_batch tabOk tabZ_ok [(2, {})] [4, 0, 1, 6, 7, 8, 9, 5] (T' := [(4, .pointer (some ⟨b2, 0, none⟩)), (0, .pointer (some ⟨bo, 0, none⟩)), (1, .int .u8 t), (6, .int .u64 (sizeP t)), (7, .int .u64 a'), (8, .int .i64 s'), (9, .int .i64 i), (5, .int .u8 9)]) (φ := True) (rest := []) h124 (by kernel_rfl) rfl trivial fun a125 h126 => ?_
        clear h124
        refine nd_done ?_
        refine hK120 _ _ ?_
        clear hK120
        refine wp_ret ?_
        try simp only [Exit.then, Exit.inBlock]
        try rw [if_pos trivial]
        exact s_ret tabOk tabZ_ok h126 [(.cell 4 39, {k := 1}), (.tmp 5, {})] (vs := [.agg #[.int .u16 0, .int .u32 0], .int .u8 9]) (φ := (b2 = b2 ∧ Nat.ble (0 + 2) 2 = true) ∧ True) rfl (by kernel_rfl) ⟨⟨rfl, rfl⟩, trivial⟩ (by rw [show retype0 E t = (E, ⟨0, 0⟩, 9) from (by unfold retype0; dsimp only; rw [hfin]; dsimp only; rw [hal]; (first | rw [if_pos hc119f] | rw [if_pos (fun hz => hz hc119f)]))]; exact ⟨rfl, h126.kn (k := 0) rfl, h126.frame⟩)
      ·
        have hc119f : ¬ IntKind.wrap .u64 (a' + (sizeP t)) > (E 256).size := by simpa using hc119
        refine wp_skip ?_
        refine hK115 _ _ ?_
        clear hK115
        refine wp_seq_k fun K127 hK127 => ?_
        refine wp_seq_k fun K128 hK128 => ?_
        refine nd_start (l := [0, 1]) rfl ?_
        refine nd_batch tabOk tabZ_ok [(0, {}), (1, {})] [4, 0, 1, 5, 6, 7, 8, 9, 80] (T' := [(4, .pointer (some ⟨b2, 0, none⟩)), (0, .pointer (some ⟨bo, 0, none⟩)), (1, .int .u8 t), (5, .int .u8 0), (6, .int .u64 (sizeP t)), (7, .int .u64 a'), (8, .int .i64 s'), (9, .int .i64 i), (80, .bool (decide (s' < 0)))]) (φ := True) (rest := []) h118 (by kernel_rfl) rfl trivial fun a129 h130 => ?_
        clear h118
        refine nd_done ?_
        refine hK128 _ _ ?_
        clear hK128
        refine c_split h130 (b := decide (s' < 0)) rfl (fun hc131 => ?_) (fun hc131 => ?_)
        ·
          have hc131f : s' < 0 := by simpa using hc131
          refine wp_seq_k fun K132 hK132 => ?_
          refine nd_start (l := [0, 1, 2]) rfl ?_
          refine nd_batch tabOk tabZ_ok [(0, {})] [4, 0, 1, 5, 6, 7, 8, 9, 81] (T' := [(4, .pointer (some ⟨b2, 0, none⟩)), (0, .pointer (some ⟨bo, 0, none⟩)), (1, .int .u8 t), (5, .int .u8 0), (6, .int .u64 (sizeP t)), (7, .int .u64 a'), (8, .int .i64 s'), (9, .int .i64 i), (81, .agg #[.int .u16 0, .int .u32 0])]) (φ := True) (rest := [1, 2]) h130 (by kernel_rfl) rfl trivial fun a133 h134 => ?_
          clear h130
          refine nd_op ?_
          refine op_store tabOk {k := 1} (L' := [(bo, ⟨stC E, 131, false⟩), (b2, ⟨[.int .u16 0, .int .u32 0], 39, false⟩)]) (φ := b2 = b2 ∧ Nat.ble (0 + 2) 2 = true) h134 rfl rfl rfl (by kernel_rfl) ⟨rfl, rfl⟩ fun w135 h136 => ?_
          clear h134
          refine nd_batch tabOk tabZ_ok [(2, {})] [4, 0, 1, 6, 7, 8, 9, 5] (T' := [(4, .pointer (some ⟨b2, 0, none⟩)), (0, .pointer (some ⟨bo, 0, none⟩)), (1, .int .u8 t), (6, .int .u64 (sizeP t)), (7, .int .u64 a'), (8, .int .i64 s'), (9, .int .i64 i), (5, .int .u8 10)]) (φ := True) (rest := []) h136 (by kernel_rfl) rfl trivial fun a137 h138 => ?_
          clear h136
          refine nd_done ?_
          refine hK132 _ _ ?_
          clear hK132
          refine wp_ret ?_
          try simp only [Exit.then, Exit.inBlock]
          try rw [if_pos trivial]
          exact s_ret tabOk tabZ_ok h138 [(.cell 4 39, {k := 1}), (.tmp 5, {})] (vs := [.agg #[.int .u16 0, .int .u32 0], .int .u8 10]) (φ := (b2 = b2 ∧ Nat.ble (0 + 2) 2 = true) ∧ True) rfl (by kernel_rfl) ⟨⟨rfl, rfl⟩, trivial⟩ (by rw [show retype0 E t = (E, ⟨0, 0⟩, 10) from (by unfold retype0; dsimp only; rw [hfin]; dsimp only; rw [hal]; (first | rw [if_neg hc119f] | rw [if_neg (fun hz => hz hc119f)]); (first | rw [if_pos hc131f] | rw [if_pos (fun hz => hz hc131f)]))]; exact ⟨rfl, h138.kn (k := 0) rfl, h138.frame⟩)
        ·
          have hc131f : ¬ s' < 0 := by simpa using hc131
          refine wp_skip ?_
          refine hK127 _ _ ?_
          clear hK127
          refine wp_seq_k fun K139 hK139 => ?_
          refine dr_start (KB := [bo, b2]) (Bi := [[0, 1], [0, 1], [0, 1], [0, 1], [0, 1], [0, 1], [0, 1], [0, 1], [0, 1], [0, 1], [0, 1], [0, 1], [0, 1], [0, 1], [0, 1], [0, 1], []]) mixed h130 fun w140 h141 => ?_
          clear h130
          refine dr_batch tabOk tabZ_ok (by repeat (first | with_reducible exact PF.body | with_reducible apply PF.inB | with_reducible apply PF.next)) [(0, {}), (1, {}), (2, {}), (3, {}), (4, {}), (5, {}), (6, {}), (7, {}), (8, {}), (9, {k := 0, m := 1, vs := [.int .u32 ((E s'.toNat).gen)], p := 0}), (10, {}), (11, {}), (12, {}), (13, {}), (14, {}), (15, {})] [4, 0, 1, 5, 6, 7, 8, 9, 94, 97] (T' := [(4, .pointer (some ⟨b2, 0, none⟩)), (0, .pointer (some ⟨bo, 0, none⟩)), (1, .int .u8 t), (5, .int .u8 0), (6, .int .u64 (sizeP t)), (7, .int .u64 a'), (8, .int .i64 s'), (9, .int .i64 i), (94, .agg #[.int .u8 t, .int .u32 ((E s'.toNat).gen), .int .u64 a', .int .u64 (sizeP t)]), (97, .pointer (some ⟨bo, 0 + (s'.toNat * 4), none⟩))]) (φ := (0 ≤ s' ∧ s' < 257) ∧ (bo = bo ∧ cellsAre (stC E) (0 + (s'.toNat * 4) + 1) [.int .u32 ((E s'.toNat).gen)]) ∧ (0 ≤ s' ∧ s' < 257) ∧ True) (fuel := 1) h141 (by kernel_rfl) rfl (by kernel_rfl) (by kernel_rfl) ⟨trivial, trivial, trivial, trivial, trivial, trivial, trivial, trivial, trivial, rfl, trivial, trivial, trivial, trivial, trivial, trivial, trivial⟩ ⟨⟨by omega, by omega⟩, ⟨rfl, (st_read (i := s'.toNat) (k := 1) (by omega) (by omega) ⟨rfl, trivial⟩)⟩, ⟨by omega, by omega⟩, trivial⟩ fun a143 h144 => ?_
          clear h141
          refine wpAnyK_one (i := 16) (fuel := 0) (by kernel_rfl) ?_
          refine op_store tabOk {k := 0, m := 1, vs := stC (upd E s'.toNat (⟨t, (E s'.toNat).gen, a', (sizeP t)⟩ : Ent))} (L' := [(bo, ⟨stC (upd E s'.toNat (⟨t, (E s'.toNat).gen, a', (sizeP t)⟩ : Ent)), 131, false⟩), (b2, ⟨[.int .u16 0, .int .u32 0], 39, false⟩)]) (φ := bo = bo ∧ Nat.ble (0 + (s'.toNat * 4) + 4) (stC E).length = true ∧ splice (stC E) (0 + (s'.toNat * 4)) [.int .u8 t, .int .u32 ((E s'.toNat).gen), .int .u64 a', .int .u64 (sizeP t)] = stC (upd E s'.toNat (⟨t, (E s'.toNat).gen, a', (sizeP t)⟩ : Ent))) h144 rfl rfl rfl (by kernel_rfl) ⟨rfl, st_in (by omega), (st_write (i := s'.toNat) (k := 0) (by omega) (Nat.le_of_ble_eq_true rfl) (by omega) rfl)⟩ fun w145 h146 => ?_
          have hkh146 := h144.known
          refine ⟨keepNil, ?_⟩
          clear h144
          refine wpAnyK_done (by kernel_rfl) ?_ _
          refine hK139 _ _ ?_
          clear hK139
          refine wp_seq_k fun K147 hK147 => ?_
          refine nd_start (l := [0, 1, 2, 3, 4]) rfl ?_
          refine nd_batch tabOk tabZ_ok [(0, {}), (1, {})] [4, 0, 1, 5, 6, 7, 8, 9, 98, 99] (T' := [(4, .pointer (some ⟨b2, 0, none⟩)), (0, .pointer (some ⟨bo, 0, none⟩)), (1, .int .u8 t), (5, .int .u8 0), (6, .int .u64 (sizeP t)), (7, .int .u64 a'), (8, .int .i64 s'), (9, .int .i64 i), (98, .pointer (some ⟨bo, 0, none⟩)), (99, .int .i64 s')]) (φ := True) (rest := [2, 3, 4]) h146 (by kernel_rfl) rfl trivial fun a148 h149 => ?_
          clear h146
          refine nd_op ?_
          refine op_call h149 rfl rfl rfl (callOk Tryd.func41 (by decide) rfl) (args := [.pointer (some ⟨bo, 0, none⟩), .int .i64 s']) rfl (refAt_ok bo (upd E s'.toNat (⟨t, (E s'.toNat).gen, a', (sizeP t)⟩ : Ent)) s' ⟨by omega, by omega⟩ _ (h149.kn (k := 0) (blk := ⟨stC (upd E s'.toNat (⟨t, (E s'.toNat).gen, a', (sizeP t)⟩ : Ent)), 131, false⟩) rfl)) ?_
          rintro _ w150 ⟨rfl, hf152⟩
          refine ⟨_, rfl, ?_⟩
          have h151 := (h149.grow hf152).put (d := some 100) (v := .agg #[.int .u16 ((refAtP (upd E s'.toNat (⟨t, (E s'.toNat).gen, a', (sizeP t)⟩ : Ent)) s').idx), .int .u32 ((refAtP (upd E s'.toNat (⟨t, (E s'.toNat).gen, a', (sizeP t)⟩ : Ent)) s').gen)]) (T' := [(100, .agg #[.int .u16 ((refAtP (upd E s'.toNat (⟨t, (E s'.toNat).gen, a', (sizeP t)⟩ : Ent)) s').idx), .int .u32 ((refAtP (upd E s'.toNat (⟨t, (E s'.toNat).gen, a', (sizeP t)⟩ : Ent)) s').gen)]), (4, .pointer (some ⟨b2, 0, none⟩)), (0, .pointer (some ⟨bo, 0, none⟩)), (1, .int .u8 t), (5, .int .u8 0), (6, .int .u64 (sizeP t)), (7, .int .u64 a'), (8, .int .i64 s'), (9, .int .i64 i), (98, .pointer (some ⟨bo, 0, none⟩)), (99, .int .i64 s')]) rfl
          clear h149
          refine nd_op ?_
          refine op_store tabOk {k := 1} (L' := [(bo, ⟨stC (upd E s'.toNat (⟨t, (E s'.toNat).gen, a', (sizeP t)⟩ : Ent)), 131, false⟩), (b2, ⟨[.int .u16 ((refAtP (upd E s'.toNat (⟨t, (E s'.toNat).gen, a', (sizeP t)⟩ : Ent)) s').idx), .int .u32 ((refAtP (upd E s'.toNat (⟨t, (E s'.toNat).gen, a', (sizeP t)⟩ : Ent)) s').gen)], 39, false⟩)]) (φ := b2 = b2 ∧ Nat.ble (0 + 2) 2 = true) h151 rfl rfl rfl (by kernel_rfl) ⟨rfl, rfl⟩ fun w153 h154 => ?_
          clear h151
          refine nd_batch tabOk tabZ_ok [(4, {})] [4, 0, 1, 6, 7, 8, 9, 5] (T' := [(4, .pointer (some ⟨b2, 0, none⟩)), (0, .pointer (some ⟨bo, 0, none⟩)), (1, .int .u8 t), (6, .int .u64 (sizeP t)), (7, .int .u64 a'), (8, .int .i64 s'), (9, .int .i64 i), (5, .int .u8 0)]) (φ := True) (rest := []) h154 (by kernel_rfl) rfl trivial fun a155 h156 => ?_
          clear h154
          refine nd_done ?_
          refine hK147 _ _ ?_
          clear hK147
          refine wp_ret ?_
          try simp only [Exit.then, Exit.inBlock]
          try rw [if_pos trivial]
          exact s_ret tabOk tabZ_ok h156 [(.cell 4 39, {k := 1}), (.tmp 5, {})] (vs := [.agg #[.int .u16 ((refAtP (upd E s'.toNat (⟨t, (E s'.toNat).gen, a', (sizeP t)⟩ : Ent)) s').idx), .int .u32 ((refAtP (upd E s'.toNat (⟨t, (E s'.toNat).gen, a', (sizeP t)⟩ : Ent)) s').gen)], .int .u8 0]) (φ := (b2 = b2 ∧ Nat.ble (0 + 2) 2 = true) ∧ True) rfl (by kernel_rfl) ⟨⟨rfl, rfl⟩, trivial⟩ (by rw [show retype0 E t = ((upd E s'.toNat (⟨t, (E s'.toNat).gen, a', (sizeP t)⟩ : Ent)), (refAtP (upd E s'.toNat (⟨t, (E s'.toNat).gen, a', (sizeP t)⟩ : Ent)) s'), 0) from (by unfold retype0; dsimp only; rw [hfin]; dsimp only; rw [hal]; (first | rw [if_neg hc119f] | rw [if_neg (fun hz => hz hc119f)]); (first | rw [if_neg hc131f] | rw [if_neg (fun hz => hz hc131f)]))]; exact ⟨rfl, h156.kn (k := 0) rfl, h156.frame⟩)

end Go.Proofs.Qxb6500918aDoor
