/-
  Lower, live, onlySlotOf. (Made by program: a symbolic walk that prints its steps.)
-/
import Derived.Test.Qxb6500918aDoorP9
import Derived.Test.Qxb6500918aDoorEq
namespace Go.Proofs.Qxb6500918aDoor
open Go.Sx Go.Kn
set_option maxRecDepth 100000
set_option maxHeartbeats 4000000
set_option linter.unusedVariables false
set_option linter.unusedSimpArgs false

def liveP (E : Nat → Ent) (t : Int) (n : Nat) : List Rf := ((List.range n).filter (fun i => decide ((E i).ty = t))).map (fun (i : Nat) => refAtP E (i : Int))

theorem liveP_succ (E : Nat → Ent) (t : Int) (n : Nat) : liveP E t (n + 1) = if (E n).ty = t then liveP E t n ++ [refAtP E (n : Int)] else liveP E t n := by
  unfold liveP
  rw [List.range_succ, List.filter_append, List.map_append]
  by_cases h : (E n).ty = t
  · rw [if_pos h]; simp [h]
  · rw [if_neg h]; simp [h]

theorem liveP_len (E : Nat → Ent) (t : Int) (n : Nat) : (liveP E t n).length ≤ n := by
  unfold liveP
  rw [List.length_map]
  exact Nat.le_trans (List.length_filter_le _ _) (by simp)

theorem liveP_mem {E : Nat → Ent} {t : Int} {n : Nat} {r : Rf} (h : r ∈ liveP E t n) : ∃ i, i < n ∧ (E i).ty = t ∧ r = refAtP E (i : Int) := by
  unfold liveP at h
  obtain ⟨i, hi, e⟩ := List.mem_map.1 h
  obtain ⟨h1, h2⟩ := List.mem_filter.1 hi
  exact ⟨i, List.mem_range.1 h1, by simpa using h2, e.symm⟩

theorem lower_ok (kb bo bc : Nat) (S : KP) (w : World) (hb : w.heap[kb]? = some (Blk.obj ⟨kC bo bc S, 90, false⟩)) :
    Calls Tryd.prog 43 #[.pointer (some ⟨kb, 0, none⟩)] w fun e w' => e = .returned (.tuple #[.pointer (some ⟨bo, 0, none⟩), .pointer (some ⟨bc, 0, none⟩)]) ∧ Fr [] w w' := by
  refine enter0 (n := 12) (K := []) (T := [(0, .pointer (some ⟨kb, 0, none⟩))]) (L := [(kb, ⟨kC bo bc S, 90, true⟩)]) (args := [.pointer (some ⟨kb, 0, none⟩)]) Tryd.func43 rfl rfl rfl rfl (kcons hb knil) (by simp) (kcons (by intro hq; cases hq) knil) ?_
  intro a h
  refine wp_seq_k fun K1 hK1 => ?_
  refine nd_start (l := [0, 1]) rfl ?_
  refine nd_batch tabOk tabZ_ok [(0, {}), (1, {})] [0, 2, 3] (T' := [(0, .pointer (some ⟨kb, 0, none⟩)), (2, .pointer none), (3, .pointer none)]) (φ := True) (rest := []) h (by kernel_rfl) rfl trivial fun a2 h3 => ?_
  clear h
  refine nd_done ?_
  refine hK1 _ _ ?_
  clear hK1
  refine wp_seq_k fun K4 hK4 => ?_
  refine dr_start (KB := [kb]) (Bi := [[0], [0], [0], [0], [0], [0], [0], [0], [0], [0]]) mixed h3 fun w5 h6 => ?_
  clear h3
  refine dr_batch tabOk tabZ_ok (by repeat (first | with_reducible exact PF.body | with_reducible apply PF.inB | with_reducible apply PF.next)) [(0, {}), (1, {}), (2, {}), (3, {k := 0, m := 1, vs := [.pointer (some ⟨bo, 0, none⟩)], p := 0}), (4, {}), (5, {}), (6, {}), (7, {k := 0, m := 1, vs := [.pointer (some ⟨bc, 0, none⟩)], p := 0}), (8, {}), (9, {})] [0, 2, 3] (T' := [(0, .pointer (some ⟨kb, 0, none⟩)), (2, .pointer (some ⟨bo, 0, none⟩)), (3, .pointer (some ⟨bc, 0, none⟩))]) (φ := (kb = kb ∧ cellsAre (kC bo bc S) 0 [.pointer (some ⟨bo, 0, none⟩)]) ∧ (kb = kb ∧ cellsAre (kC bo bc S) 1 [.pointer (some ⟨bc, 0, none⟩)]) ∧ True) (fuel := 0) h6 (by kernel_rfl) rfl (by kernel_rfl) (by kernel_rfl) ⟨trivial, trivial, trivial, rfl, trivial, trivial, trivial, rfl, trivial, trivial, trivial⟩ ⟨⟨rfl, k_objs⟩, ⟨rfl, k_caps⟩, trivial⟩ fun a8 h9 => ?_
  clear h6
  refine wpAnyK_done (by kernel_rfl) ?_ _
  refine hK4 _ _ ?_
  clear hK4
  refine wp_ret ?_
  try simp only [Exit.then, Exit.inBlock]
  try rw [if_pos trivial]
  exact s_ret tabOk tabZ_ok h9 [(.tmp 2, {}), (.tmp 3, {})] (vs := [.pointer (some ⟨bo, 0, none⟩), .pointer (some ⟨bc, 0, none⟩)]) (φ := True) rfl (by kernel_rfl) trivial ⟨rfl, h9.frame⟩

theorem live_ok (kb bo bc : Nat) (S : KP) (E : Nat → Ent) (t : Int) (w : World) (hb : w.heap[kb]? = some (Blk.obj ⟨kC bo bc S, 90, false⟩)) (hs : w.heap[bo]? = some (Blk.obj ⟨stC E, 131, false⟩)) (hne : kb ≠ bo) :
    Calls Tryd.prog 27 #[.pointer (some ⟨kb, 0, none⟩), .int .u8 t] w fun e w' => ∃ o' c' F', e = .returned (.slice o' (liveP E t 256).length c') ∧ (rl rfC 39 2 (liveP E t 256) o' c' F').at w' ∧ Fr [] w w' ∧ ∀ b ∈ F', w.heap.size ≤ b := by
  have hlk := lt_of_heap hb
  have hlo := lt_of_heap hs
  refine enter (n := 34) (K := []) (A := Rws []) (F := Ff []) (T := [(0, .pointer (some ⟨kb, 0, none⟩)), (1, .int .u8 t)]) (L := [(kb, ⟨kC bo bc S, 90, true⟩), (bo, ⟨stC E, 131, true⟩)]) (args := [.pointer (some ⟨kb, 0, none⟩), .int .u8 t]) Tryd.func27 rfl rfl rfl rfl (kcons hb (kcons hs knil)) (by simp; exact hne) (kcons (by intro hq; cases hq) (kcons (by intro hq; cases hq) knil)) rws0 Rws.stable rws0.low (kcons (by intro hq; cases hq) (kcons (by intro hq; cases hq) knil)) ?_
  intro a h
  refine wp_seq_k fun K1 hK1 => ?_
  refine nd_start (l := [0]) rfl ?_
  refine nd_batch tabOk tabZ_ok [(0, {})] [0, 1, 4] (T' := [(0, .pointer (some ⟨kb, 0, none⟩)), (1, .int .u8 t), (4, .slice none 0 0)]) (φ := True) (rest := []) h (by kernel_rfl) rfl trivial fun a2 h3 => ?_
  clear h
  refine nd_done ?_
  refine hK1 _ _ ?_
  clear hK1
  refine wp_seq_k fun K4 hK4 => ?_
  refine nd_start (l := [0, 1, 2, 3, 4, 5, 6]) rfl ?_
  refine nd_batch tabOk tabZ_ok [(0, {})] [0, 1, 4, 10] (T' := [(0, .pointer (some ⟨kb, 0, none⟩)), (1, .int .u8 t), (4, .slice none 0 0), (10, .pointer (some ⟨kb, 0, none⟩))]) (φ := True) (rest := [1, 2, 3, 4, 5, 6]) h3 (by kernel_rfl) rfl trivial fun a5 h6 => ?_
  clear h3
  refine nd_op ?_
  refine op_call h6 rfl rfl rfl (callOk Tryd.func43 (by decide) rfl) (args := [.pointer (some ⟨kb, 0, none⟩)]) rfl (lower_ok kb bo bc S _ (h6.kn (k := 0) (blk := ⟨kC bo bc S, 90, true⟩) rfl)) ?_
  rintro _ w7 ⟨rfl, hf9⟩
  refine ⟨_, rfl, ?_⟩
  have h8 := (h6.grow hf9).put (d := some 11) (v := .tuple #[.pointer (some ⟨bo, 0, none⟩), .pointer (some ⟨bc, 0, none⟩)]) (T' := [(11, .tuple #[.pointer (some ⟨bo, 0, none⟩), .pointer (some ⟨bc, 0, none⟩)]), (0, .pointer (some ⟨kb, 0, none⟩)), (1, .int .u8 t), (4, .slice none 0 0), (10, .pointer (some ⟨kb, 0, none⟩))]) rfl
  clear h6
  refine nd_batch tabOk tabZ_ok [(2, {}), (3, {}), (4, {}), (5, {}), (6, {})] [0, 1, 4, 5] (T' := [(0, .pointer (some ⟨kb, 0, none⟩)), (1, .int .u8 t), (4, .slice none 0 0), (5, .pointer (some ⟨bo, 0, none⟩))]) (φ := True) (rest := []) h8 (by kernel_rfl) rfl trivial fun a10 h11 => ?_
  clear h8
  refine nd_done ?_
  refine hK4 _ _ ?_
  clear hK4
  refine wp_seq_k fun K12 hK12 => ?_
  refine nd_start (l := [0]) rfl ?_
  refine nd_batch tabOk tabZ_ok [(0, {})] [0, 1, 4, 5, 7] (T' := [(0, .pointer (some ⟨kb, 0, none⟩)), (1, .int .u8 t), (4, .slice none 0 0), (5, .pointer (some ⟨bo, 0, none⟩)), (7, .slice none 0 0)]) (φ := True) (rest := []) h11 (by kernel_rfl) rfl trivial fun a13 h14 => ?_
  clear h11
  refine nd_done ?_
  refine hK12 _ _ ?_
  clear hK12
  refine wp_seq_k fun K15 hK15 => ?_
  refine wp_seq_k fun K16 hK16 => ?_
  refine nd_start (l := [0]) rfl ?_
  refine nd_batch tabOk tabZ_ok [(0, {})] [0, 1, 4, 5, 7, 8] (T' := [(0, .pointer (some ⟨kb, 0, none⟩)), (1, .int .u8 t), (4, .slice none 0 0), (5, .pointer (some ⟨bo, 0, none⟩)), (7, .slice none 0 0), (8, .int .i64 0)]) (φ := True) (rest := []) h14 (by kernel_rfl) rfl trivial fun a17 h18 => ?_
  clear h14
  refine nd_done ?_
  refine hK16 _ _ ?_
  clear hK16
  refine wp_block ?_
  have h19a := h18.rowNil 39 2
  have h19 : St ⟨34, [], w, Rws [rl rfC 39 2 ([] : List Rf) none 0 ([])], Ff [rl rfC 39 2 ([] : List Rf) none 0 ([])]⟩ [(0, .pointer (some ⟨kb, 0, none⟩)), (1, .int .u8 t), (4, .slice none 0 0), (5, .pointer (some ⟨bo, 0, none⟩)), (7, .slice none 0 0), (8, .int .i64 0)] [(kb, ⟨kC bo bc S, 90, true⟩), (bo, ⟨stC E, 131, true⟩)] _ _ := h19a
  clear h18 h19a
  refine wp_loop_ghost (fun g ga gw => ∃ (o' : Option Addr) (c' : Nat) (F' : List Nat) (rs : List Rf) (i : Int), ((g : Int) = 256 - i) ∧ (0 ≤ i ∧ i ≤ 256) ∧ (rs = liveP E t i.toNat) ∧ (∀ b ∈ F', b ∈ ([] : List Nat) ∨ w.heap.size ≤ b) ∧ St ⟨34, [], w, Rws [rl rfC 39 2 rs o' c' F'], Ff [rl rfC 39 2 rs o' c' F']⟩ [(1, .int .u8 t), (5, .pointer (some ⟨bo, 0, none⟩)), (7, .slice o' rs.length c'), (8, .int .i64 i)] [(kb, ⟨kC bo bc S, 90, true⟩), (bo, ⟨stC E, 131, true⟩)] ga gw) 256 ⟨none, 0, [], [], 0, by decide, ⟨by decide, by decide⟩, rfl, (fun _ hq => by cases hq), (h19.slotsMono (restr_spec (keep := [1, 5, 7, 8]) rfl))⟩ ?_
  clear h19
  rintro g a20 w21 ⟨o', c', F', rs, i, hi23, hi24, hi25, hi26, h22⟩
  have hig := hi23
  have hi0 := hi24
  have hrs := hi25
  have hFK := hi26
  have hrl : rs.length ≤ 256 := by rw [hrs]; exact Nat.le_trans (liveP_len _ _ _) (by omega)
  have hsu := liveP_succ E t i.toNat
  refine wp_seq_k fun K27 hK27 => ?_
  refine wp_seq_k fun K28 hK28 => ?_
  refine nd_start (l := [0, 1]) rfl ?_
  refine nd_batch tabOk tabZ_ok [(0, {}), (1, {})] [1, 5, 7, 8, 15] (T' := [(1, .int .u8 t), (5, .pointer (some ⟨bo, 0, none⟩)), (7, .slice o' rs.length c'), (8, .int .i64 i), (15, .bool (decide (i < 256)))]) (φ := True) (rest := []) h22 (by kernel_rfl) rfl trivial fun a29 h30 => ?_
  clear h22
  refine nd_done ?_
  refine hK28 _ _ ?_
  clear hK28
  refine c_split h30 (b := decide (i < 256)) rfl (fun hc31 => ?_) (fun hc31 => ?_)
  ·
    have hc31f : i < 256 := by simpa using hc31
    refine wp_skip ?_
    refine hK27 _ _ ?_
    clear hK27
    refine wp_seq_k fun K32 hK32 => ?_
    refine wp_block ?_
    refine wp_seq_k fun K33 hK33 => ?_
    refine nd_start (l := [0, 1, 2, 3, 4, 5, 6, 7, 8]) rfl ?_
    refine nd_batch tabOk tabZ_ok [(0, {}), (1, {}), (2, {}), (3, {}), (4, {}), (5, {}), (6, {k := 1, m := 1, vs := [.int .u8 ((E i.toNat).ty)]}), (7, {}), (8, {})] [1, 5, 7, 8, 26] (T' := [(1, .int .u8 t), (5, .pointer (some ⟨bo, 0, none⟩)), (7, .slice o' rs.length c'), (8, .int .i64 i), (26, .bool ((E i.toNat).ty == t))]) (φ := (0 ≤ i ∧ i < 257) ∧ (bo = bo ∧ cellsAre (stC E) (0 + (i.toNat * 4)) [.int .u8 ((E i.toNat).ty)]) ∧ True) (rest := []) h30 (by kernel_rfl) rfl ⟨⟨by omega, by omega⟩, ⟨rfl, (st_read (i := i.toNat) (k := 0) (by omega) (by omega) ⟨rfl, trivial⟩)⟩, trivial⟩ fun a34 h35 => ?_
    clear h30
    refine nd_done ?_
    refine hK33 _ _ ?_
    clear hK33
    refine c_split h35 (b := ((E i.toNat).ty == t)) rfl (fun hc36 => ?_) (fun hc36 => ?_)
    ·
      have hc36f : (E i.toNat).ty = t := by simpa using hc36
      rw [if_pos hc36f] at hsu
      refine nd_start (l := [0, 1, 2, 3, 4, 5, 6]) rfl ?_
      refine nd_batch tabOk tabZ_ok [(0, {}), (1, {}), (2, {})] [1, 5, 7, 8, 27, 28, 29] (T' := [(1, .int .u8 t), (5, .pointer (some ⟨bo, 0, none⟩)), (7, .slice o' rs.length c'), (8, .int .i64 i), (27, .slice o' rs.length c'), (28, .pointer (some ⟨bo, 0, none⟩)), (29, .int .i64 i)]) (φ := True) (rest := [3, 4, 5, 6]) h35 (by kernel_rfl) rfl trivial fun a37 h38 => ?_
      clear h35
      refine nd_op ?_
      refine op_call h38 rfl rfl rfl (callOk Tryd.func41 (by decide) rfl) (args := [.pointer (some ⟨bo, 0, none⟩), .int .i64 i]) rfl (refAt_ok bo E i ⟨by omega, by omega⟩ _ (h38.kn (k := 1) (blk := ⟨stC E, 131, true⟩) rfl)) ?_
      rintro _ w39 ⟨rfl, hf41⟩
      refine ⟨_, rfl, ?_⟩
      have h40 := (h38.grow hf41).put (d := some 30) (v := .agg #[.int .u16 ((refAtP E i).idx), .int .u32 ((refAtP E i).gen)]) (T' := [(30, .agg #[.int .u16 ((refAtP E i).idx), .int .u32 ((refAtP E i).gen)]), (1, .int .u8 t), (5, .pointer (some ⟨bo, 0, none⟩)), (7, .slice o' rs.length c'), (8, .int .i64 i), (27, .slice o' rs.length c'), (28, .pointer (some ⟨bo, 0, none⟩)), (29, .int .i64 i)]) rfl
      clear h38
      refine nd_op ?_
      refine op_new tabOk (cells := [.int .u16 ((refAtP E i).idx), .int .u32 ((refAtP E i).gen)]) (ty := 39) (ln := (some 1)) (L1 := fun b42 => [(kb, ⟨kC bo bc S, 90, true⟩), (bo, ⟨stC E, 131, true⟩), (b42, ⟨[.int .u16 ((refAtP E i).idx), .int .u32 ((refAtP E i).gen)], 39, false⟩)]) h40 rfl rfl rfl rfl (by kernel_rfl) (fun _ => rfl) fun b42 w43 a44 h45 hf46 hn47 => ?_
      clear h40
      refine nd_op ?_
      refine op_append tabOk (e := 39) (so := o') (n := rs.length) (c := c') (xo := some ⟨b42, 0, none⟩) (m := 1) (cx := 1) (vals := rs.flatMap rfC) (vs := [.int .u16 ((refAtP E i).idx), .int .u32 ((refAtP E i).gen)]) (F := F') h45 rfl rfl rfl rfl rfl rfl rfl rfl rfl rfl rfl rfl (h45.inv.get (j := 0) rfl) (src_one (h45.kn (k := 2) rfl) rfl ⟨rfl, rfl, trivial⟩) (by omega) rfl ?_
      intro o48 c49 F50 w51 hr52 hf53 hF54
      have hr522 := rl_app1 (enc := rfC) (xs := rs) (y := (refAtP E i)) hr52
      have hKh55 := row1_keys (K := []) hFK h45.frame.size hF54
      rw [show rs.length + 1 = (rs ++ [(refAtP E i)]).length by simp]
      have h55 := (h45.rowSet (j := 0) (r' := rl rfC 39 2 (rs ++ [(refAtP E i)]) o48 c49 F50) (R' := [rl rfC 39 2 (rs ++ [(refAtP E i)]) o48 c49 F50]) rfl hr522 hf53 hF54 hFK (kcons (fun _ => (fun hq => by have h1 := (hFK _ hq).resolve_left (fun hz => by cases hz); omega)) (kcons (fun _ => (fun hq => by have h1 := (hFK _ hq).resolve_left (fun hz => by cases hz); omega)) (kcons (by intro hq; cases hq) knil))) rfl).put (d := some 32) (v := .slice o48 ((rs ++ [(refAtP E i)]).length) c49) (T' := [(32, .slice o48 ((rs ++ [(refAtP E i)]).length) c49), (31, .slice (some ⟨b42, 0, none⟩) 1 1), (30, .agg #[.int .u16 ((refAtP E i).idx), .int .u32 ((refAtP E i).gen)]), (1, .int .u8 t), (5, .pointer (some ⟨bo, 0, none⟩)), (7, .slice o' rs.length c'), (8, .int .i64 i), (27, .slice o' rs.length c'), (28, .pointer (some ⟨bo, 0, none⟩)), (29, .int .i64 i)]) rfl
      clear h45
      refine nd_batch tabOk tabZ_ok [(6, {})] [1, 5, 8, 7] (T' := [(1, .int .u8 t), (5, .pointer (some ⟨bo, 0, none⟩)), (8, .int .i64 i), (7, .slice o48 ((rs ++ [(refAtP E i)]).length) c49)]) (φ := True) (rest := []) h55 (by kernel_rfl) rfl trivial fun a56 h57 => ?_
      clear h55
      refine nd_done ?_
      refine hK32 _ _ ?_
      clear hK32
      refine nd_start (l := [0, 1, 2]) rfl ?_
      refine nd_batch tabOk tabZ_ok [(0, {}), (1, {}), (2, {})] [1, 5, 7, 8] (T' := [(1, .int .u8 t), (5, .pointer (some ⟨bo, 0, none⟩)), (7, .slice o48 ((rs ++ [(refAtP E i)]).length) c49), (8, .int .i64 (i + 1))]) (φ := inR .i64 (i + 1) ∧ True) (rest := []) h57 (by kernel_rfl) rfl ⟨⟨by omega, by omega⟩, trivial⟩ fun a58 h59 => ?_
      clear h57
      refine nd_done ?_
      have h60 := h59.memMono (L' := [(kb, ⟨kC bo bc S, 90, true⟩), (bo, ⟨stC E, 131, true⟩)]) (List.Sublist.cons_cons _ (List.Sublist.cons_cons _ (List.Sublist.cons _ List.Sublist.slnil)))
      clear h59
      exact ⟨(g - 1), by omega, o48, c49, F50, (rs ++ [(refAtP E i)]), (i + 1), by omega, ⟨by omega, by omega⟩, (by rw [show (i + 1).toNat = i.toNat + 1 by omega, hsu, hrs]; try rw [show ((i.toNat : Nat) : Int) = i by omega]), hKh55, (h60.slotsMono (restr_spec (keep := [1, 5, 7, 8]) rfl))⟩
    ·
      have hc36f : (E i.toNat).ty ≠ t := by simpa using hc36
      rw [if_neg hc36f] at hsu
      refine wp_skip ?_
      refine hK32 _ _ ?_
      clear hK32
      refine nd_start (l := [0, 1, 2]) rfl ?_
      refine nd_batch tabOk tabZ_ok [(0, {}), (1, {}), (2, {})] [1, 5, 7, 8] (T' := [(1, .int .u8 t), (5, .pointer (some ⟨bo, 0, none⟩)), (7, .slice o' rs.length c'), (8, .int .i64 (i + 1))]) (φ := inR .i64 (i + 1) ∧ True) (rest := []) h35 (by kernel_rfl) rfl ⟨⟨by omega, by omega⟩, trivial⟩ fun a61 h62 => ?_
      clear h35
      refine nd_done ?_
      exact ⟨(g - 1), by omega, o', c', F', rs, (i + 1), by omega, ⟨by omega, by omega⟩, (by rw [show (i + 1).toNat = i.toNat + 1 by omega, hsu, hrs]; try rw [show ((i.toNat : Nat) : Int) = i by omega]), hFK, (h62.slotsMono (restr_spec (keep := [1, 5, 7, 8]) rfl))⟩
  ·
    have hc31f : ¬ i < 256 := by simpa using hc31
    have hfin : i.toNat = 256 := by omega
    rw [hfin] at hrs
    refine wp_exit ?_
    refine hK15 _ _ ?_
    clear hK15
    refine wp_seq_k fun K63 hK63 => ?_
    refine nd_start (l := [0, 1]) rfl ?_
    refine nd_batch tabOk tabZ_ok [(0, {}), (1, {})] [1, 5, 7, 8, 4] (T' := [(1, .int .u8 t), (5, .pointer (some ⟨bo, 0, none⟩)), (7, .slice o' rs.length c'), (8, .int .i64 i), (4, .slice o' rs.length c')]) (φ := True) (rest := []) h30 (by kernel_rfl) rfl trivial fun a64 h65 => ?_
    clear h30
    refine nd_done ?_
    refine hK63 _ _ ?_
    clear hK63
    refine wp_ret ?_
    try simp only [Exit.then, Exit.inBlock]
    try rw [if_pos trivial]
    exact s_ret tabOk tabZ_ok h65 [(.tmp 4, {})] (vs := [.slice o' rs.length c']) (φ := True) rfl (by kernel_rfl) trivial ⟨o', c', F', by rw [← hrs]; rfl, by rw [← hrs]; exact h65.inv.get (j := 0) rfl, h65.frame, fun b hb => (hFK b hb).resolve_left (fun hz => by cases hz)⟩

theorem onlySlot_ok (kb bo bc : Nat) (S : KP) (rS : RI S) (E : Nat → Ent) (h256 : (E 256).ty = 1) (kb2 bo2 bc2 : Nat) (S2 : KP) (rS2 : RI S2) (E2 : Nat → Ent) (h256b : (E2 256).ty = 1) (s : Rf) (hf : ∀ i, i < 256 → (E2 i).ty = 3 → refAtP E2 (i : Int) ≠ s → (threadP S2 E2 (refAtP E2 (i : Int))).1.rep = (threadP S E (refAtP E2 (i : Int))).1.rep) (w : World) (hb : w.heap[kb]? = some (Blk.obj ⟨kC bo bc S, 90, false⟩)) (hs : w.heap[bo]? = some (Blk.obj ⟨stC E, 131, false⟩)) (hne : kb ≠ bo) (hb2 : w.heap[kb2]? = some (Blk.obj ⟨kC bo2 bc2 S2, 90, false⟩)) (hs2 : w.heap[bo2]? = some (Blk.obj ⟨stC E2, 131, false⟩)) (hne2 : kb2 ≠ bo2) :
    Calls Tryd.prog 28 #[.pointer (some ⟨kb, 0, none⟩), .pointer (some ⟨kb2, 0, none⟩), .agg #[.int .u16 s.idx, .int .u32 s.gen]] w fun e w' => e = .returned (.bool true) ∧ Fr [] w w' := by
  have hll := liveP_len E2 3 256
  refine enter (n := 43) (K := []) (A := Rws []) (F := Ff []) (T := [(0, .pointer (some ⟨kb, 0, none⟩)), (1, .pointer (some ⟨kb2, 0, none⟩)), (2, .agg #[.int .u16 s.idx, .int .u32 s.gen])]) (L := []) (args := [.pointer (some ⟨kb, 0, none⟩), .pointer (some ⟨kb2, 0, none⟩), .agg #[.int .u16 s.idx, .int .u32 s.gen]]) Tryd.func28 rfl rfl rfl rfl knil (by simp) knil rws0 Rws.stable rws0.low knil ?_
  intro a h
  refine wp_seq_k fun K1 hK1 => ?_
  refine nd_start (l := [0, 1]) rfl ?_
  refine nd_op ?_
  refine op_new tabOk (cells := [.int .u16 s.idx, .int .u32 s.gen]) (ty := 39) (ln := none) (L1 := fun b2 => [(b2, ⟨[.int .u16 s.idx, .int .u32 s.gen], 39, false⟩)]) h rfl rfl rfl rfl (by kernel_rfl) (fun _ => rfl) fun b2 w3 a4 h5 hf6 hn7 => ?_
  clear h
  refine nd_batch tabOk tabZ_ok [(1, {})] [5, 0, 1, 2, 6] (T' := [(5, .pointer (some ⟨b2, 0, none⟩)), (0, .pointer (some ⟨kb, 0, none⟩)), (1, .pointer (some ⟨kb2, 0, none⟩)), (2, .agg #[.int .u16 s.idx, .int .u32 s.gen]), (6, .bool false)]) (φ := True) (rest := []) h5 (by kernel_rfl) rfl trivial fun a8 h9 => ?_
  clear h5
  refine nd_done ?_
  refine hK1 _ _ ?_
  clear hK1
  refine wp_seq_k fun K10 hK10 => ?_
  refine wp_seq_k fun K11 hK11 => ?_
  refine nd_start (l := [0, 1, 2, 3]) rfl ?_
  refine nd_batch tabOk tabZ_ok [(0, {})] [5, 0, 1, 2, 6, 13] (T' := [(5, .pointer (some ⟨b2, 0, none⟩)), (0, .pointer (some ⟨kb, 0, none⟩)), (1, .pointer (some ⟨kb2, 0, none⟩)), (2, .agg #[.int .u16 s.idx, .int .u32 s.gen]), (6, .bool false), (13, .pointer (some ⟨kb2, 0, none⟩))]) (φ := True) (rest := [1, 2, 3]) h9 (by kernel_rfl) rfl trivial fun a12 h13 => ?_
  clear h9
  refine nd_op ?_
  have h14a := h13.rowNil 39 2
  have h14 : St ⟨43, [], w, Rws [rl rfC 39 2 ([] : List Rf) none 0 ([])], Ff [rl rfC 39 2 ([] : List Rf) none 0 ([])]⟩ [(5, .pointer (some ⟨b2, 0, none⟩)), (0, .pointer (some ⟨kb, 0, none⟩)), (1, .pointer (some ⟨kb2, 0, none⟩)), (2, .agg #[.int .u16 s.idx, .int .u32 s.gen]), (6, .bool false), (13, .pointer (some ⟨kb2, 0, none⟩))] [(b2, ⟨[.int .u16 s.idx, .int .u32 s.gen], 39, false⟩)] _ _ := h14a
  clear h13 h14a
  refine op_call h14 rfl rfl rfl (callOk Tryd.func27 (by decide) rfl) (args := [.pointer (some ⟨kb2, 0, none⟩), .int .u8 3]) rfl (live_ok kb2 bo2 bc2 S2 E2 3 _ (heap_fr hb2 h14.frame) (heap_fr hs2 h14.frame) hne2) ?_
  rintro _ w21 ⟨o15, c16, F17, rfl, hr18, hf19, hF20⟩
  refine ⟨_, rfl, ?_⟩
  have hF20w : ∀ b ∈ F17, w.heap.size ≤ b := fun b hb => Nat.le_trans h14.frame.size (hF20 b hb)
  have h22 := (h14.rowSet (j := 0) (r' := rl rfC 39 2 (liveP E2 3 256) o15 c16 F17) (R' := [rl rfC 39 2 (liveP E2 3 256) o15 c16 F17]) rfl hr18 hf19 (fun b hb => .inr (hF20 b hb)) (fun _ hq => by cases hq) (kcons (by intro hq; cases hq) knil) rfl).put (d := some 14) (v := .slice o15 ((liveP E2 3 256).length) c16) (T' := [(14, .slice o15 ((liveP E2 3 256).length) c16), (5, .pointer (some ⟨b2, 0, none⟩)), (0, .pointer (some ⟨kb, 0, none⟩)), (1, .pointer (some ⟨kb2, 0, none⟩)), (2, .agg #[.int .u16 s.idx, .int .u32 s.gen]), (6, .bool false), (13, .pointer (some ⟨kb2, 0, none⟩))]) rfl
  clear h14
  refine nd_batch tabOk tabZ_ok [(2, {}), (3, {})] [14, 5, 0, 1, 2, 6, 15, 16] (T' := [(14, .slice o15 ((liveP E2 3 256).length) c16), (5, .pointer (some ⟨b2, 0, none⟩)), (0, .pointer (some ⟨kb, 0, none⟩)), (1, .pointer (some ⟨kb2, 0, none⟩)), (2, .agg #[.int .u16 s.idx, .int .u32 s.gen]), (6, .bool false), (15, .int .i64 (((liveP E2 3 256).length : Nat) : Int)), (16, .int .i64 0)]) (φ := True) (rest := []) h22 (by kernel_rfl) rfl trivial fun a23 h24 => ?_
  clear h22
  refine nd_done ?_
  refine hK11 _ _ ?_
  clear hK11
  refine wp_block ?_
  refine wp_loop_ghost (fun g ga gw => ∃ (i : Int), ((g : Int) = (liveP E2 3 256).length - i) ∧ (0 ≤ i ∧ i ≤ (liveP E2 3 256).length) ∧ St ⟨43, [], w, Rws [rl rfC 39 2 (liveP E2 3 256) o15 c16 F17], Ff [rl rfC 39 2 (liveP E2 3 256) o15 c16 F17]⟩ [(14, .slice o15 ((liveP E2 3 256).length) c16), (5, .pointer (some ⟨b2, 0, none⟩)), (0, .pointer (some ⟨kb, 0, none⟩)), (1, .pointer (some ⟨kb2, 0, none⟩)), (15, .int .i64 (((liveP E2 3 256).length : Nat) : Int)), (16, .int .i64 i)] [(b2, ⟨[.int .u16 s.idx, .int .u32 s.gen], 39, false⟩)] ga gw) (liveP E2 3 256).length ⟨0, by simp, ⟨by simp, by simp⟩, (h24.slotsMono (restr_spec (keep := [14, 5, 0, 1, 15, 16]) rfl))⟩ ?_
  clear h24
  rintro g a25 w26 ⟨i, hi28, hi29, h27⟩
  have hig := hi28
  have hi0 := hi29
  refine wp_seq_k fun K30 hK30 => ?_
  refine nd_start (l := [0]) rfl ?_
  refine nd_batch tabOk tabZ_ok [(0, {})] [14, 5, 0, 1, 15, 16, 17] (T' := [(14, .slice o15 ((liveP E2 3 256).length) c16), (5, .pointer (some ⟨b2, 0, none⟩)), (0, .pointer (some ⟨kb, 0, none⟩)), (1, .pointer (some ⟨kb2, 0, none⟩)), (15, .int .i64 (((liveP E2 3 256).length : Nat) : Int)), (16, .int .i64 i), (17, .bool (decide (i < (((liveP E2 3 256).length : Nat) : Int))))]) (φ := True) (rest := []) h27 (by kernel_rfl) rfl trivial fun a31 h32 => ?_
  clear h27
  refine nd_done ?_
  refine hK30 _ _ ?_
  clear hK30
  refine wp_seq_k fun K33 hK33 => ?_
  refine c_split h32 (b := decide (i < (((liveP E2 3 256).length : Nat) : Int))) rfl (fun hc34 => ?_) (fun hc34 => ?_)
  ·
    have hc34f : i < (((liveP E2 3 256).length : Nat) : Int) := by simpa using hc34
    obtain ⟨r, hr9⟩ : ∃ r, (liveP E2 3 256)[i.toNat]? = some r := ⟨(liveP E2 3 256)[i.toNat]'(by omega), by simp⟩
    obtain ⟨j9, hj9, hjt, hje⟩ := liveP_mem (List.mem_of_getElem? hr9)
    have hrr : 0 ≤ r.idx ∧ r.idx < 256 := by rw [hje, refAt_idx ⟨by omega, by omega⟩]; omega
    obtain ⟨wt, okw, ew⟩ : ∃ a b, threadP S E r = (a, b) := ⟨_, _, rfl⟩
    obtain ⟨nt, okn, en⟩ : ∃ a b, threadP S2 E2 r = (a, b) := ⟨_, _, rfl⟩
    have hqf : r ≠ s → nt.rep = wt.rep := fun hne9 => by have := hf j9 hj9 hjt (by rw [← hje]; exact hne9); rw [← hje, ew, en] at this; exact this
    obtain ⟨rb35, cs36, ho38, hb37, hrd40, hF39, _⟩ := rl_open (h32.inv.get (j := 0) rfl) rfC_len hr9
    subst ho38 hF39
    have h41 := h32.open_ hb37 (h32.notinL (by simp [Ff, rl]) (kcons (by intro hq; cases hq) knil))
    clear h32
    refine wp_skip ?_
    refine hK33 _ _ ?_
    clear hK33
    refine wp_seq_k fun K42 hK42 => ?_
    refine wp_block ?_
    refine wp_seq_k fun K43 hK43 => ?_
    refine nd_start (l := [0, 1, 2, 3]) rfl ?_
    refine nd_batch tabOk tabZ_ok [(0, {}), (1, {k := 1, m := 1, vs := [.int .u16 r.idx, .int .u32 r.gen]})] [14, 5, 0, 1, 15, 16, 19] (T' := [(14, .slice (some ⟨rb35, 0, none⟩) ((liveP E2 3 256).length) c16), (5, .pointer (some ⟨b2, 0, none⟩)), (0, .pointer (some ⟨kb, 0, none⟩)), (1, .pointer (some ⟨kb2, 0, none⟩)), (15, .int .i64 (((liveP E2 3 256).length : Nat) : Int)), (16, .int .i64 i), (19, .agg #[.int .u16 r.idx, .int .u32 r.gen])]) (φ := (0 ≤ i ∧ i < (((liveP E2 3 256).length : Nat) : Int)) ∧ (rb35 = rb35 ∧ cellsAre cs36 (0 + (i.toNat * 2)) [.int .u16 r.idx, .int .u32 r.gen]) ∧ True) (rest := [2, 3]) h41 (by kernel_rfl) rfl ⟨⟨by omega, by omega⟩, ⟨rfl, (by rw [Nat.zero_add]; exact hrd40)⟩, trivial⟩ fun a44 h45 => ?_
    clear h41
    refine nd_op ?_
    refine op_new tabOk (cells := [.int .u16 0, .int .u32 0]) (ty := 39) (ln := none) (L1 := fun b46 => [(b2, ⟨[.int .u16 s.idx, .int .u32 s.gen], 39, false⟩), (rb35, ⟨cs36, 39, true⟩), (b46, ⟨[.int .u16 0, .int .u32 0], 39, false⟩)]) h45 rfl rfl rfl rfl (by kernel_rfl) (fun _ => rfl) fun b46 w47 a48 h49 hf50 hn51 => ?_
    clear h45
    refine nd_op ?_
    refine op_store tabOk {k := 2} (L' := [(b2, ⟨[.int .u16 s.idx, .int .u32 s.gen], 39, false⟩), (rb35, ⟨cs36, 39, true⟩), (b46, ⟨[.int .u16 r.idx, .int .u32 r.gen], 39, false⟩)]) (φ := b46 = b46 ∧ Nat.ble (0 + 2) 2 = true) h49 rfl rfl rfl (by kernel_rfl) ⟨rfl, rfl⟩ fun w52 h53 => ?_
    clear h49
    refine nd_done ?_
    refine hK43 _ _ ?_
    clear hK43
    refine wp_seq_k fun K54 hK54 => ?_
    refine nd_start (l := [0, 1, 2, 3, 4, 5, 6, 7, 8]) rfl ?_
    refine nd_batch tabOk tabZ_ok [(0, {}), (1, {k := 2})] [8, 14, 5, 0, 1, 15, 16, 21, 22] (T' := [(8, .pointer (some ⟨b46, 0, none⟩)), (14, .slice (some ⟨rb35, 0, none⟩) ((liveP E2 3 256).length) c16), (5, .pointer (some ⟨b2, 0, none⟩)), (0, .pointer (some ⟨kb, 0, none⟩)), (1, .pointer (some ⟨kb2, 0, none⟩)), (15, .int .i64 (((liveP E2 3 256).length : Nat) : Int)), (16, .int .i64 i), (21, .pointer (some ⟨kb, 0, none⟩)), (22, .agg #[.int .u16 r.idx, .int .u32 r.gen])]) (φ := (b46 = b46 ∧ Nat.ble (0 + 2) 2 = true) ∧ True) (rest := [2, 3, 4, 5, 6, 7, 8]) h53 (by kernel_rfl) rfl ⟨⟨rfl, rfl⟩, trivial⟩ fun a55 h56 => ?_
    clear h53
    refine nd_op ?_
    refine op_call h56 rfl rfl rfl (callOk Tryd.func25 (by decide) rfl) (args := [.pointer (some ⟨kb, 0, none⟩), .agg #[.int .u16 r.idx, .int .u32 r.gen]]) rfl (threadE kb bo bc S rS h256 r ⟨hrr.1, by omega⟩ _ (heap_fr hb h56.frame) (heap_fr hs h56.frame) hne ew) ?_
    rintro _ w57 ⟨rfl, hf59⟩
    refine ⟨_, rfl, ?_⟩
    have h58 := (h56.grow hf59).put (d := some 23) (v := .tuple #[.agg #[.int .u8 wt.st, .int .u8 wt.prio, .int .u16 wt.wait.idx, .int .u32 wt.wait.gen, .int .u16 wt.cs.idx, .int .u32 wt.cs.gen, .int .u16 wt.rep.idx, .int .u32 wt.rep.gen, .int .u64 wt.badge, .int .u64 wt.m0, .int .u64 wt.m1, .int .u64 wt.m2, .int .u64 wt.m3, .int .u8 wt.len, .int .u8 wt.got, .int .u32 wt.xfer, .int .u32 wt.dst, .bool wt.grant, .bool wt.call], .bool okw]) (T' := [(23, .tuple #[.agg #[.int .u8 wt.st, .int .u8 wt.prio, .int .u16 wt.wait.idx, .int .u32 wt.wait.gen, .int .u16 wt.cs.idx, .int .u32 wt.cs.gen, .int .u16 wt.rep.idx, .int .u32 wt.rep.gen, .int .u64 wt.badge, .int .u64 wt.m0, .int .u64 wt.m1, .int .u64 wt.m2, .int .u64 wt.m3, .int .u8 wt.len, .int .u8 wt.got, .int .u32 wt.xfer, .int .u32 wt.dst, .bool wt.grant, .bool wt.call], .bool okw]), (8, .pointer (some ⟨b46, 0, none⟩)), (14, .slice (some ⟨rb35, 0, none⟩) ((liveP E2 3 256).length) c16), (5, .pointer (some ⟨b2, 0, none⟩)), (0, .pointer (some ⟨kb, 0, none⟩)), (1, .pointer (some ⟨kb2, 0, none⟩)), (15, .int .i64 (((liveP E2 3 256).length : Nat) : Int)), (16, .int .i64 i), (21, .pointer (some ⟨kb, 0, none⟩)), (22, .agg #[.int .u16 r.idx, .int .u32 r.gen])]) rfl
    clear h56
    refine nd_batch tabOk tabZ_ok [(3, {}), (4, {}), (5, {})] [8, 14, 5, 0, 1, 15, 16, 24, 25] (T' := [(8, .pointer (some ⟨b46, 0, none⟩)), (14, .slice (some ⟨rb35, 0, none⟩) ((liveP E2 3 256).length) c16), (5, .pointer (some ⟨b2, 0, none⟩)), (0, .pointer (some ⟨kb, 0, none⟩)), (1, .pointer (some ⟨kb2, 0, none⟩)), (15, .int .i64 (((liveP E2 3 256).length : Nat) : Int)), (16, .int .i64 i), (24, .agg #[.int .u8 wt.st, .int .u8 wt.prio, .int .u16 wt.wait.idx, .int .u32 wt.wait.gen, .int .u16 wt.cs.idx, .int .u32 wt.cs.gen, .int .u16 wt.rep.idx, .int .u32 wt.rep.gen, .int .u64 wt.badge, .int .u64 wt.m0, .int .u64 wt.m1, .int .u64 wt.m2, .int .u64 wt.m3, .int .u8 wt.len, .int .u8 wt.got, .int .u32 wt.xfer, .int .u32 wt.dst, .bool wt.grant, .bool wt.call]), (25, .bool okw)]) (φ := True) (rest := [6, 7, 8]) h58 (by kernel_rfl) rfl trivial fun a60 h61 => ?_
    clear h58
    refine nd_op ?_
    refine op_new tabOk (cells := [.int .u8 0, .int .u8 0, .int .u16 0, .int .u32 0, .int .u16 0, .int .u32 0, .int .u16 0, .int .u32 0, .int .u64 0, .int .u64 0, .int .u64 0, .int .u64 0, .int .u64 0, .int .u8 0, .int .u8 0, .int .u32 0, .int .u32 0, .bool false, .bool false]) (ty := 59) (ln := none) (L1 := fun b62 => [(b2, ⟨[.int .u16 s.idx, .int .u32 s.gen], 39, false⟩), (rb35, ⟨cs36, 39, true⟩), (b46, ⟨[.int .u16 r.idx, .int .u32 r.gen], 39, false⟩), (b62, ⟨[.int .u8 0, .int .u8 0, .int .u16 0, .int .u32 0, .int .u16 0, .int .u32 0, .int .u16 0, .int .u32 0, .int .u64 0, .int .u64 0, .int .u64 0, .int .u64 0, .int .u64 0, .int .u8 0, .int .u8 0, .int .u32 0, .int .u32 0, .bool false, .bool false], 59, false⟩)]) h61 rfl rfl rfl rfl (by kernel_rfl) (fun _ => rfl) fun b62 w63 a64 h65 hf66 hn67 => ?_
    clear h61
    refine nd_op ?_
    refine op_store tabOk {k := 3} (L' := [(b2, ⟨[.int .u16 s.idx, .int .u32 s.gen], 39, false⟩), (rb35, ⟨cs36, 39, true⟩), (b46, ⟨[.int .u16 r.idx, .int .u32 r.gen], 39, false⟩), (b62, ⟨[.int .u8 wt.st, .int .u8 wt.prio, .int .u16 wt.wait.idx, .int .u32 wt.wait.gen, .int .u16 wt.cs.idx, .int .u32 wt.cs.gen, .int .u16 wt.rep.idx, .int .u32 wt.rep.gen, .int .u64 wt.badge, .int .u64 wt.m0, .int .u64 wt.m1, .int .u64 wt.m2, .int .u64 wt.m3, .int .u8 wt.len, .int .u8 wt.got, .int .u32 wt.xfer, .int .u32 wt.dst, .bool wt.grant, .bool wt.call], 59, false⟩)]) (φ := b62 = b62 ∧ Nat.ble (0 + 19) 19 = true) h65 rfl rfl rfl (by kernel_rfl) ⟨rfl, rfl⟩ fun w68 h69 => ?_
    clear h65
    refine nd_batch tabOk tabZ_ok [(8, {})] [9, 8, 14, 5, 0, 1, 15, 16] (T' := [(9, .pointer (some ⟨b62, 0, none⟩)), (8, .pointer (some ⟨b46, 0, none⟩)), (14, .slice (some ⟨rb35, 0, none⟩) ((liveP E2 3 256).length) c16), (5, .pointer (some ⟨b2, 0, none⟩)), (0, .pointer (some ⟨kb, 0, none⟩)), (1, .pointer (some ⟨kb2, 0, none⟩)), (15, .int .i64 (((liveP E2 3 256).length : Nat) : Int)), (16, .int .i64 i)]) (φ := True) (rest := []) h69 (by kernel_rfl) rfl trivial fun a70 h71 => ?_
    clear h69
    refine nd_done ?_
    refine hK54 _ _ ?_
    clear hK54
    refine wp_seq_k fun K72 hK72 => ?_
    refine nd_start (l := [0, 1, 2, 3, 4, 5, 6, 7, 8]) rfl ?_
    refine nd_batch tabOk tabZ_ok [(0, {}), (1, {k := 2})] [9, 8, 14, 5, 0, 1, 15, 16, 27, 28] (T' := [(9, .pointer (some ⟨b62, 0, none⟩)), (8, .pointer (some ⟨b46, 0, none⟩)), (14, .slice (some ⟨rb35, 0, none⟩) ((liveP E2 3 256).length) c16), (5, .pointer (some ⟨b2, 0, none⟩)), (0, .pointer (some ⟨kb, 0, none⟩)), (1, .pointer (some ⟨kb2, 0, none⟩)), (15, .int .i64 (((liveP E2 3 256).length : Nat) : Int)), (16, .int .i64 i), (27, .pointer (some ⟨kb2, 0, none⟩)), (28, .agg #[.int .u16 r.idx, .int .u32 r.gen])]) (φ := (b46 = b46 ∧ Nat.ble (0 + 2) 2 = true) ∧ True) (rest := [2, 3, 4, 5, 6, 7, 8]) h71 (by kernel_rfl) rfl ⟨⟨rfl, rfl⟩, trivial⟩ fun a73 h74 => ?_
    clear h71
    refine nd_op ?_
    refine op_call h74 rfl rfl rfl (callOk Tryd.func25 (by decide) rfl) (args := [.pointer (some ⟨kb2, 0, none⟩), .agg #[.int .u16 r.idx, .int .u32 r.gen]]) rfl (threadE kb2 bo2 bc2 S2 rS2 h256b r ⟨hrr.1, by omega⟩ _ (heap_fr hb2 h74.frame) (heap_fr hs2 h74.frame) hne2 en) ?_
    rintro _ w75 ⟨rfl, hf77⟩
    refine ⟨_, rfl, ?_⟩
    have h76 := (h74.grow hf77).put (d := some 29) (v := .tuple #[.agg #[.int .u8 nt.st, .int .u8 nt.prio, .int .u16 nt.wait.idx, .int .u32 nt.wait.gen, .int .u16 nt.cs.idx, .int .u32 nt.cs.gen, .int .u16 nt.rep.idx, .int .u32 nt.rep.gen, .int .u64 nt.badge, .int .u64 nt.m0, .int .u64 nt.m1, .int .u64 nt.m2, .int .u64 nt.m3, .int .u8 nt.len, .int .u8 nt.got, .int .u32 nt.xfer, .int .u32 nt.dst, .bool nt.grant, .bool nt.call], .bool okn]) (T' := [(29, .tuple #[.agg #[.int .u8 nt.st, .int .u8 nt.prio, .int .u16 nt.wait.idx, .int .u32 nt.wait.gen, .int .u16 nt.cs.idx, .int .u32 nt.cs.gen, .int .u16 nt.rep.idx, .int .u32 nt.rep.gen, .int .u64 nt.badge, .int .u64 nt.m0, .int .u64 nt.m1, .int .u64 nt.m2, .int .u64 nt.m3, .int .u8 nt.len, .int .u8 nt.got, .int .u32 nt.xfer, .int .u32 nt.dst, .bool nt.grant, .bool nt.call], .bool okn]), (9, .pointer (some ⟨b62, 0, none⟩)), (8, .pointer (some ⟨b46, 0, none⟩)), (14, .slice (some ⟨rb35, 0, none⟩) ((liveP E2 3 256).length) c16), (5, .pointer (some ⟨b2, 0, none⟩)), (0, .pointer (some ⟨kb, 0, none⟩)), (1, .pointer (some ⟨kb2, 0, none⟩)), (15, .int .i64 (((liveP E2 3 256).length : Nat) : Int)), (16, .int .i64 i), (27, .pointer (some ⟨kb2, 0, none⟩)), (28, .agg #[.int .u16 r.idx, .int .u32 r.gen])]) rfl
    clear h74
    refine nd_batch tabOk tabZ_ok [(3, {}), (4, {}), (5, {})] [9, 8, 14, 5, 0, 1, 15, 16, 30, 31] (T' := [(9, .pointer (some ⟨b62, 0, none⟩)), (8, .pointer (some ⟨b46, 0, none⟩)), (14, .slice (some ⟨rb35, 0, none⟩) ((liveP E2 3 256).length) c16), (5, .pointer (some ⟨b2, 0, none⟩)), (0, .pointer (some ⟨kb, 0, none⟩)), (1, .pointer (some ⟨kb2, 0, none⟩)), (15, .int .i64 (((liveP E2 3 256).length : Nat) : Int)), (16, .int .i64 i), (30, .agg #[.int .u8 nt.st, .int .u8 nt.prio, .int .u16 nt.wait.idx, .int .u32 nt.wait.gen, .int .u16 nt.cs.idx, .int .u32 nt.cs.gen, .int .u16 nt.rep.idx, .int .u32 nt.rep.gen, .int .u64 nt.badge, .int .u64 nt.m0, .int .u64 nt.m1, .int .u64 nt.m2, .int .u64 nt.m3, .int .u8 nt.len, .int .u8 nt.got, .int .u32 nt.xfer, .int .u32 nt.dst, .bool nt.grant, .bool nt.call]), (31, .bool okn)]) (φ := True) (rest := [6, 7, 8]) h76 (by kernel_rfl) rfl trivial fun a78 h79 => ?_
    clear h76
    refine nd_op ?_
    refine op_new tabOk (cells := [.int .u8 0, .int .u8 0, .int .u16 0, .int .u32 0, .int .u16 0, .int .u32 0, .int .u16 0, .int .u32 0, .int .u64 0, .int .u64 0, .int .u64 0, .int .u64 0, .int .u64 0, .int .u8 0, .int .u8 0, .int .u32 0, .int .u32 0, .bool false, .bool false]) (ty := 59) (ln := none) (L1 := fun b80 => [(b2, ⟨[.int .u16 s.idx, .int .u32 s.gen], 39, false⟩), (rb35, ⟨cs36, 39, true⟩), (b46, ⟨[.int .u16 r.idx, .int .u32 r.gen], 39, false⟩), (b62, ⟨[.int .u8 wt.st, .int .u8 wt.prio, .int .u16 wt.wait.idx, .int .u32 wt.wait.gen, .int .u16 wt.cs.idx, .int .u32 wt.cs.gen, .int .u16 wt.rep.idx, .int .u32 wt.rep.gen, .int .u64 wt.badge, .int .u64 wt.m0, .int .u64 wt.m1, .int .u64 wt.m2, .int .u64 wt.m3, .int .u8 wt.len, .int .u8 wt.got, .int .u32 wt.xfer, .int .u32 wt.dst, .bool wt.grant, .bool wt.call], 59, false⟩), (b80, ⟨[.int .u8 0, .int .u8 0, .int .u16 0, .int .u32 0, .int .u16 0, .int .u32 0, .int .u16 0, .int .u32 0, .int .u64 0, .int .u64 0, .int .u64 0, .int .u64 0, .int .u64 0, .int .u8 0, .int .u8 0, .int .u32 0, .int .u32 0, .bool false, .bool false], 59, false⟩)]) h79 rfl rfl rfl rfl (by kernel_rfl) (fun _ => rfl) fun b80 w81 a82 h83 hf84 hn85 => ?_
    clear h79
    refine nd_op ?_
    refine op_store tabOk {k := 4} (L' := [(b2, ⟨[.int .u16 s.idx, .int .u32 s.gen], 39, false⟩), (rb35, ⟨cs36, 39, true⟩), (b46, ⟨[.int .u16 r.idx, .int .u32 r.gen], 39, false⟩), (b62, ⟨[.int .u8 wt.st, .int .u8 wt.prio, .int .u16 wt.wait.idx, .int .u32 wt.wait.gen, .int .u16 wt.cs.idx, .int .u32 wt.cs.gen, .int .u16 wt.rep.idx, .int .u32 wt.rep.gen, .int .u64 wt.badge, .int .u64 wt.m0, .int .u64 wt.m1, .int .u64 wt.m2, .int .u64 wt.m3, .int .u8 wt.len, .int .u8 wt.got, .int .u32 wt.xfer, .int .u32 wt.dst, .bool wt.grant, .bool wt.call], 59, false⟩), (b80, ⟨[.int .u8 nt.st, .int .u8 nt.prio, .int .u16 nt.wait.idx, .int .u32 nt.wait.gen, .int .u16 nt.cs.idx, .int .u32 nt.cs.gen, .int .u16 nt.rep.idx, .int .u32 nt.rep.gen, .int .u64 nt.badge, .int .u64 nt.m0, .int .u64 nt.m1, .int .u64 nt.m2, .int .u64 nt.m3, .int .u8 nt.len, .int .u8 nt.got, .int .u32 nt.xfer, .int .u32 nt.dst, .bool nt.grant, .bool nt.call], 59, false⟩)]) (φ := b80 = b80 ∧ Nat.ble (0 + 19) 19 = true) h83 rfl rfl rfl (by kernel_rfl) ⟨rfl, rfl⟩ fun w86 h87 => ?_
    clear h83
    refine nd_batch tabOk tabZ_ok [(8, {})] [11, 9, 8, 14, 5, 0, 1, 15, 16] (T' := [(11, .pointer (some ⟨b80, 0, none⟩)), (9, .pointer (some ⟨b62, 0, none⟩)), (8, .pointer (some ⟨b46, 0, none⟩)), (14, .slice (some ⟨rb35, 0, none⟩) ((liveP E2 3 256).length) c16), (5, .pointer (some ⟨b2, 0, none⟩)), (0, .pointer (some ⟨kb, 0, none⟩)), (1, .pointer (some ⟨kb2, 0, none⟩)), (15, .int .i64 (((liveP E2 3 256).length : Nat) : Int)), (16, .int .i64 i)]) (φ := True) (rest := []) h87 (by kernel_rfl) rfl trivial fun a88 h89 => ?_
    clear h87
    refine nd_done ?_
    refine hK72 _ _ ?_
    clear hK72
    refine wp_seq_k fun K90 hK90 => ?_
    rcases Bool.eq_false_or_eq_true ((Bool.xor true (decide (r = s)))) with hb91 | hb91
    ·
      have hb91f : ¬ (r = s) := by simpa using hb91
      have hqr := hqf hb91f
      refine nd_start (l := [0, 1, 2, 3, 4, 5, 6, 7, 8, 9]) rfl ?_
      refine nd_batch tabOk tabZ_ok [(0, {k := 2}), (1, {k := 0}), (2, {f := 2}), (3, {}), (4, {}), (5, {k := 4}), (6, {}), (7, {k := 3}), (8, {f := 1}), (9, {})] [11, 9, 8, 14, 5, 0, 1, 15, 16, 41] (T' := [(11, .pointer (some ⟨b80, 0, none⟩)), (9, .pointer (some ⟨b62, 0, none⟩)), (8, .pointer (some ⟨b46, 0, none⟩)), (14, .slice (some ⟨rb35, 0, none⟩) ((liveP E2 3 256).length) c16), (5, .pointer (some ⟨b2, 0, none⟩)), (0, .pointer (some ⟨kb, 0, none⟩)), (1, .pointer (some ⟨kb2, 0, none⟩)), (15, .int .i64 (((liveP E2 3 256).length : Nat) : Int)), (16, .int .i64 i), (41, .bool false)]) (φ := (b46 = b46 ∧ Nat.ble (0 + 2) 2 = true) ∧ (b2 = b2 ∧ Nat.ble (0 + 2) 2 = true) ∧ EqRun Tryd.prog 39 (.agg #[.int .u16 r.idx, .int .u32 r.gen]) (.agg #[.int .u16 s.idx, .int .u32 s.gen]) false ∧ (b80 = b80 ∧ Nat.ble (6 + 2) 19 = true) ∧ (b62 = b62 ∧ Nat.ble (6 + 2) 19 = true) ∧ EqRun Tryd.prog 39 (.agg #[.int .u16 nt.rep.idx, .int .u32 nt.rep.gen]) (.agg #[.int .u16 wt.rep.idx, .int .u32 wt.rep.gen]) true ∧ True) (rest := []) h89 (by kernel_rfl) rfl ⟨⟨rfl, rfl⟩, ⟨rfl, rfl⟩, (by have hq := (runRf r s); rw [show (decide (r = s)) = false by simpa using hb91] at hq; exact hq), ⟨rfl, rfl⟩, ⟨rfl, rfl⟩, (by have hq := runRf nt.rep wt.rep; rw [show decide (nt.rep = wt.rep) = true by simp [hqr]] at hq; exact hq), trivial⟩ fun a92 h93 => ?_
      clear h89
      refine nd_done ?_
      refine hK90 _ _ ?_
      clear hK90
      refine c_false h93 rfl ?_
      refine wp_skip ?_
      refine hK42 _ _ ?_
      clear hK42
      refine nd_start (l := [0, 1]) rfl ?_
      refine nd_batch tabOk tabZ_ok [(0, {}), (1, {})] [11, 9, 8, 14, 5, 0, 1, 15, 16] (T' := [(11, .pointer (some ⟨b80, 0, none⟩)), (9, .pointer (some ⟨b62, 0, none⟩)), (8, .pointer (some ⟨b46, 0, none⟩)), (14, .slice (some ⟨rb35, 0, none⟩) ((liveP E2 3 256).length) c16), (5, .pointer (some ⟨b2, 0, none⟩)), (0, .pointer (some ⟨kb, 0, none⟩)), (1, .pointer (some ⟨kb2, 0, none⟩)), (15, .int .i64 (((liveP E2 3 256).length : Nat) : Int)), (16, .int .i64 (i + 1))]) (φ := inR .i64 (i + 1) ∧ True) (rest := []) h93 (by kernel_rfl) rfl ⟨⟨by omega, by omega⟩, trivial⟩ fun a94 h95 => ?_
      clear h93
      refine nd_done ?_
      have h96 := h95.memMono (L' := [(b2, ⟨[.int .u16 s.idx, .int .u32 s.gen], 39, false⟩)]) (List.Sublist.cons_cons _ (List.Sublist.cons _ (List.Sublist.cons _ (List.Sublist.cons _ (List.Sublist.cons _ List.Sublist.slnil)))))
      clear h95
      exact ⟨(g - 1), by omega, (i + 1), by omega, ⟨by omega, by omega⟩, (h96.slotsMono (restr_spec (keep := [14, 5, 0, 1, 15, 16]) rfl))⟩
    ·
      have hb91f : r = s := by simpa using hb91
      refine nd_start (l := [0, 1, 2, 3, 4, 5, 6, 7, 8, 9]) rfl ?_
      refine nd_batch tabOk tabZ_ok [(0, {k := 2}), (1, {k := 0}), (2, {f := 1}), (3, {}), (4, {}), (5, {}), (6, {}), (7, {}), (8, {}), (9, {})] [11, 9, 8, 14, 5, 0, 1, 15, 16, 41] (T' := [(11, .pointer (some ⟨b80, 0, none⟩)), (9, .pointer (some ⟨b62, 0, none⟩)), (8, .pointer (some ⟨b46, 0, none⟩)), (14, .slice (some ⟨rb35, 0, none⟩) ((liveP E2 3 256).length) c16), (5, .pointer (some ⟨b2, 0, none⟩)), (0, .pointer (some ⟨kb, 0, none⟩)), (1, .pointer (some ⟨kb2, 0, none⟩)), (15, .int .i64 (((liveP E2 3 256).length : Nat) : Int)), (16, .int .i64 i), (41, .bool false)]) (φ := (b46 = b46 ∧ Nat.ble (0 + 2) 2 = true) ∧ (b2 = b2 ∧ Nat.ble (0 + 2) 2 = true) ∧ EqRun Tryd.prog 39 (.agg #[.int .u16 r.idx, .int .u32 r.gen]) (.agg #[.int .u16 s.idx, .int .u32 s.gen]) true ∧ True) (rest := []) h89 (by kernel_rfl) rfl ⟨⟨rfl, rfl⟩, ⟨rfl, rfl⟩, (by have hq := (runRf r s); rw [show (decide (r = s)) = true by simpa using hb91] at hq; exact hq), trivial⟩ fun a97 h98 => ?_
      clear h89
      refine nd_done ?_
      refine hK90 _ _ ?_
      clear hK90
      refine c_false h98 rfl ?_
      refine wp_skip ?_
      refine hK42 _ _ ?_
      clear hK42
      refine nd_start (l := [0, 1]) rfl ?_
      refine nd_batch tabOk tabZ_ok [(0, {}), (1, {})] [11, 9, 8, 14, 5, 0, 1, 15, 16] (T' := [(11, .pointer (some ⟨b80, 0, none⟩)), (9, .pointer (some ⟨b62, 0, none⟩)), (8, .pointer (some ⟨b46, 0, none⟩)), (14, .slice (some ⟨rb35, 0, none⟩) ((liveP E2 3 256).length) c16), (5, .pointer (some ⟨b2, 0, none⟩)), (0, .pointer (some ⟨kb, 0, none⟩)), (1, .pointer (some ⟨kb2, 0, none⟩)), (15, .int .i64 (((liveP E2 3 256).length : Nat) : Int)), (16, .int .i64 (i + 1))]) (φ := inR .i64 (i + 1) ∧ True) (rest := []) h98 (by kernel_rfl) rfl ⟨⟨by omega, by omega⟩, trivial⟩ fun a99 h100 => ?_
      clear h98
      refine nd_done ?_
      have h101 := h100.memMono (L' := [(b2, ⟨[.int .u16 s.idx, .int .u32 s.gen], 39, false⟩)]) (List.Sublist.cons_cons _ (List.Sublist.cons _ (List.Sublist.cons _ (List.Sublist.cons _ (List.Sublist.cons _ List.Sublist.slnil)))))
      clear h100
      exact ⟨(g - 1), by omega, (i + 1), by omega, ⟨by omega, by omega⟩, (h101.slotsMono (restr_spec (keep := [14, 5, 0, 1, 15, 16]) rfl))⟩
  ·
    have hc34f : ¬ i < (((liveP E2 3 256).length : Nat) : Int) := by simpa using hc34
    refine wp_exit ?_
    refine hK10 _ _ ?_
    clear hK10
    refine wp_seq_k fun K102 hK102 => ?_
    refine nd_start (l := [0]) rfl ?_
    refine nd_batch tabOk tabZ_ok [(0, {})] [14, 5, 0, 1, 15, 16, 6] (T' := [(14, .slice o15 ((liveP E2 3 256).length) c16), (5, .pointer (some ⟨b2, 0, none⟩)), (0, .pointer (some ⟨kb, 0, none⟩)), (1, .pointer (some ⟨kb2, 0, none⟩)), (15, .int .i64 (((liveP E2 3 256).length : Nat) : Int)), (16, .int .i64 i), (6, .bool true)]) (φ := True) (rest := []) h32 (by kernel_rfl) rfl trivial fun a103 h104 => ?_
    clear h32
    refine nd_done ?_
    refine hK102 _ _ ?_
    clear hK102
    refine wp_ret ?_
    try simp only [Exit.then, Exit.inBlock]
    try rw [if_pos trivial]
    exact s_ret tabOk tabZ_ok h104 [(.tmp 6, {})] (vs := [.bool true]) (φ := True) rfl (by kernel_rfl) trivial ⟨rfl, h104.frame⟩

end Go.Proofs.Qxb6500918aDoor
