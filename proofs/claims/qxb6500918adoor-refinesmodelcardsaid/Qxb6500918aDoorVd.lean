/-
  The model: New. (Made by program: a symbolic walk that prints its steps.)
-/
import Derived.Test.Qxb6500918aDoorVc
namespace Go.Proofs.Qxb6500918aDoor
open Go.Sx Go.Kn
set_option maxRecDepth 100000
set_option maxHeartbeats 4000000
set_option linter.unusedVariables false
set_option linter.unusedSimpArgs false

theorem newc_ok (b : Nat) (i : Int) (hi : 0 ≤ i ∧ i < 16) (w : World) (hb : w.heap[b]? = some (Blk.obj ⟨[.int .u16 0, .int .u32 1], 39, false⟩)) :
    Calls Tryd.prog 42 #[.int .i64 i, .pointer (some ⟨b, 0, none⟩)] w fun e w' => e = .returned (.int .i64 (0 + i)) ∧ Fr [] w w' := by
  refine enter0 (n := 10) (K := []) (T := [(0, .int .i64 i), (1, .pointer (some ⟨b, 0, none⟩))]) (L := [(b, ⟨[.int .u16 0, .int .u32 1], 39, true⟩)]) (args := [.int .i64 i, .pointer (some ⟨b, 0, none⟩)]) Tryd.func42 rfl rfl rfl rfl (kcons hb knil) (by simp) (kcons (by intro hq; cases hq) knil) ?_
  intro a h
  refine wp_seq_k fun K1 hK1 => ?_
  refine nd_start (l := [0]) rfl ?_
  refine nd_batch tabOk2 tabZ_ok2 [(0, {})] [0, 1, 3] (T' := [(0, .int .i64 i), (1, .pointer (some ⟨b, 0, none⟩)), (3, .int .i64 0)]) (φ := True) (rest := []) h (by kernel_rfl) rfl trivial fun a2 h3 => ?_
  clear h
  refine nd_done ?_
  refine hK1 _ _ ?_
  clear hK1
  refine wp_seq_k fun K4 hK4 => ?_
  refine nd_start (l := [0, 1, 2, 3, 4, 5, 6]) rfl ?_
  refine nd_batch tabOk2 tabZ_ok2 [(0, {}), (1, {k := 0}), (2, {}), (3, {}), (4, {}), (5, {}), (6, {})] [0, 1, 3] (T' := [(0, .int .i64 i), (1, .pointer (some ⟨b, 0, none⟩)), (3, .int .i64 (0 + i))]) (φ := (b = b ∧ Nat.ble (0 + 1) 2 = true) ∧ inR .i64 0 ∧ inR .i64 0 ∧ inR .i64 (0 + i) ∧ True) (rest := []) h3 (by kernel_rfl) rfl ⟨⟨rfl, rfl⟩, ⟨by decide, by decide⟩, ⟨by decide, by decide⟩, ⟨by omega, by omega⟩, trivial⟩ fun a5 h6 => ?_
  clear h3
  refine nd_done ?_
  refine hK4 _ _ ?_
  clear hK4
  refine wp_ret ?_
  try simp only [Exit.then, Exit.inBlock]
  try rw [if_pos trivial]
  exact s_ret tabOk2 tabZ_ok2 h6 [(.tmp 3, {})] (vs := [.int .i64 (0 + i)]) (φ := True) rfl (by kernel_rfl) trivial ⟨rfl, h6.frame⟩

theorem boot_mdF {mb mo mc tb qb wb b : Nat} (h : b ∈ mdF mb (bootZ mo mc tb qb wb) bootR bootC0) : b ∈ [mb, tb, qb, wb, mo, mc] := by
  unfold mdF at h
  simp only [List.mem_cons, List.mem_append, List.mem_map, List.mem_flatMap] at h
  rcases h with h | h | h | h | ⟨x, ⟨e, h, _⟩, _⟩ | ⟨x, ⟨e, h, _⟩, _⟩ | ⟨x, _, h⟩ | h
  · simp [h]
  · rw [h]; simp [bootZ]
  · rw [h]; simp [bootZ]
  · rw [h]; simp [bootZ]
  · cases h
  · cases h
  · cases h
  · rcases mem_capF.1 h with h | h | ⟨_, _, hq, _⟩
    · rw [h]; simp [bootZ]
    · rw [h]; simp [bootZ]
    · cases hq

theorem MH.as {mb : Nat} {Z : MZ} {R : MR} {a a' : AK} {C : CP} {w : World} (h : MH mb Z R a C w) (e : a = a') : MH mb Z R a' C w := e ▸ h

theorem newM_ok {Q : QL → List Nat} (hQ : LIQ bootS Q) (w : World) {ty3 : TypeId} (hg3 : w.heap[3]? = some (Blk.obj ⟨[.int .u16 0, .int .u32 0], ty3, true⟩)) :
    Calls Tryd.prog 12 #[] w fun e w' => ∃ mb Z R, e = .returned (.pointer (some ⟨mb, 0, none⟩)) ∧ MH mb Z R (bootA Q) bootC w' ∧ (∀ b ∈ mdF mb Z R bootC, w.heap.size ≤ b) ∧ Fr [] w w' ∧ sl Z.tl = [1] ∧ sl Z.ql = [] ∧ ∀ i : Nat, Z.ky i = ⟨(i : Int), 1⟩ := by
  refine enter (n := 92) (K := []) (A := N3 []) (F := []) (T := []) (L := [(3, ⟨[.int .u16 0, .int .u32 0], ty3, true⟩)]) (args := []) Tryd.func12 rfl rfl rfl rfl (kcons hg3 knil) (by simp) (kcons (by intro hq; cases hq) knil) (fun _ hq => by cases hq) N3.stable (fun _ hq => by cases hq) (kcons (by intro hq; cases hq) knil) ?_
  intro ac h
  refine wp_seq_k fun K1 hK1 => ?_
  refine nd_start (l := [0]) rfl ?_
  refine nd_batch tabOk2 tabZ_ok2 [(0, {})] [0] (T' := [(0, .pointer none)]) (φ := True) (rest := []) h (by kernel_rfl) rfl trivial fun a2 h3 => ?_
  clear h
  refine nd_done ?_
  refine hK1 _ _ ?_
  clear hK1
  refine wp_seq_k fun K4 hK4 => ?_
  refine nd_start (l := [0, 1, 2, 3, 4, 5, 6]) rfl ?_
  refine nd_op ?_
  refine op_call h3 rfl rfl rfl (callOk Tryd.func35 (by decide) rfl) (args := [.int .u64 8192]) rfl (newStore_ok _) ?_
  rintro _ w5 ⟨bo, rfl, hb6, hn7, hf8⟩
  refine ⟨_, rfl, ?_⟩
  have hszbo : w.heap.size ≤ _ := h3.frame.size
  have hnnbo := hn7
  have h9q : St _ _ [(3, ⟨[.int .u16 0, .int .u32 0], ty3, true⟩), (bo, ⟨stC bootE, 131, false⟩)] _ _ := h3.fresh hf8 hn7 hb6
  have h9 := h9q.put (d := some 7) (v := .pointer (some ⟨bo, 0, none⟩)) (T' := [(7, .pointer (some ⟨bo, 0, none⟩)), (0, .pointer none)]) rfl
  clear h3 h9q
  refine nd_op ?_
  refine op_make h9 rfl rfl rfl fun tb w10 hb11 hf12 hntb => ?_
  have hlotb := N3.low h9.inv
  have hsztb : w.heap.size ≤ _ := h9.frame.size
  have h13 := (st_mkmap h9 hb11 hf12 hntb).put (d := some 8) (v := .map (some tb)) (T' := [(8, .map (some tb)), (7, .pointer (some ⟨bo, 0, none⟩)), (0, .pointer none)]) rfl
  clear h9
  refine nd_op ?_
  refine op_make h13 rfl rfl rfl fun qb w14 hb15 hf16 hnqb => ?_
  have hloqb := N3.low h13.inv
  have hszqb : w.heap.size ≤ _ := h13.frame.size
  have h17 := (st_mkmap h13 hb15 hf16 hnqb).put (d := some 9) (v := .map (some qb)) (T' := [(9, .map (some qb)), (8, .map (some tb)), (7, .pointer (some ⟨bo, 0, none⟩)), (0, .pointer none)]) rfl
  clear h13
  refine nd_op ?_
  refine op_make h17 rfl rfl rfl fun wb w18 hb19 hf20 hnwb => ?_
  have hlowb := N3.low h17.inv
  have hszwb : w.heap.size ≤ _ := h17.frame.size
  have h21 := (st_mkmap h17 hb19 hf20 hnwb).put (d := some 10) (v := .map (some wb)) (T' := [(10, .map (some wb)), (9, .map (some qb)), (8, .map (some tb)), (7, .pointer (some ⟨bo, 0, none⟩)), (0, .pointer none)]) rfl
  clear h17
  refine nd_batch tabOk2 tabZ_ok2 [(4, {})] [0, 11] (T' := [(0, .pointer none), (11, .agg #[.pointer (some ⟨bo, 0, none⟩), .pointer none, .map (some tb), .map (some qb), .map (some wb), .slice none 0 0, .slice none 0 0, .slice none 0 0, .slice none 0 0, .slice none 0 0, .slice none 0 0, .slice none 0 0, .slice none 0 0, .int .u16 0, .int .u32 0, .int .u16 0, .int .u32 0, .int .u64 0, .bool false, .int .u16 0, .int .u32 0, .int .u64 0, .bool false, .int .u16 0, .int .u32 0, .int .u64 0, .bool false, .int .u16 0, .int .u32 0, .int .u64 0, .bool false, .int .u16 0, .int .u32 0, .int .u64 0, .bool false, .int .u16 0, .int .u32 0, .int .u64 0, .bool false, .int .u16 0, .int .u32 0, .int .u64 0, .bool false, .int .u16 0, .int .u32 0, .int .u64 0, .bool false, .int .u16 0, .int .u32 0, .int .u64 0, .bool false, .int .u16 0, .int .u32 0, .int .u64 0, .bool false, .int .u16 0, .int .u32 0, .int .u64 0, .bool false, .int .u16 0, .int .u32 0, .int .u64 0, .bool false, .int .u16 0, .int .u32 0, .int .u64 0, .bool false, .int .u16 0, .int .u32 0, .int .u64 0, .bool false, .int .u16 0, .int .u32 0, .int .u64 0, .bool false, .int .u16 0, .int .u32 0, .int .u64 0, .bool false, .int .u64 0])]) (φ := True) (rest := [5, 6]) h21 (by kernel_rfl) rfl trivial fun a22 h23 => ?_
  clear h21
  refine nd_op ?_
  refine op_new tabOk2 (cells := [.pointer (some ⟨bo, 0, none⟩), .pointer none, .map (some tb), .map (some qb), .map (some wb), .slice none 0 0, .slice none 0 0, .slice none 0 0, .slice none 0 0, .slice none 0 0, .slice none 0 0, .slice none 0 0, .slice none 0 0, .int .u16 0, .int .u32 0, .int .u16 0, .int .u32 0, .int .u64 0, .bool false, .int .u16 0, .int .u32 0, .int .u64 0, .bool false, .int .u16 0, .int .u32 0, .int .u64 0, .bool false, .int .u16 0, .int .u32 0, .int .u64 0, .bool false, .int .u16 0, .int .u32 0, .int .u64 0, .bool false, .int .u16 0, .int .u32 0, .int .u64 0, .bool false, .int .u16 0, .int .u32 0, .int .u64 0, .bool false, .int .u16 0, .int .u32 0, .int .u64 0, .bool false, .int .u16 0, .int .u32 0, .int .u64 0, .bool false, .int .u16 0, .int .u32 0, .int .u64 0, .bool false, .int .u16 0, .int .u32 0, .int .u64 0, .bool false, .int .u16 0, .int .u32 0, .int .u64 0, .bool false, .int .u16 0, .int .u32 0, .int .u64 0, .bool false, .int .u16 0, .int .u32 0, .int .u64 0, .bool false, .int .u16 0, .int .u32 0, .int .u64 0, .bool false, .int .u16 0, .int .u32 0, .int .u64 0, .bool false, .int .u64 0]) (ty := 104) (ln := none) (L1 := fun b24 => [(3, ⟨[.int .u16 0, .int .u32 0], ty3, true⟩), (bo, ⟨stC bootE, 131, false⟩), (b24, ⟨[.pointer (some ⟨bo, 0, none⟩), .pointer none, .map (some tb), .map (some qb), .map (some wb), .slice none 0 0, .slice none 0 0, .slice none 0 0, .slice none 0 0, .slice none 0 0, .slice none 0 0, .slice none 0 0, .slice none 0 0, .int .u16 0, .int .u32 0, .int .u16 0, .int .u32 0, .int .u64 0, .bool false, .int .u16 0, .int .u32 0, .int .u64 0, .bool false, .int .u16 0, .int .u32 0, .int .u64 0, .bool false, .int .u16 0, .int .u32 0, .int .u64 0, .bool false, .int .u16 0, .int .u32 0, .int .u64 0, .bool false, .int .u16 0, .int .u32 0, .int .u64 0, .bool false, .int .u16 0, .int .u32 0, .int .u64 0, .bool false, .int .u16 0, .int .u32 0, .int .u64 0, .bool false, .int .u16 0, .int .u32 0, .int .u64 0, .bool false, .int .u16 0, .int .u32 0, .int .u64 0, .bool false, .int .u16 0, .int .u32 0, .int .u64 0, .bool false, .int .u16 0, .int .u32 0, .int .u64 0, .bool false, .int .u16 0, .int .u32 0, .int .u64 0, .bool false, .int .u16 0, .int .u32 0, .int .u64 0, .bool false, .int .u16 0, .int .u32 0, .int .u64 0, .bool false, .int .u16 0, .int .u32 0, .int .u64 0, .bool false, .int .u64 0], 104, false⟩)]) h23 rfl rfl rfl rfl (by kernel_rfl) (fun _ => rfl) fun b24 w25 a26 h27 hf28 hn29 => ?_
  clear h23
  have hszb24 := hn29
  refine nd_batch tabOk2 tabZ_ok2 [(6, {})] [0, 1] (T' := [(0, .pointer none), (1, .pointer (some ⟨b24, 0, none⟩))]) (φ := True) (rest := []) h27 (by kernel_rfl) rfl trivial fun a30 h31 => ?_
  clear h27
  refine nd_done ?_
  refine hK4 _ _ ?_
  clear hK4
  refine wp_seq_k fun K32 hK32 => ?_
  refine nd_start (l := [0, 1, 2, 3, 4, 5, 6, 7, 8]) rfl ?_
  refine nd_batch tabOk2 tabZ_ok2 [(0, {}), (1, {}), (2, {}), (3, {}), (4, {k := 2})] [0, 1, 13, 17] (T' := [(0, .pointer none), (1, .pointer (some ⟨b24, 0, none⟩)), (13, .pointer (some ⟨b24, 0, none⟩)), (17, .pointer (some ⟨bo, 0, none⟩))]) (φ := (b24 = b24 ∧ Nat.ble (0 + 1) 80 = true) ∧ True) (rest := [5, 6, 7, 8]) h31 (by kernel_rfl) rfl ⟨⟨rfl, rfl⟩, trivial⟩ fun a33 h34 => ?_
  clear h31
  refine nd_op ?_
  refine op_call h34 rfl rfl rfl (callOk Tryd.func36 (by decide) rfl) (args := [.pointer (some ⟨bo, 0, none⟩)]) rfl (newSpace_ok bo _) ?_
  rintro _ w35 ⟨bc, rfl, hb36, hn37, hf38⟩
  refine ⟨_, rfl, ?_⟩
  have hszbc : w.heap.size ≤ _ := h34.frame.size
  have hnnbc := hn37
  have h39q : St _ _ [(3, ⟨[.int .u16 0, .int .u32 0], ty3, true⟩), (bo, ⟨stC bootE, 131, false⟩), (b24, ⟨[.pointer (some ⟨bo, 0, none⟩), .pointer none, .map (some tb), .map (some qb), .map (some wb), .slice none 0 0, .slice none 0 0, .slice none 0 0, .slice none 0 0, .slice none 0 0, .slice none 0 0, .slice none 0 0, .slice none 0 0, .int .u16 0, .int .u32 0, .int .u16 0, .int .u32 0, .int .u64 0, .bool false, .int .u16 0, .int .u32 0, .int .u64 0, .bool false, .int .u16 0, .int .u32 0, .int .u64 0, .bool false, .int .u16 0, .int .u32 0, .int .u64 0, .bool false, .int .u16 0, .int .u32 0, .int .u64 0, .bool false, .int .u16 0, .int .u32 0, .int .u64 0, .bool false, .int .u16 0, .int .u32 0, .int .u64 0, .bool false, .int .u16 0, .int .u32 0, .int .u64 0, .bool false, .int .u16 0, .int .u32 0, .int .u64 0, .bool false, .int .u16 0, .int .u32 0, .int .u64 0, .bool false, .int .u16 0, .int .u32 0, .int .u64 0, .bool false, .int .u16 0, .int .u32 0, .int .u64 0, .bool false, .int .u16 0, .int .u32 0, .int .u64 0, .bool false, .int .u16 0, .int .u32 0, .int .u64 0, .bool false, .int .u16 0, .int .u32 0, .int .u64 0, .bool false, .int .u16 0, .int .u32 0, .int .u64 0, .bool false, .int .u64 0], 104, false⟩), (bc, ⟨spC bo (fun _ => 0) (fun _ => false), 142, false⟩)] _ _ := h34.fresh hf38 hn37 hb36
  have h39 := h39q.put (d := some 18) (v := .pointer (some ⟨bc, 0, none⟩)) (T' := [(18, .pointer (some ⟨bc, 0, none⟩)), (0, .pointer none), (1, .pointer (some ⟨b24, 0, none⟩)), (13, .pointer (some ⟨b24, 0, none⟩)), (17, .pointer (some ⟨bo, 0, none⟩))]) rfl
  clear h34 h39q
  refine nd_batch tabOk2 tabZ_ok2 [(6, {}), (7, {})] [18, 0, 1, 20] (T' := [(18, .pointer (some ⟨bc, 0, none⟩)), (0, .pointer none), (1, .pointer (some ⟨b24, 0, none⟩)), (20, .pointer (some ⟨b24, 1, none⟩))]) (φ := True) (rest := [8]) h39 (by kernel_rfl) rfl trivial fun a40 h41 => ?_
  clear h39
  refine nd_op ?_
  refine op_store tabOk2 {k := 2} (L' := [(3, ⟨[.int .u16 0, .int .u32 0], ty3, true⟩), (bo, ⟨stC bootE, 131, false⟩), (b24, ⟨[.pointer (some ⟨bo, 0, none⟩), .pointer (some ⟨bc, 0, none⟩), .map (some tb), .map (some qb), .map (some wb), .slice none 0 0, .slice none 0 0, .slice none 0 0, .slice none 0 0, .slice none 0 0, .slice none 0 0, .slice none 0 0, .slice none 0 0, .int .u16 0, .int .u32 0, .int .u16 0, .int .u32 0, .int .u64 0, .bool false, .int .u16 0, .int .u32 0, .int .u64 0, .bool false, .int .u16 0, .int .u32 0, .int .u64 0, .bool false, .int .u16 0, .int .u32 0, .int .u64 0, .bool false, .int .u16 0, .int .u32 0, .int .u64 0, .bool false, .int .u16 0, .int .u32 0, .int .u64 0, .bool false, .int .u16 0, .int .u32 0, .int .u64 0, .bool false, .int .u16 0, .int .u32 0, .int .u64 0, .bool false, .int .u16 0, .int .u32 0, .int .u64 0, .bool false, .int .u16 0, .int .u32 0, .int .u64 0, .bool false, .int .u16 0, .int .u32 0, .int .u64 0, .bool false, .int .u16 0, .int .u32 0, .int .u64 0, .bool false, .int .u16 0, .int .u32 0, .int .u64 0, .bool false, .int .u16 0, .int .u32 0, .int .u64 0, .bool false, .int .u16 0, .int .u32 0, .int .u64 0, .bool false, .int .u16 0, .int .u32 0, .int .u64 0, .bool false, .int .u64 0], 104, false⟩), (bc, ⟨spC bo (fun _ => 0) (fun _ => false), 142, false⟩)]) (φ := b24 = b24 ∧ Nat.ble (1 + 1) 80 = true) h41 rfl rfl rfl (by kernel_rfl) ⟨rfl, rfl⟩ fun w42 h43 => ?_
  clear h41
  refine nd_done ?_
  refine hK32 _ _ ?_
  clear hK32
  refine wp_seq_k fun K44 hK44 => ?_
  have hcp0 : CapAt _ bo bc (fun _ => 0) bootC0 := ⟨h43.kn (k := 1) rfl, h43.kn (k := 3) rfl, fun _ hq => (by cases hq), (nodup_key h43.nodup (i := 1) (j := 3) rfl rfl (by decide)), fun _ hq => (by cases hq), fun _ _ hq => (by cases hq)⟩
  have hdb24 := h43.dj (k := 2) rfl rfl
  have hdbo := h43.dj (k := 1) rfl rfl
  have hdbc := h43.dj (k := 3) rfl rfl
  have hwb24 : w.heap.size ≤ b24 := (st_ky h43 (k := 2) rfl rfl).resolve_left (fun hq => by cases hq)
  have hwbo : w.heap.size ≤ bo := (st_ky h43 (k := 1) rfl rfl).resolve_left (fun hq => by cases hq)
  have hwbc : w.heap.size ≤ bc := (st_ky h43 (k := 3) rfl rfl).resolve_left (fun hq => by cases hq)
  have hne1 := (nodup_key h43.nodup (i := 2) (j := 1) rfl rfl (by decide))
  have hne2 := (nodup_key h43.nodup (i := 2) (j := 3) rfl rfl (by decide))
  have hne3 := (nodup_key h43.nodup (i := 1) (j := 3) rfl rfl (by decide))
  simp only [List.mem_cons, List.not_mem_nil, or_false, not_or] at hdb24 hdbo hdbc
  have hq1 := hloqb tb (by simp)
  have hq2 := hlowb tb (by simp)
  have hq3 := hlowb qb (by simp)
  have h0 := boot_md0 hQ (mb := b24) (mo := bo) (mc := bc) (tb := tb) (qb := qb) (wb := wb) (h43.kn (k := 2) rfl) h43.inv hcp0 (by simp only [List.nodup_cons, List.mem_cons, List.not_mem_nil, or_false, not_or, List.nodup_nil, not_false_eq_true, and_true]; omega)
  have h3s : 3 < w.heap.size := lt_of_heap hg3
  have hM0 : MD [] w.heap.size b24 (bootZ bo bc tb qb wb) bootR (bootA0 Q) bootC0 _ := ⟨h0, fun b hb => (by have h9 := boot_mdF hb; simp only [List.mem_cons, List.not_mem_nil, or_false] at h9; exact ⟨.inr (by omega), by omega⟩), h3s⟩
  have h45 := h43.as (L' := [(3, ⟨[.int .u16 0, .int .u32 0], ty3, true⟩)]) (List.Sublist.cons_cons _ (List.Sublist.cons _ (List.Sublist.cons _ (List.Sublist.cons _ List.Sublist.slnil)))) (A' := MD [] w.heap.size b24 (bootZ bo bc tb qb wb) bootR (bootA0 Q) bootC0) (F' := mdF b24 (bootZ bo bc tb qb wb) bootR bootC0) hM0 MD.stable h0.low (kcons (by intro hq; cases hq) knil)
  clear h43
  obtain ⟨mb, rfl⟩ : ∃ z : Nat, z = b24 := ⟨_, rfl⟩
  obtain ⟨Z, eZ⟩ : ∃ z : MZ, z = bootZ bo bc tb qb wb := ⟨_, rfl⟩
  obtain ⟨a, ea⟩ : ∃ z : AK, z = bootA0 Q := ⟨_, rfl⟩
  rw [← eZ, ← ea] at h45
  have hk1 : Z.ky 1 = ⟨1, 1⟩ := by rw [eZ]; rfl
  have h46 := h45.slotsMono (restr_spec (keep := [1]) rfl)
  clear h45
  refine nd_start (l := [0, 1, 2, 3, 4, 5, 6, 7, 8, 9, 10]) rfl ?_
  refine nd_batch tabOk2 tabZ_ok2 [(0, {}), (1, {}), (2, {})] [1, 24] (T' := [(1, .pointer (some ⟨mb, 0, none⟩)), (24, .pointer (some ⟨mb, 0, none⟩))]) (φ := True) (rest := [3, 4, 5, 6, 7, 8, 9, 10]) h46 (by kernel_rfl) rfl trivial fun a47 h48 => ?_
  clear h46
  refine nd_op ?_
  refine op_read (b := mb) (v := .pointer (some ⟨Z.mo, 0, none⟩)) h48 rfl rfl (rd_m h48 (k := 0) (v := .pointer (some ⟨Z.mo, 0, none⟩)) rfl rfl rfl rfl (md_p ⟨rfl, trivial⟩)) ?_
  have h49 := h48.put (d := some 25) (v := .pointer (some ⟨Z.mo, 0, none⟩)) (T' := [(25, .pointer (some ⟨Z.mo, 0, none⟩)), (1, .pointer (some ⟨mb, 0, none⟩)), (24, .pointer (some ⟨mb, 0, none⟩))]) rfl
  clear h48
  refine nd_op ?_
  refine op_call h49 rfl rfl rfl (callOk Tryd.func37 (by decide) rfl) (args := [.pointer (some ⟨Z.mo, 0, none⟩), .int .u8 2]) rfl (retypeC_ok Z.mo Z.mc Z.nd bootC0 2 (by decide) _ h49.inv.1.cp boot_r1) ?_
  rintro _ w50 ⟨rfl, hc51, hf52⟩
  refine ⟨_, rfl, ?_⟩
  have h53a := st_cap h49 hc51 hf52 (fun b hb => .inl hb) (kcons (fun _ => rfl) knil)
  have h53 := h53a.put (d := some 26) (v := .tuple #[.agg #[.int .u16 0, .int .u32 1], .int .u8 0]) (T' := [(26, .tuple #[.agg #[.int .u16 0, .int .u32 1], .int .u8 0]), (25, .pointer (some ⟨Z.mo, 0, none⟩)), (1, .pointer (some ⟨mb, 0, none⟩)), (24, .pointer (some ⟨mb, 0, none⟩))]) rfl
  clear h49 h53a
  refine nd_batch tabOk2 tabZ_ok2 [(5, {}), (6, {}), (7, {})] [1, 27, 28] (T' := [(1, .pointer (some ⟨mb, 0, none⟩)), (27, .agg #[.int .u16 0, .int .u32 1]), (28, .int .u8 0)]) (φ := True) (rest := [8, 9, 10]) h53 (by kernel_rfl) rfl trivial fun a54 h55 => ?_
  clear h53
  refine nd_op ?_
  refine op_new tabOk2 (cells := [.int .u16 0, .int .u32 0]) (ty := 39) (ln := none) (L1 := fun b56 => [(3, ⟨[.int .u16 0, .int .u32 0], ty3, true⟩), (b56, ⟨[.int .u16 0, .int .u32 0], 39, false⟩)]) h55 rfl rfl rfl rfl (by kernel_rfl) (fun _ => rfl) fun b56 w57 a58 h59 hf60 hn61 => ?_
  clear h55
  refine nd_op ?_
  refine op_store tabOk2 {k := 1} (L' := [(3, ⟨[.int .u16 0, .int .u32 0], ty3, true⟩), (b56, ⟨[.int .u16 0, .int .u32 1], 39, false⟩)]) (φ := b56 = b56 ∧ Nat.ble (0 + 2) 2 = true) h59 rfl rfl rfl (by kernel_rfl) ⟨rfl, rfl⟩ fun w62 h63 => ?_
  clear h59
  refine nd_batch tabOk2 tabZ_ok2 [(10, {})] [2, 1] (T' := [(2, .pointer (some ⟨b56, 0, none⟩)), (1, .pointer (some ⟨mb, 0, none⟩))]) (φ := True) (rest := []) h63 (by kernel_rfl) rfl trivial fun a64 h65 => ?_
  clear h63
  refine nd_done ?_
  refine hK44 _ _ ?_
  clear hK44
  refine wp_seq_k fun K66 hK66 => ?_
  refine nd_start (l := [0, 1, 2, 3, 4, 5, 6, 7, 8, 9, 10]) rfl ?_
  refine nd_batch tabOk2 tabZ_ok2 [(0, {}), (1, {}), (2, {})] [2, 1, 32] (T' := [(2, .pointer (some ⟨b56, 0, none⟩)), (1, .pointer (some ⟨mb, 0, none⟩)), (32, .pointer (some ⟨mb, 0, none⟩))]) (φ := True) (rest := [3, 4, 5, 6, 7, 8, 9, 10]) h65 (by kernel_rfl) rfl trivial fun a67 h68 => ?_
  clear h65
  refine nd_op ?_
  refine op_read (b := mb) (v := .pointer (some ⟨Z.mo, 0, none⟩)) h68 rfl rfl (rd_m h68 (k := 0) (v := .pointer (some ⟨Z.mo, 0, none⟩)) rfl rfl rfl rfl (md_p ⟨rfl, trivial⟩)) ?_
  have h69 := h68.put (d := some 33) (v := .pointer (some ⟨Z.mo, 0, none⟩)) (T' := [(33, .pointer (some ⟨Z.mo, 0, none⟩)), (2, .pointer (some ⟨b56, 0, none⟩)), (1, .pointer (some ⟨mb, 0, none⟩)), (32, .pointer (some ⟨mb, 0, none⟩))]) rfl
  clear h68
  refine nd_op ?_
  refine op_call h69 rfl rfl rfl (callOk Tryd.func37 (by decide) rfl) (args := [.pointer (some ⟨Z.mo, 0, none⟩), .int .u8 3]) rfl (retypeC_ok Z.mo Z.mc Z.nd ({ bootC0 with ent := bootE1 } : CP) 3 (by decide) _ h69.inv.1.cp boot_r2) ?_
  rintro _ w70 ⟨rfl, hc71, hf72⟩
  refine ⟨_, rfl, ?_⟩
  have h73a := st_cap h69 hc71 hf72 (fun b hb => .inl hb) (kcons (fun _ => rfl) (kcons (fun hq => by cases hq) knil))
  have h73 := h73a.put (d := some 34) (v := .tuple #[.agg #[.int .u16 1, .int .u32 1], .int .u8 0]) (T' := [(34, .tuple #[.agg #[.int .u16 1, .int .u32 1], .int .u8 0]), (33, .pointer (some ⟨Z.mo, 0, none⟩)), (2, .pointer (some ⟨b56, 0, none⟩)), (1, .pointer (some ⟨mb, 0, none⟩)), (32, .pointer (some ⟨mb, 0, none⟩))]) rfl
  clear h69 h73a
  refine nd_batch tabOk2 tabZ_ok2 [(5, {}), (6, {}), (7, {})] [2, 1, 35, 36] (T' := [(2, .pointer (some ⟨b56, 0, none⟩)), (1, .pointer (some ⟨mb, 0, none⟩)), (35, .agg #[.int .u16 1, .int .u32 1]), (36, .int .u8 0)]) (φ := True) (rest := [8, 9, 10]) h73 (by kernel_rfl) rfl trivial fun a74 h75 => ?_
  clear h73
  refine nd_op ?_
  refine op_new tabOk2 (cells := [.int .u16 0, .int .u32 0]) (ty := 39) (ln := none) (L1 := fun b76 => [(3, ⟨[.int .u16 0, .int .u32 0], ty3, true⟩), (b56, ⟨[.int .u16 0, .int .u32 1], 39, false⟩), (b76, ⟨[.int .u16 0, .int .u32 0], 39, false⟩)]) h75 rfl rfl rfl rfl (by kernel_rfl) (fun _ => rfl) fun b76 w77 a78 h79 hf80 hn81 => ?_
  clear h75
  refine nd_op ?_
  refine op_store tabOk2 {k := 2} (L' := [(3, ⟨[.int .u16 0, .int .u32 0], ty3, true⟩), (b56, ⟨[.int .u16 0, .int .u32 1], 39, false⟩), (b76, ⟨[.int .u16 1, .int .u32 1], 39, false⟩)]) (φ := b76 = b76 ∧ Nat.ble (0 + 2) 2 = true) h79 rfl rfl rfl (by kernel_rfl) ⟨rfl, rfl⟩ fun w82 h83 => ?_
  clear h79
  refine nd_batch tabOk2 tabZ_ok2 [(10, {})] [4, 2, 1] (T' := [(4, .pointer (some ⟨b76, 0, none⟩)), (2, .pointer (some ⟨b56, 0, none⟩)), (1, .pointer (some ⟨mb, 0, none⟩))]) (φ := True) (rest := []) h83 (by kernel_rfl) rfl trivial fun a84 h85 => ?_
  clear h83
  refine nd_done ?_
  refine hK66 _ _ ?_
  clear hK66
  refine wp_seq_k fun K86 hK86 => ?_
  refine dr_start (KB := [3, b56, b76, mb]) (Bi := [[0, 1, 2, 3], [0, 1, 2, 3], [0, 1, 2, 3], [0, 1, 2, 3], [0, 1, 2, 3], []]) mixed h85 fun w87 h88 => ?_
  clear h85
  refine dr_batch tabOk2 tabZ_ok2 (by repeat (first | with_reducible exact PF.body | with_reducible apply PF.inB | with_reducible apply PF.next)) [(0, {}), (1, {}), (2, {})] [4, 2, 1, 39] (T' := [(4, .pointer (some ⟨b76, 0, none⟩)), (2, .pointer (some ⟨b56, 0, none⟩)), (1, .pointer (some ⟨mb, 0, none⟩)), (39, .pointer (some ⟨mb, 1, none⟩))]) (φ := True) (fuel := 3) h88 (by kernel_rfl) rfl (by kernel_rfl) (by kernel_rfl) ⟨trivial, trivial, trivial, trivial⟩ trivial fun a90 h91 => ?_
  clear h88
  refine dr_read (i := 3) (b := mb) (p := 3) (v := .pointer (some ⟨Z.mc, 0, none⟩)) (fuel := 2) (by repeat (first | with_reducible exact PF.body | with_reducible apply PF.inB | with_reducible apply PF.next)) h91 rfl rfl rfl (by kernel_rfl) (by kernel_rfl) (by kernel_rfl) rfl (rd_m h91 (k := 1) (v := .pointer (some ⟨Z.mc, 0, none⟩)) rfl rfl rfl rfl (md_p ⟨rfl, trivial⟩)) ?_
  have h92 := h91.put (d := some 40) (v := .pointer (some ⟨Z.mc, 0, none⟩)) (T' := [(40, .pointer (some ⟨Z.mc, 0, none⟩)), (4, .pointer (some ⟨b76, 0, none⟩)), (2, .pointer (some ⟨b56, 0, none⟩)), (1, .pointer (some ⟨mb, 0, none⟩)), (39, .pointer (some ⟨mb, 1, none⟩))]) rfl
  clear h91
  refine dr_batch tabOk2 tabZ_ok2 (by repeat (first | with_reducible exact PF.body | with_reducible apply PF.inB | with_reducible apply PF.next)) [(4, {k := 1, p := 1})] [40, 4, 2, 1, 41] (T' := [(40, .pointer (some ⟨Z.mc, 0, none⟩)), (4, .pointer (some ⟨b76, 0, none⟩)), (2, .pointer (some ⟨b56, 0, none⟩)), (1, .pointer (some ⟨mb, 0, none⟩)), (41, .agg #[.int .u16 0, .int .u32 1])]) (φ := (b56 = b56 ∧ Nat.ble (0 + 2) 2 = true) ∧ True) (fuel := 1) h92 (by kernel_rfl) rfl (by kernel_rfl) (by kernel_rfl) ⟨rfl, trivial⟩ ⟨⟨rfl, rfl⟩, trivial⟩ fun a93 h94 => ?_
  clear h92
  refine wpAnyK_one (i := 5) (fuel := 0) (by kernel_rfl) ?_
  refine op_call h94 rfl rfl rfl (callOk Tryd.func38 (by decide) rfl) (args := [.pointer (some ⟨Z.mc, 0, none⟩), .agg #[.int .u16 0, .int .u32 1]]) rfl (addNode_ok Z.mo Z.mc Z.nd ({ bootC0 with ent := bootE2 } : CP) ⟨0, 1⟩ (by decide) _ h94.inv.1.cp) ?_
  rintro _ w95 ⟨rfl, nb, hnb, hc96, hf97⟩
  refine ⟨_, rfl, ?_⟩
  have h98a := st_capN h94 hc96 hf97 (node_sub hnb) (kcons (fun _ => rfl) (kcons (fun hq => by cases hq) (kcons (fun hq => by cases hq) knil)))
  have h98 := h98a.put (d := some 42) (v := .tuple #[]) (T' := [(42, .tuple #[]), (40, .pointer (some ⟨Z.mc, 0, none⟩)), (4, .pointer (some ⟨b76, 0, none⟩)), (2, .pointer (some ⟨b56, 0, none⟩)), (1, .pointer (some ⟨mb, 0, none⟩)), (41, .agg #[.int .u16 0, .int .u32 1])]) rfl
  refine ⟨keepNil, ?_⟩
  clear h94 h98a
  refine wpAnyK_done (by kernel_rfl) ?_ _
  refine hK86 _ _ ?_
  clear hK86
  refine wp_seq_k fun K99 hK99 => ?_
  refine nd_start (l := [0, 1]) rfl ?_
  refine nd_batch tabOk2 tabZ_ok2 [(0, {}), (1, {})] [4, 2, 1, 6] (T' := [(4, .pointer (some ⟨b76, 0, none⟩)), (2, .pointer (some ⟨b56, 0, none⟩)), (1, .pointer (some ⟨mb, 0, none⟩)), (6, .func (.func 42) #[] #[.pointer (some ⟨b56, 0, none⟩)])]) (φ := True) (rest := []) h98 (by kernel_rfl) rfl trivial fun a100 h101 => ?_
  clear h98
  refine nd_done ?_
  refine hK99 _ _ ?_
  clear hK99
  refine wp_seq_k fun K102 hK102 => ?_
  refine dr_start (KB := [3, b56, b76, mb]) (Bi := [[0, 1, 2, 3], [0, 1, 2, 3], [0, 1, 2, 3], [0, 1, 2, 3], [0, 1, 2, 3], [3], [0, 1, 2, 3], [0, 1, 2, 3], [0, 1, 2, 3], [0, 1, 2, 3], [3], [0, 1, 2, 3], []]) mixed h101 fun w103 h104 => ?_
  clear h101
  refine dr_batch tabOk2 tabZ_ok2 (by repeat (first | with_reducible exact PF.body | with_reducible apply PF.inB | with_reducible apply PF.next)) [(0, {}), (1, {}), (2, {})] [4, 2, 1, 6, 46] (T' := [(4, .pointer (some ⟨b76, 0, none⟩)), (2, .pointer (some ⟨b56, 0, none⟩)), (1, .pointer (some ⟨mb, 0, none⟩)), (6, .func (.func 42) #[] #[.pointer (some ⟨b56, 0, none⟩)]), (46, .pointer (some ⟨mb, 1, none⟩))]) (φ := True) (fuel := 10) h104 (by kernel_rfl) rfl (by kernel_rfl) (by kernel_rfl) ⟨trivial, trivial, trivial, trivial⟩ trivial fun a106 h107 => ?_
  clear h104
  refine dr_read (i := 3) (b := mb) (p := 3) (v := .pointer (some ⟨Z.mc, 0, none⟩)) (fuel := 9) (by repeat (first | with_reducible exact PF.body | with_reducible apply PF.inB | with_reducible apply PF.next)) h107 rfl rfl rfl (by kernel_rfl) (by kernel_rfl) (by kernel_rfl) rfl (rd_m h107 (k := 1) (v := .pointer (some ⟨Z.mc, 0, none⟩)) rfl rfl rfl rfl (md_p ⟨rfl, trivial⟩)) ?_
  have h108 := h107.put (d := some 47) (v := .pointer (some ⟨Z.mc, 0, none⟩)) (T' := [(47, .pointer (some ⟨Z.mc, 0, none⟩)), (4, .pointer (some ⟨b76, 0, none⟩)), (2, .pointer (some ⟨b56, 0, none⟩)), (1, .pointer (some ⟨mb, 0, none⟩)), (6, .func (.func 42) #[] #[.pointer (some ⟨b56, 0, none⟩)]), (46, .pointer (some ⟨mb, 1, none⟩))]) rfl
  clear h107
  refine dr_batch tabOk2 tabZ_ok2 (by repeat (first | with_reducible exact PF.body | with_reducible apply PF.inB | with_reducible apply PF.next)) [(4, {}), (6, {}), (7, {}), (8, {})] [47, 4, 2, 1, 6, 48, 52] (T' := [(47, .pointer (some ⟨Z.mc, 0, none⟩)), (4, .pointer (some ⟨b76, 0, none⟩)), (2, .pointer (some ⟨b56, 0, none⟩)), (1, .pointer (some ⟨mb, 0, none⟩)), (6, .func (.func 42) #[] #[.pointer (some ⟨b56, 0, none⟩)]), (48, .func (.func 42) #[] #[.pointer (some ⟨b56, 0, none⟩)]), (52, .pointer (some ⟨mb, 0, none⟩))]) (φ := True) (fuel := 5) h108 (by kernel_rfl) rfl (by kernel_rfl) (by kernel_rfl) ⟨trivial, trivial, trivial, trivial, trivial⟩ trivial fun a109 h110 => ?_
  clear h108
  refine dr_read (i := 9) (b := mb) (p := 3) (v := .pointer (some ⟨Z.mo, 0, none⟩)) (fuel := 4) (by repeat (first | with_reducible exact PF.body | with_reducible apply PF.inB | with_reducible apply PF.next)) h110 rfl rfl rfl (by kernel_rfl) (by kernel_rfl) (by kernel_rfl) rfl (rd_m h110 (k := 0) (v := .pointer (some ⟨Z.mo, 0, none⟩)) rfl rfl rfl rfl (md_p ⟨rfl, trivial⟩)) ?_
  have h111 := h110.put (d := some 53) (v := .pointer (some ⟨Z.mo, 0, none⟩)) (T' := [(53, .pointer (some ⟨Z.mo, 0, none⟩)), (47, .pointer (some ⟨Z.mc, 0, none⟩)), (4, .pointer (some ⟨b76, 0, none⟩)), (2, .pointer (some ⟨b56, 0, none⟩)), (1, .pointer (some ⟨mb, 0, none⟩)), (6, .func (.func 42) #[] #[.pointer (some ⟨b56, 0, none⟩)]), (48, .func (.func 42) #[] #[.pointer (some ⟨b56, 0, none⟩)]), (52, .pointer (some ⟨mb, 0, none⟩))]) rfl
  clear h110
  refine wpAnyK_one (i := 5) (fuel := 3) (by kernel_rfl) ?_
  refine op_callv (f := 42) (first := []) (cap := [.pointer (some ⟨b56, 0, none⟩)]) (args := [.int .i64 2]) h111 rfl rfl rfl rfl (callOk Tryd.func42 (by decide) rfl) rfl (newc_ok b56 2 (by decide) _ (h111.kn (k := 1) rfl)) ?_
  rintro _ w112 ⟨rfl, hf113⟩
  refine ⟨_, rfl, ?_⟩
  refine ⟨(keepCons (kpM h111.inv.1 (l := .m) trivial (List.mem_cons_self ..) hf113) keepNil), ?_⟩
  have h114 := (h111.grow hf113).put (d := some 49) (v := .int .i64 2) (T' := [(49, .int .i64 2), (53, .pointer (some ⟨Z.mo, 0, none⟩)), (47, .pointer (some ⟨Z.mc, 0, none⟩)), (4, .pointer (some ⟨b76, 0, none⟩)), (2, .pointer (some ⟨b56, 0, none⟩)), (1, .pointer (some ⟨mb, 0, none⟩)), (6, .func (.func 42) #[] #[.pointer (some ⟨b56, 0, none⟩)]), (48, .func (.func 42) #[] #[.pointer (some ⟨b56, 0, none⟩)]), (52, .pointer (some ⟨mb, 0, none⟩))]) rfl
  clear h111
  refine wpAnyK_one (i := 10) (fuel := 2) (by kernel_rfl) ?_
  refine op_call h114 rfl rfl rfl (callOk Tryd.func41 (by decide) rfl) (args := [.pointer (some ⟨Z.mo, 0, none⟩), .int .i64 256]) rfl (by have h9 := refAt_ok Z.mo bootE2 256 (by decide) _ h114.inv.1.cp.st; rw [boot_ref] at h9; exact h9) ?_
  rintro _ w115 ⟨rfl, hf117⟩
  refine ⟨_, rfl, ?_⟩
  have h116 := (h114.grow hf117).put (d := some 54) (v := .agg #[.int .u16 256, .int .u32 1]) (T' := [(54, .agg #[.int .u16 256, .int .u32 1]), (49, .int .i64 2), (53, .pointer (some ⟨Z.mo, 0, none⟩)), (47, .pointer (some ⟨Z.mc, 0, none⟩)), (4, .pointer (some ⟨b76, 0, none⟩)), (2, .pointer (some ⟨b56, 0, none⟩)), (1, .pointer (some ⟨mb, 0, none⟩)), (6, .func (.func 42) #[] #[.pointer (some ⟨b56, 0, none⟩)]), (48, .func (.func 42) #[] #[.pointer (some ⟨b56, 0, none⟩)]), (52, .pointer (some ⟨mb, 0, none⟩))]) rfl
  refine ⟨(keepCons (kpM h114.inv.1 (l := .m) trivial (List.mem_cons_self ..) hf117) keepNil), ?_⟩
  clear h114
  refine dr_batch tabOk2 tabZ_ok2 (by repeat (first | with_reducible exact PF.body | with_reducible apply PF.inB | with_reducible apply PF.next)) [(11, {})] [49, 47, 4, 2, 1, 6, 55] (T' := [(49, .int .i64 2), (47, .pointer (some ⟨Z.mc, 0, none⟩)), (4, .pointer (some ⟨b76, 0, none⟩)), (2, .pointer (some ⟨b56, 0, none⟩)), (1, .pointer (some ⟨mb, 0, none⟩)), (6, .func (.func 42) #[] #[.pointer (some ⟨b56, 0, none⟩)]), (55, .agg #[.int .u8 1, .int .u16 256, .int .u32 1, .int .u8 7, .int .u64 0])]) (φ := True) (fuel := 1) h116 (by kernel_rfl) rfl (by kernel_rfl) (by kernel_rfl) ⟨trivial, trivial⟩ trivial fun a118 h119 => ?_
  clear h116
  refine wpAnyK_one (i := 12) (fuel := 0) (by kernel_rfl) ?_
  refine op_call h119 rfl rfl rfl (callOk Tryd.func40 (by decide) rfl) (args := [.pointer (some ⟨Z.mc, 0, none⟩), .int .i64 2, .agg #[.int .u8 1, .int .u16 256, .int .u32 1, .int .u8 7, .int .u64 0], .int .i64 (-1)]) rfl (insertE Z.mo Z.mc _ bootC1 (i := 0) (j := 2) (by decide) (by decide) rfl (s := 2) rfl (⟨1, ⟨256, 1⟩, 7, 0⟩ : Cp) (-1) _ h119.inv.1.cp) ?_
  rintro _ w120 ⟨rfl, hc121, hf122⟩
  refine ⟨_, rfl, ?_⟩
  have h123a := st_cap h119 hc121 hf122 (fun b hb => .inl hb) (kcons (fun _ => rfl) (kcons (fun hq => by cases hq) (kcons (fun hq => by cases hq) knil)))
  have h123 := h123a.put (d := some 56) (v := .tuple #[]) (T' := [(56, .tuple #[]), (49, .int .i64 2), (47, .pointer (some ⟨Z.mc, 0, none⟩)), (4, .pointer (some ⟨b76, 0, none⟩)), (2, .pointer (some ⟨b56, 0, none⟩)), (1, .pointer (some ⟨mb, 0, none⟩)), (6, .func (.func 42) #[] #[.pointer (some ⟨b56, 0, none⟩)]), (55, .agg #[.int .u8 1, .int .u16 256, .int .u32 1, .int .u8 7, .int .u64 0])]) rfl
  refine ⟨keepNil, ?_⟩
  clear h119 h123a
  refine wpAnyK_done (by kernel_rfl) ?_ _
  refine hK102 _ _ ?_
  clear hK102
  refine wp_seq_k fun K124 hK124 => ?_
  refine dr_start (KB := [3, b56, b76, mb]) (Bi := [[0, 1, 2, 3], [0, 1, 2, 3], [0, 1, 2, 3], [0, 1, 2, 3], [0, 1, 2, 3], [1, 3], [0, 1, 2, 3], [0, 1, 2, 3], [0, 1, 2, 3], [1, 3], []]) mixed h123 fun w125 h126 => ?_
  clear h123
  refine dr_batch tabOk2 tabZ_ok2 (by repeat (first | with_reducible exact PF.body | with_reducible apply PF.inB | with_reducible apply PF.next)) [(0, {}), (1, {}), (2, {})] [4, 2, 1, 6, 59] (T' := [(4, .pointer (some ⟨b76, 0, none⟩)), (2, .pointer (some ⟨b56, 0, none⟩)), (1, .pointer (some ⟨mb, 0, none⟩)), (6, .func (.func 42) #[] #[.pointer (some ⟨b56, 0, none⟩)]), (59, .pointer (some ⟨mb, 1, none⟩))]) (φ := True) (fuel := 8) h126 (by kernel_rfl) rfl (by kernel_rfl) (by kernel_rfl) ⟨trivial, trivial, trivial, trivial⟩ trivial fun a128 h129 => ?_
  clear h126
  refine dr_read (i := 3) (b := mb) (p := 3) (v := .pointer (some ⟨Z.mc, 0, none⟩)) (fuel := 7) (by repeat (first | with_reducible exact PF.body | with_reducible apply PF.inB | with_reducible apply PF.next)) h129 rfl rfl rfl (by kernel_rfl) (by kernel_rfl) (by kernel_rfl) rfl (rd_m h129 (k := 1) (v := .pointer (some ⟨Z.mc, 0, none⟩)) rfl rfl rfl rfl (md_p ⟨rfl, trivial⟩)) ?_
  have h130 := h129.put (d := some 60) (v := .pointer (some ⟨Z.mc, 0, none⟩)) (T' := [(60, .pointer (some ⟨Z.mc, 0, none⟩)), (4, .pointer (some ⟨b76, 0, none⟩)), (2, .pointer (some ⟨b56, 0, none⟩)), (1, .pointer (some ⟨mb, 0, none⟩)), (6, .func (.func 42) #[] #[.pointer (some ⟨b56, 0, none⟩)]), (59, .pointer (some ⟨mb, 1, none⟩))]) rfl
  clear h129
  refine dr_batch tabOk2 tabZ_ok2 (by repeat (first | with_reducible exact PF.body | with_reducible apply PF.inB | with_reducible apply PF.next)) [(4, {}), (6, {k := 1, p := 1}), (7, {}), (8, {})] [60, 4, 2, 1, 6, 61, 64, 65] (T' := [(60, .pointer (some ⟨Z.mc, 0, none⟩)), (4, .pointer (some ⟨b76, 0, none⟩)), (2, .pointer (some ⟨b56, 0, none⟩)), (1, .pointer (some ⟨mb, 0, none⟩)), (6, .func (.func 42) #[] #[.pointer (some ⟨b56, 0, none⟩)]), (61, .func (.func 42) #[] #[.pointer (some ⟨b56, 0, none⟩)]), (64, .agg #[.int .u8 2, .int .u16 0, .int .u32 1, .int .u8 7, .int .u64 0]), (65, .func (.func 42) #[] #[.pointer (some ⟨b56, 0, none⟩)])]) (φ := (b56 = b56 ∧ Nat.ble (0 + 2) 2 = true) ∧ True) (fuel := 3) h130 (by kernel_rfl) rfl (by kernel_rfl) (by kernel_rfl) ⟨trivial, rfl, trivial, trivial, trivial⟩ ⟨⟨rfl, rfl⟩, trivial⟩ fun a131 h132 => ?_
  clear h130
  refine wpAnyK_one (i := 5) (fuel := 2) (by kernel_rfl) ?_
  refine op_callv (f := 42) (first := []) (cap := [.pointer (some ⟨b56, 0, none⟩)]) (args := [.int .i64 0]) h132 rfl rfl rfl rfl (callOk Tryd.func42 (by decide) rfl) rfl (newc_ok b56 0 (by decide) _ (h132.kn (k := 1) rfl)) ?_
  rintro _ w133 ⟨rfl, hf134⟩
  refine ⟨_, rfl, ?_⟩
  refine ⟨(keepCons (kpLf h132.known hf134 (q := 1) rfl) (keepCons (kpM h132.inv.1 (l := .m) trivial (List.mem_cons_self ..) hf134) keepNil)), ?_⟩
  have h135 := (h132.grow hf134).put (d := some 62) (v := .int .i64 0) (T' := [(62, .int .i64 0), (60, .pointer (some ⟨Z.mc, 0, none⟩)), (4, .pointer (some ⟨b76, 0, none⟩)), (2, .pointer (some ⟨b56, 0, none⟩)), (1, .pointer (some ⟨mb, 0, none⟩)), (6, .func (.func 42) #[] #[.pointer (some ⟨b56, 0, none⟩)]), (61, .func (.func 42) #[] #[.pointer (some ⟨b56, 0, none⟩)]), (64, .agg #[.int .u8 2, .int .u16 0, .int .u32 1, .int .u8 7, .int .u64 0]), (65, .func (.func 42) #[] #[.pointer (some ⟨b56, 0, none⟩)])]) rfl
  clear h132
  refine wpAnyK_one (i := 9) (fuel := 1) (by kernel_rfl) ?_
  refine op_callv (f := 42) (first := []) (cap := [.pointer (some ⟨b56, 0, none⟩)]) (args := [.int .i64 2]) h135 rfl rfl rfl rfl (callOk Tryd.func42 (by decide) rfl) rfl (newc_ok b56 2 (by decide) _ (h135.kn (k := 1) rfl)) ?_
  rintro _ w136 ⟨rfl, hf137⟩
  refine ⟨_, rfl, ?_⟩
  refine ⟨(keepCons (kpLf h135.known hf137 (q := 1) rfl) (keepCons (kpM h135.inv.1 (l := .m) trivial (List.mem_cons_self ..) hf137) keepNil)), ?_⟩
  have h138 := (h135.grow hf137).put (d := some 66) (v := .int .i64 2) (T' := [(66, .int .i64 2), (62, .int .i64 0), (60, .pointer (some ⟨Z.mc, 0, none⟩)), (4, .pointer (some ⟨b76, 0, none⟩)), (2, .pointer (some ⟨b56, 0, none⟩)), (1, .pointer (some ⟨mb, 0, none⟩)), (6, .func (.func 42) #[] #[.pointer (some ⟨b56, 0, none⟩)]), (61, .func (.func 42) #[] #[.pointer (some ⟨b56, 0, none⟩)]), (64, .agg #[.int .u8 2, .int .u16 0, .int .u32 1, .int .u8 7, .int .u64 0]), (65, .func (.func 42) #[] #[.pointer (some ⟨b56, 0, none⟩)])]) rfl
  clear h135
  refine wpAnyK_one (i := 10) (fuel := 0) (by kernel_rfl) ?_
  refine op_call h138 rfl rfl rfl (callOk Tryd.func40 (by decide) rfl) (args := [.pointer (some ⟨Z.mc, 0, none⟩), .int .i64 0, .agg #[.int .u8 2, .int .u16 0, .int .u32 1, .int .u8 7, .int .u64 0], .int .i64 2]) rfl (insertE Z.mo Z.mc _ bootC2 (i := 0) (j := 0) (by decide) (by decide) rfl (s := 0) rfl (⟨2, ⟨0, 1⟩, 7, 0⟩ : Cp) 2 _ h138.inv.1.cp) ?_
  rintro _ w139 ⟨rfl, hc140, hf141⟩
  refine ⟨_, rfl, ?_⟩
  have h142a := st_cap h138 hc140 hf141 (fun b hb => .inl hb) (kcons (fun _ => rfl) (kcons (fun hq => by cases hq) (kcons (fun hq => by cases hq) knil)))
  have h142 := h142a.put (d := some 67) (v := .tuple #[]) (T' := [(67, .tuple #[]), (66, .int .i64 2), (62, .int .i64 0), (60, .pointer (some ⟨Z.mc, 0, none⟩)), (4, .pointer (some ⟨b76, 0, none⟩)), (2, .pointer (some ⟨b56, 0, none⟩)), (1, .pointer (some ⟨mb, 0, none⟩)), (6, .func (.func 42) #[] #[.pointer (some ⟨b56, 0, none⟩)]), (61, .func (.func 42) #[] #[.pointer (some ⟨b56, 0, none⟩)]), (64, .agg #[.int .u8 2, .int .u16 0, .int .u32 1, .int .u8 7, .int .u64 0]), (65, .func (.func 42) #[] #[.pointer (some ⟨b56, 0, none⟩)])]) rfl
  refine ⟨keepNil, ?_⟩
  clear h138 h142a
  refine wpAnyK_done (by kernel_rfl) ?_ _
  refine hK124 _ _ ?_
  clear hK124
  refine wp_seq_k fun K143 hK143 => ?_
  refine dr_start (KB := [3, b56, b76, mb]) (Bi := [[0, 1, 2, 3], [0, 1, 2, 3], [0, 1, 2, 3], [0, 1, 2, 3], [0, 1, 2, 3], [2, 3], [0, 1, 2, 3], [0, 1, 2, 3], [0, 1, 2, 3], [2, 3], []]) mixed h142 fun w144 h145 => ?_
  clear h142
  refine dr_batch tabOk2 tabZ_ok2 (by repeat (first | with_reducible exact PF.body | with_reducible apply PF.inB | with_reducible apply PF.next)) [(0, {}), (1, {}), (2, {})] [4, 2, 1, 6, 70] (T' := [(4, .pointer (some ⟨b76, 0, none⟩)), (2, .pointer (some ⟨b56, 0, none⟩)), (1, .pointer (some ⟨mb, 0, none⟩)), (6, .func (.func 42) #[] #[.pointer (some ⟨b56, 0, none⟩)]), (70, .pointer (some ⟨mb, 1, none⟩))]) (φ := True) (fuel := 8) h145 (by kernel_rfl) rfl (by kernel_rfl) (by kernel_rfl) ⟨trivial, trivial, trivial, trivial⟩ trivial fun a147 h148 => ?_
  clear h145
  refine dr_read (i := 3) (b := mb) (p := 3) (v := .pointer (some ⟨Z.mc, 0, none⟩)) (fuel := 7) (by repeat (first | with_reducible exact PF.body | with_reducible apply PF.inB | with_reducible apply PF.next)) h148 rfl rfl rfl (by kernel_rfl) (by kernel_rfl) (by kernel_rfl) rfl (rd_m h148 (k := 1) (v := .pointer (some ⟨Z.mc, 0, none⟩)) rfl rfl rfl rfl (md_p ⟨rfl, trivial⟩)) ?_
  have h149 := h148.put (d := some 71) (v := .pointer (some ⟨Z.mc, 0, none⟩)) (T' := [(71, .pointer (some ⟨Z.mc, 0, none⟩)), (4, .pointer (some ⟨b76, 0, none⟩)), (2, .pointer (some ⟨b56, 0, none⟩)), (1, .pointer (some ⟨mb, 0, none⟩)), (6, .func (.func 42) #[] #[.pointer (some ⟨b56, 0, none⟩)]), (70, .pointer (some ⟨mb, 1, none⟩))]) rfl
  clear h148
  refine dr_batch tabOk2 tabZ_ok2 (by repeat (first | with_reducible exact PF.body | with_reducible apply PF.inB | with_reducible apply PF.next)) [(4, {}), (6, {k := 2, p := 2}), (7, {}), (8, {})] [71, 4, 2, 1, 6, 72, 75, 76] (T' := [(71, .pointer (some ⟨Z.mc, 0, none⟩)), (4, .pointer (some ⟨b76, 0, none⟩)), (2, .pointer (some ⟨b56, 0, none⟩)), (1, .pointer (some ⟨mb, 0, none⟩)), (6, .func (.func 42) #[] #[.pointer (some ⟨b56, 0, none⟩)]), (72, .func (.func 42) #[] #[.pointer (some ⟨b56, 0, none⟩)]), (75, .agg #[.int .u8 3, .int .u16 1, .int .u32 1, .int .u8 7, .int .u64 0]), (76, .func (.func 42) #[] #[.pointer (some ⟨b56, 0, none⟩)])]) (φ := (b76 = b76 ∧ Nat.ble (0 + 2) 2 = true) ∧ True) (fuel := 3) h149 (by kernel_rfl) rfl (by kernel_rfl) (by kernel_rfl) ⟨trivial, rfl, trivial, trivial, trivial⟩ ⟨⟨rfl, rfl⟩, trivial⟩ fun a150 h151 => ?_
  clear h149
  refine wpAnyK_one (i := 5) (fuel := 2) (by kernel_rfl) ?_
  refine op_callv (f := 42) (first := []) (cap := [.pointer (some ⟨b56, 0, none⟩)]) (args := [.int .i64 1]) h151 rfl rfl rfl rfl (callOk Tryd.func42 (by decide) rfl) rfl (newc_ok b56 1 (by decide) _ (h151.kn (k := 1) rfl)) ?_
  rintro _ w152 ⟨rfl, hf153⟩
  refine ⟨_, rfl, ?_⟩
  refine ⟨(keepCons (kpLf h151.known hf153 (q := 2) rfl) (keepCons (kpM h151.inv.1 (l := .m) trivial (List.mem_cons_self ..) hf153) keepNil)), ?_⟩
  have h154 := (h151.grow hf153).put (d := some 73) (v := .int .i64 1) (T' := [(73, .int .i64 1), (71, .pointer (some ⟨Z.mc, 0, none⟩)), (4, .pointer (some ⟨b76, 0, none⟩)), (2, .pointer (some ⟨b56, 0, none⟩)), (1, .pointer (some ⟨mb, 0, none⟩)), (6, .func (.func 42) #[] #[.pointer (some ⟨b56, 0, none⟩)]), (72, .func (.func 42) #[] #[.pointer (some ⟨b56, 0, none⟩)]), (75, .agg #[.int .u8 3, .int .u16 1, .int .u32 1, .int .u8 7, .int .u64 0]), (76, .func (.func 42) #[] #[.pointer (some ⟨b56, 0, none⟩)])]) rfl
  clear h151
  refine wpAnyK_one (i := 9) (fuel := 1) (by kernel_rfl) ?_
  refine op_callv (f := 42) (first := []) (cap := [.pointer (some ⟨b56, 0, none⟩)]) (args := [.int .i64 2]) h154 rfl rfl rfl rfl (callOk Tryd.func42 (by decide) rfl) rfl (newc_ok b56 2 (by decide) _ (h154.kn (k := 1) rfl)) ?_
  rintro _ w155 ⟨rfl, hf156⟩
  refine ⟨_, rfl, ?_⟩
  refine ⟨(keepCons (kpLf h154.known hf156 (q := 2) rfl) (keepCons (kpM h154.inv.1 (l := .m) trivial (List.mem_cons_self ..) hf156) keepNil)), ?_⟩
  have h157 := (h154.grow hf156).put (d := some 77) (v := .int .i64 2) (T' := [(77, .int .i64 2), (73, .int .i64 1), (71, .pointer (some ⟨Z.mc, 0, none⟩)), (4, .pointer (some ⟨b76, 0, none⟩)), (2, .pointer (some ⟨b56, 0, none⟩)), (1, .pointer (some ⟨mb, 0, none⟩)), (6, .func (.func 42) #[] #[.pointer (some ⟨b56, 0, none⟩)]), (72, .func (.func 42) #[] #[.pointer (some ⟨b56, 0, none⟩)]), (75, .agg #[.int .u8 3, .int .u16 1, .int .u32 1, .int .u8 7, .int .u64 0]), (76, .func (.func 42) #[] #[.pointer (some ⟨b56, 0, none⟩)])]) rfl
  clear h154
  refine wpAnyK_one (i := 10) (fuel := 0) (by kernel_rfl) ?_
  refine op_call h157 rfl rfl rfl (callOk Tryd.func40 (by decide) rfl) (args := [.pointer (some ⟨Z.mc, 0, none⟩), .int .i64 1, .agg #[.int .u8 3, .int .u16 1, .int .u32 1, .int .u8 7, .int .u64 0], .int .i64 2]) rfl (insertE Z.mo Z.mc _ bootC3 (i := 0) (j := 1) (by decide) (by decide) rfl (s := 1) rfl (⟨3, ⟨1, 1⟩, 7, 0⟩ : Cp) 2 _ h157.inv.1.cp) ?_
  rintro _ w158 ⟨rfl, hc159, hf160⟩
  refine ⟨_, rfl, ?_⟩
  have h161a := st_cap h157 hc159 hf160 (fun b hb => .inl hb) (kcons (fun _ => rfl) (kcons (fun hq => by cases hq) (kcons (fun hq => by cases hq) knil)))
  have h161 := h161a.put (d := some 78) (v := .tuple #[]) (T' := [(78, .tuple #[]), (77, .int .i64 2), (73, .int .i64 1), (71, .pointer (some ⟨Z.mc, 0, none⟩)), (4, .pointer (some ⟨b76, 0, none⟩)), (2, .pointer (some ⟨b56, 0, none⟩)), (1, .pointer (some ⟨mb, 0, none⟩)), (6, .func (.func 42) #[] #[.pointer (some ⟨b56, 0, none⟩)]), (72, .func (.func 42) #[] #[.pointer (some ⟨b56, 0, none⟩)]), (75, .agg #[.int .u8 3, .int .u16 1, .int .u32 1, .int .u8 7, .int .u64 0]), (76, .func (.func 42) #[] #[.pointer (some ⟨b56, 0, none⟩)])]) rfl
  refine ⟨keepNil, ?_⟩
  clear h157 h161a
  refine wpAnyK_done (by kernel_rfl) ?_ _
  refine hK143 _ _ ?_
  clear hK143
  refine wp_seq_k fun K162 hK162 => ?_
  refine dr_start (KB := [3, b56, b76, mb]) (Bi := [[0, 1, 2, 3], [0, 1, 2, 3], [0, 1, 2, 3], [0, 1, 2, 3], [0, 1, 2, 3], [0, 1, 2, 3], [0, 1, 2, 3], [2, 3], []]) mixed h161 fun w163 h164 => ?_
  clear h161
  refine dr_batch tabOk2 tabZ_ok2 (by repeat (first | with_reducible exact PF.body | with_reducible apply PF.inB | with_reducible apply PF.next)) [(0, {}), (1, {}), (2, {})] [4, 2, 1, 6, 81] (T' := [(4, .pointer (some ⟨b76, 0, none⟩)), (2, .pointer (some ⟨b56, 0, none⟩)), (1, .pointer (some ⟨mb, 0, none⟩)), (6, .func (.func 42) #[] #[.pointer (some ⟨b56, 0, none⟩)]), (81, .pointer (some ⟨mb, 2, none⟩))]) (φ := True) (fuel := 6) h164 (by kernel_rfl) rfl (by kernel_rfl) (by kernel_rfl) ⟨trivial, trivial, trivial, trivial⟩ trivial fun a166 h167 => ?_
  clear h164
  refine dr_read (i := 3) (b := mb) (p := 3) (v := .map (some Z.tb)) (fuel := 5) (by repeat (first | with_reducible exact PF.body | with_reducible apply PF.inB | with_reducible apply PF.next)) h167 rfl rfl rfl (by kernel_rfl) (by kernel_rfl) (by kernel_rfl) rfl (rd_m h167 (k := 2) (v := .map (some Z.tb)) rfl rfl rfl rfl (md_p ⟨rfl, trivial⟩)) ?_
  have h168 := h167.put (d := some 82) (v := .map (some Z.tb)) (T' := [(82, .map (some Z.tb)), (4, .pointer (some ⟨b76, 0, none⟩)), (2, .pointer (some ⟨b56, 0, none⟩)), (1, .pointer (some ⟨mb, 0, none⟩)), (6, .func (.func 42) #[] #[.pointer (some ⟨b56, 0, none⟩)]), (81, .pointer (some ⟨mb, 2, none⟩))]) rfl
  clear h167
  refine dr_batch tabOk2 tabZ_ok2 (by repeat (first | with_reducible exact PF.body | with_reducible apply PF.inB | with_reducible apply PF.next)) [(4, {k := 2, p := 2}), (5, {k := 1, p := 1}), (6, {})] [82, 4, 2, 1, 6, 83, 85] (T' := [(82, .map (some Z.tb)), (4, .pointer (some ⟨b76, 0, none⟩)), (2, .pointer (some ⟨b56, 0, none⟩)), (1, .pointer (some ⟨mb, 0, none⟩)), (6, .func (.func 42) #[] #[.pointer (some ⟨b56, 0, none⟩)]), (83, .agg #[.int .u16 1, .int .u32 1]), (85, .agg #[.int .u8 2, .int .u8 4, .int .u16 0, .int .u32 0, .int .u16 0, .int .u32 1, .int .u16 0, .int .u32 0, .int .u64 0, .int .u64 0, .int .u64 0, .int .u64 0, .int .u64 0, .int .u8 0, .int .u8 0, .int .u32 0, .int .u32 0, .bool false, .bool false])]) (φ := (b76 = b76 ∧ Nat.ble (0 + 2) 2 = true) ∧ (b56 = b56 ∧ Nat.ble (0 + 2) 2 = true) ∧ True) (fuel := 2) h168 (by kernel_rfl) rfl (by kernel_rfl) (by kernel_rfl) ⟨rfl, rfl, trivial, trivial⟩ ⟨⟨rfl, rfl⟩, ⟨rfl, rfl⟩, trivial⟩ fun a169 h170 => ?_
  clear h168
  refine wpAnyK_one (i := 7) (fuel := 1) (by kernel_rfl) ?_
  refine op_new tabOk2 (cells := [.int .u8 2, .int .u8 4, .int .u16 0, .int .u32 0, .int .u16 0, .int .u32 1, .int .u16 0, .int .u32 0, .int .u64 0, .int .u64 0, .int .u64 0, .int .u64 0, .int .u64 0, .int .u8 0, .int .u8 0, .int .u32 0, .int .u32 0, .bool false, .bool false]) (ty := 59) (ln := none) (L1 := fun b171 => [(3, ⟨[.int .u16 0, .int .u32 0], ty3, true⟩), (b56, ⟨[.int .u16 0, .int .u32 1], 39, false⟩), (b76, ⟨[.int .u16 1, .int .u32 1], 39, false⟩), (b171, ⟨[.int .u8 2, .int .u8 4, .int .u16 0, .int .u32 0, .int .u16 0, .int .u32 1, .int .u16 0, .int .u32 0, .int .u64 0, .int .u64 0, .int .u64 0, .int .u64 0, .int .u64 0, .int .u8 0, .int .u8 0, .int .u32 0, .int .u32 0, .bool false, .bool false], 59, false⟩)]) h170 rfl rfl rfl rfl (by kernel_rfl) (fun _ => rfl) fun b171 w172 a173 h174 hf175 hn176 => ?_
  refine ⟨(keepCons (kpLf h170.known hf175 (q := 2) rfl) (keepCons (kpM h170.inv.1 (l := .m) trivial (List.mem_cons_self ..) hf175) keepNil)), ?_⟩
  clear h170
  refine wpAnyK_one (i := 8) (fuel := 0) (by kernel_rfl) ?_
  refine op_mAddT (x := 1) (b := b171) (L := [(3, ⟨[.int .u16 0, .int .u32 0], ty3, true⟩), (b56, ⟨[.int .u16 0, .int .u32 1], 39, false⟩), (b76, ⟨[.int .u16 1, .int .u32 1], 39, false⟩)]) h174 (by rw [ea]; rfl) rfl rfl rfl rfl (by rw [show ({ Z with nd := upd Z.nd (0 : Int).toNat nb } : MZ).ky 1 = ⟨1, 1⟩ from hk1]; rfl) rfl (by show 1 ∉ sl Z.tl; rw [eZ]; exact (fun hq => by cases hq)) (by decide) (by have hq := h174.nodup; simp at hq; omega) (kcons (fun _ => rfl) (kcons (fun hq => by cases hq) (kcons (fun hq => by cases hq) knil))) fun w177 hf178 h179a => ?_
  have h179 := h179a.put (d := none) (v := undef) (T' := [(86, .pointer (some ⟨b171, 0, none⟩)), (82, .map (some Z.tb)), (4, .pointer (some ⟨b76, 0, none⟩)), (2, .pointer (some ⟨b56, 0, none⟩)), (1, .pointer (some ⟨mb, 0, none⟩)), (6, .func (.func 42) #[] #[.pointer (some ⟨b56, 0, none⟩)]), (83, .agg #[.int .u16 1, .int .u32 1]), (85, .agg #[.int .u8 2, .int .u8 4, .int .u16 0, .int .u32 0, .int .u16 0, .int .u32 1, .int .u16 0, .int .u32 0, .int .u64 0, .int .u64 0, .int .u64 0, .int .u64 0, .int .u64 0, .int .u8 0, .int .u8 0, .int .u32 0, .int .u32 0, .bool false, .bool false])]) rfl
  refine ⟨keepNil, ?_⟩
  clear h174 h179a
  refine wpAnyK_done (by kernel_rfl) ?_ _
  refine hK162 _ _ ?_
  clear hK162
  refine wp_seq_k fun K180 hK180 => ?_
  refine nd_start (l := [0, 1, 2, 3, 4]) rfl ?_
  refine nd_batch tabOk2 tabZ_ok2 [(0, {}), (1, {k := 2}), (2, {}), (3, {})] [4, 2, 1, 6, 88, 90] (T' := [(4, .pointer (some ⟨b76, 0, none⟩)), (2, .pointer (some ⟨b56, 0, none⟩)), (1, .pointer (some ⟨mb, 0, none⟩)), (6, .func (.func 42) #[] #[.pointer (some ⟨b56, 0, none⟩)]), (88, .agg #[.int .u16 1, .int .u32 1]), (90, .pointer (some ⟨mb, 13, none⟩))]) (φ := (b76 = b76 ∧ Nat.ble (0 + 2) 2 = true) ∧ True) (rest := [4]) h179 (by kernel_rfl) rfl ⟨⟨rfl, rfl⟩, trivial⟩ fun a181 h182 => ?_
  clear h179
  refine nd_op ?_
  refine op_mM (off := 13) (v := .agg #[.int .u16 1, .int .u32 1]) (a' := { a with cur := 1 }) h182 rfl rfl rfl rfl rfl rfl rfl rfl rfl (by show 13 + 2 ≤ 80; omega) (md_cur_w (r := (⟨1, 1⟩ : Rf)) (c := 1) (by unfold curR; rw [if_neg (by show ¬ (1 : Int) = -1; decide)]; exact hk1)) rfl rfl rfl (kcons (fun _ => rfl) (kcons (fun hq => by cases hq) (kcons (fun hq => by cases hq) knil))) fun w183 hf184 h185 => ?_
  obtain ⟨a186, ea186⟩ : ∃ z : AK, z = { a with cur := 1 } := ⟨_, rfl⟩
  rw [← ea186] at h185
  clear h182
  refine nd_done ?_
  refine hK180 _ _ ?_
  clear hK180
  refine wp_seq_k fun K187 hK187 => ?_
  refine nd_start (l := [0, 1]) rfl ?_
  refine nd_batch tabOk2 tabZ_ok2 [(0, {}), (1, {})] [4, 2, 1, 6, 0] (T' := [(4, .pointer (some ⟨b76, 0, none⟩)), (2, .pointer (some ⟨b56, 0, none⟩)), (1, .pointer (some ⟨mb, 0, none⟩)), (6, .func (.func 42) #[] #[.pointer (some ⟨b56, 0, none⟩)]), (0, .pointer (some ⟨mb, 0, none⟩))]) (φ := True) (rest := []) h185 (by kernel_rfl) rfl trivial fun a188 h189 => ?_
  clear h185
  refine nd_done ?_
  refine hK187 _ _ ?_
  clear hK187
  refine wp_ret ?_
  try simp only [Exit.then, Exit.inBlock]
  try rw [if_pos trivial]
  exact s_ret tabOk2 tabZ_ok2 h189 [(.tmp 0, {})] (vs := [.pointer (some ⟨mb, 0, none⟩)]) (φ := True) rfl (by kernel_rfl) trivial ⟨mb, _, _, rfl, (mh_of h189 (show bootR.ho = none from rfl) (k := 0) rfl).as (by subst ea186 ea; rfl), (fun b hb => (h189.inv.2.1 b hb).1.resolve_left (fun hq => by cases hq)), h189.frame, (by show sl (Z.tl ++ [(1, Z.tc)]) = [1]; rw [eZ]; rfl), (by show sl Z.ql = []; rw [eZ]; rfl), (fun i => by show Z.ky i = _; rw [eZ]; rfl)⟩

end Go.Proofs.Qxb6500918aDoor
