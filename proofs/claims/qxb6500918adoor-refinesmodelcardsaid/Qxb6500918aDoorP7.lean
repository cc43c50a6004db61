/-
  Clone of the space. (Made by program: a symbolic walk that prints its steps.)
-/
import Derived.Test.Qxb6500918aDoorP6
namespace Go.Proofs.Qxb6500918aDoor
open Go.Sx Go.Kn
set_option maxRecDepth 100000
set_option maxHeartbeats 4000000
set_option linter.unusedVariables false
set_option linter.unusedSimpArgs false

/-- The nodes copied so far. -/
structure Cop (w : World) (n0 : Nat) (nd : Nat → Nat) (pr : Nat → Bool) (cel : Nat → Cel) : Prop where
  no : ∀ {i : Nat}, i < 256 → pr i = true → w.heap[nd i]? = some (Blk.obj ⟨ndC cel i, 146, false⟩)
  nw : ∀ {i : Nat}, i < 256 → pr i = true → n0 ≤ nd i
  inj : ∀ {i j : Nat}, i < 256 → j < 256 → pr i = true → pr j = true → nd i = nd j → i = j

def copF (nd : Nat → Nat) (pr : Nat → Bool) : List Nat := ((List.range 256).filter pr).map nd

theorem mem_copF {nd : Nat → Nat} {pr : Nat → Bool} {b : Nat} : b ∈ copF nd pr ↔ ∃ i, i < 256 ∧ pr i = true ∧ nd i = b := by
  unfold copF; simp [List.mem_map, List.mem_filter, and_assoc]

theorem Cop.stable {n0 : Nat} {nd : Nat → Nat} {pr : Nat → Bool} {cel : Nat → Cel} : Stable (fun w => Cop w n0 nd pr cel) (copF nd pr) := by
  intro w w' hs h
  exact ⟨fun hi hp => by rw [hs _ (mem_copF.2 ⟨_, hi, hp, rfl⟩)]; exact h.no hi hp, h.nw, h.inj⟩

theorem Cop.low {w : World} {n0 : Nat} {nd : Nat → Nat} {pr : Nat → Bool} {cel : Nat → Cel} (h : Cop w n0 nd pr cel) : ∀ b ∈ copF nd pr, b < w.heap.size := by
  intro b hb
  obtain ⟨i, hi, hp, rfl⟩ := mem_copF.1 hb
  exact lt_of_heap (h.no hi hp)

theorem Cop.add {w : World} {n0 : Nat} {nd : Nat → Nat} {pr : Nat → Bool} {cel : Nat → Cel} (h : Cop w n0 nd pr cel) {i b : Nat} (hb : w.heap[b]? = some (Blk.obj ⟨ndC cel i, 146, false⟩)) (hn : n0 ≤ b) (hd : b ∉ copF nd pr) : Cop w n0 (upd nd i b) (upd pr i true) cel where
  no {j} hj hp := by
    by_cases e : j = i
    · subst e; rw [upd_same]; exact hb
    · rw [upd_other _ _ e] at hp ⊢; exact h.no hj hp
  nw {j} hj hp := by
    by_cases e : j = i
    · subst e; rw [upd_same]; exact hn
    · rw [upd_other _ _ e] at hp ⊢; exact h.nw hj hp
  inj {j k} hj hk hp hq he := by
    by_cases e : j = i <;> by_cases e2 : k = i
    · rw [e, e2]
    · subst e; rw [upd_same, upd_other _ _ e2] at he; rw [upd_other _ _ e2] at hq
      exact absurd (mem_copF.2 ⟨k, hk, hq, he.symm⟩) hd
    · subst e2; rw [upd_same, upd_other _ _ e] at he; rw [upd_other _ _ e] at hp
      exact absurd (mem_copF.2 ⟨j, hj, hp, he⟩) hd
    · rw [upd_other _ _ e, upd_other _ _ e2] at he; rw [upd_other _ _ e] at hp; rw [upd_other _ _ e2] at hq
      exact h.inj hj hk hp hq he

theorem copF_add {nd : Nat → Nat} {pr : Nat → Bool} {i b x : Nat} (h : x ∈ copF (upd nd i b) (upd pr i true)) : x ∈ copF nd pr ∨ x = b := by
  obtain ⟨j, hj, hp, e⟩ := mem_copF.1 h
  by_cases e2 : j = i
  · subst e2; rw [upd_same] at e; exact .inr e.symm
  · rw [upd_other _ _ e2] at hp e; exact .inl (mem_copF.2 ⟨j, hj, hp, e⟩)

def prI (pr : Nat → Bool) (i : Nat) : Nat → Bool := fun j => pr j && decide (j < i)

theorem prI_zero (pr : Nat → Bool) : prI pr 0 = fun _ => false := by funext j; simp [prI]
theorem prI_put {pr : Nat → Bool} {i : Nat} (h : pr i = true) : upd (prI pr i) i true = prI pr (i + 1) := by
  funext j
  unfold upd prI
  by_cases e : j = i
  · subst e; rw [if_pos rfl, h]; simp
  · rw [if_neg e, show decide (j < i) = decide (j < i + 1) by rw [decide_eq_decide]; omega]
theorem prI_skip {pr : Nat → Bool} {i : Nat} (h : pr i = false) : prI pr i = prI pr (i + 1) := by
  funext j
  unfold prI
  by_cases e : j = i
  · subst e; rw [h]; rfl
  · rw [show decide (j < i) = decide (j < i + 1) by rw [decide_eq_decide]; omega]
theorem prI_lt {pr : Nat → Bool} {j : Nat} (h : j < 256) : prI pr 256 j = pr j := by unfold prI; simp [h]
theorem prI_all (bo : Nat) (nd : Nat → Nat) (pr : Nat → Bool) : spC bo nd (prI pr 256) = spC bo nd pr := by
  unfold spC
  rw [arr_ext (f := npV nd (prI pr 256)) (g := npV nd pr) (fun x hx => by unfold npV; rw [prI_lt hx])]

theorem spaceClone_ok (bo bc : Nat) (nd : Nat → Nat) (C : CP) (bo2 : Nat) (w : World) (hc : CapAt w bo bc nd C) :
    Calls Tryd.prog 65 #[.pointer (some ⟨bc, 0, none⟩), .pointer (some ⟨bo2, 0, none⟩)] w fun e w' => ∃ bc2 nd2, e = .returned (.pointer (some ⟨bc2, 0, none⟩)) ∧ w'.heap[bc2]? = some (Blk.obj ⟨spC bo2 nd2 C.pres, 142, false⟩) ∧ w.heap.size ≤ bc2 ∧ Cop w' w.heap.size nd2 C.pres C.cel ∧ (∀ {i : Nat}, i < 256 → C.pres i = true → nd2 i ≠ bc2) ∧ Fr [] w w' := by
  refine enter0 (n := 31) (K := []) (T := [(0, .pointer (some ⟨bc, 0, none⟩)), (1, .pointer (some ⟨bo2, 0, none⟩))]) (L := []) (args := [.pointer (some ⟨bc, 0, none⟩), .pointer (some ⟨bo2, 0, none⟩)]) Tryd.func65 rfl rfl rfl rfl knil (by simp) knil ?_
  intro a h
  refine wp_seq_k fun K1 hK1 => ?_
  refine nd_start (l := [0]) rfl ?_
  refine nd_batch tabOk tabZ_ok [(0, {})] [0, 1, 4] (T' := [(0, .pointer (some ⟨bc, 0, none⟩)), (1, .pointer (some ⟨bo2, 0, none⟩)), (4, .pointer none)]) (φ := True) (rest := []) h (by kernel_rfl) rfl trivial fun a2 h3 => ?_
  clear h
  refine nd_done ?_
  refine hK1 _ _ ?_
  clear hK1
  refine wp_seq_k fun K4 hK4 => ?_
  refine nd_start (l := [0, 1, 2]) rfl ?_
  refine nd_batch tabOk tabZ_ok [(0, {})] [0, 1, 4, 9] (T' := [(0, .pointer (some ⟨bc, 0, none⟩)), (1, .pointer (some ⟨bo2, 0, none⟩)), (4, .pointer none), (9, .pointer (some ⟨bo2, 0, none⟩))]) (φ := True) (rest := [1, 2]) h3 (by kernel_rfl) rfl trivial fun a5 h6 => ?_
  clear h3
  refine nd_op ?_
  refine op_call h6 rfl rfl rfl (callOk Tryd.func36 (by decide) rfl) (args := [.pointer (some ⟨bo2, 0, none⟩)]) rfl (newSpace_ok bo2 _) ?_
  rintro _ w7 ⟨bc2, rfl, hb10, hn11, hf8⟩
  refine ⟨_, rfl, ?_⟩
  have h9q := h6.fresh hf8 hn11 (blk := ⟨spC bo2 (fun _ => 0) (fun _ => false), 142, false⟩) hb10
  have h9 := h9q.put (d := some 10) (v := .pointer (some ⟨bc2, 0, none⟩)) (T' := [(10, .pointer (some ⟨bc2, 0, none⟩)), (0, .pointer (some ⟨bc, 0, none⟩)), (1, .pointer (some ⟨bo2, 0, none⟩)), (4, .pointer none), (9, .pointer (some ⟨bo2, 0, none⟩))]) rfl
  clear h6 h9q
  refine nd_batch tabOk tabZ_ok [(2, {})] [0, 1, 4, 5] (T' := [(0, .pointer (some ⟨bc, 0, none⟩)), (1, .pointer (some ⟨bo2, 0, none⟩)), (4, .pointer none), (5, .pointer (some ⟨bc2, 0, none⟩))]) (φ := True) (rest := []) h9 (by kernel_rfl) rfl trivial fun a12 h13 => ?_
  clear h9
  refine nd_done ?_
  refine hK4 _ _ ?_
  clear hK4
  refine wp_seq_k fun K14 hK14 => ?_
  refine wp_seq_k fun K15 hK15 => ?_
  refine nd_start (l := [0, 1, 2, 3, 4]) rfl ?_
  refine nd_batch tabOk tabZ_ok [(0, {}), (1, {}), (2, {})] [0, 1, 4, 5, 13] (T' := [(0, .pointer (some ⟨bc, 0, none⟩)), (1, .pointer (some ⟨bo2, 0, none⟩)), (4, .pointer none), (5, .pointer (some ⟨bc2, 0, none⟩)), (13, .pointer (some ⟨bc, 1, none⟩))]) (φ := True) (rest := [3, 4]) h13 (by kernel_rfl) rfl trivial fun a16 h17 => ?_
  clear h13
  refine nd_op ?_
  refine op_loadx tabOk (vs := arr 256 one (npV nd C.pres)) h17 rfl rfl rfl rfl rfl rfl nodes_len.symm (nodes_at (hc.fr h17.frame (fun _ _ hq => by cases hq)).sp) ?_
  have h18 := h17.put (d := some 14) (v := .agg (arr 256 one (npV nd C.pres)).toArray) (T' := [(14, .agg (arr 256 one (npV nd C.pres)).toArray), (0, .pointer (some ⟨bc, 0, none⟩)), (1, .pointer (some ⟨bo2, 0, none⟩)), (4, .pointer none), (5, .pointer (some ⟨bc2, 0, none⟩)), (13, .pointer (some ⟨bc, 1, none⟩))]) rfl
  clear h17
  refine nd_batch tabOk tabZ_ok [(4, {})] [14, 0, 1, 4, 5, 15] (T' := [(14, .agg (arr 256 one (npV nd C.pres)).toArray), (0, .pointer (some ⟨bc, 0, none⟩)), (1, .pointer (some ⟨bo2, 0, none⟩)), (4, .pointer none), (5, .pointer (some ⟨bc2, 0, none⟩)), (15, .int .i64 0)]) (φ := True) (rest := []) h18 (by kernel_rfl) rfl trivial fun a19 h20 => ?_
  clear h18
  refine nd_done ?_
  refine hK15 _ _ ?_
  clear hK15
  refine wp_block ?_
  have hcp0 : ∀ w9, Cop w9 w.heap.size (fun _ => 0) (prI C.pres 0) C.cel := fun w9 => ⟨fun _ hq => (by rw [prI_zero] at hq; cases hq), fun _ hq => (by rw [prI_zero] at hq; cases hq), fun _ _ hq => (by rw [prI_zero] at hq; cases hq)⟩
  have h21 := h20.as (L' := [(bc2, ⟨spC bo2 (fun _ => 0) (fun _ => false), 142, false⟩)]) (List.Sublist.refl _) (A' := fun w9 => Cop w9 w.heap.size (fun _ => 0) (prI C.pres 0) C.cel) (F' := copF (fun _ => 0) (prI C.pres 0)) (hcp0 _) Cop.stable (hcp0 _).low (kcons (fun _ hq => by obtain ⟨_, _, hz, _⟩ := mem_copF.1 hq; rw [prI_zero] at hz; cases hz) knil)
  have h21b := h21.castL (L' := [(bc2, ⟨spC bo2 (fun _ => 0) (prI C.pres 0), 142, false⟩)]) (by rw [prI_zero])
  clear h20 h21
  refine wp_loop_ghost (fun g ga gw => ∃ (nd2 : Nat → Nat) (i : Int), ((g : Int) = 256 - i) ∧ (0 ≤ i ∧ i ≤ 256) ∧ St ⟨31, [], w, fun w9 => Cop w9 w.heap.size nd2 (prI C.pres i.toNat) C.cel, copF nd2 (prI C.pres i.toNat)⟩ [(14, .agg (arr 256 one (npV nd C.pres)).toArray), (5, .pointer (some ⟨bc2, 0, none⟩)), (15, .int .i64 i)] [(bc2, ⟨spC bo2 nd2 (prI C.pres i.toNat), 142, false⟩)] ga gw) 256 ⟨(fun _ => 0), 0, by decide, ⟨by decide, by decide⟩, (h21b.slotsMono (restr_spec (keep := [14, 5, 15]) rfl))⟩ ?_
  clear h21b
  rintro g a22 w23 ⟨nd2, i, hi25, hi26, h24⟩
  have hig := hi25
  have hi0 := hi26
  refine wp_seq_k fun K27 hK27 => ?_
  refine nd_start (l := [0]) rfl ?_
  refine nd_batch tabOk tabZ_ok [(0, {})] [14, 5, 15, 16] (T' := [(14, .agg (arr 256 one (npV nd C.pres)).toArray), (5, .pointer (some ⟨bc2, 0, none⟩)), (15, .int .i64 i), (16, .bool (decide (i < 256)))]) (φ := True) (rest := []) h24 (by kernel_rfl) rfl trivial fun a28 h29 => ?_
  clear h24
  refine nd_done ?_
  refine hK27 _ _ ?_
  clear hK27
  refine wp_seq_k fun K30 hK30 => ?_
  refine c_split h29 (b := decide (i < 256)) rfl (fun hc31 => ?_) (fun hc31 => ?_)
  ·
    have hc31f : i < 256 := by simpa using hc31
    refine wp_skip ?_
    refine hK30 _ _ ?_
    clear hK30
    refine wp_seq_k fun K32 hK32 => ?_
    refine wp_block ?_
    refine wp_seq_k fun K33 hK33 => ?_
    refine nd_start (l := [0, 1, 2, 3]) rfl ?_
    refine nd_batch tabOk tabZ_ok [(0, {})] [14, 5, 15, 17] (T' := [(14, .agg (arr 256 one (npV nd C.pres)).toArray), (5, .pointer (some ⟨bc2, 0, none⟩)), (15, .int .i64 i), (17, .int .i64 i)]) (φ := True) (rest := [1, 2, 3]) h29 (by kernel_rfl) rfl trivial fun a34 h35 => ?_
    clear h29
    refine nd_op ?_
    refine op_pure (v := npV nd C.pres i.toNat) h35 rfl rfl (pure_node h35.slots rfl rfl rfl (by omega) (by omega)) ?_
    have h36 := h35.put (d := some 18) (v := npV nd C.pres i.toNat) (T' := [(18, npV nd C.pres i.toNat), (14, .agg (arr 256 one (npV nd C.pres)).toArray), (5, .pointer (some ⟨bc2, 0, none⟩)), (15, .int .i64 i), (17, .int .i64 i)]) rfl
    clear h35
    refine nd_batch tabOk tabZ_ok [(2, {}), (3, {})] [14, 5, 15, 6, 7] (T' := [(14, .agg (arr 256 one (npV nd C.pres)).toArray), (5, .pointer (some ⟨bc2, 0, none⟩)), (15, .int .i64 i), (6, .int .i64 i), (7, npV nd C.pres i.toNat)]) (φ := True) (rest := []) h36 (by kernel_rfl) rfl trivial fun a37 h38 => ?_
    clear h36
    refine nd_done ?_
    refine hK33 _ _ ?_
    clear hK33
    refine wp_seq_k fun K39 hK39 => ?_
    refine nd_start (l := [0, 1]) rfl ?_
    refine nd_batch tabOk tabZ_ok [(0, {})] [14, 5, 15, 6, 7, 19] (T' := [(14, .agg (arr 256 one (npV nd C.pres)).toArray), (5, .pointer (some ⟨bc2, 0, none⟩)), (15, .int .i64 i), (6, .int .i64 i), (7, npV nd C.pres i.toNat), (19, npV nd C.pres i.toNat)]) (φ := True) (rest := [1]) h38 (by kernel_rfl) rfl trivial fun a40 h41 => ?_
    clear h38
    refine nd_op ?_
    refine op_pure (v := .bool (C.pres i.toNat)) h41 rfl rfl (pure_nodeNe h41.slots rfl rfl) ?_
    have h42 := h41.put (d := some 20) (v := .bool (C.pres i.toNat)) (T' := [(20, .bool (C.pres i.toNat)), (14, .agg (arr 256 one (npV nd C.pres)).toArray), (5, .pointer (some ⟨bc2, 0, none⟩)), (15, .int .i64 i), (6, .int .i64 i), (7, npV nd C.pres i.toNat), (19, npV nd C.pres i.toNat)]) rfl
    clear h41
    refine nd_done ?_
    refine hK39 _ _ ?_
    clear hK39
    refine c_split h42 (b := (C.pres i.toNat)) rfl (fun hc43 => ?_) (fun hc43 => ?_)
    ·
      have hpi := hc43
      have h44 := h42
      rw [show npV nd C.pres i.toNat = .pointer (some ⟨nd i.toNat, 0, none⟩) by unfold npV; rw [hpi]; rfl] at h44
      clear h42
      refine wp_seq_k fun K45 hK45 => ?_
      refine nd_start (l := [0, 1, 2, 3, 4]) rfl ?_
      refine nd_batch tabOk tabZ_ok [(0, {}), (1, {})] [14, 5, 15, 6, 7, 22] (T' := [(14, .agg (arr 256 one (npV nd C.pres)).toArray), (5, .pointer (some ⟨bc2, 0, none⟩)), (15, .int .i64 i), (6, .int .i64 i), (7, .pointer (some ⟨(nd i.toNat), 0, none⟩)), (22, .pointer (some ⟨(nd i.toNat), 0, none⟩))]) (φ := True) (rest := [2, 3, 4]) h44 (by kernel_rfl) rfl trivial fun a46 h47 => ?_
      clear h44
      refine nd_op ?_
      refine op_loadx tabOk (vs := ndC C.cel i.toNat) h47 rfl rfl rfl rfl rfl rfl nd_len.symm (cells_whole ((hc.fr h47.frame (fun _ _ hq => by cases hq)).no (by omega) hpi)) ?_
      have h48 := h47.put (d := some 23) (v := .agg (ndC C.cel i.toNat).toArray) (T' := [(23, .agg (ndC C.cel i.toNat).toArray), (14, .agg (arr 256 one (npV nd C.pres)).toArray), (5, .pointer (some ⟨bc2, 0, none⟩)), (15, .int .i64 i), (6, .int .i64 i), (7, .pointer (some ⟨(nd i.toNat), 0, none⟩)), (22, .pointer (some ⟨(nd i.toNat), 0, none⟩))]) rfl
      clear h47
      refine nd_op ?_
      refine op_new tabOk (cells := (vcells z146)) (ty := 146) (ln := none) (L1 := fun b49 => [(bc2, ⟨spC bo2 nd2 (prI C.pres i.toNat), 142, false⟩), (b49, ⟨(vcells z146), 146, false⟩)]) h48 rfl rfl rfl rfl (by kernel_rfl) (fun _ => rfl) fun b49 w50 a51 h52 hf53 hn54 => ?_
      clear h48
      refine nd_op ?_
      refine op_store tabOk {k := 1, m := 1, vs := ndC C.cel i.toNat} (L' := [(bc2, ⟨spC bo2 nd2 (prI C.pres i.toNat), 142, false⟩), (b49, ⟨ndC C.cel i.toNat, 146, false⟩)]) (φ := b49 = b49 ∧ Nat.ble (0 + 96) (vcells z146).length = true ∧ splice (vcells z146) 0 (ndC C.cel i.toNat) = ndC C.cel i.toNat) h52 rfl rfl rfl (by kernel_rfl) ⟨rfl, by kernel_rfl, splice_full (by rw [nd_len]; kernel_rfl)⟩ fun w55 h56 => ?_
      clear h52
      refine nd_done ?_
      refine hK45 _ _ ?_
      clear hK45
      refine nd_start (l := [0, 1, 2, 3, 4, 5]) rfl ?_
      refine nd_batch tabOk tabZ_ok [(0, {}), (1, {}), (2, {}), (3, {}), (4, {})] [8, 14, 5, 15, 6, 7, 28] (T' := [(8, .pointer (some ⟨b49, 0, none⟩)), (14, .agg (arr 256 one (npV nd C.pres)).toArray), (5, .pointer (some ⟨bc2, 0, none⟩)), (15, .int .i64 i), (6, .int .i64 i), (7, .pointer (some ⟨(nd i.toNat), 0, none⟩)), (28, .pointer (some ⟨bc2, 1 + (i.toNat * 1), none⟩))]) (φ := (0 ≤ i ∧ i < 256) ∧ True) (rest := [5]) h56 (by kernel_rfl) rfl ⟨⟨by omega, by omega⟩, trivial⟩ fun a57 h58 => ?_
      clear h56
      refine nd_op ?_
      refine op_store tabOk {k := 0, m := 1, vs := spC bo2 (upd nd2 i.toNat b49) (upd (prI C.pres i.toNat) i.toNat true)} (L' := [(bc2, ⟨spC bo2 (upd nd2 i.toNat b49) (upd (prI C.pres i.toNat) i.toNat true), 142, false⟩), (b49, ⟨ndC C.cel i.toNat, 146, false⟩)]) (φ := bc2 = bc2 ∧ Nat.ble (1 + (i.toNat * 1) + 1) (spC bo2 nd2 (prI C.pres i.toNat)).length = true ∧ splice (spC bo2 nd2 (prI C.pres i.toNat)) (1 + (i.toNat * 1)) [.pointer (some ⟨b49, 0, none⟩)] = spC bo2 (upd nd2 i.toNat b49) (upd (prI C.pres i.toNat) i.toNat true)) h58 rfl rfl rfl (by kernel_rfl) ⟨rfl, sp_in (by omega), (sp_put b49 (by omega) (by omega))⟩ fun w59 h60 => ?_
      clear h58
      refine nd_done ?_
      refine hK32 _ _ ?_
      clear hK32
      refine nd_start (l := [0, 1]) rfl ?_
      refine nd_batch tabOk tabZ_ok [(0, {}), (1, {})] [8, 14, 5, 6, 7, 15] (T' := [(8, .pointer (some ⟨b49, 0, none⟩)), (14, .agg (arr 256 one (npV nd C.pres)).toArray), (5, .pointer (some ⟨bc2, 0, none⟩)), (6, .int .i64 i), (7, .pointer (some ⟨(nd i.toNat), 0, none⟩)), (15, .int .i64 (i + 1))]) (φ := inR .i64 (i + 1) ∧ True) (rest := []) h60 (by kernel_rfl) rfl ⟨⟨by omega, by omega⟩, trivial⟩ fun a61 h62 => ?_
      clear h60
      refine nd_done ?_
      have hadd := h62.inv.add (i := i.toNat) (h62.kn (k := 1) rfl) (h62.newer (k := 1) rfl rfl) (h62.dj (k := 1) rfl rfl)
      rw [prI_put hpi] at hadd
      have h63a := h62.as (L' := [(bc2, ⟨spC bo2 (upd nd2 i.toNat b49) (upd (prI C.pres i.toNat) i.toNat true), 142, false⟩)]) (List.Sublist.cons_cons _ (List.Sublist.cons _ List.Sublist.slnil)) (A' := fun w9 => Cop w9 w.heap.size (upd nd2 i.toNat b49) (prI C.pres (i.toNat + 1)) C.cel) (F' := copF (upd nd2 i.toNat b49) (prI C.pres (i.toNat + 1))) hadd Cop.stable hadd.low (kcons (fun _ hq => by rw [← prI_put hpi] at hq; exact (copF_add hq).elim (h62.dj (k := 0) rfl rfl) (nodup_key h62.nodup (i := 0) (j := 1) rfl rfl (by decide))) knil)
      have h63 := h63a.castL (L' := [(bc2, ⟨spC bo2 (upd nd2 i.toNat b49) (prI C.pres (i + 1).toNat), 142, false⟩)]) (by rw [prI_put hpi, show (i + 1).toNat = i.toNat + 1 by omega])
      rw [show i.toNat + 1 = (i + 1).toNat by omega] at h63
      clear h62 h63a
      exact ⟨(g - 1), by omega, (upd nd2 i.toNat b49), (i + 1), by omega, ⟨by omega, by omega⟩, (h63.slotsMono (restr_spec (keep := [14, 5, 15]) rfl))⟩
    ·
      have hpi := hc43
      refine wp_skip ?_
      refine hK32 _ _ ?_
      clear hK32
      refine nd_start (l := [0, 1]) rfl ?_
      refine nd_batch tabOk tabZ_ok [(0, {}), (1, {})] [14, 5, 6, 7, 15] (T' := [(14, .agg (arr 256 one (npV nd C.pres)).toArray), (5, .pointer (some ⟨bc2, 0, none⟩)), (6, .int .i64 i), (7, npV nd C.pres i.toNat), (15, .int .i64 (i + 1))]) (φ := inR .i64 (i + 1) ∧ True) (rest := []) h42 (by kernel_rfl) rfl ⟨⟨by omega, by omega⟩, trivial⟩ fun a64 h65 => ?_
      clear h42
      refine nd_done ?_
      have h66 := h65
      rw [prI_skip hpi, show i.toNat + 1 = (i + 1).toNat by omega] at h66
      clear h65
      exact ⟨(g - 1), by omega, nd2, (i + 1), by omega, ⟨by omega, by omega⟩, (h66.slotsMono (restr_spec (keep := [14, 5, 15]) rfl))⟩
  ·
    have hc31f : ¬ i < 256 := by simpa using hc31
    have hfin : i.toNat = 256 := by omega
    refine wp_exit ?_
    refine hK14 _ _ ?_
    clear hK14
    refine wp_seq_k fun K67 hK67 => ?_
    refine nd_start (l := [0, 1]) rfl ?_
    refine nd_batch tabOk tabZ_ok [(0, {}), (1, {})] [14, 5, 15, 4] (T' := [(14, .agg (arr 256 one (npV nd C.pres)).toArray), (5, .pointer (some ⟨bc2, 0, none⟩)), (15, .int .i64 i), (4, .pointer (some ⟨bc2, 0, none⟩))]) (φ := True) (rest := []) h29 (by kernel_rfl) rfl trivial fun a68 h69 => ?_
    clear h29
    refine nd_done ?_
    refine hK67 _ _ ?_
    clear hK67
    refine wp_ret ?_
    have hz := h69
    rw [hfin] at hz
    try simp only [Exit.then, Exit.inBlock]
    try rw [if_pos trivial]
    exact s_ret tabOk tabZ_ok h69 [(.tmp 4, {})] (vs := [.pointer (some ⟨bc2, 0, none⟩)]) (φ := True) rfl (by kernel_rfl) trivial ⟨bc2, nd2, rfl, (by rw [← prI_all]; exact hz.kn (k := 0) rfl), hz.newer (k := 0) rfl rfl, ⟨fun hi hp => hz.inv.no hi (by rw [prI_lt hi]; exact hp), fun hi hp => hz.inv.nw hi (by rw [prI_lt hi]; exact hp), fun hi hj hp hq => hz.inv.inj hi hj (by rw [prI_lt hi]; exact hp) (by rw [prI_lt hj]; exact hq)⟩, (fun hi hp he => hz.dj (k := 0) rfl rfl (mem_copF.2 ⟨_, hi, by rw [prI_lt hi]; exact hp, he⟩)), hz.frame⟩

end Go.Proofs.Qxb6500918aDoor
