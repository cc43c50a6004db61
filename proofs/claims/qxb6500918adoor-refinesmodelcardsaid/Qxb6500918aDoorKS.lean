/-
  the empty store and space. (Made by program: a symbolic walk that prints its steps.)
-/
import Derived.Test.Qxb6500918aDoorLe
namespace Go.Proofs.Qxb6500918aDoor
open Go.Sx Go.Kn
set_option maxRecDepth 100000
set_option maxHeartbeats 4000000
set_option linter.unusedVariables false
set_option linter.unusedSimpArgs false

def bootE : Nat → Ent := fun s => if s = 256 then ⟨1, 1, 0, 8192⟩ else ⟨0, 1, 0, 0⟩

theorem gen_step {E : Nat → Ent} {i : Int} (h0 : 0 ≤ i) (h1 : i < 257) (h : ∀ s : Nat, s < 257 → E s = if (s : Int) < i then ⟨0, 1, 0, 0⟩ else zE) : ∀ s : Nat, s < 257 → upd E i.toNat { E i.toNat with gen := 1 } s = if (s : Int) < i + 1 then ⟨0, 1, 0, 0⟩ else zE := by
  intro s hs
  by_cases e : s = i.toNat
  · subst e
    rw [upd_same, if_pos (by omega), h _ (by omega), if_neg (by omega)]; rfl
  · rw [upd_other _ _ e, h s hs]
    by_cases e2 : (s : Int) < i
    · rw [if_pos e2, if_pos (by omega)]
    · rw [if_neg e2, if_neg (by omega)]

theorem boot_st {E : Nat → Ent} (h : ∀ s : Nat, s < 257 → E s = ⟨0, 1, 0, 0⟩) : stC (upd E 256 ⟨1, 1, 0, 8192⟩) = stC bootE := by
  unfold stC
  rw [arr_ext (f := upd E 256 ⟨1, 1, 0, 8192⟩) (g := bootE) (fun x hx => by
    unfold upd bootE
    split
    · rfl
    · exact h x hx)]

theorem newStore_ok (w : World) : Calls Tryd.prog 35 #[.int .u64 8192] w fun e w' => ∃ bo, e = .returned (.pointer (some ⟨bo, 0, none⟩)) ∧ w'.heap[bo]? = some (Blk.obj ⟨stC bootE, 131, false⟩) ∧ w.heap.size ≤ bo ∧ Fr [] w w' := by
  refine enter0 (n := 24) (K := []) (T := [(0, .int .u64 8192)]) (L := []) (args := [.int .u64 8192]) Tryd.func35 rfl rfl rfl rfl knil (by simp) knil ?_
  intro a h
  refine wp_seq_k fun K1 hK1 => ?_
  refine nd_start (l := [0]) rfl ?_
  refine nd_batch tabOk tabZ_ok [(0, {})] [0, 2] (T' := [(0, .int .u64 8192), (2, .pointer none)]) (φ := True) (rest := []) h (by kernel_rfl) rfl trivial fun a2 h3 => ?_
  clear h
  refine nd_done ?_
  refine hK1 _ _ ?_
  clear hK1
  refine wp_seq_k fun K4 hK4 => ?_
  refine nd_start (l := [0, 1, 2]) rfl ?_
  refine nd_batch tabOk tabZ_ok [(0, {})] [0, 2, 5] (T' := [(0, .int .u64 8192), (2, .pointer none), (5, .agg (vcells z131).toArray)]) (φ := True) (rest := [1, 2]) h3 (by kernel_rfl) rfl trivial fun a5 h6 => ?_
  clear h3
  refine nd_op ?_
  refine op_new tabOk (cells := (vcells z131)) (ty := 131) (ln := none) (L1 := fun b7 => [(b7, ⟨(vcells z131), 131, false⟩)]) h6 rfl rfl rfl rfl (by kernel_rfl) (fun _ => rfl) fun b7 w8 a9 h10 hf11 hn12 => ?_
  have h13 := h10.castL (L' := [(b7, ⟨stC (fun _ => zE), 131, false⟩)]) (by rw [z131_cells])
  clear h6 h10
  refine nd_batch tabOk tabZ_ok [(2, {})] [0, 2, 3] (T' := [(0, .int .u64 8192), (2, .pointer none), (3, .pointer (some ⟨b7, 0, none⟩))]) (φ := True) (rest := []) h13 (by kernel_rfl) rfl trivial fun a14 h15 => ?_
  clear h13
  refine nd_done ?_
  refine hK4 _ _ ?_
  clear hK4
  refine wp_seq_k fun K16 hK16 => ?_
  refine wp_seq_k fun K17 hK17 => ?_
  refine nd_start (l := [0]) rfl ?_
  refine nd_batch tabOk tabZ_ok [(0, {})] [0, 2, 3, 7] (T' := [(0, .int .u64 8192), (2, .pointer none), (3, .pointer (some ⟨b7, 0, none⟩)), (7, .int .i64 0)]) (φ := True) (rest := []) h15 (by kernel_rfl) rfl trivial fun a18 h19 => ?_
  clear h15
  refine nd_done ?_
  refine hK17 _ _ ?_
  clear hK17
  refine wp_block ?_
  refine wp_loop_ghost (fun g ga gw => ∃ (E : Nat → Ent) (i : Int), ((g : Int) = 257 - i) ∧ (0 ≤ i ∧ i ≤ 257) ∧ (∀ s : Nat, s < 257 → E s = if (s : Int) < i then ⟨0, 1, 0, 0⟩ else zE) ∧ St ⟨24, [], w, fun _ => True, []⟩ [(0, .int .u64 8192), (3, .pointer (some ⟨b7, 0, none⟩)), (7, .int .i64 i)] [(b7, ⟨stC E, 131, false⟩)] ga gw) 257 ⟨(fun _ => zE), 0, by decide, ⟨by decide, by decide⟩, (fun s hs => by rw [if_neg (by omega)]), (h19.slotsMono (restr_spec (keep := [0, 3, 7]) rfl))⟩ ?_
  clear h19
  rintro g a20 w21 ⟨E, i, hi23, hi24, hi25, h22⟩
  have hig := hi23
  have hi0 := hi24
  have hE := hi25
  refine wp_seq_k fun K26 hK26 => ?_
  refine nd_start (l := [0]) rfl ?_
  refine nd_batch tabOk tabZ_ok [(0, {})] [0, 3, 7, 8] (T' := [(0, .int .u64 8192), (3, .pointer (some ⟨b7, 0, none⟩)), (7, .int .i64 i), (8, .bool (decide (i < 257)))]) (φ := True) (rest := []) h22 (by kernel_rfl) rfl trivial fun a27 h28 => ?_
  clear h22
  refine nd_done ?_
  refine hK26 _ _ ?_
  clear hK26
  refine wp_seq_k fun K29 hK29 => ?_
  refine c_split h28 (b := decide (i < 257)) rfl (fun hc30 => ?_) (fun hc30 => ?_)
  ·
    have hc30f : i < 257 := by simpa using hc30
    refine wp_skip ?_
    refine hK29 _ _ ?_
    clear hK29
    refine wp_seq_k fun K31 hK31 => ?_
    refine wp_block ?_
    refine wp_seq_k fun K32 hK32 => ?_
    refine nd_start (l := [0, 1]) rfl ?_
    refine nd_batch tabOk tabZ_ok [(0, {}), (1, {})] [0, 3, 7, 4] (T' := [(0, .int .u64 8192), (3, .pointer (some ⟨b7, 0, none⟩)), (7, .int .i64 i), (4, .int .i64 i)]) (φ := True) (rest := []) h28 (by kernel_rfl) rfl trivial fun a33 h34 => ?_
    clear h28
    refine nd_done ?_
    refine hK32 _ _ ?_
    clear hK32
    refine nd_start (l := [0, 1, 2, 3, 4, 5, 6]) rfl ?_
    refine nd_batch tabOk tabZ_ok [(0, {}), (1, {}), (2, {}), (3, {}), (4, {}), (5, {})] [0, 3, 7, 4, 15] (T' := [(0, .int .u64 8192), (3, .pointer (some ⟨b7, 0, none⟩)), (7, .int .i64 i), (4, .int .i64 i), (15, .pointer (some ⟨b7, 0 + (i.toNat * 4) + 1, none⟩))]) (φ := (0 ≤ i ∧ i < 257) ∧ True) (rest := [6]) h34 (by kernel_rfl) rfl ⟨⟨by omega, by omega⟩, trivial⟩ fun a35 h36 => ?_
    clear h34
    refine nd_op ?_
    refine op_store tabOk {k := 0, m := 1, vs := stC (upd E i.toNat { E i.toNat with gen := 1 })} (L' := [(b7, ⟨stC (upd E i.toNat { E i.toNat with gen := 1 }), 131, false⟩)]) (φ := b7 = b7 ∧ Nat.ble (0 + (i.toNat * 4) + 1 + 1) (stC E).length = true ∧ splice (stC E) (0 + (i.toNat * 4) + 1) [.int .u32 1] = stC (upd E i.toNat { E i.toNat with gen := 1 })) h36 rfl rfl rfl (by kernel_rfl) ⟨rfl, st_in (by omega), (st_write (i := i.toNat) (k := 1) (by omega) (Nat.le_of_ble_eq_true rfl) (by omega) rfl)⟩ fun w37 h38 => ?_
    clear h36
    refine nd_done ?_
    refine hK31 _ _ ?_
    clear hK31
    refine nd_start (l := [0, 1]) rfl ?_
    refine nd_batch tabOk tabZ_ok [(0, {}), (1, {})] [0, 3, 4, 7] (T' := [(0, .int .u64 8192), (3, .pointer (some ⟨b7, 0, none⟩)), (4, .int .i64 i), (7, .int .i64 (i + 1))]) (φ := inR .i64 (i + 1) ∧ True) (rest := []) h38 (by kernel_rfl) rfl ⟨⟨by omega, by omega⟩, trivial⟩ fun a39 h40 => ?_
    clear h38
    refine nd_done ?_
    exact ⟨(g - 1), by omega, (upd E i.toNat { E i.toNat with gen := 1 }), (i + 1), by omega, ⟨by omega, by omega⟩, (gen_step hi0.1 (by omega) hE), (h40.slotsMono (restr_spec (keep := [0, 3, 7]) rfl))⟩
  ·
    have hc30f : ¬ i < 257 := by simpa using hc30
    have hall : ∀ s : Nat, s < 257 → E s = ⟨0, 1, 0, 0⟩ := fun s hs => by rw [hE s hs, if_pos (by omega)]
    refine wp_exit ?_
    refine hK16 _ _ ?_
    clear hK16
    refine wp_seq_k fun K41 hK41 => ?_
    refine nd_start (l := [0, 1, 2, 3, 4, 5, 6]) rfl ?_
    refine nd_batch tabOk tabZ_ok [(0, {}), (1, {}), (2, {}), (3, {}), (4, {}), (5, {})] [0, 3, 7, 19, 22] (T' := [(0, .int .u64 8192), (3, .pointer (some ⟨b7, 0, none⟩)), (7, .int .i64 i), (19, .agg #[.int .u8 1, .int .u32 1, .int .u64 0, .int .u64 8192]), (22, .pointer (some ⟨b7, 1024, none⟩))]) (φ := (0 ≤ (256 : Int) ∧ (256 : Int) < 257) ∧ True) (rest := [6]) h28 (by kernel_rfl) rfl ⟨⟨by decide, by decide⟩, trivial⟩ fun a42 h43 => ?_
    clear h28
    refine nd_op ?_
    refine op_store tabOk {k := 0, m := 1, vs := stC (upd E 256 (⟨1, 1, 0, 8192⟩ : Ent))} (L' := [(b7, ⟨stC (upd E 256 (⟨1, 1, 0, 8192⟩ : Ent)), 131, false⟩)]) (φ := b7 = b7 ∧ Nat.ble (1024 + 4) (stC E).length = true ∧ splice (stC E) 1024 [.int .u8 1, .int .u32 1, .int .u64 0, .int .u64 8192] = stC (upd E 256 (⟨1, 1, 0, 8192⟩ : Ent))) h43 rfl rfl rfl (by kernel_rfl) ⟨rfl, st_in (by omega), (st_write (i := 256) (k := 0) (by omega) (Nat.le_of_ble_eq_true rfl) (by omega) rfl)⟩ fun w44 h45 => ?_
    clear h43
    refine nd_done ?_
    refine hK41 _ _ ?_
    clear hK41
    refine wp_seq_k fun K46 hK46 => ?_
    refine nd_start (l := [0, 1]) rfl ?_
    refine nd_batch tabOk tabZ_ok [(0, {}), (1, {})] [0, 3, 7, 2] (T' := [(0, .int .u64 8192), (3, .pointer (some ⟨b7, 0, none⟩)), (7, .int .i64 i), (2, .pointer (some ⟨b7, 0, none⟩))]) (φ := True) (rest := []) h45 (by kernel_rfl) rfl trivial fun a47 h48 => ?_
    clear h45
    refine nd_done ?_
    refine hK46 _ _ ?_
    clear hK46
    refine wp_ret ?_
    try simp only [Exit.then, Exit.inBlock]
    try rw [if_pos trivial]
    exact s_ret tabOk tabZ_ok h48 [(.tmp 2, {})] (vs := [.pointer (some ⟨b7, 0, none⟩)]) (φ := True) rfl (by kernel_rfl) trivial ⟨b7, rfl, (by rw [← boot_st hall]; exact h48.kn (k := 0) rfl), (st_ky h48 (k := 0) rfl rfl).resolve_left (fun hq => by cases hq), h48.frame⟩

theorem newSpace_ok (bo : Nat) (w : World) : Calls Tryd.prog 36 #[.pointer (some ⟨bo, 0, none⟩)] w fun e w' => ∃ bc, e = .returned (.pointer (some ⟨bc, 0, none⟩)) ∧ w'.heap[bc]? = some (Blk.obj ⟨spC bo (fun _ => 0) (fun _ => false), 142, false⟩) ∧ w.heap.size ≤ bc ∧ Fr [] w w' := by
  refine enter0 (n := 6) (K := []) (T := [(0, .pointer (some ⟨bo, 0, none⟩))]) (L := []) (args := [.pointer (some ⟨bo, 0, none⟩)]) Tryd.func36 rfl rfl rfl rfl knil (by simp) knil ?_
  intro a h
  refine wp_seq_k fun K1 hK1 => ?_
  refine nd_start (l := [0]) rfl ?_
  refine nd_batch tabOk tabZ_ok [(0, {})] [0, 2] (T' := [(0, .pointer (some ⟨bo, 0, none⟩)), (2, .pointer none)]) (φ := True) (rest := []) h (by kernel_rfl) rfl trivial fun a2 h3 => ?_
  clear h
  refine nd_done ?_
  refine hK1 _ _ ?_
  clear hK1
  refine wp_seq_k fun K4 hK4 => ?_
  refine nd_start (l := [0, 1, 2, 3]) rfl ?_
  refine nd_batch tabOk tabZ_ok [(0, {}), (1, {})] [0, 2, 4] (T' := [(0, .pointer (some ⟨bo, 0, none⟩)), (2, .pointer none), (4, .agg (splice (vcells z142) 0 [.pointer (some ⟨bo, 0, none⟩)]).toArray)]) (φ := True) (rest := [2, 3]) h3 (by kernel_rfl) rfl trivial fun a5 h6 => ?_
  clear h3
  refine nd_op ?_
  refine op_new tabOk (cells := (splice (vcells z142) 0 [.pointer (some ⟨bo, 0, none⟩)])) (ty := 142) (ln := none) (L1 := fun b7 => [(b7, ⟨(splice (vcells z142) 0 [.pointer (some ⟨bo, 0, none⟩)]), 142, false⟩)]) h6 rfl rfl rfl rfl (by kernel_rfl) (fun _ => rfl) fun b7 w8 a9 h10 hf11 hn12 => ?_
  have h13 := h10.castL (L' := [(b7, ⟨spC bo (fun _ => 0) (fun _ => false), 142, false⟩)]) (by rw [z142_cells bo (fun _ => 0)])
  clear h6 h10
  refine nd_batch tabOk tabZ_ok [(3, {})] [0, 2] (T' := [(0, .pointer (some ⟨bo, 0, none⟩)), (2, .pointer (some ⟨b7, 0, none⟩))]) (φ := True) (rest := []) h13 (by kernel_rfl) rfl trivial fun a14 h15 => ?_
  clear h13
  refine nd_done ?_
  refine hK4 _ _ ?_
  clear hK4
  refine wp_ret ?_
  try simp only [Exit.then, Exit.inBlock]
  try rw [if_pos trivial]
  exact s_ret tabOk tabZ_ok h15 [(.tmp 2, {})] (vs := [.pointer (some ⟨b7, 0, none⟩)]) (φ := True) rfl (by kernel_rfl) trivial ⟨b7, rfl, h15.kn (k := 0) rfl, (st_ky h15 (k := 0) rfl rfl).resolve_left (fun hq => by cases hq), h15.frame⟩

end Go.Proofs.Qxb6500918aDoor
