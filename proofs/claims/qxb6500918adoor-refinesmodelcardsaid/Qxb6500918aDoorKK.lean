/-
  Delete. (Made by program: a symbolic walk that prints its steps.)
-/
import Derived.Test.Qxb6500918aDoorKJ
import Derived.Test.Qxb6500918aDoorKu
namespace Go.Proofs.Qxb6500918aDoor
open Go.Sx Go.Kn
set_option maxRecDepth 100000
set_option maxHeartbeats 4000000
set_option linter.unusedVariables false
set_option linter.unusedSimpArgs false

theorem st_ky {C : Ctx} {T : Slots} {L : Mem} {a : Act} {w : World} (hst : St C T L a w) {k b : Nat} {blk : Blk} (hk : nth L k = some (b, blk)) (hro : blk.ro = false) : b ∈ C.K ∨ C.w0.heap.size ≤ b :=
  hst.keys (b, blk) (by rw [nth_eq] at hk; exact List.mem_of_getElem? hk) hro

theorem allOne_app {a b : List Value} (ha : allOne a = true) (hb : allOne b = true) : allOne (a ++ b) = true := by
  induction a with
  | nil => exact hb
  | cons x a ih => cases x <;> simp [allOne] at ha ⊢ <;> exact ih ha

theorem allOne_caps : ∀ (xs : List Cp), allOne (xs.flatMap cpC) = true
  | [] => rfl
  | x :: xs => by rw [List.flatMap_cons]; exact allOne_app rfl (allOne_caps xs)

def DelR (bo bc : Nat) (nd : Nat → Nat) (C : CP) (r : CP × List Cp) (w : World) (e : Ending) (w' : World) : Prop :=
  ∃ o c F, e = .returned (.slice o r.2.length c) ∧ CRow bo bc nd r.1 r.2 o c F w' ∧ (∀ b ∈ F, w.heap.size ≤ b) ∧ (∀ x ∈ capF bo bc nd r.1, x ∈ capF bo bc nd C) ∧ Fr (capF bo bc nd C) w w'

theorem row_one {w : World} {b : Nat} {c : Cp} (h : w.heap[b]? = some (Blk.obj ⟨[.int .u8 c.ty, .int .u16 c.obj.idx, .int .u32 c.obj.gen, .int .u8 c.rights, .int .u64 c.badge], 49, false⟩)) : (rl cpC 49 5 [c] (some ⟨b, 0, none⟩) 1 [b]).at w :=
  ⟨rfl, .inr ⟨b, _, rfl, h, rfl, Nat.le_refl _, rfl, rfl⟩⟩

theorem delete_ok (bo bc : Nat) (f : Nat) : ∀ (nd : Nat → Nat) (C : CP) (s : Nat), CI C → cnt C < f → s < 4096 → C.pres (s / 16) = true → ∀ w, CapAt w bo bc nd C →
    Calls Tryd.prog 95 #[.pointer (some ⟨bc, 0, none⟩), .int .i64 (s : Int)] w (DelR bo bc nd C (deleteP f C s) w) := by
  induction f with
  | zero => intro nd C s _ hf; omega
  | succ f ih =>
  intro nd C s hC hcf hs4 hps w hc
  obtain ⟨i, j, hi, hj, rfl⟩ : ∃ i j, i < 256 ∧ j < 16 ∧ s = i * 16 + j := ⟨s / 16, s % 16, by omega, by omega, by omega⟩
  have hp : C.pres i = true := by rw [show (i * 16 + j) / 16 = i by omega] at hps; exact hps
  refine enter (n := 76) (K := (capF bo bc nd C)) (A := fun w => CapAt w bo bc nd C) (F := (capF bo bc nd C)) (T := [(0, .pointer (some ⟨bc, 0, none⟩)), (1, .int .i64 ((i * 16 + j : Nat) : Int))]) (L := []) (args := [.pointer (some ⟨bc, 0, none⟩), .int .i64 ((i * 16 + j : Nat) : Int)]) Tryd.func95 rfl rfl rfl rfl knil (by simp) knil hc CapAt.stable hc.low knil ?_
  intro a h
  refine wp_seq_k fun K1 hK1 => ?_
  refine nd_start (l := [0, 1]) rfl ?_
  refine nd_op ?_
  refine op_new tabOk (cells := [.int .i64 ((i * 16 + j : Nat) : Int)]) (ty := 3) (ln := none) (L1 := fun b2 => [(b2, ⟨[.int .i64 ((i * 16 + j : Nat) : Int)], 3, false⟩)]) h rfl rfl rfl rfl (by kernel_rfl) (fun _ => rfl) fun b2 w3 a4 h5 hf6 hn7 => ?_
  clear h
  refine nd_batch tabOk tabZ_ok [(1, {})] [3, 0, 1, 4] (T' := [(3, .pointer (some ⟨b2, 0, none⟩)), (0, .pointer (some ⟨bc, 0, none⟩)), (1, .int .i64 ((i * 16 + j : Nat) : Int)), (4, .slice none 0 0)]) (φ := True) (rest := []) h5 (by kernel_rfl) rfl trivial fun a8 h9 => ?_
  clear h5
  refine nd_done ?_
  refine hK1 _ _ ?_
  clear hK1
  refine wp_seq_k fun K10 hK10 => ?_
  refine nd_start (l := [0, 1, 2, 3, 4, 5, 6]) rfl ?_
  refine nd_batch tabOk tabZ_ok [(0, {}), (1, {k := 0})] [3, 0, 1, 4, 8, 9] (T' := [(3, .pointer (some ⟨b2, 0, none⟩)), (0, .pointer (some ⟨bc, 0, none⟩)), (1, .int .i64 ((i * 16 + j : Nat) : Int)), (4, .slice none 0 0), (8, .pointer (some ⟨bc, 0, none⟩)), (9, .int .i64 ((i * 16 + j : Nat) : Int))]) (φ := (b2 = b2 ∧ Nat.ble (0 + 1) 1 = true) ∧ True) (rest := [2, 3, 4, 5, 6]) h9 (by kernel_rfl) rfl ⟨⟨rfl, rfl⟩, trivial⟩ fun a11 h12 => ?_
  clear h9
  refine nd_op ?_
  refine op_call h12 rfl rfl rfl (callOk Tryd.func69 (by decide) rfl) (args := [.pointer (some ⟨bc, 0, none⟩), .int .i64 ((i * 16 + j : Nat) : Int)]) rfl (cell_ok bo bc nd C.pres i j hi hj hp _ h12.inv.sp) ?_
  rintro _ w13 ⟨rfl, hf15⟩
  refine ⟨_, rfl, ?_⟩
  have h14 := (h12.grow hf15).put (d := some 10) (v := .pointer (some ⟨(nd i), (j * 6), none⟩)) (T' := [(10, .pointer (some ⟨(nd i), (j * 6), none⟩)), (3, .pointer (some ⟨b2, 0, none⟩)), (0, .pointer (some ⟨bc, 0, none⟩)), (1, .int .i64 ((i * 16 + j : Nat) : Int)), (4, .slice none 0 0), (8, .pointer (some ⟨bc, 0, none⟩)), (9, .int .i64 ((i * 16 + j : Nat) : Int))]) rfl
  clear h12
  refine nd_batch tabOk tabZ_ok [(3, {})] [3, 0, 1, 4, 11] (T' := [(3, .pointer (some ⟨b2, 0, none⟩)), (0, .pointer (some ⟨bc, 0, none⟩)), (1, .int .i64 ((i * 16 + j : Nat) : Int)), (4, .slice none 0 0), (11, .pointer (some ⟨(nd i), (j * 6), none⟩))]) (φ := True) (rest := [4, 5, 6]) h14 (by kernel_rfl) rfl trivial fun a16 h17 => ?_
  clear h14
  refine nd_op ?_
  refine op_loadx tabOk (vs := [.int .u8 ((C.cel (i * 16 + j)).cap.ty), .int .u16 ((C.cel (i * 16 + j)).cap.obj.idx), .int .u32 ((C.cel (i * 16 + j)).cap.obj.gen), .int .u8 ((C.cel (i * 16 + j)).cap.rights), .int .u64 ((C.cel (i * 16 + j)).cap.badge), .int .i64 ((C.cel (i * 16 + j)).parent)]) h17 rfl rfl rfl rfl rfl rfl rfl (cellsAt_blk (h17.inv.no hi hp) (nd_read (j := j) (k := 0) hj (by omega) ⟨rfl, rfl, rfl, rfl, rfl, rfl, trivial⟩)) ?_
  have h18 := h17.put (d := some 12) (v := .agg #[.int .u8 ((C.cel (i * 16 + j)).cap.ty), .int .u16 ((C.cel (i * 16 + j)).cap.obj.idx), .int .u32 ((C.cel (i * 16 + j)).cap.obj.gen), .int .u8 ((C.cel (i * 16 + j)).cap.rights), .int .u64 ((C.cel (i * 16 + j)).cap.badge), .int .i64 ((C.cel (i * 16 + j)).parent)]) (T' := [(12, .agg #[.int .u8 ((C.cel (i * 16 + j)).cap.ty), .int .u16 ((C.cel (i * 16 + j)).cap.obj.idx), .int .u32 ((C.cel (i * 16 + j)).cap.obj.gen), .int .u8 ((C.cel (i * 16 + j)).cap.rights), .int .u64 ((C.cel (i * 16 + j)).cap.badge), .int .i64 ((C.cel (i * 16 + j)).parent)]), (3, .pointer (some ⟨b2, 0, none⟩)), (0, .pointer (some ⟨bc, 0, none⟩)), (1, .int .i64 ((i * 16 + j : Nat) : Int)), (4, .slice none 0 0), (11, .pointer (some ⟨(nd i), (j * 6), none⟩))]) rfl
  clear h17
  refine nd_op ?_
  refine op_new tabOk (cells := [.int .u8 0, .int .u16 0, .int .u32 0, .int .u8 0, .int .u64 0, .int .i64 0]) (ty := 145) (ln := none) (L1 := fun b19 => [(b2, ⟨[.int .i64 ((i * 16 + j : Nat) : Int)], 3, false⟩), (b19, ⟨[.int .u8 0, .int .u16 0, .int .u32 0, .int .u8 0, .int .u64 0, .int .i64 0], 145, false⟩)]) h18 rfl rfl rfl rfl (by kernel_rfl) (fun _ => rfl) fun b19 w20 a21 h22 hf23 hn24 => ?_
  clear h18
  refine nd_op ?_
  refine op_store tabOk {k := 1} (L' := [(b2, ⟨[.int .i64 ((i * 16 + j : Nat) : Int)], 3, false⟩), (b19, ⟨[.int .u8 ((C.cel (i * 16 + j)).cap.ty), .int .u16 ((C.cel (i * 16 + j)).cap.obj.idx), .int .u32 ((C.cel (i * 16 + j)).cap.obj.gen), .int .u8 ((C.cel (i * 16 + j)).cap.rights), .int .u64 ((C.cel (i * 16 + j)).cap.badge), .int .i64 ((C.cel (i * 16 + j)).parent)], 145, false⟩)]) (φ := b19 = b19 ∧ Nat.ble (0 + 6) 6 = true) h22 rfl rfl rfl (by kernel_rfl) ⟨rfl, rfl⟩ fun w25 h26 => ?_
  clear h22
  refine nd_done ?_
  refine hK10 _ _ ?_
  clear hK10
  refine wp_seq_k fun K27 hK27 => ?_
  refine wp_seq_k fun K28 hK28 => ?_
  refine nd_start (l := [0, 1, 2, 3]) rfl ?_
  refine nd_batch tabOk tabZ_ok [(0, {}), (1, {}), (2, {k := 1}), (3, {})] [5, 3, 0, 1, 4, 16] (T' := [(5, .pointer (some ⟨b19, 0, none⟩)), (3, .pointer (some ⟨b2, 0, none⟩)), (0, .pointer (some ⟨bc, 0, none⟩)), (1, .int .i64 ((i * 16 + j : Nat) : Int)), (4, .slice none 0 0), (16, .bool ((C.cel (i * 16 + j)).cap.ty == 0))]) (φ := (b19 = b19 ∧ Nat.ble (0 + 1) 6 = true) ∧ True) (rest := []) h26 (by kernel_rfl) rfl ⟨⟨rfl, rfl⟩, trivial⟩ fun a29 h30 => ?_
  clear h26
  refine nd_done ?_
  refine hK28 _ _ ?_
  clear hK28
  refine c_split h30 (b := ((C.cel (i * 16 + j)).cap.ty == 0)) rfl (fun hc31 => ?_) (fun hc31 => ?_)
  ·
    have hc31f : (C.cel (i * 16 + j)).cap.ty = 0 := by simpa using hc31
    refine wp_seq_k fun K32 hK32 => ?_
    refine nd_start (l := [0]) rfl ?_
    refine nd_batch tabOk tabZ_ok [(0, {})] [5, 3, 0, 1, 4] (T' := [(5, .pointer (some ⟨b19, 0, none⟩)), (3, .pointer (some ⟨b2, 0, none⟩)), (0, .pointer (some ⟨bc, 0, none⟩)), (1, .int .i64 ((i * 16 + j : Nat) : Int)), (4, .slice none 0 0)]) (φ := True) (rest := []) h30 (by kernel_rfl) rfl trivial fun a33 h34 => ?_
    clear h30
    refine nd_done ?_
    refine hK32 _ _ ?_
    clear hK32
    refine wp_ret ?_
    try simp only [Exit.then, Exit.inBlock]
    try rw [if_pos trivial]
    exact s_ret tabOk tabZ_ok h34 [(.tmp 4, {})] (vs := [.slice none 0 0]) (φ := True) rfl (by kernel_rfl) trivial (by rw [show deleteP (f + 1) C (i * 16 + j) = (C, []) by rw [deleteP, if_pos hc31f]]; exact ⟨none, 0, [], rfl, ⟨h34.inv, rl_nil cpC _ 49 5, fun _ hq => by cases hq⟩, (fun _ hq => by cases hq), (fun _ hq => hq), h34.frame⟩)
  ·
    have hc31f : (C.cel (i * 16 + j)).cap.ty ≠ 0 := by simpa using hc31
    have hfull : Full C (i * 16 + j) := ⟨by omega, by rw [show (i * 16 + j) / 16 = i by omega]; exact hp, hc31f⟩
    refine wp_skip ?_
    refine hK27 _ _ ?_
    clear hK27
    refine wp_seq_k fun K35 hK35 => ?_
    refine nd_start (l := [0, 1, 2]) rfl ?_
    refine nd_batch tabOk tabZ_ok [(0, {}), (1, {})] [5, 3, 0, 1, 4, 17, 18] (T' := [(5, .pointer (some ⟨b19, 0, none⟩)), (3, .pointer (some ⟨b2, 0, none⟩)), (0, .pointer (some ⟨bc, 0, none⟩)), (1, .int .i64 ((i * 16 + j : Nat) : Int)), (4, .slice none 0 0), (17, .pointer (some ⟨bc, 0, none⟩)), (18, .func (.func 108) #[] #[.pointer (some ⟨b2, 0, none⟩), .pointer (some ⟨b19, 0, none⟩)])]) (φ := True) (rest := [2]) h30 (by kernel_rfl) rfl trivial fun a36 h37 => ?_
    clear h30
    refine nd_op ?_
    refine op_call h37 rfl rfl rfl (callOk Tryd.func70 (by decide) rfl) (args := [.pointer (some ⟨bc, 0, none⟩), .func (.func 108) #[] #[.pointer (some ⟨b2, 0, none⟩), .pointer (some ⟨b19, 0, none⟩)]]) rfl (repar_each bo bc nd C ((i * 16 + j : Nat) : Int) (C.cel (i * 16 + j)) b2 b19 _ h37.inv (h37.kn (k := 0) rfl) (h37.kn (k := 1) rfl) ⟨nodup_key h37.nodup (i := 0) (j := 1) rfl rfl (by decide), h37.dj (k := 0) rfl rfl, h37.dj (k := 1) rfl rfl⟩) ?_
    rintro _ w38 ⟨rfl, hcr41, hf39⟩
    refine ⟨_, rfl, ?_⟩
    obtain ⟨C42, eC42⟩ : ∃ C9, C9 = ({ C with cel := reparP C.cel ((i * 16 + j : Nat) : Int) (C.cel (i * 16 + j)).parent } : CP) := ⟨_, rfl⟩
    rw [← eC42] at hcr41
    have pC42 : capF bo bc nd C42 = capF bo bc nd C := by rw [eC42]; rfl
    have h40 := (h37.callF hf39 (fun _ hb => hb) (fun b hb => .inl hb) (A' := fun w => CapAt w bo bc nd C42) (F' := capF bo bc nd C42) (kcons (by intro hq; cases hq) (kcons (by intro hq; cases hq) knil)) hcr41 CapAt.stable hcr41.low (fun b hb => .inl (by rw [pC42] at hb; exact hb))).put (d := some 19) (v := .tuple #[]) (T' := [(19, .tuple #[]), (5, .pointer (some ⟨b19, 0, none⟩)), (3, .pointer (some ⟨b2, 0, none⟩)), (0, .pointer (some ⟨bc, 0, none⟩)), (1, .int .i64 ((i * 16 + j : Nat) : Int)), (4, .slice none 0 0), (17, .pointer (some ⟨bc, 0, none⟩)), (18, .func (.func 108) #[] #[.pointer (some ⟨b2, 0, none⟩), .pointer (some ⟨b19, 0, none⟩)])]) rfl
    clear h37
    refine nd_done ?_
    refine hK35 _ _ ?_
    clear hK35
    refine wp_seq_k fun K43 hK43 => ?_
    refine nd_start (l := [0, 1, 2, 3, 4, 5]) rfl ?_
    refine nd_batch tabOk tabZ_ok [(0, {}), (1, {k := 0})] [5, 3, 0, 1, 4, 20, 21] (T' := [(5, .pointer (some ⟨b19, 0, none⟩)), (3, .pointer (some ⟨b2, 0, none⟩)), (0, .pointer (some ⟨bc, 0, none⟩)), (1, .int .i64 ((i * 16 + j : Nat) : Int)), (4, .slice none 0 0), (20, .pointer (some ⟨bc, 0, none⟩)), (21, .int .i64 ((i * 16 + j : Nat) : Int))]) (φ := (b2 = b2 ∧ Nat.ble (0 + 1) 1 = true) ∧ True) (rest := [2, 3, 4, 5]) h40 (by kernel_rfl) rfl ⟨⟨rfl, rfl⟩, trivial⟩ fun a44 h45 => ?_
    clear h40
    refine nd_op ?_
    refine op_call h45 rfl rfl rfl (callOk Tryd.func69 (by decide) rfl) (args := [.pointer (some ⟨bc, 0, none⟩), .int .i64 ((i * 16 + j : Nat) : Int)]) rfl (cell_ok bo bc nd C42.pres i j hi hj (by rw [eC42]; exact hp) _ h45.inv.sp) ?_
    rintro _ w46 ⟨rfl, hf48⟩
    refine ⟨_, rfl, ?_⟩
    have h47 := (h45.grow hf48).put (d := some 22) (v := .pointer (some ⟨(nd i), (j * 6), none⟩)) (T' := [(22, .pointer (some ⟨(nd i), (j * 6), none⟩)), (5, .pointer (some ⟨b19, 0, none⟩)), (3, .pointer (some ⟨b2, 0, none⟩)), (0, .pointer (some ⟨bc, 0, none⟩)), (1, .int .i64 ((i * 16 + j : Nat) : Int)), (4, .slice none 0 0), (20, .pointer (some ⟨bc, 0, none⟩)), (21, .int .i64 ((i * 16 + j : Nat) : Int))]) rfl
    clear h45
    refine nd_batch tabOk tabZ_ok [(3, {}), (4, {})] [5, 3, 0, 1, 4, 23, 24] (T' := [(5, .pointer (some ⟨b19, 0, none⟩)), (3, .pointer (some ⟨b2, 0, none⟩)), (0, .pointer (some ⟨bc, 0, none⟩)), (1, .int .i64 ((i * 16 + j : Nat) : Int)), (4, .slice none 0 0), (23, .agg #[.int .u8 0, .int .u16 0, .int .u32 0, .int .u8 0, .int .u64 0, .int .i64 (-1)]), (24, .pointer (some ⟨(nd i), (j * 6), none⟩))]) (φ := True) (rest := [5]) h47 (by kernel_rfl) rfl trivial fun a49 h50 => ?_
    clear h47
    refine nd_op ?_
    have hpC : C42.pres i = true := by rw [eC42]; exact hp
    refine op_storeX tabOk h50 rfl rfl rfl rfl rfl rfl rfl rfl rfl (h50.inv.no hi hpC) (by rw [nd_len]; show j * 6 + 6 ≤ 96; omega) fun w51 hb56 hf52 => ?_
    have hcr54 := setCell (a := celE) hi hj hpC h50.inv hf52 (hb56.trans (by rw [show splice (ndC C42.cel i) (j * 6) _ = _ from nd_write (j := j) (k := 0) (a' := celE) hj (Nat.le_of_ble_eq_true rfl) (by omega) rfl]))
    obtain ⟨C55, eC55⟩ : ∃ C9, C9 = cutP C (i * 16 + j) := ⟨_, rfl⟩
    rw [show ({ C42 with cel := upd C42.cel (i * 16 + j) celE } : CP) = C55 by rw [eC55, eC42]; rfl] at hcr54
    have pC55 : capF bo bc nd C55 = capF bo bc nd C := by rw [eC55]; rfl
    have h53 := h50.callF hf52 (fun b hb => by simp at hb; subst hb; exact mem_capF.2 (.inr (.inr ⟨i, hi, hpC, rfl⟩))) (fun b hb => .inl (by simp at hb; subst hb; exact mem_capF.2 (.inr (.inr ⟨i, hi, hp, rfl⟩)))) (A' := fun w => CapAt w bo bc nd C55) (F' := capF bo bc nd C55) (kcons (by intro hq; cases hq) (kcons (by intro hq; cases hq) knil)) hcr54 CapAt.stable hcr54.low (fun b hb => .inl (by rw [pC42]; rw [pC55] at hb; exact hb))
    clear h50
    refine nd_done ?_
    refine hK43 _ _ ?_
    clear hK43
    refine wp_seq_k fun K57 hK57 => ?_
    refine wp_seq_k fun K58 hK58 => ?_
    rcases Bool.eq_false_or_eq_true (((C.cel (i * 16 + j)).cap.ty == 1)) with hb59 | hb59
    ·
      have hb59f : (C.cel (i * 16 + j)).cap.ty = 1 := by simpa using hb59
      refine nd_start (l := [0, 1, 2, 3, 4, 5, 6, 7, 8, 9, 10]) rfl ?_
      refine nd_batch tabOk tabZ_ok [(0, {}), (1, {}), (2, {k := 1}), (3, {f := 2}), (4, {}), (5, {}), (6, {}), (7, {}), (8, {})] [5, 3, 0, 1, 4, 29, 30, 33] (T' := [(5, .pointer (some ⟨b19, 0, none⟩)), (3, .pointer (some ⟨b2, 0, none⟩)), (0, .pointer (some ⟨bc, 0, none⟩)), (1, .int .i64 ((i * 16 + j : Nat) : Int)), (4, .slice none 0 0), (29, .bool true), (30, .tuple #[]), (33, .tuple #[])]) (φ := (b19 = b19 ∧ Nat.ble (0 + 1) 6 = true) ∧ (((C.cel (i * 16 + j)).cap.ty == 1)) = true ∧ True) (rest := [9, 10]) h53 (by kernel_rfl) rfl ⟨⟨rfl, rfl⟩, hb59, trivial⟩ fun a60 h61 => ?_
      clear h53
      refine nd_batch tabOk tabZ_ok [(9, {})] [5, 3, 0, 1, 4, 29, 34] (T' := [(5, .pointer (some ⟨b19, 0, none⟩)), (3, .pointer (some ⟨b2, 0, none⟩)), (0, .pointer (some ⟨bc, 0, none⟩)), (1, .int .i64 ((i * 16 + j : Nat) : Int)), (4, .slice none 0 0), (29, .bool true), (34, .tuple #[])]) (φ := True) (rest := [10]) h61 (by kernel_rfl) rfl trivial fun a62 h63 => ?_
      clear h61
      refine nd_batch tabOk tabZ_ok [(10, {})] [5, 3, 0, 1, 4, 35] (T' := [(5, .pointer (some ⟨b19, 0, none⟩)), (3, .pointer (some ⟨b2, 0, none⟩)), (0, .pointer (some ⟨bc, 0, none⟩)), (1, .int .i64 ((i * 16 + j : Nat) : Int)), (4, .slice none 0 0), (35, .bool true)]) (φ := True) (rest := []) h63 (by kernel_rfl) rfl trivial fun a64 h65 => ?_
      clear h63
      refine nd_done ?_
      refine hK58 _ _ ?_
      clear hK58
      refine c_true h65 rfl ?_
      refine wp_seq_k fun K66 hK66 => ?_
      refine nd_start (l := [0]) rfl ?_
      refine nd_batch tabOk tabZ_ok [(0, {})] [5, 3, 0, 1, 4] (T' := [(5, .pointer (some ⟨b19, 0, none⟩)), (3, .pointer (some ⟨b2, 0, none⟩)), (0, .pointer (some ⟨bc, 0, none⟩)), (1, .int .i64 ((i * 16 + j : Nat) : Int)), (4, .slice none 0 0)]) (φ := True) (rest := []) h65 (by kernel_rfl) rfl trivial fun a67 h68 => ?_
      clear h65
      refine nd_done ?_
      refine hK66 _ _ ?_
      clear hK66
      refine wp_ret ?_
      try simp only [Exit.then, Exit.inBlock]
      try rw [if_pos trivial]
      exact s_ret tabOk tabZ_ok h68 [(.tmp 4, {})] (vs := [.slice none 0 0]) (φ := True) rfl (by kernel_rfl) trivial (by rw [show deleteP (f + 1) C (i * 16 + j) = (C55, []) by rw [deleteP, if_neg hc31f, if_pos (.inl hb59f), eC55]]; exact ⟨none, 0, [], rfl, ⟨h68.inv, rl_nil cpC _ 49 5, fun _ hq => by cases hq⟩, (fun _ hq => by cases hq), (fun x hx => by rw [pC55] at hx; exact hx), h68.frame⟩)
    ·
      have hb59f : (C.cel (i * 16 + j)).cap.ty ≠ 1 := by simpa using hb59
      refine nd_start (l := [0, 1, 2, 3, 4, 5, 6, 7, 8, 9, 10]) rfl ?_
      refine nd_batch tabOk tabZ_ok [(0, {}), (1, {}), (2, {k := 1}), (3, {f := 1}), (4, {}), (5, {}), (6, {}), (7, {}), (8, {k := 1})] [5, 3, 0, 1, 4, 29, 30, 33] (T' := [(5, .pointer (some ⟨b19, 0, none⟩)), (3, .pointer (some ⟨b2, 0, none⟩)), (0, .pointer (some ⟨bc, 0, none⟩)), (1, .int .i64 ((i * 16 + j : Nat) : Int)), (4, .slice none 0 0), (29, .bool false), (30, .pointer (some ⟨bc, 0, none⟩)), (33, .agg #[.int .u16 ((C.cel (i * 16 + j)).cap.obj.idx), .int .u32 ((C.cel (i * 16 + j)).cap.obj.gen)])]) (φ := (b19 = b19 ∧ Nat.ble (0 + 1) 6 = true) ∧ (((C.cel (i * 16 + j)).cap.ty == 1)) = false ∧ (b19 = b19 ∧ Nat.ble (1 + 2) 6 = true) ∧ True) (rest := [9, 10]) h53 (by kernel_rfl) rfl ⟨⟨rfl, rfl⟩, hb59, ⟨rfl, rfl⟩, trivial⟩ fun a69 h70 => ?_
      clear h53
      refine nd_op ?_
      refine op_call h70 rfl rfl rfl (callOk Tryd.func109 (by decide) rfl) (args := [.pointer (some ⟨bc, 0, none⟩), .agg #[.int .u16 ((C.cel (i * 16 + j)).cap.obj.idx), .int .u32 ((C.cel (i * 16 + j)).cap.obj.gen)]]) rfl (named_ok bo bc nd C55 (C.cel (i * 16 + j)).cap.obj _ h70.inv) ?_
      rintro _ w71 ⟨rfl, hf73⟩
      refine ⟨_, rfl, ?_⟩
      have h72 := (h70.grow hf73).put (d := some 34) (v := .bool (namedP C55 (C.cel (i * 16 + j)).cap.obj)) (T' := [(34, .bool (namedP C55 (C.cel (i * 16 + j)).cap.obj)), (5, .pointer (some ⟨b19, 0, none⟩)), (3, .pointer (some ⟨b2, 0, none⟩)), (0, .pointer (some ⟨bc, 0, none⟩)), (1, .int .i64 ((i * 16 + j : Nat) : Int)), (4, .slice none 0 0), (29, .bool false), (30, .pointer (some ⟨bc, 0, none⟩)), (33, .agg #[.int .u16 ((C.cel (i * 16 + j)).cap.obj.idx), .int .u32 ((C.cel (i * 16 + j)).cap.obj.gen)])]) rfl
      clear h70
      refine nd_batch tabOk tabZ_ok [(10, {})] [5, 3, 0, 1, 4, 35] (T' := [(5, .pointer (some ⟨b19, 0, none⟩)), (3, .pointer (some ⟨b2, 0, none⟩)), (0, .pointer (some ⟨bc, 0, none⟩)), (1, .int .i64 ((i * 16 + j : Nat) : Int)), (4, .slice none 0 0), (35, .bool (namedP C55 (C.cel (i * 16 + j)).cap.obj))]) (φ := True) (rest := []) h72 (by kernel_rfl) rfl trivial fun a74 h75 => ?_
      clear h72
      refine nd_done ?_
      refine hK58 _ _ ?_
      clear hK58
      refine c_split h75 (b := (namedP C55 (C.cel (i * 16 + j)).cap.obj)) rfl (fun hc76 => ?_) (fun hc76 => ?_)
      ·
        refine wp_seq_k fun K77 hK77 => ?_
        refine nd_start (l := [0]) rfl ?_
        refine nd_batch tabOk tabZ_ok [(0, {})] [5, 3, 0, 1, 4] (T' := [(5, .pointer (some ⟨b19, 0, none⟩)), (3, .pointer (some ⟨b2, 0, none⟩)), (0, .pointer (some ⟨bc, 0, none⟩)), (1, .int .i64 ((i * 16 + j : Nat) : Int)), (4, .slice none 0 0)]) (φ := True) (rest := []) h75 (by kernel_rfl) rfl trivial fun a78 h79 => ?_
        clear h75
        refine nd_done ?_
        refine hK77 _ _ ?_
        clear hK77
        refine wp_ret ?_
        try simp only [Exit.then, Exit.inBlock]
        try rw [if_pos trivial]
        exact s_ret tabOk tabZ_ok h79 [(.tmp 4, {})] (vs := [.slice none 0 0]) (φ := True) rfl (by kernel_rfl) trivial (by rw [show deleteP (f + 1) C (i * 16 + j) = (C55, []) by rw [deleteP, if_neg hc31f, if_pos (.inr (by rw [← eC55]; exact hc76)), eC55]]; exact ⟨none, 0, [], rfl, ⟨h79.inv, rl_nil cpC _ 49 5, fun _ hq => by cases hq⟩, (fun _ hq => by cases hq), (fun x hx => by rw [pC55] at hx; exact hx), h79.frame⟩)
      ·
        have hn1 : ¬ ((C.cel (i * 16 + j)).cap.ty = 1 ∨ namedP (cutP C (i * 16 + j)) (C.cel (i * 16 + j)).cap.obj = true) := fun hq => hq.elim hb59f (fun h => by rw [← eC55] at h; rw [h] at hc76; cases hc76)
        have hok := (hC.cap hfull).resolve_left (fun hq => hb59f hq.1)
        have hN : (C.cel (i * 16 + j)).cap.obj.idx.toNat < 256 := by omega
        refine wp_skip ?_
        refine hK57 _ _ ?_
        clear hK57
        refine wp_seq_k fun K80 hK80 => ?_
        refine nd_start (l := [0, 1, 2, 3]) rfl ?_
        refine nd_batch tabOk tabZ_ok [(0, {}), (1, {k := 1})] [5, 3, 0, 1, 4, 37] (T' := [(5, .pointer (some ⟨b19, 0, none⟩)), (3, .pointer (some ⟨b2, 0, none⟩)), (0, .pointer (some ⟨bc, 0, none⟩)), (1, .int .i64 ((i * 16 + j : Nat) : Int)), (4, .slice none 0 0), (37, .agg #[.int .u8 ((C.cel (i * 16 + j)).cap.ty), .int .u16 ((C.cel (i * 16 + j)).cap.obj.idx), .int .u32 ((C.cel (i * 16 + j)).cap.obj.gen), .int .u8 ((C.cel (i * 16 + j)).cap.rights), .int .u64 ((C.cel (i * 16 + j)).cap.badge)])]) (φ := (b19 = b19 ∧ Nat.ble (0 + 5) 6 = true) ∧ True) (rest := [2, 3]) h75 (by kernel_rfl) rfl ⟨⟨rfl, rfl⟩, trivial⟩ fun a81 h82 => ?_
        clear h75
        refine nd_op ?_
        refine op_new tabOk (cells := [.int .u8 ((C.cel (i * 16 + j)).cap.ty), .int .u16 ((C.cel (i * 16 + j)).cap.obj.idx), .int .u32 ((C.cel (i * 16 + j)).cap.obj.gen), .int .u8 ((C.cel (i * 16 + j)).cap.rights), .int .u64 ((C.cel (i * 16 + j)).cap.badge)]) (ty := 49) (ln := (some 1)) (L1 := fun b83 => [(b2, ⟨[.int .i64 ((i * 16 + j : Nat) : Int)], 3, false⟩), (b19, ⟨[.int .u8 ((C.cel (i * 16 + j)).cap.ty), .int .u16 ((C.cel (i * 16 + j)).cap.obj.idx), .int .u32 ((C.cel (i * 16 + j)).cap.obj.gen), .int .u8 ((C.cel (i * 16 + j)).cap.rights), .int .u64 ((C.cel (i * 16 + j)).cap.badge), .int .i64 ((C.cel (i * 16 + j)).parent)], 145, false⟩), (b83, ⟨[.int .u8 ((C.cel (i * 16 + j)).cap.ty), .int .u16 ((C.cel (i * 16 + j)).cap.obj.idx), .int .u32 ((C.cel (i * 16 + j)).cap.obj.gen), .int .u8 ((C.cel (i * 16 + j)).cap.rights), .int .u64 ((C.cel (i * 16 + j)).cap.badge)], 49, false⟩)]) h82 rfl rfl rfl rfl (by kernel_rfl) (fun _ => rfl) fun b83 w84 a85 h86 hf87 hn88 => ?_
        clear h82
        have R90 : CRow bo bc nd C55 [(C.cel (i * 16 + j)).cap] (some ⟨b83, 0, none⟩) 1 [b83] _ := ⟨h86.inv, row_one (h86.kn (k := 2) rfl), fun x hx => by simp at hx; subst hx; exact h86.dj (k := 2) rfl rfl⟩
        have h89 := h86.as (L' := [(b2, ⟨[.int .i64 ((i * 16 + j : Nat) : Int)], 3, false⟩), (b19, ⟨[.int .u8 ((C.cel (i * 16 + j)).cap.ty), .int .u16 ((C.cel (i * 16 + j)).cap.obj.idx), .int .u32 ((C.cel (i * 16 + j)).cap.obj.gen), .int .u8 ((C.cel (i * 16 + j)).cap.rights), .int .u64 ((C.cel (i * 16 + j)).cap.badge), .int .i64 ((C.cel (i * 16 + j)).parent)], 145, false⟩)]) (List.Sublist.cons_cons _ (List.Sublist.cons_cons _ (List.Sublist.cons _ List.Sublist.slnil))) (A' := CRow bo bc nd C55 [(C.cel (i * 16 + j)).cap] (some ⟨b83, 0, none⟩) 1 [b83]) (F' := capF bo bc nd C55 ++ [b83]) R90 CRow.stable R90.low ?_
        rotate_left
        · exact (kcons (fun _ hq => (List.mem_append.1 hq).elim (h86.dj (k := 0) rfl rfl) (fun h => by simp at h; exact nodup_key h86.nodup (i := 0) (j := 2) rfl rfl (by decide) h)) (kcons (fun _ hq => (List.mem_append.1 hq).elim (h86.dj (k := 1) rfl rfl) (fun h => by simp at h; exact nodup_key h86.nodup (i := 1) (j := 2) rfl rfl (by decide) h)) knil))
        have hnew0 : ∀ x ∈ [b83], w.heap.size ≤ x := fun x hx => by simp at hx; subst hx; exact (st_ky h86 (k := 2) rfl rfl).resolve_left (fun h => h86.dj (k := 2) rfl rfl (by show _ ∈ capF bo bc nd C55; rw [pC55]; exact h))
        clear h86
        have sub0 : ∀ x ∈ capF bo bc nd C55, x ∈ capF bo bc nd C := fun x hx => by rw [pC55] at hx; exact hx
        refine nd_batch tabOk tabZ_ok [(3, {})] [5, 3, 0, 1, 4, 6] (T' := [(5, .pointer (some ⟨b19, 0, none⟩)), (3, .pointer (some ⟨b2, 0, none⟩)), (0, .pointer (some ⟨bc, 0, none⟩)), (1, .int .i64 ((i * 16 + j : Nat) : Int)), (4, .slice none 0 0), (6, .slice (some ⟨b83, 0, none⟩) 1 1)]) (φ := True) (rest := []) h89 (by kernel_rfl) rfl trivial fun a91 h92 => ?_
        clear h89
        refine nd_done ?_
        refine hK80 _ _ ?_
        clear hK80
        refine wp_seq_k fun K93 hK93 => ?_
        refine wp_seq_k fun K94 hK94 => ?_
        refine nd_start (l := [0, 1, 2, 3]) rfl ?_
        refine nd_batch tabOk tabZ_ok [(0, {}), (1, {}), (2, {k := 1}), (3, {})] [5, 3, 0, 1, 4, 6, 42] (T' := [(5, .pointer (some ⟨b19, 0, none⟩)), (3, .pointer (some ⟨b2, 0, none⟩)), (0, .pointer (some ⟨bc, 0, none⟩)), (1, .int .i64 ((i * 16 + j : Nat) : Int)), (4, .slice none 0 0), (6, .slice (some ⟨b83, 0, none⟩) 1 1), (42, .bool ((C.cel (i * 16 + j)).cap.ty == 2))]) (φ := (b19 = b19 ∧ Nat.ble (0 + 1) 6 = true) ∧ True) (rest := []) h92 (by kernel_rfl) rfl ⟨⟨rfl, rfl⟩, trivial⟩ fun a95 h96 => ?_
        clear h92
        refine nd_done ?_
        refine hK94 _ _ ?_
        clear hK94
        refine c_split h96 (b := ((C.cel (i * 16 + j)).cap.ty == 2)) rfl (fun hc97 => ?_) (fun hc97 => ?_)
        ·
          have hc97f : (C.cel (i * 16 + j)).cap.ty = 2 := by simpa using hc97
          refine wp_seq_k fun K98 hK98 => ?_
          refine wp_seq_k fun K99 hK99 => ?_
          refine nd_start (l := [0]) rfl ?_
          refine nd_batch tabOk tabZ_ok [(0, {})] [5, 3, 0, 1, 4, 6, 7] (T' := [(5, .pointer (some ⟨b19, 0, none⟩)), (3, .pointer (some ⟨b2, 0, none⟩)), (0, .pointer (some ⟨bc, 0, none⟩)), (1, .int .i64 ((i * 16 + j : Nat) : Int)), (4, .slice none 0 0), (6, .slice (some ⟨b83, 0, none⟩) 1 1), (7, .int .i64 0)]) (φ := True) (rest := []) h96 (by kernel_rfl) rfl trivial fun a100 h101 => ?_
          clear h96
          refine nd_done ?_
          refine hK99 _ _ ?_
          clear hK99
          refine wp_block ?_
          have hpN : (cutP C (i * 16 + j)).pres (C.cel (i * 16 + j)).cap.obj.idx.toNat = true := (hC.node hN).1 (by rw [hok.2.2.2.2.2, hc97f])
          have hcut := cut_CI hC hfull
          have hccn := cut_cnt hfull
          have hun := unnamed_idx hcut (c := (C.cel (i * 16 + j)).cap) hok (fun hq => hn1 (.inr hq))
          have hun2 : ∀ t, Full (cutP C (i * 16 + j)) t → ((cutP C (i * 16 + j)).cel t).cap.obj.idx ≠ (((C.cel (i * 16 + j)).cap.obj.idx.toNat : Nat) : Int) := fun t ht => by have := hun t ht; omega
          refine wp_loop_ghost (fun g ga gw => ∃ (Ck : CP) (l : List Cp) (o' : Option Addr) (c' : Nat) (Fk : List Nat) (jn : Int), ((g : Int) = 16 - jn) ∧ (0 ≤ jn ∧ jn ≤ 16) ∧ ((List.range jn.toNat).foldl (fun (acc : CP × List Cp) jj => ((deleteP f acc.1 ((C.cel (i * 16 + j)).cap.obj.idx.toNat * 16 + jj)).1, acc.2 ++ (deleteP f acc.1 ((C.cel (i * 16 + j)).cap.obj.idx.toNat * 16 + jj)).2)) (cutP C (i * 16 + j), [(C.cel (i * 16 + j)).cap]) = (Ck, l)) ∧ (∀ b ∈ Fk, w.heap.size ≤ b) ∧ (∀ x ∈ capF bo bc nd Ck, x ∈ capF bo bc nd C) ∧ St ⟨76, capF bo bc nd C, w, CRow bo bc nd Ck l o' c' Fk, capF bo bc nd Ck ++ Fk⟩ [(5, .pointer (some ⟨b19, 0, none⟩)), (3, .pointer (some ⟨b2, 0, none⟩)), (0, .pointer (some ⟨bc, 0, none⟩)), (1, .int .i64 ((i * 16 + j : Nat) : Int)), (6, .slice o' l.length c'), (7, .int .i64 jn)] [(b2, ⟨[.int .i64 ((i * 16 + j : Nat) : Int)], 3, false⟩), (b19, ⟨[.int .u8 ((C.cel (i * 16 + j)).cap.ty), .int .u16 ((C.cel (i * 16 + j)).cap.obj.idx), .int .u32 ((C.cel (i * 16 + j)).cap.obj.gen), .int .u8 ((C.cel (i * 16 + j)).cap.rights), .int .u64 ((C.cel (i * 16 + j)).cap.badge), .int .i64 ((C.cel (i * 16 + j)).parent)], 145, false⟩)] ga gw) 16 ⟨_, _, _, _, _, 0, by decide, ⟨by decide, by decide⟩, (by rw [eC55]; rfl), hnew0, sub0, (h101.slotsMono (restr_spec (keep := [5, 3, 0, 1, 6, 7]) rfl))⟩ ?_
          clear h101
          rintro g a102 w103 ⟨Ck, l, o', c', Fk, jn, hi105, hi106, hi107, hi108, hi109, h104⟩
          have hjg := hi105
          have hj0 := hi106
          have hfold := hi107
          have hnewk := hi108
          have hsubk := hi109
          obtain ⟨gO, egO⟩ : ∃ x, x = g := ⟨_, rfl⟩
          have hrow := del_row (f := f) (ih := del_ok f) hcut hN hpN hun2 (by omega) (C.cel (i * 16 + j)).cap ⟨hok.1, hok.2.1, hok.2.2.1, hok.2.2.2.1⟩ jn.toNat (by omega)
          dsimp only at hrow
          rw [hfold] at hrow
          dsimp only at hrow
          obtain ⟨k1, k2, k3, k4, k5⟩ := hrow
          have hpk := (k2.stay _ hN hpN hun2).1
          have hckn : cnt Ck ≤ cnt (cutP C (i * 16 + j)) := cnt_mono (fun t ht => (k2.full ht).1)
          have hcl := cnt_le (C := C)
          refine wp_seq_k fun K110 hK110 => ?_
          refine wp_seq_k fun K111 hK111 => ?_
          refine nd_start (l := [0, 1]) rfl ?_
          refine nd_batch tabOk tabZ_ok [(0, {}), (1, {})] [5, 3, 0, 1, 6, 7, 44] (T' := [(5, .pointer (some ⟨b19, 0, none⟩)), (3, .pointer (some ⟨b2, 0, none⟩)), (0, .pointer (some ⟨bc, 0, none⟩)), (1, .int .i64 ((i * 16 + j : Nat) : Int)), (6, .slice o' l.length c'), (7, .int .i64 jn), (44, .bool (decide (jn < 16)))]) (φ := True) (rest := []) h104 (by kernel_rfl) rfl trivial fun a112 h113 => ?_
          clear h104
          refine nd_done ?_
          refine hK111 _ _ ?_
          clear hK111
          refine c_split h113 (b := decide (jn < 16)) rfl (fun hc114 => ?_) (fun hc114 => ?_)
          ·
            have hc114f : jn < 16 := by simpa using hc114
            refine wp_skip ?_
            refine hK110 _ _ ?_
            clear hK110
            refine wp_seq_k fun K115 hK115 => ?_
            refine wp_block ?_
            refine nd_start (l := [0, 1, 2, 3, 4, 5, 6, 7, 8, 9, 10, 11, 12]) rfl ?_
            refine nd_batch tabOk tabZ_ok [(0, {}), (1, {}), (2, {}), (3, {}), (4, {}), (5, {k := 1}), (6, {}), (7, {}), (8, {}), (9, {})] [5, 3, 0, 1, 6, 7, 47, 48, 56] (T' := [(5, .pointer (some ⟨b19, 0, none⟩)), (3, .pointer (some ⟨b2, 0, none⟩)), (0, .pointer (some ⟨bc, 0, none⟩)), (1, .int .i64 ((i * 16 + j : Nat) : Int)), (6, .slice o' l.length c'), (7, .int .i64 jn), (47, .slice o' l.length c'), (48, .pointer (some ⟨bc, 0, none⟩)), (56, .int .i64 ((((C.cel (i * 16 + j)).cap.obj.idx) * 16) + jn))]) (φ := (b19 = b19 ∧ Nat.ble (1 + 1) 6 = true) ∧ inR .i64 ((C.cel (i * 16 + j)).cap.obj.idx) ∧ inR .i64 (((C.cel (i * 16 + j)).cap.obj.idx) * 16) ∧ inR .i64 ((((C.cel (i * 16 + j)).cap.obj.idx) * 16) + jn) ∧ True) (rest := [10, 11, 12]) h113 (by kernel_rfl) rfl ⟨⟨rfl, rfl⟩, ⟨by omega, by omega⟩, ⟨by omega, by omega⟩, ⟨by omega, by omega⟩, trivial⟩ fun a116 h117 => ?_
            clear h113
            refine nd_op ?_
            have hih := ih nd Ck ((C.cel (i * 16 + j)).cap.obj.idx.toNat * 16 + jn.toNat) k1 (by omega) (by omega) (by rw [show ((C.cel (i * 16 + j)).cap.obj.idx.toNat * 16 + jn.toNat) / 16 = (C.cel (i * 16 + j)).cap.obj.idx.toNat by omega]; exact hpk) _ h117.inv.cap
            have hdo := del_ok f Ck ((C.cel (i * 16 + j)).cap.obj.idx.toNat * 16 + jn.toNat) k1 (by omega) (by omega) (by rw [show ((C.cel (i * 16 + j)).cap.obj.idx.toNat * 16 + jn.toNat) / 16 = (C.cel (i * 16 + j)).cap.obj.idx.toNat by omega]; exact hpk)
            rw [show (((C.cel (i * 16 + j)).cap.obj.idx.toNat * 16 + jn.toNat : Nat) : Int) = ((((C.cel (i * 16 + j)).cap.obj.idx) * 16) + jn) by omega] at hih
            obtain ⟨Cd, eCd⟩ : ∃ x, x = (deleteP f Ck ((C.cel (i * 16 + j)).cap.obj.idx.toNat * 16 + jn.toNat)).1 := ⟨_, rfl⟩
            obtain ⟨ld, eld⟩ : ∃ x, x = (deleteP f Ck ((C.cel (i * 16 + j)).cap.obj.idx.toNat * 16 + jn.toNat)).2 := ⟨_, rfl⟩
            refine op_call h117 rfl rfl rfl (callOk Tryd.func95 (by decide) rfl) (args := [.pointer (some ⟨bc, 0, none⟩), .int .i64 ((((C.cel (i * 16 + j)).cap.obj.idx) * 16) + jn)]) rfl hih ?_
            rintro _ w118 ⟨od, cd, Fd, rfl, hRd, hnd, hsd, hfd⟩
            refine ⟨_, rfl, ?_⟩
            have hld := hdo.len
            rw [← eCd, ← eld] at hRd hld
            rw [← eCd] at hsd
            rw [← eld]
            have hR2 : CRow bo bc nd Cd l o' c' Fk w118 := ⟨hRd.cap, Row.fr h117.inv.row hfd h117.inv.dis, fun b hb hq => h117.inv.dis b hb (hsd b hq)⟩
            have h119 := (h117.callF hfd (fun b hb => List.mem_append_left _ hb) (fun b hb => .inl (hsubk b hb)) (A' := CRow bo bc nd Cd l o' c' Fk) (F' := capF bo bc nd Cd ++ Fk) (kcons (by intro hq; cases hq) (kcons (by intro hq; cases hq) knil)) hR2 CRow.stable hR2.low (fun b hb => .inl ((List.mem_append.1 hb).elim (fun h => List.mem_append_left _ (hsd b h)) (fun h => List.mem_append_right _ h)))).put (d := some 57) (v := .slice od ld.length cd) (T' := [(57, .slice od ld.length cd), (5, .pointer (some ⟨b19, 0, none⟩)), (3, .pointer (some ⟨b2, 0, none⟩)), (0, .pointer (some ⟨bc, 0, none⟩)), (1, .int .i64 ((i * 16 + j : Nat) : Int)), (6, .slice o' l.length c'), (7, .int .i64 jn), (47, .slice o' l.length c'), (48, .pointer (some ⟨bc, 0, none⟩)), (56, .int .i64 ((((C.cel (i * 16 + j)).cap.obj.idx) * 16) + jn))]) rfl
            have hsz0 := h117.frame.size
            clear h117
            refine nd_op ?_
            refine op_append tabOk (e := 49) (so := o') (n := l.length) (c := c') (xo := od) (m := ld.length) (cx := cd) (vals := l.flatMap cpC) (vs := ld.flatMap cpC) (F := Fk) h119 rfl rfl rfl rfl rfl rfl rfl rfl rfl rfl rfl rfl h119.inv.row (src_row hRd.row) (by omega) (allOne_caps ld) ?_
            intro o120 c121 F122 w123 hr124 hf125 hF126
            have hr1242 := rl_app (enc := cpC) (xs := l) (ys := ld) hr124
            have hRa : CRow bo bc nd Cd (l ++ ld) o120 c121 F122 w123 := ⟨h119.inv.cap.fr hf125 (fun b hb hq => h119.inv.dis b hq hb), hr1242, fun b hb hq => (hF126 b hb).elim (fun h => h119.inv.dis b h hq) (fun h => by have := h119.inv.cap.low b hq; omega)⟩
            rw [show l.length + ld.length = (l ++ ld).length by simp]
            have h127 := (h119.callF hf125 (fun b hb => List.mem_append_right _ hb) (fun b hb => .inr (hnewk b hb)) (A' := CRow bo bc nd Cd (l ++ ld) o120 c121 F122) (F' := capF bo bc nd Cd ++ F122) (kcons (by intro hq; cases hq) (kcons (by intro hq; cases hq) knil)) hRa CRow.stable hRa.low (fun b hb => (List.mem_append.1 hb).elim (fun h => .inl (List.mem_append_left _ h)) (fun h => (hF126 b h).elim (fun h => .inl (List.mem_append_right _ h)) .inr))).put (d := some 58) (v := .slice o120 ((l ++ ld).length) c121) (T' := [(58, .slice o120 ((l ++ ld).length) c121), (57, .slice od ld.length cd), (5, .pointer (some ⟨b19, 0, none⟩)), (3, .pointer (some ⟨b2, 0, none⟩)), (0, .pointer (some ⟨bc, 0, none⟩)), (1, .int .i64 ((i * 16 + j : Nat) : Int)), (6, .slice o' l.length c'), (7, .int .i64 jn), (47, .slice o' l.length c'), (48, .pointer (some ⟨bc, 0, none⟩)), (56, .int .i64 ((((C.cel (i * 16 + j)).cap.obj.idx) * 16) + jn))]) rfl
            have hnewa : ∀ b ∈ F122, w.heap.size ≤ b := fun b hb => (hF126 b hb).elim (hnewk b) (fun h => by have hq : w.heap.size ≤ _ := h119.frame.size; omega)
            have hsuba : ∀ x ∈ capF bo bc nd Cd, x ∈ capF bo bc nd C := fun x hx => hsubk x (hsd x hx)
            clear h119
            refine nd_batch tabOk tabZ_ok [(12, {})] [5, 3, 0, 1, 7, 6] (T' := [(5, .pointer (some ⟨b19, 0, none⟩)), (3, .pointer (some ⟨b2, 0, none⟩)), (0, .pointer (some ⟨bc, 0, none⟩)), (1, .int .i64 ((i * 16 + j : Nat) : Int)), (7, .int .i64 jn), (6, .slice o120 ((l ++ ld).length) c121)]) (φ := True) (rest := []) h127 (by kernel_rfl) rfl trivial fun a128 h129 => ?_
            clear h127
            refine nd_done ?_
            refine hK115 _ _ ?_
            clear hK115
            refine nd_start (l := [0, 1, 2]) rfl ?_
            refine nd_batch tabOk tabZ_ok [(0, {}), (1, {}), (2, {})] [5, 3, 0, 1, 6, 7] (T' := [(5, .pointer (some ⟨b19, 0, none⟩)), (3, .pointer (some ⟨b2, 0, none⟩)), (0, .pointer (some ⟨bc, 0, none⟩)), (1, .int .i64 ((i * 16 + j : Nat) : Int)), (6, .slice o120 ((l ++ ld).length) c121), (7, .int .i64 (jn + 1))]) (φ := inR .i64 (jn + 1) ∧ True) (rest := []) h129 (by kernel_rfl) rfl ⟨⟨by omega, by omega⟩, trivial⟩ fun a130 h131 => ?_
            clear h129
            refine nd_done ?_
            exact ⟨(gO - 1), by omega, Cd, (l ++ ld), o120, c121, F122, (jn + 1), by omega, ⟨by omega, by omega⟩, (by rw [show (jn + 1).toNat = jn.toNat + 1 by omega, List.range_succ, List.foldl_append, hfold]; dsimp only [List.foldl]; rw [← eCd, ← eld]), hnewa, hsuba, (h131.slotsMono (restr_spec (keep := [5, 3, 0, 1, 6, 7]) rfl))⟩
          ·
            have hc114f : ¬ jn < 16 := by simpa using hc114
            have hj16 : jn.toNat = 16 := by omega
            rw [hj16] at hfold
            refine wp_exit ?_
            refine hK98 _ _ ?_
            clear hK98
            refine dr_start (KB := [b2, b19]) (Bi := [[0, 1], [0, 1], [0, 1], [0, 1], [0, 1], [0, 1], [0, 1], [0, 1], []]) mixed h113 fun w132 h133 => ?_
            clear h113
            refine dr_batch tabOk tabZ_ok (by repeat (first | with_reducible exact PF.body | with_reducible apply PF.inB | with_reducible apply PF.next)) [(0, {}), (1, {}), (2, {}), (3, {}), (4, {k := 1, p := 1}), (5, {}), (6, {}), (7, {})] [5, 3, 0, 1, 6, 7, 66] (T' := [(5, .pointer (some ⟨b19, 0, none⟩)), (3, .pointer (some ⟨b2, 0, none⟩)), (0, .pointer (some ⟨bc, 0, none⟩)), (1, .int .i64 ((i * 16 + j : Nat) : Int)), (6, .slice o' l.length c'), (7, .int .i64 jn), (66, .pointer (some ⟨bc, 1 + ((((C.cel (i * 16 + j)).cap.obj.idx).toNat) * 1), none⟩))]) (φ := (b19 = b19 ∧ Nat.ble (1 + 1) 6 = true) ∧ (0 ≤ ((C.cel (i * 16 + j)).cap.obj.idx) ∧ ((C.cel (i * 16 + j)).cap.obj.idx) < 256) ∧ True) (fuel := 1) h133 (by kernel_rfl) rfl (by kernel_rfl) (by kernel_rfl) ⟨trivial, trivial, trivial, trivial, rfl, trivial, trivial, trivial, trivial⟩ ⟨⟨rfl, rfl⟩, ⟨by omega, by omega⟩, trivial⟩ fun a135 h136 => ?_
            clear h133
            refine wpAnyK_one (i := 8) (fuel := 0) (by kernel_rfl) ?_
            refine op_storeX tabOk h136 rfl rfl rfl rfl rfl rfl rfl rfl rfl h136.inv.cap.sp (by rw [sp_len]; show 1 + ((((C.cel (i * 16 + j)).cap.obj.idx).toNat) * 1) + 1 ≤ 257; omega) fun w137 hb142 hf138 => ?_
            have hcr140 := CapAt.cutNode (i := (C.cel (i * 16 + j)).cap.obj.idx.toNat) h136.inv.cap hf138 (hb142.trans (congrArg (fun c => some (Blk.obj ⟨c, 142, false⟩)) (sp_cut (i := (C.cel (i * 16 + j)).cap.obj.idx.toNat) (by omega) (by omega))))
            obtain ⟨C141, eC141⟩ : ∃ C9, C9 = ({ Ck with pres := upd Ck.pres (C.cel (i * 16 + j)).cap.obj.idx.toNat false } : CP) := ⟨_, rfl⟩
            rw [← eC141] at hcr140
            have qC141 : ∀ x ∈ capF bo bc nd C141, x ∈ capF bo bc nd Ck := by rw [eC141]; exact capF_cut
            have RC141 : CRow bo bc nd C141 l o' c' Fk w137 := ⟨hcr140, Row.fr h136.inv.row hf138 (fun b hb hq => by simp at hq; subst hq; exact h136.inv.dis _ hb (mem_capF.2 (.inr (.inl rfl)))), fun b hb hq => h136.inv.dis b hb (qC141 b hq)⟩
            have h139 := h136.callF hf138 (fun b hb => by simp at hb; subst hb; exact List.mem_append_left _ (mem_capF.2 (.inr (.inl rfl)))) (fun b hb => .inl (by simp at hb; subst hb; exact mem_capF.2 (.inr (.inl rfl)))) (A' := CRow bo bc nd C141 l o' c' Fk) (F' := capF bo bc nd C141 ++ Fk) (kcons (by intro hq; cases hq) (kcons (by intro hq; cases hq) knil)) RC141 CRow.stable RC141.low (fun b hb => .inl ((List.mem_append.1 hb).elim (fun h => List.mem_append_left _ (qC141 b h)) (fun h => List.mem_append_right _ h)))
            have hkh139 := h136.known
            refine ⟨keepNil, ?_⟩
            have sC141 : ∀ x ∈ capF bo bc nd C141, x ∈ capF bo bc nd C := fun x hx => hsubk x (qC141 x hx)
            clear h136
            refine wpAnyK_done (by kernel_rfl) ?_ _
            refine hK93 _ _ ?_
            clear hK93
            refine wp_seq_k fun K143 hK143 => ?_
            have h144 := h139.open_ (b := bc) (cells := spC bo nd C141.pres) (ty := 142) h139.inv.cap.sp (h139.notinL (List.mem_append_left _ (mem_capF.2 (.inr (.inl rfl)))) (kcons (by intro hq; cases hq) (kcons (by intro hq; cases hq) knil)))
            clear h139
            refine dr_start (KB := [b2, b19, bc]) (Bi := [[0, 1, 2], [0, 1, 2], [0, 1, 2], [0, 1, 2], [0, 1, 2], [0, 1, 2], [0, 1, 2], []]) mixed h144 fun w145 h146 => ?_
            clear h144
            refine dr_batch tabOk tabZ_ok (by repeat (first | with_reducible exact PF.body | with_reducible apply PF.inB | with_reducible apply PF.next)) [(0, {}), (1, {}), (2, {}), (3, {k := 2, m := 1, vs := [.pointer (some ⟨bo, 0, none⟩)], p := 2}), (4, {}), (5, {}), (6, {k := 1, p := 1})] [5, 3, 0, 1, 6, 7, 70, 73] (T' := [(5, .pointer (some ⟨b19, 0, none⟩)), (3, .pointer (some ⟨b2, 0, none⟩)), (0, .pointer (some ⟨bc, 0, none⟩)), (1, .int .i64 ((i * 16 + j : Nat) : Int)), (6, .slice o' l.length c'), (7, .int .i64 jn), (70, .pointer (some ⟨bo, 0, none⟩)), (73, .agg #[.int .u16 ((C.cel (i * 16 + j)).cap.obj.idx), .int .u32 ((C.cel (i * 16 + j)).cap.obj.gen)])]) (φ := (bc = bc ∧ cellsAre (spC bo nd C141.pres) 0 [.pointer (some ⟨bo, 0, none⟩)]) ∧ (b19 = b19 ∧ Nat.ble (1 + 2) 6 = true) ∧ True) (fuel := 1) h146 (by kernel_rfl) rfl (by kernel_rfl) (by kernel_rfl) ⟨trivial, trivial, trivial, rfl, trivial, trivial, rfl, trivial⟩ ⟨⟨rfl, sp_store⟩, ⟨rfl, rfl⟩, trivial⟩ fun a148 h149 => ?_
            clear h146
            refine wpAnyK_one (i := 7) (fuel := 0) (by kernel_rfl) ?_
            refine op_call h149 rfl rfl rfl (callOk Tryd.func110 (by decide) rfl) (args := [.pointer (some ⟨bo, 0, none⟩), .agg #[.int .u16 ((C.cel (i * 16 + j)).cap.obj.idx), .int .u32 ((C.cel (i * 16 + j)).cap.obj.gen)]]) rfl (free_ok bo C141.ent (C.cel (i * 16 + j)).cap.obj ⟨by omega, by omega⟩ _ h149.inv.cap.st) ?_
            rintro _ w150 ⟨rfl, hb155, hf151⟩
            refine ⟨_, rfl, ?_⟩
            have hcr152 := h149.inv.cap.setEnt hf151 hb155
            obtain ⟨C154, eC154⟩ : ∃ C9, C9 = ({ C141 with ent := freeP C141.ent (C.cel (i * 16 + j)).cap.obj } : CP) := ⟨_, rfl⟩
            rw [← eC154] at hcr152
            have pC154 : capF bo bc nd C154 = capF bo bc nd C141 := by rw [eC154]; rfl
            have RC154 : CRow bo bc nd C154 l o' c' Fk w150 := ⟨hcr152, Row.fr h149.inv.row hf151 (fun b hb hq => by simp at hq; subst hq; exact h149.inv.dis _ hb (mem_capF.2 (.inl rfl))), fun b hb hq => h149.inv.dis b hb (by rw [pC154] at hq; exact hq)⟩
            have h153 := (h149.callF hf151 (fun b hb => by simp at hb; subst hb; exact List.mem_append_left _ (mem_capF.2 (.inl rfl))) (fun b hb => .inl (by simp at hb; subst hb; exact mem_capF.2 (.inl rfl))) (A' := CRow bo bc nd C154 l o' c' Fk) (F' := capF bo bc nd C154 ++ Fk) (kcons (by intro hq; cases hq) (kcons (by intro hq; cases hq) (kcons (fun _ => (by simp; exact h149.inv.cap.ap.symm)) knil))) RC154 CRow.stable RC154.low (fun b hb => .inl (by rw [pC154] at hb; exact hb))).put (d := some 74) (v := .tuple #[]) (T' := [(74, .tuple #[]), (5, .pointer (some ⟨b19, 0, none⟩)), (3, .pointer (some ⟨b2, 0, none⟩)), (0, .pointer (some ⟨bc, 0, none⟩)), (1, .int .i64 ((i * 16 + j : Nat) : Int)), (6, .slice o' l.length c'), (7, .int .i64 jn), (70, .pointer (some ⟨bo, 0, none⟩)), (73, .agg #[.int .u16 ((C.cel (i * 16 + j)).cap.obj.idx), .int .u32 ((C.cel (i * 16 + j)).cap.obj.gen)])]) rfl
            have hkh153 := h149.known
            refine ⟨keepNil, ?_⟩
            have sC154 : ∀ x ∈ capF bo bc nd C154, x ∈ capF bo bc nd C := fun x hx => sC141 x (by rw [pC154] at hx; exact hx)
            clear h149
            refine wpAnyK_done (by kernel_rfl) ?_ _
            refine hK143 _ _ ?_
            clear hK143
            refine wp_seq_k fun K156 hK156 => ?_
            refine nd_start (l := [0, 1]) rfl ?_
            refine nd_batch tabOk tabZ_ok [(0, {}), (1, {})] [5, 3, 0, 1, 6, 7, 4] (T' := [(5, .pointer (some ⟨b19, 0, none⟩)), (3, .pointer (some ⟨b2, 0, none⟩)), (0, .pointer (some ⟨bc, 0, none⟩)), (1, .int .i64 ((i * 16 + j : Nat) : Int)), (6, .slice o' l.length c'), (7, .int .i64 jn), (4, .slice o' l.length c')]) (φ := True) (rest := []) h153 (by kernel_rfl) rfl trivial fun a157 h158 => ?_
            clear h153
            refine nd_done ?_
            refine hK156 _ _ ?_
            clear hK156
            refine wp_ret ?_
            try simp only [Exit.then, Exit.inBlock]
            try rw [if_pos trivial]
            exact s_ret tabOk tabZ_ok h158 [(.tmp 4, {})] (vs := [.slice o' l.length c']) (φ := True) rfl (by kernel_rfl) trivial (by rw [show deleteP (f + 1) C (i * 16 + j) = (C154, l) by rw [deleteP, if_neg hc31f, if_neg hn1, if_pos hc97f]; dsimp only; rw [hfold, eC154, eC141]]; exact ⟨o', c', Fk, rfl, h158.inv, hnewk, sC154, h158.frame⟩)
        ·
          have hc97f : (C.cel (i * 16 + j)).cap.ty ≠ 2 := by simpa using hc97
          refine wp_skip ?_
          refine hK93 _ _ ?_
          clear hK93
          refine wp_seq_k fun K159 hK159 => ?_
          have h160 := h96.open_ (b := bc) (cells := spC bo nd C55.pres) (ty := 142) h96.inv.cap.sp (h96.notinL (List.mem_append_left _ (mem_capF.2 (.inr (.inl rfl)))) (kcons (by intro hq; cases hq) (kcons (by intro hq; cases hq) knil)))
          clear h96
          refine dr_start (KB := [b2, b19, bc]) (Bi := [[0, 1, 2], [0, 1, 2], [0, 1, 2], [0, 1, 2], [0, 1, 2], [0, 1, 2], [0, 1, 2], []]) mixed h160 fun w161 h162 => ?_
          clear h160
          refine dr_batch tabOk tabZ_ok (by repeat (first | with_reducible exact PF.body | with_reducible apply PF.inB | with_reducible apply PF.next)) [(0, {}), (1, {}), (2, {}), (3, {k := 2, m := 1, vs := [.pointer (some ⟨bo, 0, none⟩)], p := 2}), (4, {}), (5, {}), (6, {k := 1, p := 1})] [5, 3, 0, 1, 4, 6, 70, 73] (T' := [(5, .pointer (some ⟨b19, 0, none⟩)), (3, .pointer (some ⟨b2, 0, none⟩)), (0, .pointer (some ⟨bc, 0, none⟩)), (1, .int .i64 ((i * 16 + j : Nat) : Int)), (4, .slice none 0 0), (6, .slice (some ⟨b83, 0, none⟩) 1 1), (70, .pointer (some ⟨bo, 0, none⟩)), (73, .agg #[.int .u16 ((C.cel (i * 16 + j)).cap.obj.idx), .int .u32 ((C.cel (i * 16 + j)).cap.obj.gen)])]) (φ := (bc = bc ∧ cellsAre (spC bo nd C55.pres) 0 [.pointer (some ⟨bo, 0, none⟩)]) ∧ (b19 = b19 ∧ Nat.ble (1 + 2) 6 = true) ∧ True) (fuel := 1) h162 (by kernel_rfl) rfl (by kernel_rfl) (by kernel_rfl) ⟨trivial, trivial, trivial, rfl, trivial, trivial, rfl, trivial⟩ ⟨⟨rfl, sp_store⟩, ⟨rfl, rfl⟩, trivial⟩ fun a164 h165 => ?_
          clear h162
          refine wpAnyK_one (i := 7) (fuel := 0) (by kernel_rfl) ?_
          refine op_call h165 rfl rfl rfl (callOk Tryd.func110 (by decide) rfl) (args := [.pointer (some ⟨bo, 0, none⟩), .agg #[.int .u16 ((C.cel (i * 16 + j)).cap.obj.idx), .int .u32 ((C.cel (i * 16 + j)).cap.obj.gen)]]) rfl (free_ok bo C55.ent (C.cel (i * 16 + j)).cap.obj ⟨by omega, by omega⟩ _ h165.inv.cap.st) ?_
          rintro _ w166 ⟨rfl, hb171, hf167⟩
          refine ⟨_, rfl, ?_⟩
          have hcr168 := h165.inv.cap.setEnt hf167 hb171
          obtain ⟨C170, eC170⟩ : ∃ C9, C9 = ({ C55 with ent := freeP C55.ent (C.cel (i * 16 + j)).cap.obj } : CP) := ⟨_, rfl⟩
          rw [← eC170] at hcr168
          have pC170 : capF bo bc nd C170 = capF bo bc nd C55 := by rw [eC170]; rfl
          have RC170 : CRow bo bc nd C170 [(C.cel (i * 16 + j)).cap] (some ⟨b83, 0, none⟩) 1 [b83] w166 := ⟨hcr168, Row.fr h165.inv.row hf167 (fun b hb hq => by simp at hq; subst hq; exact h165.inv.dis _ hb (mem_capF.2 (.inl rfl))), fun b hb hq => h165.inv.dis b hb (by rw [pC170] at hq; exact hq)⟩
          have h169 := (h165.callF hf167 (fun b hb => by simp at hb; subst hb; exact List.mem_append_left _ (mem_capF.2 (.inl rfl))) (fun b hb => .inl (by simp at hb; subst hb; exact mem_capF.2 (.inl rfl))) (A' := CRow bo bc nd C170 [(C.cel (i * 16 + j)).cap] (some ⟨b83, 0, none⟩) 1 [b83]) (F' := capF bo bc nd C170 ++ [b83]) (kcons (by intro hq; cases hq) (kcons (by intro hq; cases hq) (kcons (fun _ => (by simp; exact h165.inv.cap.ap.symm)) knil))) RC170 CRow.stable RC170.low (fun b hb => .inl (by rw [pC170] at hb; exact hb))).put (d := some 74) (v := .tuple #[]) (T' := [(74, .tuple #[]), (5, .pointer (some ⟨b19, 0, none⟩)), (3, .pointer (some ⟨b2, 0, none⟩)), (0, .pointer (some ⟨bc, 0, none⟩)), (1, .int .i64 ((i * 16 + j : Nat) : Int)), (4, .slice none 0 0), (6, .slice (some ⟨b83, 0, none⟩) 1 1), (70, .pointer (some ⟨bo, 0, none⟩)), (73, .agg #[.int .u16 ((C.cel (i * 16 + j)).cap.obj.idx), .int .u32 ((C.cel (i * 16 + j)).cap.obj.gen)])]) rfl
          have hkh169 := h165.known
          refine ⟨keepNil, ?_⟩
          have sC170 : ∀ x ∈ capF bo bc nd C170, x ∈ capF bo bc nd C := fun x hx => sub0 x (by rw [pC170] at hx; exact hx)
          clear h165
          refine wpAnyK_done (by kernel_rfl) ?_ _
          refine hK159 _ _ ?_
          clear hK159
          refine wp_seq_k fun K172 hK172 => ?_
          refine nd_start (l := [0, 1]) rfl ?_
          refine nd_batch tabOk tabZ_ok [(0, {}), (1, {})] [5, 3, 0, 1, 6, 4] (T' := [(5, .pointer (some ⟨b19, 0, none⟩)), (3, .pointer (some ⟨b2, 0, none⟩)), (0, .pointer (some ⟨bc, 0, none⟩)), (1, .int .i64 ((i * 16 + j : Nat) : Int)), (6, .slice (some ⟨b83, 0, none⟩) 1 1), (4, .slice (some ⟨b83, 0, none⟩) 1 1)]) (φ := True) (rest := []) h169 (by kernel_rfl) rfl trivial fun a173 h174 => ?_
          clear h169
          refine nd_done ?_
          refine hK172 _ _ ?_
          clear hK172
          refine wp_ret ?_
          try simp only [Exit.then, Exit.inBlock]
          try rw [if_pos trivial]
          exact s_ret tabOk tabZ_ok h174 [(.tmp 4, {})] (vs := [.slice (some ⟨b83, 0, none⟩) 1 1]) (φ := True) rfl (by kernel_rfl) trivial (by rw [show deleteP (f + 1) C (i * 16 + j) = (C170, [(C.cel (i * 16 + j)).cap]) by rw [deleteP, if_neg hc31f, if_neg hn1, if_neg hc97f, eC170, eC55]]; exact ⟨(some ⟨b83, 0, none⟩), 1, [b83], rfl, h174.inv, hnew0, sC170, h174.frame⟩)

end Go.Proofs.Qxb6500918aDoor
