/-
  bury. (Made by program: a symbolic walk that prints its steps.)
-/
import Derived.Test.Qxb6500918aDoorKM
import Derived.Test.Qxb6500918aDoorKz
namespace Go.Proofs.Qxb6500918aDoor
open Go.Sx Go.Kn
set_option maxRecDepth 100000
set_option maxHeartbeats 4000000
set_option linter.unusedVariables false
set_option linter.unusedSimpArgs false

theorem splice_noT (x : Tcb) : splice (tcbC x) 0 [Value.int .u8 0, Value.int .u8 0, Value.int .u16 0, Value.int .u32 0, Value.int .u16 0, Value.int .u32 0, Value.int .u16 0, Value.int .u32 0, Value.int .u64 0, Value.int .u64 0, Value.int .u64 0, Value.int .u64 0, Value.int .u64 0, Value.int .u8 0, Value.int .u8 0, Value.int .u32 0, Value.int .u32 0, Value.bool false, Value.bool false, Value.int .i16 (-1), Value.int .i16 (-1)] = tcbC noT := by kernel_rfl

theorem cellsK {K : List Nat} {w w' : World} {b k : Nat} {vs : List Value} (h : CellsAt w b k vs) (hf : Fr K w w') (hb : b < w.heap.size) (hK : b ∉ K) : CellsAt w' b k vs := by
  intro j v hj
  have := h j v hj
  unfold World.cell? at this ⊢
  dsimp only at this ⊢
  rw [hf.block b hb hK]
  exact this

theorem bury_walk (kb bo bc : Nat) (S : KP) (rS : RI S) (Q : QL → List Nat) (hQ : LIQ S Q) (c : Cp) (hc : 0 ≤ c.obj.idx ∧ c.obj.idx < 256) (w : World) (hb : w.heap[kb]? = some (Blk.obj ⟨kC bo bc S, 90, false⟩)) (hg : CellsAt w 1 0 (tcbC noT)) (hgs : 1 < w.heap.size) (hgk : 1 ≠ kb) :
    Calls Tryd.prog 106 #[.pointer (some ⟨kb, 0, none⟩), .agg (cpC c).toArray] w fun e w' => e = .returned (.tuple #[]) ∧ w'.heap[kb]? = some (Blk.obj ⟨kC bo bc (buryP S c), 90, false⟩) ∧ Fr [kb] w w' := by
  refine enter0 (n := 78) (K := [kb]) (T := [(0, .pointer (some ⟨kb, 0, none⟩)), (1, .agg #[.int .u8 c.ty, .int .u16 c.obj.idx, .int .u32 c.obj.gen, .int .u8 c.rights, .int .u64 c.badge])]) (L := [(kb, ⟨kC bo bc S, 90, false⟩)]) (args := [.pointer (some ⟨kb, 0, none⟩), .agg #[.int .u8 c.ty, .int .u16 c.obj.idx, .int .u32 c.obj.gen, .int .u8 c.rights, .int .u64 c.badge]]) Tryd.func106 rfl rfl rfl rfl (kcons hb knil) (by simp) (kcons (by simp) knil) ?_
  intro a h
  refine wp_seq_k fun K1 hK1 => ?_
  refine nd_start (l := [0]) rfl ?_
  refine nd_op ?_
  refine op_new tabOk (cells := [.int .u8 c.ty, .int .u16 c.obj.idx, .int .u32 c.obj.gen, .int .u8 c.rights, .int .u64 c.badge]) (ty := 49) (ln := none) (L1 := fun b2 => [(kb, ⟨kC bo bc S, 90, false⟩), (b2, ⟨[.int .u8 c.ty, .int .u16 c.obj.idx, .int .u32 c.obj.gen, .int .u8 c.rights, .int .u64 c.badge], 49, false⟩)]) h rfl rfl rfl rfl (by kernel_rfl) (fun _ => rfl) fun b2 w3 a4 h5 hf6 hn7 => ?_
  clear h
  refine nd_done ?_
  refine hK1 _ _ ?_
  clear hK1
  refine wp_seq_k fun K8 hK8 => ?_
  refine nd_start (l := [0, 1, 2, 3, 4]) rfl ?_
  refine nd_batch tabOk tabZ_ok [(0, {}), (1, {}), (2, {k := 1}), (3, {}), (4, {})] [3, 0, 1, 4] (T' := [(3, .pointer (some ⟨b2, 0, none⟩)), (0, .pointer (some ⟨kb, 0, none⟩)), (1, .agg #[.int .u8 c.ty, .int .u16 c.obj.idx, .int .u32 c.obj.gen, .int .u8 c.rights, .int .u64 c.badge]), (4, .int .i16 c.obj.idx)]) (φ := (b2 = b2 ∧ Nat.ble (1 + 1) 5 = true) ∧ inR .i16 c.obj.idx ∧ True) (rest := []) h5 (by kernel_rfl) rfl ⟨⟨rfl, rfl⟩, ⟨by omega, by omega⟩, trivial⟩ fun a9 h10 => ?_
  clear h5
  refine nd_done ?_
  refine hK8 _ _ ?_
  clear hK8
  refine wp_seq_k fun K11 hK11 => ?_
  refine nd_start (l := [0, 1]) rfl ?_
  refine nd_batch tabOk tabZ_ok [(0, {}), (1, {k := 1})] [3, 0, 1, 4, 11] (T' := [(3, .pointer (some ⟨b2, 0, none⟩)), (0, .pointer (some ⟨kb, 0, none⟩)), (1, .agg #[.int .u8 c.ty, .int .u16 c.obj.idx, .int .u32 c.obj.gen, .int .u8 c.rights, .int .u64 c.badge]), (4, .int .i16 c.obj.idx), (11, .int .u8 c.ty)]) (φ := (b2 = b2 ∧ Nat.ble (0 + 1) 5 = true) ∧ True) (rest := []) h10 (by kernel_rfl) rfl ⟨⟨rfl, rfl⟩, trivial⟩ fun a12 h13 => ?_
  clear h10
  refine nd_done ?_
  refine hK11 _ _ ?_
  clear hK11
  refine wp_block ?_
  refine wp_seq_k fun K14 hK14 => ?_
  refine nd_start (l := [0, 1]) rfl ?_
  refine nd_batch tabOk tabZ_ok [(0, {}), (1, {})] [3, 0, 1, 4, 11, 12] (T' := [(3, .pointer (some ⟨b2, 0, none⟩)), (0, .pointer (some ⟨kb, 0, none⟩)), (1, .agg #[.int .u8 c.ty, .int .u16 c.obj.idx, .int .u32 c.obj.gen, .int .u8 c.rights, .int .u64 c.badge]), (4, .int .i16 c.obj.idx), (11, .int .u8 c.ty), (12, .bool (c.ty == 3))]) (φ := True) (rest := []) h13 (by kernel_rfl) rfl trivial fun a15 h16 => ?_
  clear h13
  refine nd_done ?_
  refine hK14 _ _ ?_
  clear hK14
  refine c_split h16 (b := (c.ty == 3)) rfl (fun hc17 => ?_) (fun hc17 => ?_)
  ·
    have hc17f : c.ty = 3 := by simpa using hc17
    refine wp_seq_k fun K18 hK18 => ?_
    refine nd_start (l := [0, 1, 2]) rfl ?_
    refine nd_batch tabOk tabZ_ok [(0, {}), (1, {})] [3, 0, 1, 4, 11, 14, 15] (T' := [(3, .pointer (some ⟨b2, 0, none⟩)), (0, .pointer (some ⟨kb, 0, none⟩)), (1, .agg #[.int .u8 c.ty, .int .u16 c.obj.idx, .int .u32 c.obj.gen, .int .u8 c.rights, .int .u64 c.badge]), (4, .int .i16 c.obj.idx), (11, .int .u8 c.ty), (14, .pointer (some ⟨kb, 0, none⟩)), (15, .int .i16 c.obj.idx)]) (φ := True) (rest := [2]) h16 (by kernel_rfl) rfl trivial fun a19 h20 => ?_
    clear h16
    refine nd_op ?_
    refine op_call h20 rfl rfl rfl (callOk Tryd.func72 (by decide) rfl) (args := [.pointer (some ⟨kb, 0, none⟩), .int .i16 c.obj.idx]) rfl (leave_ok kb bo bc S rS c.obj.idx hc _ (h20.kn (k := 0) rfl)) ?_
    rintro _ w24 ⟨rfl, hb22, hf23⟩
    refine ⟨_, rfl, ?_⟩
    obtain ⟨S21, eS21⟩ : ∃ S9, S9 = leaveP S c.obj.idx := ⟨_, rfl⟩
    rw [← eS21] at hb22
    have rS21 : RI S21 := by rw [eS21]; exact leave_RI rS hc
    have h25 := (h20.setBlk (k := 0) rfl rfl hf23 hb22 (L' := [(kb, ⟨kC bo bc S21, 90, false⟩), (b2, ⟨[.int .u8 c.ty, .int .u16 c.obj.idx, .int .u32 c.obj.gen, .int .u8 c.rights, .int .u64 c.badge], 49, false⟩)]) rfl).put (d := some 16) (v := .tuple #[]) (T' := [(16, .tuple #[]), (3, .pointer (some ⟨b2, 0, none⟩)), (0, .pointer (some ⟨kb, 0, none⟩)), (1, .agg #[.int .u8 c.ty, .int .u16 c.obj.idx, .int .u32 c.obj.gen, .int .u8 c.rights, .int .u64 c.badge]), (4, .int .i16 c.obj.idx), (11, .int .u8 c.ty), (14, .pointer (some ⟨kb, 0, none⟩)), (15, .int .i16 c.obj.idx)]) rfl
    clear h20
    refine nd_done ?_
    refine hK18 _ _ ?_
    clear hK18
    refine wp_seq_k fun K26 hK26 => ?_
    refine dr_start (KB := [kb, b2]) (Bi := [[0, 1], [0, 1], [], [0, 1], [0, 1], [0, 1], []]) mixed h25 fun w27 h28 => ?_
    clear h25
    refine dr_batch tabOk tabZ_ok (by repeat (first | with_reducible exact PF.body | with_reducible apply PF.inB | with_reducible apply PF.next)) [(0, {}), (1, {}), (3, {}), (4, {})] [3, 0, 1, 4, 11, 18, 21] (T' := [(3, .pointer (some ⟨b2, 0, none⟩)), (0, .pointer (some ⟨kb, 0, none⟩)), (1, .agg #[.int .u8 c.ty, .int .u16 c.obj.idx, .int .u32 c.obj.gen, .int .u8 c.rights, .int .u64 c.badge]), (4, .int .i16 c.obj.idx), (11, .int .u8 c.ty), (18, .int .i16 c.obj.idx), (21, .pointer (some ⟨kb, 2, none⟩))]) (φ := True) (fuel := 3) h28 (by kernel_rfl) rfl (by kernel_rfl) (by kernel_rfl) ⟨trivial, trivial, trivial, trivial, trivial⟩ trivial fun a30 h31 => ?_
    clear h28
    refine wpAnyK_one (i := 2) (fuel := 2) (by kernel_rfl) ?_
    refine op_now (v := .agg #[.int .u8 0, .int .u8 0, .int .u16 0, .int .u32 0, .int .u16 0, .int .u32 0, .int .u16 0, .int .u32 0, .int .u64 0, .int .u64 0, .int .u64 0, .int .u64 0, .int .u64 0, .int .u8 0, .int .u8 0, .int .u32 0, .int .u32 0, .bool false, .bool false, .int .i16 (-1), .int .i16 (-1)]) h31 rfl rfl (run_cells tabOk h31.slots rfl rfl rfl rfl rfl (cellsK hg h31.frame hgs (by simp; exact hgk))) ?_
    refine ⟨Keep.refl _ _, ?_⟩
    have h32 := h31.put (d := some 19) (v := .agg #[.int .u8 0, .int .u8 0, .int .u16 0, .int .u32 0, .int .u16 0, .int .u32 0, .int .u16 0, .int .u32 0, .int .u64 0, .int .u64 0, .int .u64 0, .int .u64 0, .int .u64 0, .int .u8 0, .int .u8 0, .int .u32 0, .int .u32 0, .bool false, .bool false, .int .i16 (-1), .int .i16 (-1)]) (T' := [(19, .agg #[.int .u8 0, .int .u8 0, .int .u16 0, .int .u32 0, .int .u16 0, .int .u32 0, .int .u16 0, .int .u32 0, .int .u64 0, .int .u64 0, .int .u64 0, .int .u64 0, .int .u64 0, .int .u8 0, .int .u8 0, .int .u32 0, .int .u32 0, .bool false, .bool false, .int .i16 (-1), .int .i16 (-1)]), (3, .pointer (some ⟨b2, 0, none⟩)), (0, .pointer (some ⟨kb, 0, none⟩)), (1, .agg #[.int .u8 c.ty, .int .u16 c.obj.idx, .int .u32 c.obj.gen, .int .u8 c.rights, .int .u64 c.badge]), (4, .int .i16 c.obj.idx), (11, .int .u8 c.ty), (18, .int .i16 c.obj.idx), (21, .pointer (some ⟨kb, 2, none⟩))]) rfl
    clear h31
    refine dr_batch tabOk tabZ_ok (by repeat (first | with_reducible exact PF.body | with_reducible apply PF.inB | with_reducible apply PF.next)) [(5, {})] [19, 3, 0, 1, 4, 11, 22] (T' := [(19, .agg #[.int .u8 0, .int .u8 0, .int .u16 0, .int .u32 0, .int .u16 0, .int .u32 0, .int .u16 0, .int .u32 0, .int .u64 0, .int .u64 0, .int .u64 0, .int .u64 0, .int .u64 0, .int .u8 0, .int .u8 0, .int .u32 0, .int .u32 0, .bool false, .bool false, .int .i16 (-1), .int .i16 (-1)]), (3, .pointer (some ⟨b2, 0, none⟩)), (0, .pointer (some ⟨kb, 0, none⟩)), (1, .agg #[.int .u8 c.ty, .int .u16 c.obj.idx, .int .u32 c.obj.gen, .int .u8 c.rights, .int .u64 c.badge]), (4, .int .i16 c.obj.idx), (11, .int .u8 c.ty), (22, .pointer (some ⟨kb, 2 + (c.obj.idx.toNat * 21), none⟩))]) (φ := (0 ≤ c.obj.idx ∧ c.obj.idx < 256) ∧ True) (fuel := 1) h32 (by kernel_rfl) rfl (by kernel_rfl) (by kernel_rfl) ⟨trivial, trivial⟩ ⟨⟨by omega, by omega⟩, trivial⟩ fun a33 h34 => ?_
    clear h32
    refine wpAnyK_one (i := 6) (fuel := 0) (by kernel_rfl) ?_
    refine op_store tabOk {k := 0, m := 1, vs := kC bo bc (S21.setT c.obj.idx.toNat noT)} (L' := [(kb, ⟨kC bo bc (S21.setT c.obj.idx.toNat noT), 90, false⟩), (b2, ⟨[.int .u8 c.ty, .int .u16 c.obj.idx, .int .u32 c.obj.gen, .int .u8 c.rights, .int .u64 c.badge], 49, false⟩)]) (φ := kb = kb ∧ Nat.ble (2 + (c.obj.idx.toNat * 21) + 21) (kC bo bc S21).length = true ∧ splice (kC bo bc S21) (2 + (c.obj.idx.toNat * 21)) [.int .u8 0, .int .u8 0, .int .u16 0, .int .u32 0, .int .u16 0, .int .u32 0, .int .u16 0, .int .u32 0, .int .u64 0, .int .u64 0, .int .u64 0, .int .u64 0, .int .u64 0, .int .u8 0, .int .u8 0, .int .u32 0, .int .u32 0, .bool false, .bool false, .int .i16 (-1), .int .i16 (-1)] = kC bo bc (S21.setT c.obj.idx.toNat noT)) h34 rfl rfl rfl (by kernel_rfl) ⟨rfl, k_in (by omega), (k_tcb_w (i := c.obj.idx.toNat) (k := 0) (a' := noT) (by omega) (Nat.le_of_ble_eq_true rfl) (by omega) (splice_noT _))⟩ fun w36 h37 => ?_
    obtain ⟨S35, eS35⟩ : ∃ S9, S9 = (S21.setT c.obj.idx.toNat noT) := ⟨_, rfl⟩
    rw [← eS35] at h37
    have rS35 : RI S35 := by rw [eS35]; exact rS21.setT noT_ok
    have hkh37 := h34.known
    refine ⟨keepNil, ?_⟩
    clear h34
    refine wpAnyK_done (by kernel_rfl) ?_ _
    refine hK26 _ _ ?_
    clear hK26
    refine wp_seq_k fun K38 hK38 => ?_
    refine nd_start (l := [0]) rfl ?_
    refine nd_batch tabOk tabZ_ok [(0, {})] [3, 0, 1, 4, 11, 23] (T' := [(3, .pointer (some ⟨b2, 0, none⟩)), (0, .pointer (some ⟨kb, 0, none⟩)), (1, .agg #[.int .u8 c.ty, .int .u16 c.obj.idx, .int .u32 c.obj.gen, .int .u8 c.rights, .int .u64 c.badge]), (4, .int .i16 c.obj.idx), (11, .int .u8 c.ty), (23, .int .i64 0)]) (φ := True) (rest := []) h37 (by kernel_rfl) rfl trivial fun a39 h40 => ?_
    clear h37
    refine nd_done ?_
    refine hK38 _ _ ?_
    clear hK38
    refine wp_block ?_
    refine wp_loop_ghost (fun g ga gw => ∃ (Sk : KP) (i : Int), ((g : Int) = 256 - i) ∧ (0 ≤ i ∧ i ≤ 256) ∧ (RI Sk) ∧ (Sk = wakeRep S35 c.obj i.toNat) ∧ St ⟨78, [kb], w, fun _ => True, []⟩ [(3, .pointer (some ⟨b2, 0, none⟩)), (0, .pointer (some ⟨kb, 0, none⟩)), (1, .agg #[.int .u8 c.ty, .int .u16 c.obj.idx, .int .u32 c.obj.gen, .int .u8 c.rights, .int .u64 c.badge]), (4, .int .i16 c.obj.idx), (23, .int .i64 i)] [(kb, ⟨kC bo bc Sk, 90, false⟩), (b2, ⟨[.int .u8 c.ty, .int .u16 c.obj.idx, .int .u32 c.obj.gen, .int .u8 c.rights, .int .u64 c.badge], 49, false⟩)] ga gw) 256 ⟨S35, 0, by decide, ⟨by decide, by decide⟩, rS35, rfl, (h40.slotsMono (restr_spec (keep := [3, 0, 1, 4, 23]) rfl))⟩ ?_
    clear h40
    rintro g a41 w42 ⟨Sk, i, hi44, hi45, hi46, hi47, h43⟩
    have hig := hi44
    have hi0 := hi45
    have rSk := hi46
    have eSk := hi47
    have hrw : Sk = wakeRep S35 c.obj i.toNat := eSk
    refine wp_seq_k fun K48 hK48 => ?_
    refine nd_start (l := [0]) rfl ?_
    refine nd_batch tabOk tabZ_ok [(0, {})] [3, 0, 1, 4, 23, 24] (T' := [(3, .pointer (some ⟨b2, 0, none⟩)), (0, .pointer (some ⟨kb, 0, none⟩)), (1, .agg #[.int .u8 c.ty, .int .u16 c.obj.idx, .int .u32 c.obj.gen, .int .u8 c.rights, .int .u64 c.badge]), (4, .int .i16 c.obj.idx), (23, .int .i64 i), (24, .bool (decide (i < 256)))]) (φ := True) (rest := []) h43 (by kernel_rfl) rfl trivial fun a49 h50 => ?_
    clear h43
    refine nd_done ?_
    refine hK48 _ _ ?_
    clear hK48
    refine wp_seq_k fun K51 hK51 => ?_
    refine c_split h50 (b := decide (i < 256)) rfl (fun hc52 => ?_) (fun hc52 => ?_)
    ·
      have hc52f : i < 256 := by simpa using hc52
      have hst : wakeRep S35 c.obj (i + 1).toNat = if (Sk.tcb i.toNat).st = 6 ∧ (Sk.tcb i.toNat).wait = c.obj then wakeP Sk i else Sk := by rw [show (i + 1).toNat = i.toNat + 1 by omega, wakeRep, ← hrw, show ((i.toNat : Nat) : Int) = i by omega]
      refine wp_skip ?_
      refine hK51 _ _ ?_
      clear hK51
      refine wp_seq_k fun K53 hK53 => ?_
      refine wp_block ?_
      refine wp_seq_k fun K54 hK54 => ?_
      refine nd_start (l := [0, 1]) rfl ?_
      refine nd_batch tabOk tabZ_ok [(0, {}), (1, {})] [3, 0, 1, 4, 23, 5] (T' := [(3, .pointer (some ⟨b2, 0, none⟩)), (0, .pointer (some ⟨kb, 0, none⟩)), (1, .agg #[.int .u8 c.ty, .int .u16 c.obj.idx, .int .u32 c.obj.gen, .int .u8 c.rights, .int .u64 c.badge]), (4, .int .i16 c.obj.idx), (23, .int .i64 i), (5, .int .i64 i)]) (φ := True) (rest := []) h50 (by kernel_rfl) rfl trivial fun a55 h56 => ?_
      clear h50
      refine nd_done ?_
      refine hK54 _ _ ?_
      clear hK54
      refine wp_seq_k fun K57 hK57 => ?_
      rcases Bool.eq_false_or_eq_true (((Sk.tcb i.toNat).st == 6)) with hb58 | hb58
      ·
        have hb58f : (Sk.tcb i.toNat).st = 6 := by simpa using hb58
        refine dr_start (KB := [kb, b2]) (Bi := [[0, 1], [0, 1], [0, 1], [0, 1], [0, 1], [0, 1], [0, 1], [0, 1], [0, 1], [0, 1], [0, 1], [0, 1], [0, 1], [0, 1], [0, 1], [0, 1], [0, 1], [0, 1], [0, 1], [0, 1], [0, 1], [0, 1]]) mixed h56 fun w59 h60 => ?_
        clear h56
        refine dr_batch tabOk tabZ_ok (by repeat (first | with_reducible exact PF.body | with_reducible apply PF.inB | with_reducible apply PF.next)) [(0, {}), (1, {}), (2, {}), (3, {}), (4, {}), (5, {}), (6, {}), (7, {k := 0, m := 1, vs := [.int .u8 ((Sk.tcb i.toNat).st)], p := 0}), (8, {f := 2}), (9, {}), (10, {}), (11, {}), (12, {}), (13, {}), (14, {}), (15, {}), (16, {}), (17, {k := 0, m := 1, vs := [.int .u16 ((Sk.tcb i.toNat).wait.idx), .int .u32 ((Sk.tcb i.toNat).wait.gen)], p := 0}), (18, {}), (19, {k := 1, p := 1}), (20, {vs := [.bool (decide ((Sk.tcb i.toNat).wait = c.obj))]}), (21, {})] [3, 0, 1, 4, 23, 5, 47] (T' := [(3, .pointer (some ⟨b2, 0, none⟩)), (0, .pointer (some ⟨kb, 0, none⟩)), (1, .agg #[.int .u8 c.ty, .int .u16 c.obj.idx, .int .u32 c.obj.gen, .int .u8 c.rights, .int .u64 c.badge]), (4, .int .i16 c.obj.idx), (23, .int .i64 i), (5, .int .i64 i), (47, .bool (Bool.xor false (decide ((Sk.tcb i.toNat).wait = c.obj))))]) (φ := (0 ≤ i ∧ i < 256) ∧ (kb = kb ∧ cellsAre (kC bo bc Sk) (2 + (i.toNat * 21)) [.int .u8 ((Sk.tcb i.toNat).st)]) ∧ (((Sk.tcb i.toNat).st == 6)) = true ∧ (0 ≤ i ∧ i < 256) ∧ (kb = kb ∧ cellsAre (kC bo bc Sk) (2 + (i.toNat * 21) + 2) [.int .u16 ((Sk.tcb i.toNat).wait.idx), .int .u32 ((Sk.tcb i.toNat).wait.gen)]) ∧ (b2 = b2 ∧ Nat.ble (1 + 2) 5 = true) ∧ EqRun Tryd.prog 39 (.agg #[.int .u16 ((Sk.tcb i.toNat).wait.idx), .int .u32 ((Sk.tcb i.toNat).wait.gen)]) (.agg #[.int .u16 c.obj.idx, .int .u32 c.obj.gen]) (decide ((Sk.tcb i.toNat).wait = c.obj)) ∧ True) (fuel := 0) h60 (by kernel_rfl) rfl (by kernel_rfl) (by kernel_rfl) ⟨trivial, trivial, trivial, trivial, trivial, trivial, trivial, rfl, trivial, trivial, trivial, trivial, trivial, trivial, trivial, trivial, trivial, rfl, trivial, rfl, trivial, trivial, trivial⟩ ⟨⟨by omega, by omega⟩, ⟨rfl, (k_tcb (i := i.toNat) (k := 0) (by omega) (by omega) ⟨rfl, trivial⟩)⟩, hb58, ⟨by omega, by omega⟩, ⟨rfl, (k_tcb (i := i.toNat) (k := 2) (by omega) (by omega) ⟨rfl, rfl, trivial⟩)⟩, ⟨rfl, rfl⟩, (runRf ((Sk.tcb i.toNat).wait) c.obj), trivial⟩ fun a62 h63 => ?_
        clear h60
        refine wpAnyK_done (by kernel_rfl) ?_ _
        refine hK57 _ _ ?_
        clear hK57
        refine c_split h63 (b := (Bool.xor false (decide ((Sk.tcb i.toNat).wait = c.obj)))) rfl (fun hc64 => ?_) (fun hc64 => ?_)
        ·
          have hc64f : (Sk.tcb i.toNat).wait = c.obj := by simpa using hc64
          rw [if_pos ⟨hb58f, hc64f⟩] at hst
          refine nd_start (l := [0, 1, 2, 3]) rfl ?_
          refine nd_batch tabOk tabZ_ok [(0, {}), (1, {}), (2, {})] [3, 0, 1, 4, 23, 5, 48, 50] (T' := [(3, .pointer (some ⟨b2, 0, none⟩)), (0, .pointer (some ⟨kb, 0, none⟩)), (1, .agg #[.int .u8 c.ty, .int .u16 c.obj.idx, .int .u32 c.obj.gen, .int .u8 c.rights, .int .u64 c.badge]), (4, .int .i16 c.obj.idx), (23, .int .i64 i), (5, .int .i64 i), (48, .pointer (some ⟨kb, 0, none⟩)), (50, .int .i16 i)]) (φ := inR .i16 i ∧ True) (rest := [3]) h63 (by kernel_rfl) rfl ⟨⟨by omega, by omega⟩, trivial⟩ fun a65 h66 => ?_
          clear h63
          refine nd_op ?_
          refine op_call h66 rfl rfl rfl (callOk Tryd.func47 (by decide) rfl) (args := [.pointer (some ⟨kb, 0, none⟩), .int .i16 i]) rfl (wake_ok kb bo bc Sk rSk i ⟨by omega, by omega⟩ _ (h66.kn (k := 0) rfl)) ?_
          rintro _ w70 ⟨rfl, hb68, hf69⟩
          refine ⟨_, rfl, ?_⟩
          obtain ⟨S67, eS67⟩ : ∃ S9, S9 = wakeP Sk i := ⟨_, rfl⟩
          rw [← eS67] at hb68
          have rS67 : RI S67 := by rw [eS67]; exact wake_RI rSk ⟨by omega, by omega⟩
          have h71 := (h66.setBlk (k := 0) rfl rfl hf69 hb68 (L' := [(kb, ⟨kC bo bc S67, 90, false⟩), (b2, ⟨[.int .u8 c.ty, .int .u16 c.obj.idx, .int .u32 c.obj.gen, .int .u8 c.rights, .int .u64 c.badge], 49, false⟩)]) rfl).put (d := some 51) (v := .tuple #[]) (T' := [(51, .tuple #[]), (3, .pointer (some ⟨b2, 0, none⟩)), (0, .pointer (some ⟨kb, 0, none⟩)), (1, .agg #[.int .u8 c.ty, .int .u16 c.obj.idx, .int .u32 c.obj.gen, .int .u8 c.rights, .int .u64 c.badge]), (4, .int .i16 c.obj.idx), (23, .int .i64 i), (5, .int .i64 i), (48, .pointer (some ⟨kb, 0, none⟩)), (50, .int .i16 i)]) rfl
          clear h66
          refine nd_done ?_
          refine hK53 _ _ ?_
          clear hK53
          refine nd_start (l := [0, 1]) rfl ?_
          refine nd_batch tabOk tabZ_ok [(0, {}), (1, {})] [3, 0, 1, 4, 5, 23] (T' := [(3, .pointer (some ⟨b2, 0, none⟩)), (0, .pointer (some ⟨kb, 0, none⟩)), (1, .agg #[.int .u8 c.ty, .int .u16 c.obj.idx, .int .u32 c.obj.gen, .int .u8 c.rights, .int .u64 c.badge]), (4, .int .i16 c.obj.idx), (5, .int .i64 i), (23, .int .i64 (i + 1))]) (φ := inR .i64 (i + 1) ∧ True) (rest := []) h71 (by kernel_rfl) rfl ⟨⟨by omega, by omega⟩, trivial⟩ fun a72 h73 => ?_
          clear h71
          refine nd_done ?_
          exact ⟨(g - 1), by omega, S67, (i + 1), by omega, ⟨by omega, by omega⟩, rS67, (by rw [hst, eS67]), (h73.slotsMono (restr_spec (keep := [3, 0, 1, 4, 23]) rfl))⟩
        ·
          have hc64f : ¬ ((Sk.tcb i.toNat).wait = c.obj) := by simpa using hc64
          rw [if_neg (fun hz => hc64f hz.2)] at hst
          refine wp_skip ?_
          refine hK53 _ _ ?_
          clear hK53
          refine nd_start (l := [0, 1]) rfl ?_
          refine nd_batch tabOk tabZ_ok [(0, {}), (1, {})] [3, 0, 1, 4, 5, 23] (T' := [(3, .pointer (some ⟨b2, 0, none⟩)), (0, .pointer (some ⟨kb, 0, none⟩)), (1, .agg #[.int .u8 c.ty, .int .u16 c.obj.idx, .int .u32 c.obj.gen, .int .u8 c.rights, .int .u64 c.badge]), (4, .int .i16 c.obj.idx), (5, .int .i64 i), (23, .int .i64 (i + 1))]) (φ := inR .i64 (i + 1) ∧ True) (rest := []) h63 (by kernel_rfl) rfl ⟨⟨by omega, by omega⟩, trivial⟩ fun a74 h75 => ?_
          clear h63
          refine nd_done ?_
          exact ⟨(g - 1), by omega, Sk, (i + 1), by omega, ⟨by omega, by omega⟩, rSk, (by rw [hst]), (h75.slotsMono (restr_spec (keep := [3, 0, 1, 4, 23]) rfl))⟩
      ·
        have hb58f : (Sk.tcb i.toNat).st ≠ 6 := by simpa using hb58
        rw [if_neg (fun hz => hb58f hz.1)] at hst
        refine dr_start (KB := [kb, b2]) (Bi := [[0, 1], [0, 1], [0, 1], [0, 1], [0, 1], [0, 1], [0, 1], [0, 1], [0, 1], [0, 1], [0, 1], [0, 1], [0, 1], [0, 1], [0, 1], [0, 1], [0, 1], [0, 1], [0, 1], [0, 1], [0, 1], [0, 1]]) mixed h56 fun w76 h77 => ?_
        clear h56
        refine dr_batch tabOk tabZ_ok (by repeat (first | with_reducible exact PF.body | with_reducible apply PF.inB | with_reducible apply PF.next)) [(0, {}), (1, {}), (2, {}), (3, {}), (4, {}), (5, {}), (6, {}), (7, {k := 0, m := 1, vs := [.int .u8 ((Sk.tcb i.toNat).st)], p := 0}), (8, {f := 1}), (9, {}), (10, {}), (11, {}), (12, {}), (13, {}), (14, {}), (15, {}), (16, {}), (17, {k := 0, p := 0}), (18, {}), (19, {k := 0, p := 0}), (20, {}), (21, {})] [3, 0, 1, 4, 23, 5, 47] (T' := [(3, .pointer (some ⟨b2, 0, none⟩)), (0, .pointer (some ⟨kb, 0, none⟩)), (1, .agg #[.int .u8 c.ty, .int .u16 c.obj.idx, .int .u32 c.obj.gen, .int .u8 c.rights, .int .u64 c.badge]), (4, .int .i16 c.obj.idx), (23, .int .i64 i), (5, .int .i64 i), (47, .bool false)]) (φ := (0 ≤ i ∧ i < 256) ∧ (kb = kb ∧ cellsAre (kC bo bc Sk) (2 + (i.toNat * 21)) [.int .u8 ((Sk.tcb i.toNat).st)]) ∧ (((Sk.tcb i.toNat).st == 6)) = false ∧ True) (fuel := 0) h77 (by kernel_rfl) rfl (by kernel_rfl) (by kernel_rfl) ⟨trivial, trivial, trivial, trivial, trivial, trivial, trivial, rfl, trivial, trivial, trivial, trivial, trivial, trivial, trivial, trivial, trivial, rfl, trivial, rfl, trivial, trivial, trivial⟩ ⟨⟨by omega, by omega⟩, ⟨rfl, (k_tcb (i := i.toNat) (k := 0) (by omega) (by omega) ⟨rfl, trivial⟩)⟩, hb58, trivial⟩ fun a79 h80 => ?_
        clear h77
        refine wpAnyK_done (by kernel_rfl) ?_ _
        refine hK57 _ _ ?_
        clear hK57
        refine c_false h80 rfl ?_
        refine wp_skip ?_
        refine hK53 _ _ ?_
        clear hK53
        refine nd_start (l := [0, 1]) rfl ?_
        refine nd_batch tabOk tabZ_ok [(0, {}), (1, {})] [3, 0, 1, 4, 5, 23] (T' := [(3, .pointer (some ⟨b2, 0, none⟩)), (0, .pointer (some ⟨kb, 0, none⟩)), (1, .agg #[.int .u8 c.ty, .int .u16 c.obj.idx, .int .u32 c.obj.gen, .int .u8 c.rights, .int .u64 c.badge]), (4, .int .i16 c.obj.idx), (5, .int .i64 i), (23, .int .i64 (i + 1))]) (φ := inR .i64 (i + 1) ∧ True) (rest := []) h80 (by kernel_rfl) rfl ⟨⟨by omega, by omega⟩, trivial⟩ fun a81 h82 => ?_
        clear h80
        refine nd_done ?_
        exact ⟨(g - 1), by omega, Sk, (i + 1), by omega, ⟨by omega, by omega⟩, rSk, (by rw [hst]), (h82.slotsMono (restr_spec (keep := [3, 0, 1, 4, 23]) rfl))⟩
    ·
      have hc52f : ¬ i < 256 := by simpa using hc52
      have hi256 : i.toNat = 256 := by omega
      rw [hi256] at hrw
      refine wp_exit ?_
      try simp only [Exit.then, Exit.inBlock]
      try rw [if_pos trivial]
      exact s_end tabOk tabZ_ok h50 [] (vs := []) (φ := True) rfl (by kernel_rfl) trivial ⟨rfl, (by rw [show buryP S c = Sk from (by unfold buryP; rw [if_pos hc17f, ← eS21, ← eS35, ← hrw])]; exact h50.kn (k := 0) rfl), h50.frame⟩
  ·
    have hc17f : c.ty ≠ 3 := by simpa using hc17
    refine wp_seq_k fun K83 hK83 => ?_
    refine wp_seq_k fun K84 hK84 => ?_
    refine nd_start (l := [0, 1]) rfl ?_
    refine nd_batch tabOk tabZ_ok [(0, {}), (1, {})] [3, 0, 1, 4, 11, 53] (T' := [(3, .pointer (some ⟨b2, 0, none⟩)), (0, .pointer (some ⟨kb, 0, none⟩)), (1, .agg #[.int .u8 c.ty, .int .u16 c.obj.idx, .int .u32 c.obj.gen, .int .u8 c.rights, .int .u64 c.badge]), (4, .int .i16 c.obj.idx), (11, .int .u8 c.ty), (53, .bool (c.ty == 4))]) (φ := True) (rest := []) h16 (by kernel_rfl) rfl trivial fun a85 h86 => ?_
    clear h16
    refine nd_done ?_
    refine hK84 _ _ ?_
    clear hK84
    refine c_split h86 (b := (c.ty == 4)) rfl (fun hc87 => ?_) (fun hc87 => ?_)
    ·
      have hc87f : c.ty = 4 := by simpa using hc87
      refine wp_skip ?_
      refine hK83 _ _ ?_
      clear hK83
      refine c_split h86 (b := (c.ty == 4)) rfl (fun hc88 => ?_) (fun hc88 => ?_)
      ·
        have hc88f : c.ty = 4 := by simpa using hc88
        refine wp_seq_k fun K89 hK89 => ?_
        refine wp_block ?_
        have hql := nodup_len (hQ.lx.ch (L := .w c.obj.idx.toNat) (show _ < 256 by omega)).nd (hQ.lx.ch (L := .w c.obj.idx.toNat) (show _ < 256 by omega)).lt
        refine wp_loop_ghost (fun g ga gw => ∃ (Sk : KP) (Qk : QL → List Nat), (RI Sk) ∧ (LIQ Sk Qk) ∧ ((Qk (.w c.obj.idx.toNat)).length ≤ g) ∧ (drainP (g + 1) Sk c.obj.idx.toNat = drainP 257 S c.obj.idx.toNat) ∧ St ⟨78, [kb], w, fun _ => True, []⟩ [(3, .pointer (some ⟨b2, 0, none⟩)), (0, .pointer (some ⟨kb, 0, none⟩)), (1, .agg #[.int .u8 c.ty, .int .u16 c.obj.idx, .int .u32 c.obj.gen, .int .u8 c.rights, .int .u64 c.badge]), (4, .int .i16 c.obj.idx)] [(kb, ⟨kC bo bc Sk, 90, false⟩), (b2, ⟨[.int .u8 c.ty, .int .u16 c.obj.idx, .int .u32 c.obj.gen, .int .u8 c.rights, .int .u64 c.badge], 49, false⟩)] ga gw) 256 ⟨S, Q, rS, hQ, hql, rfl, (h86.slotsMono (restr_spec (keep := [3, 0, 1, 4]) rfl))⟩ ?_
        clear h86
        rintro g a90 w91 ⟨Sk, Qk, hi93, hi94, hi95, hi96, h92⟩
        have rSk := hi93
        have hQk := hi94
        have hlk := hi95
        have hdr := hi96
        have hhd := hQk.head (i := c.obj.idx.toNat) (by omega)
        refine wp_seq_k fun K97 hK97 => ?_
        refine wp_seq_k fun K98 hK98 => ?_
        refine nd_start (l := [0, 1, 2, 3, 4, 5, 6, 7]) rfl ?_
        refine nd_batch tabOk tabZ_ok [(0, {}), (1, {}), (2, {}), (3, {}), (4, {}), (5, {}), (6, {k := 0, m := 1, vs := [.int .i16 ((Sk.wq c.obj.idx.toNat).head)]}), (7, {})] [3, 0, 1, 4, 63] (T' := [(3, .pointer (some ⟨b2, 0, none⟩)), (0, .pointer (some ⟨kb, 0, none⟩)), (1, .agg #[.int .u8 c.ty, .int .u16 c.obj.idx, .int .u32 c.obj.gen, .int .u8 c.rights, .int .u64 c.badge]), (4, .int .i16 c.obj.idx), (63, .bool ((Sk.wq c.obj.idx.toNat).head != -1))]) (φ := (0 ≤ c.obj.idx ∧ c.obj.idx < 256) ∧ (kb = kb ∧ cellsAre (kC bo bc Sk) (5378 + (c.obj.idx.toNat * 3)) [.int .i16 ((Sk.wq c.obj.idx.toNat).head)]) ∧ True) (rest := []) h92 (by kernel_rfl) rfl ⟨⟨by omega, by omega⟩, ⟨rfl, (k_wq (i := c.obj.idx.toNat) (k := 0) (by omega) (by omega) ⟨rfl, trivial⟩)⟩, trivial⟩ fun a99 h100 => ?_
        clear h92
        refine nd_done ?_
        refine hK98 _ _ ?_
        clear hK98
        refine c_split h100 (b := ((Sk.wq c.obj.idx.toNat).head != -1)) rfl (fun hc101 => ?_) (fun hc101 => ?_)
        ·
          have hc101f : (Sk.wq c.obj.idx.toNat).head ≠ -1 := by simpa using hc101
          obtain ⟨x, r, hqr⟩ : ∃ x r, Qk (.w c.obj.idx.toNat) = x :: r := by cases hz : Qk (.w c.obj.idx.toNat) with | nil => rw [hz] at hhd; exact absurd hhd hc101f | cons x r => exact ⟨x, r, rfl⟩
          obtain ⟨hx256, Qn, hQn, hQnr⟩ := wake_head rSk hQk (by omega) hqr
          have hxe : (Sk.wq c.obj.idx.toNat).head = (x : Int) := by rw [hhd, hqr]; rfl
          rw [drainP, if_neg hc101f] at hdr
          rw [hqr, List.length_cons] at hlk
          have hwx : 0 ≤ (Sk.wq c.obj.idx.toNat).head ∧ (Sk.wq c.obj.idx.toNat).head < 256 := by rw [hxe]; exact ⟨by omega, by omega⟩
          refine wp_skip ?_
          refine hK97 _ _ ?_
          clear hK97
          refine wp_block ?_
          refine nd_start (l := [0, 1, 2, 3, 4, 5, 6, 7, 8]) rfl ?_
          refine nd_batch tabOk tabZ_ok [(0, {}), (1, {}), (2, {}), (3, {}), (4, {}), (5, {}), (6, {}), (7, {k := 0, m := 1, vs := [.int .i16 ((Sk.wq c.obj.idx.toNat).head)]})] [3, 0, 1, 4, 64, 71] (T' := [(3, .pointer (some ⟨b2, 0, none⟩)), (0, .pointer (some ⟨kb, 0, none⟩)), (1, .agg #[.int .u8 c.ty, .int .u16 c.obj.idx, .int .u32 c.obj.gen, .int .u8 c.rights, .int .u64 c.badge]), (4, .int .i16 c.obj.idx), (64, .pointer (some ⟨kb, 0, none⟩)), (71, .int .i16 ((Sk.wq c.obj.idx.toNat).head))]) (φ := (0 ≤ c.obj.idx ∧ c.obj.idx < 256) ∧ (kb = kb ∧ cellsAre (kC bo bc Sk) (5378 + (c.obj.idx.toNat * 3)) [.int .i16 ((Sk.wq c.obj.idx.toNat).head)]) ∧ True) (rest := [8]) h100 (by kernel_rfl) rfl ⟨⟨by omega, by omega⟩, ⟨rfl, (k_wq (i := c.obj.idx.toNat) (k := 0) (by omega) (by omega) ⟨rfl, trivial⟩)⟩, trivial⟩ fun a102 h103 => ?_
          clear h100
          refine nd_op ?_
          refine op_call h103 rfl rfl rfl (callOk Tryd.func47 (by decide) rfl) (args := [.pointer (some ⟨kb, 0, none⟩), .int .i16 ((Sk.wq c.obj.idx.toNat).head)]) rfl (wake_ok kb bo bc Sk rSk ((Sk.wq c.obj.idx.toNat).head) hwx _ (h103.kn (k := 0) rfl)) ?_
          rintro _ w107 ⟨rfl, hb105, hf106⟩
          refine ⟨_, rfl, ?_⟩
          obtain ⟨S104, eS104⟩ : ∃ S9, S9 = wakeP Sk ((Sk.wq c.obj.idx.toNat).head) := ⟨_, rfl⟩
          rw [← eS104] at hb105
          have rS104 : RI S104 := by rw [eS104]; exact wake_RI rSk hwx
          have h108 := (h103.setBlk (k := 0) rfl rfl hf106 hb105 (L' := [(kb, ⟨kC bo bc S104, 90, false⟩), (b2, ⟨[.int .u8 c.ty, .int .u16 c.obj.idx, .int .u32 c.obj.gen, .int .u8 c.rights, .int .u64 c.badge], 49, false⟩)]) rfl).put (d := some 72) (v := .tuple #[]) (T' := [(72, .tuple #[]), (3, .pointer (some ⟨b2, 0, none⟩)), (0, .pointer (some ⟨kb, 0, none⟩)), (1, .agg #[.int .u8 c.ty, .int .u16 c.obj.idx, .int .u32 c.obj.gen, .int .u8 c.rights, .int .u64 c.badge]), (4, .int .i16 c.obj.idx), (64, .pointer (some ⟨kb, 0, none⟩)), (71, .int .i16 ((Sk.wq c.obj.idx.toNat).head))]) rfl
          clear h103
          refine nd_done ?_
          exact ⟨(g - 1), by omega, S104, Qn, rS104, (by rw [eS104, hxe]; exact hQn), (by rw [hQnr]; omega), (by rw [show g - 1 + 1 = g by omega, eS104]; exact hdr), (h108.slotsMono (restr_spec (keep := [3, 0, 1, 4]) rfl))⟩
        ·
          have hc101f : (Sk.wq c.obj.idx.toNat).head = -1 := by simpa using hc101
          rw [drainP, if_pos hc101f] at hdr
          refine wp_exit ?_
          refine hK89 _ _ ?_
          clear hK89
          refine nd_start (l := [0, 1, 2, 3, 4, 5]) rfl ?_
          refine nd_batch tabOk tabZ_ok [(0, {}), (1, {}), (2, {}), (3, {}), (4, {})] [3, 0, 1, 4, 77] (T' := [(3, .pointer (some ⟨b2, 0, none⟩)), (0, .pointer (some ⟨kb, 0, none⟩)), (1, .agg #[.int .u8 c.ty, .int .u16 c.obj.idx, .int .u32 c.obj.gen, .int .u8 c.rights, .int .u64 c.badge]), (4, .int .i16 c.obj.idx), (77, .pointer (some ⟨kb, 6146 + (c.obj.idx.toNat * 1), none⟩))]) (φ := (0 ≤ c.obj.idx ∧ c.obj.idx < 256) ∧ True) (rest := [5]) h100 (by kernel_rfl) rfl ⟨⟨by omega, by omega⟩, trivial⟩ fun a109 h110 => ?_
          clear h100
          refine nd_op ?_
          refine op_store tabOk {k := 0, m := 1, vs := kC bo bc ({ Sk with word := upd Sk.word c.obj.idx.toNat 0 })} (L' := [(kb, ⟨kC bo bc ({ Sk with word := upd Sk.word c.obj.idx.toNat 0 }), 90, false⟩), (b2, ⟨[.int .u8 c.ty, .int .u16 c.obj.idx, .int .u32 c.obj.gen, .int .u8 c.rights, .int .u64 c.badge], 49, false⟩)]) (φ := kb = kb ∧ Nat.ble (6146 + (c.obj.idx.toNat * 1) + 1) (kC bo bc Sk).length = true ∧ splice (kC bo bc Sk) (6146 + (c.obj.idx.toNat * 1)) [.int .u64 0] = kC bo bc ({ Sk with word := upd Sk.word c.obj.idx.toNat 0 })) h110 rfl rfl rfl (by kernel_rfl) ⟨rfl, k_in (by omega), (k_word_w (i := c.obj.idx.toNat) (k := 0) (by omega) (Nat.le_of_ble_eq_true rfl) (by omega) rfl)⟩ fun w112 h113 => ?_
          obtain ⟨S111, eS111⟩ : ∃ S9, S9 = { Sk with word := upd Sk.word c.obj.idx.toNat 0 } := ⟨_, rfl⟩
          rw [← eS111] at h113
          have rS111 : RI S111 := by rw [eS111]; exact rSk.setWord _
          clear h110
          refine nd_done ?_
          try simp only [Exit.then, Exit.inBlock]
          try rw [if_pos trivial]
          exact s_end tabOk tabZ_ok h113 [] (vs := []) (φ := True) rfl (by kernel_rfl) trivial ⟨rfl, (by rw [show buryP S c = S111 from (by unfold buryP; rw [if_neg hc17f, if_pos (.inl hc87f), ← hdr, ← eS111])]; exact h113.kn (k := 0) rfl), h113.frame⟩
      ·
        exact absurd (hc88.symm.trans hc87) (by decide)
    ·
      have hc87f : c.ty ≠ 4 := by simpa using hc87
      refine nd_start (l := [0, 1]) rfl ?_
      refine nd_batch tabOk tabZ_ok [(0, {}), (1, {})] [3, 0, 1, 4, 11, 53] (T' := [(3, .pointer (some ⟨b2, 0, none⟩)), (0, .pointer (some ⟨kb, 0, none⟩)), (1, .agg #[.int .u8 c.ty, .int .u16 c.obj.idx, .int .u32 c.obj.gen, .int .u8 c.rights, .int .u64 c.badge]), (4, .int .i16 c.obj.idx), (11, .int .u8 c.ty), (53, .bool (c.ty == 5))]) (φ := True) (rest := []) h86 (by kernel_rfl) rfl trivial fun a114 h115 => ?_
      clear h86
      refine nd_done ?_
      refine hK83 _ _ ?_
      clear hK83
      refine c_split h115 (b := (c.ty == 5)) rfl (fun hc116 => ?_) (fun hc116 => ?_)
      ·
        have hc116f : c.ty = 5 := by simpa using hc116
        refine wp_seq_k fun K117 hK117 => ?_
        refine wp_block ?_
        have hql := nodup_len (hQ.lx.ch (L := .w c.obj.idx.toNat) (show _ < 256 by omega)).nd (hQ.lx.ch (L := .w c.obj.idx.toNat) (show _ < 256 by omega)).lt
        refine wp_loop_ghost (fun g ga gw => ∃ (Sk : KP) (Qk : QL → List Nat), (RI Sk) ∧ (LIQ Sk Qk) ∧ ((Qk (.w c.obj.idx.toNat)).length ≤ g) ∧ (drainP (g + 1) Sk c.obj.idx.toNat = drainP 257 S c.obj.idx.toNat) ∧ St ⟨78, [kb], w, fun _ => True, []⟩ [(3, .pointer (some ⟨b2, 0, none⟩)), (0, .pointer (some ⟨kb, 0, none⟩)), (1, .agg #[.int .u8 c.ty, .int .u16 c.obj.idx, .int .u32 c.obj.gen, .int .u8 c.rights, .int .u64 c.badge]), (4, .int .i16 c.obj.idx)] [(kb, ⟨kC bo bc Sk, 90, false⟩), (b2, ⟨[.int .u8 c.ty, .int .u16 c.obj.idx, .int .u32 c.obj.gen, .int .u8 c.rights, .int .u64 c.badge], 49, false⟩)] ga gw) 256 ⟨S, Q, rS, hQ, hql, rfl, (h115.slotsMono (restr_spec (keep := [3, 0, 1, 4]) rfl))⟩ ?_
        clear h115
        rintro g a118 w119 ⟨Sk, Qk, hi121, hi122, hi123, hi124, h120⟩
        have rSk := hi121
        have hQk := hi122
        have hlk := hi123
        have hdr := hi124
        have hhd := hQk.head (i := c.obj.idx.toNat) (by omega)
        refine wp_seq_k fun K125 hK125 => ?_
        refine wp_seq_k fun K126 hK126 => ?_
        refine nd_start (l := [0, 1, 2, 3, 4, 5, 6, 7]) rfl ?_
        refine nd_batch tabOk tabZ_ok [(0, {}), (1, {}), (2, {}), (3, {}), (4, {}), (5, {}), (6, {k := 0, m := 1, vs := [.int .i16 ((Sk.wq c.obj.idx.toNat).head)]}), (7, {})] [3, 0, 1, 4, 63] (T' := [(3, .pointer (some ⟨b2, 0, none⟩)), (0, .pointer (some ⟨kb, 0, none⟩)), (1, .agg #[.int .u8 c.ty, .int .u16 c.obj.idx, .int .u32 c.obj.gen, .int .u8 c.rights, .int .u64 c.badge]), (4, .int .i16 c.obj.idx), (63, .bool ((Sk.wq c.obj.idx.toNat).head != -1))]) (φ := (0 ≤ c.obj.idx ∧ c.obj.idx < 256) ∧ (kb = kb ∧ cellsAre (kC bo bc Sk) (5378 + (c.obj.idx.toNat * 3)) [.int .i16 ((Sk.wq c.obj.idx.toNat).head)]) ∧ True) (rest := []) h120 (by kernel_rfl) rfl ⟨⟨by omega, by omega⟩, ⟨rfl, (k_wq (i := c.obj.idx.toNat) (k := 0) (by omega) (by omega) ⟨rfl, trivial⟩)⟩, trivial⟩ fun a127 h128 => ?_
        clear h120
        refine nd_done ?_
        refine hK126 _ _ ?_
        clear hK126
        refine c_split h128 (b := ((Sk.wq c.obj.idx.toNat).head != -1)) rfl (fun hc129 => ?_) (fun hc129 => ?_)
        ·
          have hc129f : (Sk.wq c.obj.idx.toNat).head ≠ -1 := by simpa using hc129
          obtain ⟨x, r, hqr⟩ : ∃ x r, Qk (.w c.obj.idx.toNat) = x :: r := by cases hz : Qk (.w c.obj.idx.toNat) with | nil => rw [hz] at hhd; exact absurd hhd hc129f | cons x r => exact ⟨x, r, rfl⟩
          obtain ⟨hx256, Qn, hQn, hQnr⟩ := wake_head rSk hQk (by omega) hqr
          have hxe : (Sk.wq c.obj.idx.toNat).head = (x : Int) := by rw [hhd, hqr]; rfl
          rw [drainP, if_neg hc129f] at hdr
          rw [hqr, List.length_cons] at hlk
          have hwx : 0 ≤ (Sk.wq c.obj.idx.toNat).head ∧ (Sk.wq c.obj.idx.toNat).head < 256 := by rw [hxe]; exact ⟨by omega, by omega⟩
          refine wp_skip ?_
          refine hK125 _ _ ?_
          clear hK125
          refine wp_block ?_
          refine nd_start (l := [0, 1, 2, 3, 4, 5, 6, 7, 8]) rfl ?_
          refine nd_batch tabOk tabZ_ok [(0, {}), (1, {}), (2, {}), (3, {}), (4, {}), (5, {}), (6, {}), (7, {k := 0, m := 1, vs := [.int .i16 ((Sk.wq c.obj.idx.toNat).head)]})] [3, 0, 1, 4, 64, 71] (T' := [(3, .pointer (some ⟨b2, 0, none⟩)), (0, .pointer (some ⟨kb, 0, none⟩)), (1, .agg #[.int .u8 c.ty, .int .u16 c.obj.idx, .int .u32 c.obj.gen, .int .u8 c.rights, .int .u64 c.badge]), (4, .int .i16 c.obj.idx), (64, .pointer (some ⟨kb, 0, none⟩)), (71, .int .i16 ((Sk.wq c.obj.idx.toNat).head))]) (φ := (0 ≤ c.obj.idx ∧ c.obj.idx < 256) ∧ (kb = kb ∧ cellsAre (kC bo bc Sk) (5378 + (c.obj.idx.toNat * 3)) [.int .i16 ((Sk.wq c.obj.idx.toNat).head)]) ∧ True) (rest := [8]) h128 (by kernel_rfl) rfl ⟨⟨by omega, by omega⟩, ⟨rfl, (k_wq (i := c.obj.idx.toNat) (k := 0) (by omega) (by omega) ⟨rfl, trivial⟩)⟩, trivial⟩ fun a130 h131 => ?_
          clear h128
          refine nd_op ?_
          refine op_call h131 rfl rfl rfl (callOk Tryd.func47 (by decide) rfl) (args := [.pointer (some ⟨kb, 0, none⟩), .int .i16 ((Sk.wq c.obj.idx.toNat).head)]) rfl (wake_ok kb bo bc Sk rSk ((Sk.wq c.obj.idx.toNat).head) hwx _ (h131.kn (k := 0) rfl)) ?_
          rintro _ w135 ⟨rfl, hb133, hf134⟩
          refine ⟨_, rfl, ?_⟩
          obtain ⟨S132, eS132⟩ : ∃ S9, S9 = wakeP Sk ((Sk.wq c.obj.idx.toNat).head) := ⟨_, rfl⟩
          rw [← eS132] at hb133
          have rS132 : RI S132 := by rw [eS132]; exact wake_RI rSk hwx
          have h136 := (h131.setBlk (k := 0) rfl rfl hf134 hb133 (L' := [(kb, ⟨kC bo bc S132, 90, false⟩), (b2, ⟨[.int .u8 c.ty, .int .u16 c.obj.idx, .int .u32 c.obj.gen, .int .u8 c.rights, .int .u64 c.badge], 49, false⟩)]) rfl).put (d := some 72) (v := .tuple #[]) (T' := [(72, .tuple #[]), (3, .pointer (some ⟨b2, 0, none⟩)), (0, .pointer (some ⟨kb, 0, none⟩)), (1, .agg #[.int .u8 c.ty, .int .u16 c.obj.idx, .int .u32 c.obj.gen, .int .u8 c.rights, .int .u64 c.badge]), (4, .int .i16 c.obj.idx), (64, .pointer (some ⟨kb, 0, none⟩)), (71, .int .i16 ((Sk.wq c.obj.idx.toNat).head))]) rfl
          clear h131
          refine nd_done ?_
          exact ⟨(g - 1), by omega, S132, Qn, rS132, (by rw [eS132, hxe]; exact hQn), (by rw [hQnr]; omega), (by rw [show g - 1 + 1 = g by omega, eS132]; exact hdr), (h136.slotsMono (restr_spec (keep := [3, 0, 1, 4]) rfl))⟩
        ·
          have hc129f : (Sk.wq c.obj.idx.toNat).head = -1 := by simpa using hc129
          rw [drainP, if_pos hc129f] at hdr
          refine wp_exit ?_
          refine hK117 _ _ ?_
          clear hK117
          refine nd_start (l := [0, 1, 2, 3, 4, 5]) rfl ?_
          refine nd_batch tabOk tabZ_ok [(0, {}), (1, {}), (2, {}), (3, {}), (4, {})] [3, 0, 1, 4, 77] (T' := [(3, .pointer (some ⟨b2, 0, none⟩)), (0, .pointer (some ⟨kb, 0, none⟩)), (1, .agg #[.int .u8 c.ty, .int .u16 c.obj.idx, .int .u32 c.obj.gen, .int .u8 c.rights, .int .u64 c.badge]), (4, .int .i16 c.obj.idx), (77, .pointer (some ⟨kb, 6146 + (c.obj.idx.toNat * 1), none⟩))]) (φ := (0 ≤ c.obj.idx ∧ c.obj.idx < 256) ∧ True) (rest := [5]) h128 (by kernel_rfl) rfl ⟨⟨by omega, by omega⟩, trivial⟩ fun a137 h138 => ?_
          clear h128
          refine nd_op ?_
          refine op_store tabOk {k := 0, m := 1, vs := kC bo bc ({ Sk with word := upd Sk.word c.obj.idx.toNat 0 })} (L' := [(kb, ⟨kC bo bc ({ Sk with word := upd Sk.word c.obj.idx.toNat 0 }), 90, false⟩), (b2, ⟨[.int .u8 c.ty, .int .u16 c.obj.idx, .int .u32 c.obj.gen, .int .u8 c.rights, .int .u64 c.badge], 49, false⟩)]) (φ := kb = kb ∧ Nat.ble (6146 + (c.obj.idx.toNat * 1) + 1) (kC bo bc Sk).length = true ∧ splice (kC bo bc Sk) (6146 + (c.obj.idx.toNat * 1)) [.int .u64 0] = kC bo bc ({ Sk with word := upd Sk.word c.obj.idx.toNat 0 })) h138 rfl rfl rfl (by kernel_rfl) ⟨rfl, k_in (by omega), (k_word_w (i := c.obj.idx.toNat) (k := 0) (by omega) (Nat.le_of_ble_eq_true rfl) (by omega) rfl)⟩ fun w140 h141 => ?_
          obtain ⟨S139, eS139⟩ : ∃ S9, S9 = { Sk with word := upd Sk.word c.obj.idx.toNat 0 } := ⟨_, rfl⟩
          rw [← eS139] at h141
          have rS139 : RI S139 := by rw [eS139]; exact rSk.setWord _
          clear h138
          refine nd_done ?_
          try simp only [Exit.then, Exit.inBlock]
          try rw [if_pos trivial]
          exact s_end tabOk tabZ_ok h141 [] (vs := []) (φ := True) rfl (by kernel_rfl) trivial ⟨rfl, (by rw [show buryP S c = S139 from (by unfold buryP; rw [if_neg hc17f, if_pos (.inr hc116f), ← hdr, ← eS139])]; exact h141.kn (k := 0) rfl), h141.frame⟩
      ·
        have hc116f : c.ty ≠ 5 := by simpa using hc116
        refine wp_skip ?_
        try simp only [Exit.then, Exit.inBlock]
        try rw [if_pos trivial]
        exact s_end tabOk tabZ_ok h115 [] (vs := []) (φ := True) rfl (by kernel_rfl) trivial ⟨rfl, (by rw [show buryP S c = S from (by unfold buryP; rw [if_neg hc17f, if_neg (fun hz => hz.elim hc87f hc116f)])]; exact h115.kn (k := 0) rfl), h115.frame⟩

end Go.Proofs.Qxb6500918aDoor
