/-
  oldest, signal, report. (Made by program: a symbolic walk that prints its steps.)
-/
import Derived.Test.Qxb6500918aDoorK2
namespace Go.Proofs.Qxb6500918aDoor
open Go.Sx Go.Kn
set_option maxRecDepth 100000
set_option maxHeartbeats 4000000
set_option linter.unusedVariables false
set_option linter.unusedSimpArgs false

theorem oldest_ok (kb bo bc : Nat) (S : KP) (rS : RI S) (o : Rf) (s : Int) (ho : 0 ≤ o.idx ∧ o.idx < 256) (w : World) (hb : w.heap[kb]? = some (Blk.obj ⟨kC bo bc S, 90, false⟩)) :
    Calls Tryd.prog 101 #[.pointer (some ⟨kb, 0, none⟩), .agg #[.int .u16 o.idx, .int .u32 o.gen], .int .u8 s] w fun e w' => e = .returned (.int .i16 (oldestP S o s)) ∧ Fr [] w w' := by
  refine enter0 (n := 31) (K := []) (T := [(0, .pointer (some ⟨kb, 0, none⟩)), (1, .agg #[.int .u16 o.idx, .int .u32 o.gen]), (2, .int .u8 s)]) (L := [(kb, ⟨kC bo bc S, 90, true⟩)]) (args := [.pointer (some ⟨kb, 0, none⟩), .agg #[.int .u16 o.idx, .int .u32 o.gen], .int .u8 s]) Tryd.func101 rfl rfl rfl rfl (kcons hb knil) (by simp) (kcons (by intro hq; cases hq) knil) ?_
  intro a h
  refine wp_seq_k fun K1 hK1 => ?_
  refine nd_start (l := [0, 1]) rfl ?_
  refine nd_op ?_
  refine op_new tabOk (cells := [.int .u16 o.idx, .int .u32 o.gen]) (ty := 39) (ln := none) (L1 := fun b2 => [(kb, ⟨kC bo bc S, 90, true⟩), (b2, ⟨[.int .u16 o.idx, .int .u32 o.gen], 39, false⟩)]) h rfl rfl rfl rfl (by kernel_rfl) (fun _ => rfl) fun b2 w3 a4 h5 hf6 hn7 => ?_
  clear h
  refine nd_batch tabOk tabZ_ok [(1, {})] [4, 0, 1, 2, 6] (T' := [(4, .pointer (some ⟨b2, 0, none⟩)), (0, .pointer (some ⟨kb, 0, none⟩)), (1, .agg #[.int .u16 o.idx, .int .u32 o.gen]), (2, .int .u8 s), (6, .int .i16 0)]) (φ := True) (rest := []) h5 (by kernel_rfl) rfl trivial fun a8 h9 => ?_
  clear h5
  refine nd_done ?_
  refine hK1 _ _ ?_
  clear hK1
  refine wp_seq_k fun K10 hK10 => ?_
  refine wp_seq_k fun K11 hK11 => ?_
  refine dr_start (KB := [kb, b2]) (Bi := [[0, 1], [0, 1], [0, 1], [0, 1], [0, 1], [0, 1], [0, 1], [0, 1], [0, 1]]) mixed h9 fun w12 h13 => ?_
  clear h9
  refine dr_batch tabOk tabZ_ok (by repeat (first | with_reducible exact PF.body | with_reducible apply PF.inB | with_reducible apply PF.next)) [(0, {}), (1, {}), (2, {k := 1, p := 1}), (3, {}), (4, {}), (5, {}), (6, {}), (7, {k := 0, m := 1, vs := [.int .i16 ((S.wq o.idx.toNat).head)], p := 0}), (8, {})] [4, 0, 1, 2, 6, 7] (T' := [(4, .pointer (some ⟨b2, 0, none⟩)), (0, .pointer (some ⟨kb, 0, none⟩)), (1, .agg #[.int .u16 o.idx, .int .u32 o.gen]), (2, .int .u8 s), (6, .int .i16 0), (7, .int .i16 ((S.wq o.idx.toNat).head))]) (φ := (b2 = b2 ∧ Nat.ble (0 + 1) 2 = true) ∧ (0 ≤ o.idx ∧ o.idx < 256) ∧ (kb = kb ∧ cellsAre (kC bo bc S) (5378 + (o.idx.toNat * 3)) [.int .i16 ((S.wq o.idx.toNat).head)]) ∧ True) (fuel := 0) h13 (by kernel_rfl) rfl (by kernel_rfl) (by kernel_rfl) ⟨trivial, trivial, rfl, trivial, trivial, trivial, trivial, rfl, trivial, trivial⟩ ⟨⟨rfl, rfl⟩, ⟨by omega, by omega⟩, ⟨rfl, (k_wq (i := o.idx.toNat) (k := 0) (by omega) (by omega) ⟨rfl, trivial⟩)⟩, trivial⟩ fun a15 h16 => ?_
  clear h13
  refine wpAnyK_done (by kernel_rfl) ?_ _
  refine hK11 _ _ ?_
  clear hK11
  refine wp_seq_k fun K17 hK17 => ?_
  rcases Bool.eq_false_or_eq_true (((S.wq o.idx.toNat).head != -1)) with hb18 | hb18
  ·
    have hb18f : (S.wq o.idx.toNat).head ≠ -1 := by simpa using hb18
    have hhd : 0 ≤ (S.wq o.idx.toNat).head ∧ (S.wq o.idx.toNat).head < 256 := lk_nat (rS.q (L := .w o.idx.toNat) (show _ < _ by omega)).hd hb18f
    refine nd_start (l := [0, 1, 2, 3, 4, 5, 6, 7, 8, 9, 10, 11, 12, 13]) rfl ?_
    refine nd_batch tabOk tabZ_ok [(0, {}), (1, {f := 2}), (2, {}), (3, {}), (4, {}), (5, {}), (6, {}), (7, {}), (8, {}), (9, {}), (10, {k := 0, m := 1, vs := [.int .u8 ((S.tcb (((S.wq o.idx.toNat).head).toNat)).st)]}), (11, {}), (12, {}), (13, {})] [4, 0, 1, 2, 6, 7, 29] (T' := [(4, .pointer (some ⟨b2, 0, none⟩)), (0, .pointer (some ⟨kb, 0, none⟩)), (1, .agg #[.int .u16 o.idx, .int .u32 o.gen]), (2, .int .u8 s), (6, .int .i16 0), (7, .int .i16 ((S.wq o.idx.toNat).head)), (29, .bool ((S.tcb (((S.wq o.idx.toNat).head).toNat)).st == s))]) (φ := (((S.wq o.idx.toNat).head != -1)) = true ∧ (0 ≤ ((S.wq o.idx.toNat).head) ∧ ((S.wq o.idx.toNat).head) < 256) ∧ (kb = kb ∧ cellsAre (kC bo bc S) (2 + ((((S.wq o.idx.toNat).head).toNat) * 21)) [.int .u8 ((S.tcb (((S.wq o.idx.toNat).head).toNat)).st)]) ∧ True) (rest := []) h16 (by kernel_rfl) rfl ⟨hb18, ⟨by omega, by omega⟩, ⟨rfl, (k_tcb (i := (((S.wq o.idx.toNat).head).toNat)) (k := 0) (by omega) (by omega) ⟨rfl, trivial⟩)⟩, trivial⟩ fun a19 h20 => ?_
    clear h16
    refine nd_done ?_
    refine hK17 _ _ ?_
    clear hK17
    refine c_split h20 (b := ((S.tcb (((S.wq o.idx.toNat).head).toNat)).st == s)) rfl (fun hc21 => ?_) (fun hc21 => ?_)
    ·
      have hc21f : (S.tcb (((S.wq o.idx.toNat).head).toNat)).st = s := by simpa using hc21
      refine wp_seq_k fun K22 hK22 => ?_
      refine nd_start (l := [0, 1]) rfl ?_
      refine nd_batch tabOk tabZ_ok [(0, {}), (1, {})] [4, 0, 1, 2, 7, 6] (T' := [(4, .pointer (some ⟨b2, 0, none⟩)), (0, .pointer (some ⟨kb, 0, none⟩)), (1, .agg #[.int .u16 o.idx, .int .u32 o.gen]), (2, .int .u8 s), (7, .int .i16 ((S.wq o.idx.toNat).head)), (6, .int .i16 ((S.wq o.idx.toNat).head))]) (φ := True) (rest := []) h20 (by kernel_rfl) rfl trivial fun a23 h24 => ?_
      clear h20
      refine nd_done ?_
      refine hK22 _ _ ?_
      clear hK22
      refine wp_ret ?_
      try simp only [Exit.then, Exit.inBlock]
      try rw [if_pos trivial]
      exact s_ret tabOk tabZ_ok h24 [(.tmp 6, {})] (vs := [.int .i16 ((S.wq o.idx.toNat).head)]) (φ := True) rfl (by kernel_rfl) trivial ⟨(by unfold oldestP; rw [if_pos ⟨hb18f, hc21f⟩]; rfl), h24.frame⟩
    ·
      have hc21f : (S.tcb (((S.wq o.idx.toNat).head).toNat)).st ≠ s := by simpa using hc21
      refine wp_skip ?_
      refine hK10 _ _ ?_
      clear hK10
      refine wp_seq_k fun K25 hK25 => ?_
      refine nd_start (l := [0]) rfl ?_
      refine nd_batch tabOk tabZ_ok [(0, {})] [4, 0, 1, 2, 7, 6] (T' := [(4, .pointer (some ⟨b2, 0, none⟩)), (0, .pointer (some ⟨kb, 0, none⟩)), (1, .agg #[.int .u16 o.idx, .int .u32 o.gen]), (2, .int .u8 s), (7, .int .i16 ((S.wq o.idx.toNat).head)), (6, .int .i16 (-1))]) (φ := True) (rest := []) h20 (by kernel_rfl) rfl trivial fun a26 h27 => ?_
      clear h20
      refine nd_done ?_
      refine hK25 _ _ ?_
      clear hK25
      refine wp_ret ?_
      try simp only [Exit.then, Exit.inBlock]
      try rw [if_pos trivial]
      exact s_ret tabOk tabZ_ok h27 [(.tmp 6, {})] (vs := [.int .i16 (-1)]) (φ := True) rfl (by kernel_rfl) trivial ⟨(by unfold oldestP; rw [if_neg (fun hq => hc21f hq.2)]; rfl), h27.frame⟩
  ·
    have hb18f : (S.wq o.idx.toNat).head = -1 := by simpa using hb18
    refine nd_start (l := [0, 1, 2, 3, 4, 5, 6, 7, 8, 9, 10, 11, 12, 13]) rfl ?_
    refine nd_batch tabOk tabZ_ok [(0, {}), (1, {f := 1}), (2, {}), (3, {}), (4, {}), (5, {}), (6, {}), (7, {}), (8, {}), (9, {}), (10, {}), (11, {}), (12, {}), (13, {})] [4, 0, 1, 2, 6, 7, 29] (T' := [(4, .pointer (some ⟨b2, 0, none⟩)), (0, .pointer (some ⟨kb, 0, none⟩)), (1, .agg #[.int .u16 o.idx, .int .u32 o.gen]), (2, .int .u8 s), (6, .int .i16 0), (7, .int .i16 ((S.wq o.idx.toNat).head)), (29, .bool false)]) (φ := (((S.wq o.idx.toNat).head != -1)) = false ∧ True) (rest := []) h16 (by kernel_rfl) rfl ⟨hb18, trivial⟩ fun a28 h29 => ?_
    clear h16
    refine nd_done ?_
    refine hK17 _ _ ?_
    clear hK17
    refine c_false h29 rfl ?_
    refine wp_skip ?_
    refine hK10 _ _ ?_
    clear hK10
    refine wp_seq_k fun K30 hK30 => ?_
    refine nd_start (l := [0]) rfl ?_
    refine nd_batch tabOk tabZ_ok [(0, {})] [4, 0, 1, 2, 7, 6] (T' := [(4, .pointer (some ⟨b2, 0, none⟩)), (0, .pointer (some ⟨kb, 0, none⟩)), (1, .agg #[.int .u16 o.idx, .int .u32 o.gen]), (2, .int .u8 s), (7, .int .i16 ((S.wq o.idx.toNat).head)), (6, .int .i16 (-1))]) (φ := True) (rest := []) h29 (by kernel_rfl) rfl trivial fun a31 h32 => ?_
    clear h29
    refine nd_done ?_
    refine hK30 _ _ ?_
    clear hK30
    refine wp_ret ?_
    try simp only [Exit.then, Exit.inBlock]
    try rw [if_pos trivial]
    exact s_ret tabOk tabZ_ok h32 [(.tmp 6, {})] (vs := [.int .i16 (-1)]) (φ := True) rfl (by kernel_rfl) trivial ⟨(by unfold oldestP; rw [if_neg (fun hq => hq.1 hb18f)]; rfl), h32.frame⟩

theorem signal_ok (kb bo bc : Nat) (S : KP) (rS : RI S) (o : Rf) (b : Int) (ho : 0 ≤ o.idx ∧ o.idx < 256) (w : World) (hb : w.heap[kb]? = some (Blk.obj ⟨kC bo bc S, 90, false⟩)) :
    Calls Tryd.prog 74 #[.pointer (some ⟨kb, 0, none⟩), .agg #[.int .u16 o.idx, .int .u32 o.gen], .int .u64 b] w fun e w' => e = .returned (.tuple #[]) ∧ w'.heap[kb]? = some (Blk.obj ⟨kC bo bc (signalP S o b), 90, false⟩) ∧ Fr [kb] w w' := by
  refine enter0 (n := 35) (K := [kb]) (T := [(0, .pointer (some ⟨kb, 0, none⟩)), (1, .agg #[.int .u16 o.idx, .int .u32 o.gen]), (2, .int .u64 b)]) (L := [(kb, ⟨kC bo bc S, 90, false⟩)]) (args := [.pointer (some ⟨kb, 0, none⟩), .agg #[.int .u16 o.idx, .int .u32 o.gen], .int .u64 b]) Tryd.func74 rfl rfl rfl rfl (kcons hb knil) (by simp) (kcons (by simp) knil) ?_
  intro a h
  refine wp_seq_k fun K1 hK1 => ?_
  refine nd_start (l := [0]) rfl ?_
  refine nd_op ?_
  refine op_new tabOk (cells := [.int .u16 o.idx, .int .u32 o.gen]) (ty := 39) (ln := none) (L1 := fun b2 => [(kb, ⟨kC bo bc S, 90, false⟩), (b2, ⟨[.int .u16 o.idx, .int .u32 o.gen], 39, false⟩)]) h rfl rfl rfl rfl (by kernel_rfl) (fun _ => rfl) fun b2 w3 a4 h5 hf6 hn7 => ?_
  clear h
  refine nd_done ?_
  refine hK1 _ _ ?_
  clear hK1
  refine wp_seq_k fun K8 hK8 => ?_
  refine wp_seq_k fun K9 hK9 => ?_
  refine nd_start (l := [0, 1, 2, 3]) rfl ?_
  refine nd_batch tabOk tabZ_ok [(0, {}), (1, {k := 1})] [4, 0, 1, 2, 7, 8] (T' := [(4, .pointer (some ⟨b2, 0, none⟩)), (0, .pointer (some ⟨kb, 0, none⟩)), (1, .agg #[.int .u16 o.idx, .int .u32 o.gen]), (2, .int .u64 b), (7, .pointer (some ⟨kb, 0, none⟩)), (8, .agg #[.int .u16 o.idx, .int .u32 o.gen])]) (φ := (b2 = b2 ∧ Nat.ble (0 + 2) 2 = true) ∧ True) (rest := [2, 3]) h5 (by kernel_rfl) rfl ⟨⟨rfl, rfl⟩, trivial⟩ fun a10 h11 => ?_
  clear h5
  refine nd_op ?_
  refine op_call h11 rfl rfl rfl (callOk Tryd.func101 (by decide) rfl) (args := [.pointer (some ⟨kb, 0, none⟩), .agg #[.int .u16 o.idx, .int .u32 o.gen], .int .u8 5]) rfl (oldest_ok kb bo bc S rS o 5 ho _ (h11.kn (k := 0) rfl)) ?_
  rintro _ w12 ⟨rfl, hf14⟩
  refine ⟨_, rfl, ?_⟩
  have h13 := (h11.grow hf14).put (d := some 9) (v := .int .i16 (oldestP S o 5)) (T' := [(9, .int .i16 (oldestP S o 5)), (4, .pointer (some ⟨b2, 0, none⟩)), (0, .pointer (some ⟨kb, 0, none⟩)), (1, .agg #[.int .u16 o.idx, .int .u32 o.gen]), (2, .int .u64 b), (7, .pointer (some ⟨kb, 0, none⟩)), (8, .agg #[.int .u16 o.idx, .int .u32 o.gen])]) rfl
  clear h11
  refine nd_batch tabOk tabZ_ok [(3, {})] [4, 0, 1, 2, 6] (T' := [(4, .pointer (some ⟨b2, 0, none⟩)), (0, .pointer (some ⟨kb, 0, none⟩)), (1, .agg #[.int .u16 o.idx, .int .u32 o.gen]), (2, .int .u64 b), (6, .int .i16 (oldestP S o 5))]) (φ := True) (rest := []) h13 (by kernel_rfl) rfl trivial fun a15 h16 => ?_
  clear h13
  refine nd_done ?_
  refine hK9 _ _ ?_
  clear hK9
  refine wp_seq_k fun K17 hK17 => ?_
  refine nd_start (l := [0, 1]) rfl ?_
  refine nd_batch tabOk tabZ_ok [(0, {}), (1, {})] [4, 0, 1, 2, 6, 11] (T' := [(4, .pointer (some ⟨b2, 0, none⟩)), (0, .pointer (some ⟨kb, 0, none⟩)), (1, .agg #[.int .u16 o.idx, .int .u32 o.gen]), (2, .int .u64 b), (6, .int .i16 (oldestP S o 5)), (11, .bool ((oldestP S o 5) != -1))]) (φ := True) (rest := []) h16 (by kernel_rfl) rfl trivial fun a18 h19 => ?_
  clear h16
  refine nd_done ?_
  refine hK17 _ _ ?_
  clear hK17
  refine c_split h19 (b := ((oldestP S o 5) != -1)) rfl (fun hc20 => ?_) (fun hc20 => ?_)
  ·
    have hc20f : (oldestP S o 5) ≠ -1 := by simpa using hc20
    have hot := lk_nat (oldest_lk rS ho 5) hc20f
    refine wp_seq_k fun K21 hK21 => ?_
    refine nd_start (l := [0, 1, 2, 3, 4, 5, 6, 7, 8]) rfl ?_
    refine nd_batch tabOk tabZ_ok [(0, {}), (1, {}), (2, {}), (3, {}), (4, {}), (5, {}), (6, {}), (7, {})] [4, 0, 1, 2, 6, 14, 19] (T' := [(4, .pointer (some ⟨b2, 0, none⟩)), (0, .pointer (some ⟨kb, 0, none⟩)), (1, .agg #[.int .u16 o.idx, .int .u32 o.gen]), (2, .int .u64 b), (6, .int .i16 (oldestP S o 5)), (14, .int .u64 b), (19, .pointer (some ⟨kb, 2 + (((oldestP S o 5).toNat) * 21) + 8, none⟩))]) (φ := (0 ≤ (oldestP S o 5) ∧ (oldestP S o 5) < 256) ∧ True) (rest := [8]) h19 (by kernel_rfl) rfl ⟨⟨by omega, by omega⟩, trivial⟩ fun a22 h23 => ?_
    clear h19
    refine nd_op ?_
    refine op_store tabOk {k := 0, m := 1, vs := kC bo bc (S.setT ((oldestP S o 5).toNat) { S.tcb ((oldestP S o 5).toNat) with badge := b })} (L' := [(kb, ⟨kC bo bc (S.setT ((oldestP S o 5).toNat) { S.tcb ((oldestP S o 5).toNat) with badge := b }), 90, false⟩), (b2, ⟨[.int .u16 o.idx, .int .u32 o.gen], 39, false⟩)]) (φ := kb = kb ∧ Nat.ble (2 + (((oldestP S o 5).toNat) * 21) + 8 + 1) (kC bo bc S).length = true ∧ splice (kC bo bc S) (2 + (((oldestP S o 5).toNat) * 21) + 8) [.int .u64 b] = kC bo bc (S.setT ((oldestP S o 5).toNat) { S.tcb ((oldestP S o 5).toNat) with badge := b })) h23 rfl rfl rfl (by kernel_rfl) ⟨rfl, k_in (by omega), (k_tcb_w (i := ((oldestP S o 5).toNat)) (k := 8) (by omega) (Nat.le_of_ble_eq_true rfl) (by omega) rfl)⟩ fun w25 h26 => ?_
    obtain ⟨S24, eS24⟩ : ∃ S9, S9 = (S.setT ((oldestP S o 5).toNat) { S.tcb ((oldestP S o 5).toNat) with badge := b }) := ⟨_, rfl⟩
    rw [← eS24] at h26
    have rS24 : RI S24 := by rw [eS24]; exact rS.setT ⟨(rS.t (i := ((oldestP S o 5).toNat)) (by omega)).nx, (rS.t (i := ((oldestP S o 5).toNat)) (by omega)).pv, (rS.t (i := ((oldestP S o 5).toNat)) (by omega)).pr, (rS.t (i := ((oldestP S o 5).toNat)) (by omega)).wi, (rS.t (i := ((oldestP S o 5).toNat)) (by omega)).ci, (rS.t (i := ((oldestP S o 5).toNat)) (by omega)).ri, (rS.t (i := ((oldestP S o 5).toNat)) (by omega)).ds⟩
    clear h23
    refine nd_done ?_
    refine hK21 _ _ ?_
    clear hK21
    refine wp_seq_k fun K27 hK27 => ?_
    refine nd_start (l := [0, 1, 2]) rfl ?_
    refine nd_batch tabOk tabZ_ok [(0, {}), (1, {})] [4, 0, 1, 2, 6, 20, 21] (T' := [(4, .pointer (some ⟨b2, 0, none⟩)), (0, .pointer (some ⟨kb, 0, none⟩)), (1, .agg #[.int .u16 o.idx, .int .u32 o.gen]), (2, .int .u64 b), (6, .int .i16 (oldestP S o 5)), (20, .pointer (some ⟨kb, 0, none⟩)), (21, .int .i16 (oldestP S o 5))]) (φ := True) (rest := [2]) h26 (by kernel_rfl) rfl trivial fun a28 h29 => ?_
    clear h26
    refine nd_op ?_
    refine op_call h29 rfl rfl rfl (callOk Tryd.func47 (by decide) rfl) (args := [.pointer (some ⟨kb, 0, none⟩), .int .i16 (oldestP S o 5)]) rfl (wake_ok kb bo bc S24 rS24 (oldestP S o 5) hot _ (h29.kn (k := 0) rfl)) ?_
    rintro _ w33 ⟨rfl, hb31, hf32⟩
    refine ⟨_, rfl, ?_⟩
    obtain ⟨S30, eS30⟩ : ∃ S9, S9 = wakeP S24 (oldestP S o 5) := ⟨_, rfl⟩
    rw [← eS30] at hb31
    have rS30 : RI S30 := by rw [eS30]; exact wake_RI rS24 hot
    have h34 := (h29.setBlk (k := 0) rfl rfl hf32 hb31 (L' := [(kb, ⟨kC bo bc S30, 90, false⟩), (b2, ⟨[.int .u16 o.idx, .int .u32 o.gen], 39, false⟩)]) rfl).put (d := some 22) (v := .tuple #[]) (T' := [(22, .tuple #[]), (4, .pointer (some ⟨b2, 0, none⟩)), (0, .pointer (some ⟨kb, 0, none⟩)), (1, .agg #[.int .u16 o.idx, .int .u32 o.gen]), (2, .int .u64 b), (6, .int .i16 (oldestP S o 5)), (20, .pointer (some ⟨kb, 0, none⟩)), (21, .int .i16 (oldestP S o 5))]) rfl
    clear h29
    refine nd_done ?_
    refine hK27 _ _ ?_
    clear hK27
    refine wp_ret ?_
    try simp only [Exit.then, Exit.inBlock]
    try rw [if_pos trivial]
    exact s_ret tabOk tabZ_ok h34 [] (vs := []) (φ := True) rfl (by kernel_rfl) trivial ⟨rfl, (by rw [show signalP S o b = S30 from (by unfold signalP; simp only; (first | rw [if_pos hc20f] | rw [if_pos (fun hz => hz hc20f)]); rw [← eS24]; rw [← eS30])]; exact h34.kn (k := 0) rfl), h34.frame⟩
  ·
    have hc20f : (oldestP S o 5) = -1 := by simpa using hc20
    refine wp_skip ?_
    refine hK8 _ _ ?_
    clear hK8
    refine dr_start (KB := [kb, b2]) (Bi := [[0, 1], [0, 1], [0, 1], [0, 1], [0, 1], [0, 1], [0, 1], [0, 1], [0, 1], [0, 1], [0, 1], [0, 1], []]) mixed h19 fun w35 h36 => ?_
    clear h19
    refine dr_batch tabOk tabZ_ok (by repeat (first | with_reducible exact PF.body | with_reducible apply PF.inB | with_reducible apply PF.next)) [(0, {}), (1, {}), (2, {k := 1, p := 1}), (3, {}), (4, {}), (5, {}), (6, {k := 0, m := 1, vs := [.int .u64 (S.word o.idx.toNat)], p := 0}), (7, {}), (8, {}), (9, {}), (10, {}), (11, {})] [4, 0, 1, 2, 6, 31, 34] (T' := [(4, .pointer (some ⟨b2, 0, none⟩)), (0, .pointer (some ⟨kb, 0, none⟩)), (1, .agg #[.int .u16 o.idx, .int .u32 o.gen]), (2, .int .u64 b), (6, .int .i16 (oldestP S o 5)), (31, .int .u64 (bitI .or .u64 (S.word o.idx.toNat) b)), (34, .pointer (some ⟨kb, 6146 + (o.idx.toNat * 1), none⟩))]) (φ := (b2 = b2 ∧ Nat.ble (0 + 1) 2 = true) ∧ (0 ≤ o.idx ∧ o.idx < 256) ∧ (kb = kb ∧ cellsAre (kC bo bc S) (6146 + (o.idx.toNat * 1)) [.int .u64 (S.word o.idx.toNat)]) ∧ (0 ≤ o.idx ∧ o.idx < 256) ∧ True) (fuel := 1) h36 (by kernel_rfl) rfl (by kernel_rfl) (by kernel_rfl) ⟨trivial, trivial, rfl, trivial, trivial, trivial, rfl, trivial, trivial, trivial, trivial, trivial, trivial⟩ ⟨⟨rfl, rfl⟩, ⟨by omega, by omega⟩, ⟨rfl, (k_word (i := o.idx.toNat) (k := 0) (by omega) (by omega) ⟨rfl, trivial⟩)⟩, ⟨by omega, by omega⟩, trivial⟩ fun a38 h39 => ?_
    clear h36
    refine wpAnyK_one (i := 12) (fuel := 0) (by kernel_rfl) ?_
    refine op_store tabOk {k := 0, m := 1, vs := kC bo bc ({ S with word := upd S.word o.idx.toNat (bitI .or .u64 (S.word o.idx.toNat) b) })} (L' := [(kb, ⟨kC bo bc ({ S with word := upd S.word o.idx.toNat (bitI .or .u64 (S.word o.idx.toNat) b) }), 90, false⟩), (b2, ⟨[.int .u16 o.idx, .int .u32 o.gen], 39, false⟩)]) (φ := kb = kb ∧ Nat.ble (6146 + (o.idx.toNat * 1) + 1) (kC bo bc S).length = true ∧ splice (kC bo bc S) (6146 + (o.idx.toNat * 1)) [.int .u64 (bitI .or .u64 (S.word o.idx.toNat) b)] = kC bo bc ({ S with word := upd S.word o.idx.toNat (bitI .or .u64 (S.word o.idx.toNat) b) })) h39 rfl rfl rfl (by kernel_rfl) ⟨rfl, k_in (by omega), (k_word_w (i := o.idx.toNat) (k := 0) (by omega) (Nat.le_of_ble_eq_true rfl) (by omega) rfl)⟩ fun w41 h42 => ?_
    obtain ⟨S40, eS40⟩ : ∃ S9, S9 = { S with word := upd S.word o.idx.toNat (bitI .or .u64 (S.word o.idx.toNat) b) } := ⟨_, rfl⟩
    rw [← eS40] at h42
    have rS40 : RI S40 := by rw [eS40]; exact rS.setWord _
    have hkh42 := h39.known
    refine ⟨keepNil, ?_⟩
    clear h39
    refine wpAnyK_done (by kernel_rfl) ?_ _
    try simp only [Exit.then, Exit.inBlock]
    try rw [if_pos trivial]
    exact s_end tabOk tabZ_ok h42 [] (vs := []) (φ := True) rfl (by kernel_rfl) trivial ⟨rfl, (by rw [show signalP S o b = S40 from (by unfold signalP; simp only; (first | rw [if_neg (fun hq => hq hc20f)] | rw [if_neg (fun hz => hz (fun hq => hq hc20f))]); rw [← eS40])]; exact h42.kn (k := 0) rfl), h42.frame⟩

theorem report_ok (kb bo bc : Nat) (S : KP) (rS : RI S) (bt : Nat) (hne : kb ≠ bt) (ou : Outp) (hc : 0 ≤ S.cur ∧ S.cur < 256) (w : World) (hb : w.heap[kb]? = some (Blk.obj ⟨kC bo bc S, 90, false⟩)) (ho : w.heap[bt]? = some (Blk.obj ⟨outC ou, 42, false⟩)) :
    Calls Tryd.prog 75 #[.pointer (some ⟨kb, 0, none⟩), .pointer (some ⟨bt, 0, none⟩)] w fun e w' => e = .returned (.tuple #[]) ∧ w'.heap[bt]? = some (Blk.obj ⟨outC (reportP S ou), 42, false⟩) ∧ Fr [bt] w w' := by
  refine enter0 (n := 45) (K := [bt]) (T := [(0, .pointer (some ⟨kb, 0, none⟩)), (1, .pointer (some ⟨bt, 0, none⟩))]) (L := [(kb, ⟨kC bo bc S, 90, true⟩), (bt, ⟨outC ou, 42, false⟩)]) (args := [.pointer (some ⟨kb, 0, none⟩), .pointer (some ⟨bt, 0, none⟩)]) Tryd.func75 rfl rfl rfl rfl (kcons hb (kcons ho knil)) (by simp; exact hne) (kcons (by intro hq; cases hq) (kcons (by simp) knil)) ?_
  intro a h
  refine wp_seq_k fun K1 hK1 => ?_
  refine dr_start (KB := [kb, bt]) (Bi := [[0, 1], [0, 1], [0, 1], [0, 1], [0, 1], [0, 1], [0, 1], [0, 1], [0, 1]]) mixed h fun w2 h3 => ?_
  clear h
  refine dr_batch tabOk tabZ_ok (by repeat (first | with_reducible exact PF.body | with_reducible apply PF.inB | with_reducible apply PF.next)) [(0, {}), (1, {}), (2, {}), (3, {}), (4, {k := 0, m := 1, vs := [.int .i16 S.cur], p := 0}), (5, {}), (6, {}), (7, {}), (8, {})] [0, 1, 4] (T' := [(0, .pointer (some ⟨kb, 0, none⟩)), (1, .pointer (some ⟨bt, 0, none⟩)), (4, .pointer (some ⟨kb, 2 + (S.cur.toNat * 21), none⟩))]) (φ := (kb = kb ∧ cellsAre (kC bo bc S) 6427 [.int .i16 S.cur]) ∧ (0 ≤ S.cur ∧ S.cur < 256) ∧ True) (fuel := 0) h3 (by kernel_rfl) rfl (by kernel_rfl) (by kernel_rfl) ⟨trivial, trivial, trivial, trivial, rfl, trivial, trivial, trivial, trivial, trivial⟩ ⟨⟨rfl, k_cur⟩, ⟨by omega, by omega⟩, trivial⟩ fun a5 h6 => ?_
  clear h3
  refine wpAnyK_done (by kernel_rfl) ?_ _
  refine hK1 _ _ ?_
  clear hK1
  refine dr_start (KB := [kb, bt]) (Bi := [[0, 1], [0, 1], [0, 1], [0, 1], [0, 1], [0, 1], [0, 1], [0, 1], [0, 1], [0, 1], [0, 1], [0, 1], [0, 1], [0, 1], [0, 1], [0, 1], [0, 1], [0, 1], [0, 1], [0, 1], [0, 1], [0, 1], [0, 1], [0, 1], [0, 1], [0, 1], [], [0, 1], [0, 1], [], [0, 1], [0, 1], [], [0, 1], [0, 1], []]) mixed h6 fun w7 h8 => ?_
  clear h6
  refine dr_batch tabOk tabZ_ok (by repeat (first | with_reducible exact PF.body | with_reducible apply PF.inB | with_reducible apply PF.next)) [(0, {}), (1, {}), (2, {}), (3, {}), (4, {}), (5, {}), (6, {}), (7, {}), (8, {k := 0, m := 1, vs := [.int .u64 ((S.tcb S.cur.toNat).badge)], p := 0}), (9, {}), (10, {}), (11, {}), (12, {}), (13, {k := 0, m := 1, vs := [.int .u64 ((S.tcb S.cur.toNat).m0), .int .u64 ((S.tcb S.cur.toNat).m1), .int .u64 ((S.tcb S.cur.toNat).m2), .int .u64 ((S.tcb S.cur.toNat).m3)], p := 0}), (14, {}), (15, {}), (16, {}), (17, {}), (18, {k := 0, m := 1, vs := [.int .u8 ((S.tcb S.cur.toNat).len)], p := 0}), (19, {}), (20, {}), (21, {}), (22, {}), (23, {k := 0, m := 1, vs := [.int .u8 ((S.tcb S.cur.toNat).got)], p := 0}), (24, {}), (25, {})] [0, 1, 4, 14, 15, 16, 21, 26, 31, 36, 38] (T' := [(0, .pointer (some ⟨kb, 0, none⟩)), (1, .pointer (some ⟨bt, 0, none⟩)), (4, .pointer (some ⟨kb, 2 + (S.cur.toNat * 21), none⟩)), (14, .pointer (some ⟨bt, 0, none⟩)), (15, .pointer (some ⟨bt, 0, none⟩)), (16, .pointer (some ⟨bt, 0, none⟩)), (21, .int .u64 ((S.tcb S.cur.toNat).badge)), (26, .agg #[.int .u64 ((S.tcb S.cur.toNat).m0), .int .u64 ((S.tcb S.cur.toNat).m1), .int .u64 ((S.tcb S.cur.toNat).m2), .int .u64 ((S.tcb S.cur.toNat).m3)]), (31, .int .u8 ((S.tcb S.cur.toNat).len)), (36, .int .u8 ((S.tcb S.cur.toNat).got)), (38, .pointer (some ⟨bt, 3, none⟩))]) (φ := (kb = kb ∧ cellsAre (kC bo bc S) (2 + (S.cur.toNat * 21) + 8) [.int .u64 ((S.tcb S.cur.toNat).badge)]) ∧ (kb = kb ∧ cellsAre (kC bo bc S) (2 + (S.cur.toNat * 21) + 9) [.int .u64 ((S.tcb S.cur.toNat).m0), .int .u64 ((S.tcb S.cur.toNat).m1), .int .u64 ((S.tcb S.cur.toNat).m2), .int .u64 ((S.tcb S.cur.toNat).m3)]) ∧ (kb = kb ∧ cellsAre (kC bo bc S) (2 + (S.cur.toNat * 21) + 13) [.int .u8 ((S.tcb S.cur.toNat).len)]) ∧ (kb = kb ∧ cellsAre (kC bo bc S) (2 + (S.cur.toNat * 21) + 14) [.int .u8 ((S.tcb S.cur.toNat).got)]) ∧ True) (fuel := 10) h8 (by kernel_rfl) rfl (by kernel_rfl) (by kernel_rfl) ⟨trivial, trivial, trivial, trivial, trivial, trivial, trivial, trivial, rfl, trivial, trivial, trivial, trivial, rfl, trivial, trivial, trivial, trivial, rfl, trivial, trivial, trivial, trivial, rfl, trivial, trivial, trivial⟩ ⟨⟨rfl, (k_tcb (i := S.cur.toNat) (k := 8) (by omega) (by omega) ⟨rfl, trivial⟩)⟩, ⟨rfl, (k_tcb (i := S.cur.toNat) (k := 9) (by omega) (by omega) ⟨rfl, rfl, rfl, rfl, trivial⟩)⟩, ⟨rfl, (k_tcb (i := S.cur.toNat) (k := 13) (by omega) (by omega) ⟨rfl, trivial⟩)⟩, ⟨rfl, (k_tcb (i := S.cur.toNat) (k := 14) (by omega) (by omega) ⟨rfl, trivial⟩)⟩, trivial⟩ fun a10 h11 => ?_
  clear h8
  refine wpAnyK_one (i := 26) (fuel := 9) (by kernel_rfl) ?_
  refine op_store tabOk {k := 1} (L' := [(kb, ⟨kC bo bc S, 90, true⟩), (bt, ⟨[.int .u8 ou.code, .int .u16 ou.run.idx, .int .u32 ou.run.gen, .int .u64 ((S.tcb S.cur.toNat).badge), .int .u64 ou.m0, .int .u64 ou.m1, .int .u64 ou.m2, .int .u64 ou.m3, .int .u8 ou.len, .int .u8 ou.got], 42, false⟩)]) (φ := bt = bt ∧ Nat.ble (3 + 1) 10 = true) h11 rfl rfl rfl (by kernel_rfl) ⟨rfl, rfl⟩ fun w12 h13 => ?_
  have hkh13 := h11.known
  refine ⟨keepNil, ?_⟩
  clear h11
  refine dr_batch tabOk tabZ_ok (by repeat (first | with_reducible exact PF.body | with_reducible apply PF.inB | with_reducible apply PF.next)) [(27, {}), (28, {})] [0, 1, 4, 15, 16, 26, 31, 36, 40] (T' := [(0, .pointer (some ⟨kb, 0, none⟩)), (1, .pointer (some ⟨bt, 0, none⟩)), (4, .pointer (some ⟨kb, 2 + (S.cur.toNat * 21), none⟩)), (15, .pointer (some ⟨bt, 0, none⟩)), (16, .pointer (some ⟨bt, 0, none⟩)), (26, .agg #[.int .u64 ((S.tcb S.cur.toNat).m0), .int .u64 ((S.tcb S.cur.toNat).m1), .int .u64 ((S.tcb S.cur.toNat).m2), .int .u64 ((S.tcb S.cur.toNat).m3)]), (31, .int .u8 ((S.tcb S.cur.toNat).len)), (36, .int .u8 ((S.tcb S.cur.toNat).got)), (40, .pointer (some ⟨bt, 4, none⟩))]) (φ := True) (fuel := 7) h13 (by kernel_rfl) rfl (by kernel_rfl) (by kernel_rfl) ⟨trivial, trivial, trivial⟩ trivial fun a14 h15 => ?_
  clear h13
  refine wpAnyK_one (i := 29) (fuel := 6) (by kernel_rfl) ?_
  refine op_store tabOk {k := 1} (L' := [(kb, ⟨kC bo bc S, 90, true⟩), (bt, ⟨[.int .u8 ou.code, .int .u16 ou.run.idx, .int .u32 ou.run.gen, .int .u64 ((S.tcb S.cur.toNat).badge), .int .u64 ((S.tcb S.cur.toNat).m0), .int .u64 ((S.tcb S.cur.toNat).m1), .int .u64 ((S.tcb S.cur.toNat).m2), .int .u64 ((S.tcb S.cur.toNat).m3), .int .u8 ou.len, .int .u8 ou.got], 42, false⟩)]) (φ := bt = bt ∧ Nat.ble (4 + 4) 10 = true) h15 rfl rfl rfl (by kernel_rfl) ⟨rfl, rfl⟩ fun w16 h17 => ?_
  have hkh17 := h15.known
  refine ⟨keepNil, ?_⟩
  clear h15
  refine dr_batch tabOk tabZ_ok (by repeat (first | with_reducible exact PF.body | with_reducible apply PF.inB | with_reducible apply PF.next)) [(30, {}), (31, {})] [0, 1, 4, 16, 31, 36, 42] (T' := [(0, .pointer (some ⟨kb, 0, none⟩)), (1, .pointer (some ⟨bt, 0, none⟩)), (4, .pointer (some ⟨kb, 2 + (S.cur.toNat * 21), none⟩)), (16, .pointer (some ⟨bt, 0, none⟩)), (31, .int .u8 ((S.tcb S.cur.toNat).len)), (36, .int .u8 ((S.tcb S.cur.toNat).got)), (42, .pointer (some ⟨bt, 8, none⟩))]) (φ := True) (fuel := 4) h17 (by kernel_rfl) rfl (by kernel_rfl) (by kernel_rfl) ⟨trivial, trivial, trivial⟩ trivial fun a18 h19 => ?_
  clear h17
  refine wpAnyK_one (i := 32) (fuel := 3) (by kernel_rfl) ?_
  refine op_store tabOk {k := 1} (L' := [(kb, ⟨kC bo bc S, 90, true⟩), (bt, ⟨[.int .u8 ou.code, .int .u16 ou.run.idx, .int .u32 ou.run.gen, .int .u64 ((S.tcb S.cur.toNat).badge), .int .u64 ((S.tcb S.cur.toNat).m0), .int .u64 ((S.tcb S.cur.toNat).m1), .int .u64 ((S.tcb S.cur.toNat).m2), .int .u64 ((S.tcb S.cur.toNat).m3), .int .u8 ((S.tcb S.cur.toNat).len), .int .u8 ou.got], 42, false⟩)]) (φ := bt = bt ∧ Nat.ble (8 + 1) 10 = true) h19 rfl rfl rfl (by kernel_rfl) ⟨rfl, rfl⟩ fun w20 h21 => ?_
  have hkh21 := h19.known
  refine ⟨keepNil, ?_⟩
  clear h19
  refine dr_batch tabOk tabZ_ok (by repeat (first | with_reducible exact PF.body | with_reducible apply PF.inB | with_reducible apply PF.next)) [(33, {}), (34, {})] [0, 1, 4, 36, 44] (T' := [(0, .pointer (some ⟨kb, 0, none⟩)), (1, .pointer (some ⟨bt, 0, none⟩)), (4, .pointer (some ⟨kb, 2 + (S.cur.toNat * 21), none⟩)), (36, .int .u8 ((S.tcb S.cur.toNat).got)), (44, .pointer (some ⟨bt, 9, none⟩))]) (φ := True) (fuel := 1) h21 (by kernel_rfl) rfl (by kernel_rfl) (by kernel_rfl) ⟨trivial, trivial, trivial⟩ trivial fun a22 h23 => ?_
  clear h21
  refine wpAnyK_one (i := 35) (fuel := 0) (by kernel_rfl) ?_
  refine op_store tabOk {k := 1} (L' := [(kb, ⟨kC bo bc S, 90, true⟩), (bt, ⟨[.int .u8 ou.code, .int .u16 ou.run.idx, .int .u32 ou.run.gen, .int .u64 ((S.tcb S.cur.toNat).badge), .int .u64 ((S.tcb S.cur.toNat).m0), .int .u64 ((S.tcb S.cur.toNat).m1), .int .u64 ((S.tcb S.cur.toNat).m2), .int .u64 ((S.tcb S.cur.toNat).m3), .int .u8 ((S.tcb S.cur.toNat).len), .int .u8 ((S.tcb S.cur.toNat).got)], 42, false⟩)]) (φ := bt = bt ∧ Nat.ble (9 + 1) 10 = true) h23 rfl rfl rfl (by kernel_rfl) ⟨rfl, rfl⟩ fun w24 h25 => ?_
  have hkh25 := h23.known
  refine ⟨keepNil, ?_⟩
  clear h23
  refine wpAnyK_done (by kernel_rfl) ?_ _
  try simp only [Exit.then, Exit.inBlock]
  try rw [if_pos trivial]
  exact s_end tabOk tabZ_ok h25 [] (vs := []) (φ := True) rfl (by kernel_rfl) trivial ⟨rfl, h25.kn (k := 1) rfl, h25.frame⟩

end Go.Proofs.Qxb6500918aDoor
