/-
  The model: idle. (Made by program: a symbolic walk that prints its steps.)
-/
import Derived.Test.Qxb6500918aDoorUc
namespace Go.Proofs.Qxb6500918aDoor
open Go.Sx Go.Kn
set_option maxRecDepth 100000
set_option maxHeartbeats 4000000
set_option linter.unusedVariables false
set_option linter.unusedSimpArgs false

theorem idleN_ok (mb : Nat) (Z : MZ) (R : MR) (a : AK) (C : CP) (x : Nat) (hx : x ∈ sl Z.tl) (hP : MP Z a) (hn : ∀ i, place (a.th x) ≠ some (.w i)) (w : World) (hH : MH mb Z R a C w) :
    Calls Tryd.prog 87 #[.pointer (some ⟨mb, 0, none⟩), .agg #[.int .u16 ((Z.ky x).idx), .int .u32 ((Z.ky x).gen)]] w fun e w' => e = .returned (.tuple #[]) ∧ ∃ R', MG mb Z R C w Z R' (leaveA a x) C w' := by
  have hpr := hP.pr x hx
  have hokr : (QL.r (a.th x).prio.toNat).ok := by show _ < 8; omega
  have hnn := hP.wn x hx hn
  obtain ⟨ty3, hg3⟩ := hH.g3
  have hho := hH.ho
  have hkk := hH.md.k
  refine enter (n := 81) (K := mdF mb Z R C) (A := MD (mdF mb Z R C) w.heap.size mb Z R a C) (F := mdF mb Z R C) (T := [(0, .pointer (some ⟨mb, 0, none⟩)), (1, .agg #[.int .u16 ((Z.ky x).idx), .int .u32 ((Z.ky x).gen)])]) (L := [(3, ⟨[.int .u16 0, .int .u32 0], ty3, true⟩)]) (args := [.pointer (some ⟨mb, 0, none⟩), .agg #[.int .u16 ((Z.ky x).idx), .int .u32 ((Z.ky x).gen)]]) Tryd.func87 rfl rfl rfl rfl (kcons hg3 knil) (by simp) (kcons (by intro hq; cases hq) knil) hH.mD MD.stable hH.md.low (kcons (by intro hq; cases hq) knil) ?_
  intro ac h
  refine wp_seq_k fun K1 hK1 => ?_
  refine nd_start (l := [0]) rfl ?_
  refine nd_op ?_
  refine op_new tabOk2 (cells := [.int .u16 ((Z.ky x).idx), .int .u32 ((Z.ky x).gen)]) (ty := 39) (ln := none) (L1 := fun b2 => [(3, ⟨[.int .u16 0, .int .u32 0], ty3, true⟩), (b2, ⟨[.int .u16 ((Z.ky x).idx), .int .u32 ((Z.ky x).gen)], 39, false⟩)]) h rfl rfl rfl rfl (by kernel_rfl) (fun _ => rfl) fun b2 w3 a4 h5 hf6 hn7 => ?_
  clear h
  refine nd_done ?_
  refine hK1 _ _ ?_
  clear hK1
  refine wp_seq_k fun K8 hK8 => ?_
  refine dr_start (KB := [3, b2, mb, Z.tb]) (Bi := [[0, 1, 2, 3], [0, 1, 2, 3], [0, 1, 2, 3], [0, 1, 2, 3], [0, 1, 2, 3], [0, 1, 2, 3], [0, 1, 2, 3]]) mixed h5 fun w9 h10 => ?_
  clear h5
  refine dr_batch tabOk2 tabZ_ok2 (by repeat (first | with_reducible exact PF.body | with_reducible apply PF.inB | with_reducible apply PF.next)) [(0, {}), (1, {}), (2, {})] [3, 0, 1, 9] (T' := [(3, .pointer (some ⟨b2, 0, none⟩)), (0, .pointer (some ⟨mb, 0, none⟩)), (1, .agg #[.int .u16 ((Z.ky x).idx), .int .u32 ((Z.ky x).gen)]), (9, .pointer (some ⟨mb, 2, none⟩))]) (φ := True) (fuel := 4) h10 (by kernel_rfl) rfl (by kernel_rfl) (by kernel_rfl) ⟨trivial, trivial, trivial, trivial⟩ trivial fun a12 h13 => ?_
  clear h10
  refine dr_read (i := 3) (b := mb) (p := 2) (v := .map (some Z.tb)) (fuel := 3) (by repeat (first | with_reducible exact PF.body | with_reducible apply PF.inB | with_reducible apply PF.next)) h13 rfl rfl rfl (by kernel_rfl) (by kernel_rfl) (by kernel_rfl) rfl (rd_m h13 (k := 2) (v := .map (some Z.tb)) rfl rfl rfl rfl (md_p ⟨rfl, trivial⟩)) ?_
  have h14 := h13.put (d := some 10) (v := .map (some Z.tb)) (T' := [(10, .map (some Z.tb)), (3, .pointer (some ⟨b2, 0, none⟩)), (0, .pointer (some ⟨mb, 0, none⟩)), (1, .agg #[.int .u16 ((Z.ky x).idx), .int .u32 ((Z.ky x).gen)]), (9, .pointer (some ⟨mb, 2, none⟩))]) rfl
  clear h13
  refine dr_batch tabOk2 tabZ_ok2 (by repeat (first | with_reducible exact PF.body | with_reducible apply PF.inB | with_reducible apply PF.next)) [(4, {k := 1, p := 1})] [10, 3, 0, 1, 11] (T' := [(10, .map (some Z.tb)), (3, .pointer (some ⟨b2, 0, none⟩)), (0, .pointer (some ⟨mb, 0, none⟩)), (1, .agg #[.int .u16 ((Z.ky x).idx), .int .u32 ((Z.ky x).gen)]), (11, .agg #[.int .u16 ((Z.ky x).idx), .int .u32 ((Z.ky x).gen)])]) (φ := (b2 = b2 ∧ Nat.ble (0 + 2) 2 = true) ∧ True) (fuel := 2) h14 (by kernel_rfl) rfl (by kernel_rfl) (by kernel_rfl) ⟨rfl, trivial⟩ ⟨⟨rfl, rfl⟩, trivial⟩ fun a15 h16 => ?_
  clear h14
  refine dr_read (i := 5) (b := Z.tb) (p := 3) (v := .pointer (some ⟨(Z.tp x), 0, none⟩)) (fuel := 1) (by repeat (first | with_reducible exact PF.body | with_reducible apply PF.inB | with_reducible apply PF.next)) h16 rfl rfl rfl (by kernel_rfl) (by kernel_rfl) (by kernel_rfl) rfl (rd_T h16 (x := x) hx rfl rfl rfl) ?_
  have h17 := h16.put (d := some 12) (v := .pointer (some ⟨(Z.tp x), 0, none⟩)) (T' := [(12, .pointer (some ⟨(Z.tp x), 0, none⟩)), (10, .map (some Z.tb)), (3, .pointer (some ⟨b2, 0, none⟩)), (0, .pointer (some ⟨mb, 0, none⟩)), (1, .agg #[.int .u16 ((Z.ky x).idx), .int .u32 ((Z.ky x).gen)]), (11, .agg #[.int .u16 ((Z.ky x).idx), .int .u32 ((Z.ky x).gen)])]) rfl
  clear h16
  refine dr_batch tabOk2 tabZ_ok2 (by repeat (first | with_reducible exact PF.body | with_reducible apply PF.inB | with_reducible apply PF.next)) [(6, {})] [3, 0, 1, 4] (T' := [(3, .pointer (some ⟨b2, 0, none⟩)), (0, .pointer (some ⟨mb, 0, none⟩)), (1, .agg #[.int .u16 ((Z.ky x).idx), .int .u32 ((Z.ky x).gen)]), (4, .pointer (some ⟨(Z.tp x), 0, none⟩))]) (φ := True) (fuel := 0) h17 (by kernel_rfl) rfl (by kernel_rfl) (by kernel_rfl) ⟨trivial, trivial⟩ trivial fun a18 h19 => ?_
  clear h17
  refine wpAnyK_done (by kernel_rfl) ?_ _
  refine hK8 _ _ ?_
  clear hK8
  refine wp_seq_k fun K20 hK20 => ?_
  refine wp_seq_k fun K21 hK21 => ?_
  refine dr_start (KB := [3, b2, mb]) (Bi := [[0, 1, 2], [0, 1, 2], [0, 1, 2], [0, 1, 2], [0, 1, 2], [0, 1, 2]]) mixed h19 fun w22 h23 => ?_
  clear h19
  refine dr_batch tabOk2 tabZ_ok2 (by repeat (first | with_reducible exact PF.body | with_reducible apply PF.inB | with_reducible apply PF.next)) [(0, {}), (1, {}), (2, {})] [3, 0, 1, 4, 15] (T' := [(3, .pointer (some ⟨b2, 0, none⟩)), (0, .pointer (some ⟨mb, 0, none⟩)), (1, .agg #[.int .u16 ((Z.ky x).idx), .int .u32 ((Z.ky x).gen)]), (4, .pointer (some ⟨(Z.tp x), 0, none⟩)), (15, .pointer (some ⟨mb, 13, none⟩))]) (φ := True) (fuel := 3) h23 (by kernel_rfl) rfl (by kernel_rfl) (by kernel_rfl) ⟨trivial, trivial, trivial, trivial⟩ trivial fun a25 h26 => ?_
  clear h23
  refine dr_read (i := 3) (b := mb) (p := 2) (v := .agg #[.int .u16 ((curR Z a).idx), .int .u32 ((curR Z a).gen)]) (fuel := 2) (by repeat (first | with_reducible exact PF.body | with_reducible apply PF.inB | with_reducible apply PF.next)) h26 rfl rfl rfl (by kernel_rfl) (by kernel_rfl) (by kernel_rfl) rfl (rd_mA h26 (k := 13) (vs := [.int .u16 ((curR Z a).idx), .int .u32 ((curR Z a).gen)]) rfl rfl rfl rfl rfl md_cur) ?_
  have h27 := h26.put (d := some 16) (v := .agg #[.int .u16 ((curR Z a).idx), .int .u32 ((curR Z a).gen)]) (T' := [(16, .agg #[.int .u16 ((curR Z a).idx), .int .u32 ((curR Z a).gen)]), (3, .pointer (some ⟨b2, 0, none⟩)), (0, .pointer (some ⟨mb, 0, none⟩)), (1, .agg #[.int .u16 ((Z.ky x).idx), .int .u32 ((Z.ky x).gen)]), (4, .pointer (some ⟨(Z.tp x), 0, none⟩)), (15, .pointer (some ⟨mb, 13, none⟩))]) rfl
  clear h26
  refine dr_batch tabOk2 tabZ_ok2 (by repeat (first | with_reducible exact PF.body | with_reducible apply PF.inB | with_reducible apply PF.next)) [(4, {k := 1, p := 1}), (5, {vs := [.bool (decide ((curR Z a) = (Z.ky x)))]})] [3, 0, 1, 4, 18] (T' := [(3, .pointer (some ⟨b2, 0, none⟩)), (0, .pointer (some ⟨mb, 0, none⟩)), (1, .agg #[.int .u16 ((Z.ky x).idx), .int .u32 ((Z.ky x).gen)]), (4, .pointer (some ⟨(Z.tp x), 0, none⟩)), (18, .bool (Bool.xor false (decide ((curR Z a) = (Z.ky x)))))]) (φ := (b2 = b2 ∧ Nat.ble (0 + 2) 2 = true) ∧ EqRun Tryd.prog 39 (.agg #[.int .u16 ((curR Z a).idx), .int .u32 ((curR Z a).gen)]) (.agg #[.int .u16 ((Z.ky x).idx), .int .u32 ((Z.ky x).gen)]) (decide ((curR Z a) = (Z.ky x))) ∧ True) (fuel := 0) h27 (by kernel_rfl) rfl (by kernel_rfl) (by kernel_rfl) ⟨rfl, trivial, trivial⟩ ⟨⟨rfl, rfl⟩, (runRf (curR Z a) (Z.ky x)), trivial⟩ fun a28 h29 => ?_
  clear h27
  refine wpAnyK_done (by kernel_rfl) ?_ _
  refine hK21 _ _ ?_
  clear hK21
  refine c_split h29 (b := (Bool.xor false (decide ((curR Z a) = (Z.ky x))))) rfl (fun hc30 => ?_) (fun hc30 => ?_)
  ·
    have hc30f : (curR Z a) = (Z.ky x) := by simpa using hc30
    have hst2 : (a.th x).st = 2 := by first | exact (curR_iff hP hkk hx).1 hc30f | exact fun q => hc30f ((curR_iff hP hkk hx).2 q)
    refine nd_start (l := [0, 1, 2, 3, 4]) rfl ?_
    refine nd_batch tabOk2 tabZ_ok2 [(0, {}), (1, {k := 0}), (2, {}), (3, {})] [3, 0, 1, 4, 20, 22] (T' := [(3, .pointer (some ⟨b2, 0, none⟩)), (0, .pointer (some ⟨mb, 0, none⟩)), (1, .agg #[.int .u16 ((Z.ky x).idx), .int .u32 ((Z.ky x).gen)]), (4, .pointer (some ⟨(Z.tp x), 0, none⟩)), (20, .agg #[.int .u16 0, .int .u32 0]), (22, .pointer (some ⟨mb, 13, none⟩))]) (φ := (3 = 3 ∧ Nat.ble (0 + 2) 2 = true) ∧ True) (rest := [4]) h29 (by kernel_rfl) rfl ⟨⟨rfl, rfl⟩, trivial⟩ fun a31 h32 => ?_
    clear h29
    refine nd_op ?_
    refine op_mM (off := 13) (v := .agg #[.int .u16 0, .int .u32 0]) (a' := { a with cur := -1 }) h32 rfl rfl rfl rfl rfl rfl rfl rfl rfl (by decide) (md_cur_w (r := (⟨0, 0⟩ : Rf)) (c := (-1)) rfl) rfl rfl rfl (kcons (fun _ => rfl) (kcons (fun hq => by cases hq) knil)) fun w33 hf34 h35 => ?_
    obtain ⟨a36, ea36⟩ : ∃ z : AK, z = { a with cur := -1 } := ⟨_, rfl⟩
    rw [← ea36] at h35
    clear h32
    have ht37 : a36.th x = (a.th x) := by rw [ea36] <;> exact rfl
    refine nd_done ?_
    refine hK20 _ _ ?_
    clear hK20
    refine wp_seq_k fun K38 hK38 => ?_
    refine dr_start (KB := [3, b2, (Z.tp x), mb]) (Bi := [[0, 1, 2, 3], [0, 1, 2, 3], [0, 1, 2, 3], [0, 1, 2, 3], [0, 1, 2, 3], [0, 1, 2, 3], [0, 1, 2, 3], [0, 1, 2, 3], [0, 1, 2, 3], [0, 1, 2, 3], [0, 1, 2, 3], [0, 1, 2, 3], [0, 1, 2, 3], [0, 1, 2, 3], [0, 1, 2, 3], [2], [0, 1, 2, 3], [0, 1, 2, 3], [0, 1, 2, 3], []]) mixed h35 fun w39 h40 => ?_
    clear h35
    refine dr_batch tabOk2 tabZ_ok2 (by repeat (first | with_reducible exact PF.body | with_reducible apply PF.inB | with_reducible apply PF.next)) [(0, {}), (1, {}), (2, {}), (3, {})] [3, 0, 1, 4, 23, 26] (T' := [(3, .pointer (some ⟨b2, 0, none⟩)), (0, .pointer (some ⟨mb, 0, none⟩)), (1, .agg #[.int .u16 ((Z.ky x).idx), .int .u32 ((Z.ky x).gen)]), (4, .pointer (some ⟨(Z.tp x), 0, none⟩)), (23, .pointer (some ⟨mb, 0, none⟩)), (26, .pointer (some ⟨(Z.tp x), 1, none⟩))]) (φ := True) (fuel := 16) h40 (by kernel_rfl) rfl (by kernel_rfl) (by kernel_rfl) ⟨trivial, trivial, trivial, trivial, trivial⟩ trivial fun a42 h43 => ?_
    clear h40
    refine dr_read (i := 4) (b := (Z.tp x)) (p := 2) (v := .int .u8 ((a.th x).prio)) (fuel := 15) (by repeat (first | with_reducible exact PF.body | with_reducible apply PF.inB | with_reducible apply PF.next)) h43 rfl rfl rfl (by kernel_rfl) (by kernel_rfl) (by kernel_rfl) rfl (rd_th h43 (x := x) (k := 1) (v := .int .u8 ((a.th x).prio)) hx rfl rfl rfl rfl (by rw [ht37]; exact ⟨rfl, trivial⟩)) ?_
    have h44 := h43.put (d := some 27) (v := .int .u8 ((a.th x).prio)) (T' := [(27, .int .u8 ((a.th x).prio)), (3, .pointer (some ⟨b2, 0, none⟩)), (0, .pointer (some ⟨mb, 0, none⟩)), (1, .agg #[.int .u16 ((Z.ky x).idx), .int .u32 ((Z.ky x).gen)]), (4, .pointer (some ⟨(Z.tp x), 0, none⟩)), (23, .pointer (some ⟨mb, 0, none⟩)), (26, .pointer (some ⟨(Z.tp x), 1, none⟩))]) rfl
    clear h43
    refine dr_batch tabOk2 tabZ_ok2 (by repeat (first | with_reducible exact PF.body | with_reducible apply PF.inB | with_reducible apply PF.next)) [(5, {}), (6, {}), (7, {}), (8, {})] [27, 3, 0, 1, 4, 23, 28, 31] (T' := [(27, .int .u8 ((a.th x).prio)), (3, .pointer (some ⟨b2, 0, none⟩)), (0, .pointer (some ⟨mb, 0, none⟩)), (1, .agg #[.int .u16 ((Z.ky x).idx), .int .u32 ((Z.ky x).gen)]), (4, .pointer (some ⟨(Z.tp x), 0, none⟩)), (23, .pointer (some ⟨mb, 0, none⟩)), (28, .pointer (some ⟨mb, 0, none⟩)), (31, .pointer (some ⟨(Z.tp x), 1, none⟩))]) (φ := True) (fuel := 11) h44 (by kernel_rfl) rfl (by kernel_rfl) (by kernel_rfl) ⟨trivial, trivial, trivial, trivial, trivial⟩ trivial fun a45 h46 => ?_
    clear h44
    refine dr_read (i := 9) (b := (Z.tp x)) (p := 2) (v := .int .u8 ((a.th x).prio)) (fuel := 10) (by repeat (first | with_reducible exact PF.body | with_reducible apply PF.inB | with_reducible apply PF.next)) h46 rfl rfl rfl (by kernel_rfl) (by kernel_rfl) (by kernel_rfl) rfl (rd_th h46 (x := x) (k := 1) (v := .int .u8 ((a.th x).prio)) hx rfl rfl rfl rfl (by rw [ht37]; exact ⟨rfl, trivial⟩)) ?_
    have h47 := h46.put (d := some 32) (v := .int .u8 ((a.th x).prio)) (T' := [(32, .int .u8 ((a.th x).prio)), (27, .int .u8 ((a.th x).prio)), (3, .pointer (some ⟨b2, 0, none⟩)), (0, .pointer (some ⟨mb, 0, none⟩)), (1, .agg #[.int .u16 ((Z.ky x).idx), .int .u32 ((Z.ky x).gen)]), (4, .pointer (some ⟨(Z.tp x), 0, none⟩)), (23, .pointer (some ⟨mb, 0, none⟩)), (28, .pointer (some ⟨mb, 0, none⟩)), (31, .pointer (some ⟨(Z.tp x), 1, none⟩))]) rfl
    clear h46
    refine dr_batch tabOk2 tabZ_ok2 (by repeat (first | with_reducible exact PF.body | with_reducible apply PF.inB | with_reducible apply PF.next)) [(10, {}), (11, {}), (12, {})] [27, 3, 0, 1, 4, 23, 35] (T' := [(27, .int .u8 ((a.th x).prio)), (3, .pointer (some ⟨b2, 0, none⟩)), (0, .pointer (some ⟨mb, 0, none⟩)), (1, .agg #[.int .u16 ((Z.ky x).idx), .int .u32 ((Z.ky x).gen)]), (4, .pointer (some ⟨(Z.tp x), 0, none⟩)), (23, .pointer (some ⟨mb, 0, none⟩)), (35, .pointer (some ⟨mb, 5 + ((((a.th x).prio).toNat) * 1), none⟩))]) (φ := (0 ≤ ((a.th x).prio) ∧ ((a.th x).prio) < 8) ∧ True) (fuel := 7) h47 (by kernel_rfl) rfl (by kernel_rfl) (by kernel_rfl) ⟨trivial, trivial, trivial, trivial⟩ ⟨⟨by omega, by omega⟩, trivial⟩ fun a48 h49 => ?_
    clear h47
    refine dr_read (i := 13) (b := mb) (p := 3) (v := .slice (R.ro (((a.th x).prio).toNat)) ((kys Z (a36.q (.r (((a.th x).prio).toNat)))).length) (R.rk (((a.th x).prio).toNat))) (fuel := 6) (by repeat (first | with_reducible exact PF.body | with_reducible apply PF.inB | with_reducible apply PF.next)) h49 rfl rfl rfl (by kernel_rfl) (by kernel_rfl) (by kernel_rfl) rfl (rd_m h49 (k := 5 + ((((a.th x).prio).toNat) * 1)) (v := .slice (R.ro (((a.th x).prio).toNat)) ((kys Z (a36.q (.r (((a.th x).prio).toNat)))).length) (R.rk (((a.th x).prio).toNat))) rfl rfl rfl rfl (md_r (p := (((a.th x).prio).toNat)) (by omega) (by omega))) ?_
    have h50 := h49.put (d := some 36) (v := .slice (R.ro (((a.th x).prio).toNat)) ((kys Z (a36.q (.r (((a.th x).prio).toNat)))).length) (R.rk (((a.th x).prio).toNat))) (T' := [(36, .slice (R.ro (((a.th x).prio).toNat)) ((kys Z (a36.q (.r (((a.th x).prio).toNat)))).length) (R.rk (((a.th x).prio).toNat))), (27, .int .u8 ((a.th x).prio)), (3, .pointer (some ⟨b2, 0, none⟩)), (0, .pointer (some ⟨mb, 0, none⟩)), (1, .agg #[.int .u16 ((Z.ky x).idx), .int .u32 ((Z.ky x).gen)]), (4, .pointer (some ⟨(Z.tp x), 0, none⟩)), (23, .pointer (some ⟨mb, 0, none⟩)), (35, .pointer (some ⟨mb, 5 + ((((a.th x).prio).toNat) * 1), none⟩))]) rfl
    clear h49
    refine dr_batch tabOk2 tabZ_ok2 (by repeat (first | with_reducible exact PF.body | with_reducible apply PF.inB | with_reducible apply PF.next)) [(14, {k := 1, p := 1}), (16, {}), (17, {})] [36, 27, 3, 0, 1, 4, 37, 40] (T' := [(36, .slice (R.ro (((a.th x).prio).toNat)) ((kys Z (a36.q (.r (((a.th x).prio).toNat)))).length) (R.rk (((a.th x).prio).toNat))), (27, .int .u8 ((a.th x).prio)), (3, .pointer (some ⟨b2, 0, none⟩)), (0, .pointer (some ⟨mb, 0, none⟩)), (1, .agg #[.int .u16 ((Z.ky x).idx), .int .u32 ((Z.ky x).gen)]), (4, .pointer (some ⟨(Z.tp x), 0, none⟩)), (37, .agg #[.int .u16 ((Z.ky x).idx), .int .u32 ((Z.ky x).gen)]), (40, .pointer (some ⟨mb, 5, none⟩))]) (φ := (b2 = b2 ∧ Nat.ble (0 + 2) 2 = true) ∧ True) (fuel := 3) h50 (by kernel_rfl) rfl (by kernel_rfl) (by kernel_rfl) ⟨rfl, trivial, trivial, trivial⟩ ⟨⟨rfl, rfl⟩, trivial⟩ fun a51 h52 => ?_
    clear h50
    refine wpAnyK_one (i := 15) (fuel := 2) (by kernel_rfl) ?_
    have hq60 : a36.q (.r (a.th x).prio.toNat) = a.q (.r (a.th x).prio.toNat) := by rw [ea36] <;> first | rfl | exact aq_other _ _ (by simp)
    refine op_call h52 rfl rfl rfl (callOk Tryd.func107 (by decide) rfl) (args := [.slice (R.ro (((a.th x).prio).toNat)) ((kys Z (a36.q (.r (((a.th x).prio).toNat)))).length) (R.rk (((a.th x).prio).toNat)), .agg #[.int .u16 ((Z.ky x).idx), .int .u32 ((Z.ky x).gen)]]) rfl (without_ok (kys Z (a36.q (.r (a.th x).prio.toNat))) (Z.ky x) _ _ _ (by rw [hq60]; exact hP.klen hkk hokr) _ (h52.inv.1.rr (a.th x).prio.toNat (by omega) (by rw [hho]; simp))) ?_
    rintro _ w59 ⟨o53, c54, F55, rfl, hr56, hf57, hF58⟩
    refine ⟨_, rfl, ?_⟩
    rw [withoutP_kys (by rw [hq60]; exact hP.sep hkk hokr hx)] at hr56 ⊢
    have hF58n := newK h52 hF58
    have hF58l := newL h52 hF58
    have hF58a := fun l hl (_ : l ≠ (MLoc.rr (a.th x).prio.toNat)) => h52.inv.1.apart (l0 := (MLoc.rr (a.th x).prio.toNat)) (show _ < 8 by omega) (Nat.le_refl _) (fun b hb => .inr (hF58 b hb)) hl ‹_›
    refine ⟨(keepCons (kpM h52.inv.1 (l := (.th x)) hx (List.mem_cons_self ..) hf57) keepNil), ?_⟩
    have h61 := (h52.grow hf57).put (d := some 38) (v := .slice o53 ((kys Z ((a36.q (.r (a.th x).prio.toNat)).filter (fun y => decide (y ≠ x)))).length) c54) (T' := [(38, .slice o53 ((kys Z ((a36.q (.r (a.th x).prio.toNat)).filter (fun y => decide (y ≠ x)))).length) c54), (36, .slice (R.ro (((a.th x).prio).toNat)) ((kys Z (a36.q (.r (((a.th x).prio).toNat)))).length) (R.rk (((a.th x).prio).toNat))), (27, .int .u8 ((a.th x).prio)), (3, .pointer (some ⟨b2, 0, none⟩)), (0, .pointer (some ⟨mb, 0, none⟩)), (1, .agg #[.int .u16 ((Z.ky x).idx), .int .u32 ((Z.ky x).gen)]), (4, .pointer (some ⟨(Z.tp x), 0, none⟩)), (37, .agg #[.int .u16 ((Z.ky x).idx), .int .u32 ((Z.ky x).gen)]), (40, .pointer (some ⟨mb, 5, none⟩))]) rfl
    clear h52
    refine dr_batch tabOk2 tabZ_ok2 (by repeat (first | with_reducible exact PF.body | with_reducible apply PF.inB | with_reducible apply PF.next)) [(18, {})] [38, 3, 0, 1, 4, 41] (T' := [(38, .slice o53 ((kys Z ((a36.q (.r (a.th x).prio.toNat)).filter (fun y => decide (y ≠ x)))).length) c54), (3, .pointer (some ⟨b2, 0, none⟩)), (0, .pointer (some ⟨mb, 0, none⟩)), (1, .agg #[.int .u16 ((Z.ky x).idx), .int .u32 ((Z.ky x).gen)]), (4, .pointer (some ⟨(Z.tp x), 0, none⟩)), (41, .pointer (some ⟨mb, 5 + ((((a.th x).prio).toNat) * 1), none⟩))]) (φ := (0 ≤ ((a.th x).prio) ∧ ((a.th x).prio) < 8) ∧ True) (fuel := 1) h61 (by kernel_rfl) rfl (by kernel_rfl) (by kernel_rfl) ⟨trivial, trivial⟩ ⟨⟨by omega, by omega⟩, trivial⟩ fun a62 h63 => ?_
    clear h61
    refine wpAnyK_one (i := 19) (fuel := 0) (by kernel_rfl) ?_
    refine op_mRdy (p := (((a.th x).prio).toNat)) (off := 5 + ((((a.th x).prio).toNat) * 1)) (so := o53) (c := c54) (F := F55) (ys := ((a36.q (.r (a.th x).prio.toNat)).filter (fun y => decide (y ≠ x)))) h63 rfl rfl rfl rfl rfl rfl rfl (by omega) (by omega) (.inl hho) hr56 hF58a hF58n (kcons (fun _ => rfl) (kcons (fun hq => by cases hq) knil)) hF58l fun w64 hf65 h66 => ?_
    obtain ⟨a67, ea67⟩ : ∃ z : AK, z = a36.setQ (.r (((a.th x).prio).toNat)) ((a36.q (.r (a.th x).prio.toNat)).filter (fun y => decide (y ≠ x))) := ⟨_, rfl⟩
    rw [← ea67] at h66
    refine ⟨keepNil, ?_⟩
    clear h63
    have ht68 : a67.th x = (a.th x) := by rw [ea67] <;> exact ht37
    have hhoh66 : (R.setR (((a.th x).prio).toNat) o53 c54 F55).ho = none := rfl
    refine wpAnyK_done (by kernel_rfl) ?_ _
    refine hK38 _ _ ?_
    clear hK38
    refine wp_seq_k fun K69 hK69 => ?_
    refine wp_seq_k fun K70 hK70 => ?_
    refine dr_start (KB := [3, b2, mb, (Z.tp x), Z.qb]) (Bi := [[0, 1, 2, 3, 4], [0, 1, 2, 3, 4], [0, 1, 2, 3, 4], [0, 1, 2, 3, 4], [0, 1, 2, 3, 4], [0, 1, 2, 3, 4], [0, 1, 2, 3, 4], [0, 1, 2, 3, 4], [0, 1, 2, 3, 4], [0, 1, 2, 3, 4], [0, 1, 2, 3, 4], [0, 1, 2, 3, 4], [0, 1, 2, 3, 4], [0, 1, 2, 3, 4]]) mixed h66 fun w71 h72 => ?_
    clear h66
    refine dr_batch tabOk2 tabZ_ok2 (by repeat (first | with_reducible exact PF.body | with_reducible apply PF.inB | with_reducible apply PF.next)) [(0, {}), (1, {}), (2, {})] [3, 0, 1, 4, 45] (T' := [(3, .pointer (some ⟨b2, 0, none⟩)), (0, .pointer (some ⟨mb, 0, none⟩)), (1, .agg #[.int .u16 ((Z.ky x).idx), .int .u32 ((Z.ky x).gen)]), (4, .pointer (some ⟨(Z.tp x), 0, none⟩)), (45, .pointer (some ⟨mb, 3, none⟩))]) (φ := True) (fuel := 11) h72 (by kernel_rfl) rfl (by kernel_rfl) (by kernel_rfl) ⟨trivial, trivial, trivial, trivial⟩ trivial fun a74 h75 => ?_
    clear h72
    refine dr_read (i := 3) (b := mb) (p := 2) (v := .map (some Z.qb)) (fuel := 10) (by repeat (first | with_reducible exact PF.body | with_reducible apply PF.inB | with_reducible apply PF.next)) h75 rfl rfl rfl (by kernel_rfl) (by kernel_rfl) (by kernel_rfl) rfl (rd_m h75 (k := 3) (v := .map (some Z.qb)) rfl rfl rfl rfl (md_p ⟨rfl, trivial⟩)) ?_
    have h76 := h75.put (d := some 46) (v := .map (some Z.qb)) (T' := [(46, .map (some Z.qb)), (3, .pointer (some ⟨b2, 0, none⟩)), (0, .pointer (some ⟨mb, 0, none⟩)), (1, .agg #[.int .u16 ((Z.ky x).idx), .int .u32 ((Z.ky x).gen)]), (4, .pointer (some ⟨(Z.tp x), 0, none⟩)), (45, .pointer (some ⟨mb, 3, none⟩))]) rfl
    clear h75
    refine dr_batch tabOk2 tabZ_ok2 (by repeat (first | with_reducible exact PF.body | with_reducible apply PF.inB | with_reducible apply PF.next)) [(4, {}), (5, {}), (6, {})] [46, 3, 0, 1, 4, 49] (T' := [(46, .map (some Z.qb)), (3, .pointer (some ⟨b2, 0, none⟩)), (0, .pointer (some ⟨mb, 0, none⟩)), (1, .agg #[.int .u16 ((Z.ky x).idx), .int .u32 ((Z.ky x).gen)]), (4, .pointer (some ⟨(Z.tp x), 0, none⟩)), (49, .pointer (some ⟨(Z.tp x), 2, none⟩))]) (φ := True) (fuel := 7) h76 (by kernel_rfl) rfl (by kernel_rfl) (by kernel_rfl) ⟨trivial, trivial, trivial, trivial⟩ trivial fun a77 h78 => ?_
    clear h76
    refine dr_read (i := 7) (b := (Z.tp x)) (p := 3) (v := .agg #[.int .u16 ((a.th x).wait.idx), .int .u32 ((a.th x).wait.gen)]) (fuel := 6) (by repeat (first | with_reducible exact PF.body | with_reducible apply PF.inB | with_reducible apply PF.next)) h78 rfl rfl rfl (by kernel_rfl) (by kernel_rfl) (by kernel_rfl) rfl (rd_thA h78 (x := x) (k := 2) (vs := [.int .u16 ((a.th x).wait.idx), .int .u32 ((a.th x).wait.gen)]) hx rfl rfl rfl rfl rfl (by rw [ht68]; exact ⟨rfl, rfl, trivial⟩)) ?_
    have h79 := h78.put (d := some 50) (v := .agg #[.int .u16 ((a.th x).wait.idx), .int .u32 ((a.th x).wait.gen)]) (T' := [(50, .agg #[.int .u16 ((a.th x).wait.idx), .int .u32 ((a.th x).wait.gen)]), (46, .map (some Z.qb)), (3, .pointer (some ⟨b2, 0, none⟩)), (0, .pointer (some ⟨mb, 0, none⟩)), (1, .agg #[.int .u16 ((Z.ky x).idx), .int .u32 ((Z.ky x).gen)]), (4, .pointer (some ⟨(Z.tp x), 0, none⟩)), (49, .pointer (some ⟨(Z.tp x), 2, none⟩))]) rfl
    clear h78
    refine dr_read (i := 8) (b := Z.qb) (p := 4) (v := .tuple #[.slice none 0 0, .bool false]) (fuel := 5) (by repeat (first | with_reducible exact PF.body | with_reducible apply PF.inB | with_reducible apply PF.next)) h79 rfl rfl rfl (by kernel_rfl) (by kernel_rfl) (by kernel_rfl) rfl (rd_QN h79 (k := (a.th x).wait) hnn rfl rfl rfl) ?_
    have h80 := h79.put (d := some 51) (v := .tuple #[.slice none 0 0, .bool false]) (T' := [(51, .tuple #[.slice none 0 0, .bool false]), (50, .agg #[.int .u16 ((a.th x).wait.idx), .int .u32 ((a.th x).wait.gen)]), (46, .map (some Z.qb)), (3, .pointer (some ⟨b2, 0, none⟩)), (0, .pointer (some ⟨mb, 0, none⟩)), (1, .agg #[.int .u16 ((Z.ky x).idx), .int .u32 ((Z.ky x).gen)]), (4, .pointer (some ⟨(Z.tp x), 0, none⟩)), (49, .pointer (some ⟨(Z.tp x), 2, none⟩))]) rfl
    clear h79
    refine dr_batch tabOk2 tabZ_ok2 (by repeat (first | with_reducible exact PF.body | with_reducible apply PF.inB | with_reducible apply PF.next)) [(9, {}), (10, {}), (11, {}), (12, {}), (13, {})] [3, 0, 1, 4, 6] (T' := [(3, .pointer (some ⟨b2, 0, none⟩)), (0, .pointer (some ⟨mb, 0, none⟩)), (1, .agg #[.int .u16 ((Z.ky x).idx), .int .u32 ((Z.ky x).gen)]), (4, .pointer (some ⟨(Z.tp x), 0, none⟩)), (6, .bool false)]) (φ := True) (fuel := 0) h80 (by kernel_rfl) rfl (by kernel_rfl) (by kernel_rfl) ⟨trivial, trivial, trivial, trivial, trivial, trivial⟩ trivial fun a81 h82 => ?_
    clear h80
    refine wpAnyK_done (by kernel_rfl) ?_ _
    refine hK70 _ _ ?_
    clear hK70
    refine wp_seq_k fun K83 hK83 => ?_
    refine nd_start (l := [0]) rfl ?_
    refine nd_batch tabOk2 tabZ_ok2 [(0, {})] [3, 0, 1, 4, 6, 54] (T' := [(3, .pointer (some ⟨b2, 0, none⟩)), (0, .pointer (some ⟨mb, 0, none⟩)), (1, .agg #[.int .u16 ((Z.ky x).idx), .int .u32 ((Z.ky x).gen)]), (4, .pointer (some ⟨(Z.tp x), 0, none⟩)), (6, .bool false), (54, .bool false)]) (φ := True) (rest := []) h82 (by kernel_rfl) rfl trivial fun a84 h85 => ?_
    clear h82
    refine nd_done ?_
    refine hK83 _ _ ?_
    clear hK83
    refine c_false h85 rfl ?_
    refine wp_skip ?_
    refine hK69 _ _ ?_
    clear hK69
    refine nd_start (l := [0, 1, 2, 3, 4, 5, 6, 7, 8]) rfl ?_
    refine nd_batch tabOk2 tabZ_ok2 [(0, {}), (1, {}), (2, {k := 0}), (3, {}), (4, {})] [3, 0, 1, 4, 6, 75, 76, 78] (T' := [(3, .pointer (some ⟨b2, 0, none⟩)), (0, .pointer (some ⟨mb, 0, none⟩)), (1, .agg #[.int .u16 ((Z.ky x).idx), .int .u32 ((Z.ky x).gen)]), (4, .pointer (some ⟨(Z.tp x), 0, none⟩)), (6, .bool false), (75, .pointer (some ⟨(Z.tp x), 0, none⟩)), (76, .agg #[.int .u16 0, .int .u32 0]), (78, .pointer (some ⟨(Z.tp x), 0, none⟩))]) (φ := (3 = 3 ∧ Nat.ble (0 + 2) 2 = true) ∧ True) (rest := [5, 6, 7, 8]) h85 (by kernel_rfl) rfl ⟨⟨rfl, rfl⟩, trivial⟩ fun a86 h87 => ?_
    clear h85
    refine nd_op ?_
    refine op_mTh (x := x) (off := 0) (v := .int .u8 0) (y := { a.th x with st := 0 }) h87 rfl rfl rfl rfl rfl rfl rfl rfl rfl hx rfl (by rw [ht68]; rfl) (kcons (fun _ => rfl) (kcons (fun hq => by cases hq) knil)) fun w88 hf89 h90 => ?_
    obtain ⟨a91, ea91⟩ : ∃ z : AK, z = a67.setT x { a.th x with st := 0 } := ⟨_, rfl⟩
    rw [← ea91] at h90
    clear h87
    have ht92 : a91.th x = { a.th x with st := 0 } := by rw [ea91]; exact upd_same _ _ _
    refine nd_batch tabOk2 tabZ_ok2 [(6, {}), (7, {})] [3, 0, 1, 4, 6, 76, 80] (T' := [(3, .pointer (some ⟨b2, 0, none⟩)), (0, .pointer (some ⟨mb, 0, none⟩)), (1, .agg #[.int .u16 ((Z.ky x).idx), .int .u32 ((Z.ky x).gen)]), (4, .pointer (some ⟨(Z.tp x), 0, none⟩)), (6, .bool false), (76, .agg #[.int .u16 0, .int .u32 0]), (80, .pointer (some ⟨(Z.tp x), 2, none⟩))]) (φ := True) (rest := [8]) h90 (by kernel_rfl) rfl trivial fun a93 h94 => ?_
    clear h90
    refine nd_op ?_
    refine op_mTh (x := x) (off := 2) (v := .agg #[.int .u16 0, .int .u32 0]) (y := { a.th x with st := 0, wait := ⟨0, 0⟩ }) h94 rfl rfl rfl rfl rfl rfl rfl rfl rfl hx rfl (by rw [ht92]; rfl) (kcons (fun _ => rfl) (kcons (fun hq => by cases hq) knil)) fun w95 hf96 h97 => ?_
    obtain ⟨a98, ea98⟩ : ∃ z : AK, z = a91.setT x { a.th x with st := 0, wait := ⟨0, 0⟩ } := ⟨_, rfl⟩
    rw [← ea98] at h97
    clear h94
    have ht99 : a98.th x = { a.th x with st := 0, wait := ⟨0, 0⟩ } := by rw [ea98]; exact upd_same _ _ _
    refine nd_done ?_
    try simp only [Exit.then, Exit.inBlock]
    try rw [if_pos trivial]
    exact s_end tabOk2 tabZ_ok2 h97 [] (vs := []) (φ := True) rfl (by kernel_rfl) trivial ⟨rfl, _, mg_end hH h97 hhoh66 (by subst ea98 ea91 ea67 ea36; exact idleN hP hx hn (-1) (by rw [if_pos hst2]))⟩
  ·
    have hc30f : ¬ ((curR Z a) = (Z.ky x)) := by simpa using hc30
    have hst2 : ¬ (a.th x).st = 2 := by first | exact (curR_iff hP hkk hx).1 hc30f | exact fun q => hc30f ((curR_iff hP hkk hx).2 q)
    refine wp_skip ?_
    refine hK20 _ _ ?_
    clear hK20
    refine wp_seq_k fun K100 hK100 => ?_
    refine dr_start (KB := [3, b2, (Z.tp x), mb]) (Bi := [[0, 1, 2, 3], [0, 1, 2, 3], [0, 1, 2, 3], [0, 1, 2, 3], [0, 1, 2, 3], [0, 1, 2, 3], [0, 1, 2, 3], [0, 1, 2, 3], [0, 1, 2, 3], [0, 1, 2, 3], [0, 1, 2, 3], [0, 1, 2, 3], [0, 1, 2, 3], [0, 1, 2, 3], [0, 1, 2, 3], [2], [0, 1, 2, 3], [0, 1, 2, 3], [0, 1, 2, 3], []]) mixed h29 fun w101 h102 => ?_
    clear h29
    refine dr_batch tabOk2 tabZ_ok2 (by repeat (first | with_reducible exact PF.body | with_reducible apply PF.inB | with_reducible apply PF.next)) [(0, {}), (1, {}), (2, {}), (3, {})] [3, 0, 1, 4, 23, 26] (T' := [(3, .pointer (some ⟨b2, 0, none⟩)), (0, .pointer (some ⟨mb, 0, none⟩)), (1, .agg #[.int .u16 ((Z.ky x).idx), .int .u32 ((Z.ky x).gen)]), (4, .pointer (some ⟨(Z.tp x), 0, none⟩)), (23, .pointer (some ⟨mb, 0, none⟩)), (26, .pointer (some ⟨(Z.tp x), 1, none⟩))]) (φ := True) (fuel := 16) h102 (by kernel_rfl) rfl (by kernel_rfl) (by kernel_rfl) ⟨trivial, trivial, trivial, trivial, trivial⟩ trivial fun a104 h105 => ?_
    clear h102
    refine dr_read (i := 4) (b := (Z.tp x)) (p := 2) (v := .int .u8 ((a.th x).prio)) (fuel := 15) (by repeat (first | with_reducible exact PF.body | with_reducible apply PF.inB | with_reducible apply PF.next)) h105 rfl rfl rfl (by kernel_rfl) (by kernel_rfl) (by kernel_rfl) rfl (rd_th h105 (x := x) (k := 1) (v := .int .u8 ((a.th x).prio)) hx rfl rfl rfl rfl ⟨rfl, trivial⟩) ?_
    have h106 := h105.put (d := some 27) (v := .int .u8 ((a.th x).prio)) (T' := [(27, .int .u8 ((a.th x).prio)), (3, .pointer (some ⟨b2, 0, none⟩)), (0, .pointer (some ⟨mb, 0, none⟩)), (1, .agg #[.int .u16 ((Z.ky x).idx), .int .u32 ((Z.ky x).gen)]), (4, .pointer (some ⟨(Z.tp x), 0, none⟩)), (23, .pointer (some ⟨mb, 0, none⟩)), (26, .pointer (some ⟨(Z.tp x), 1, none⟩))]) rfl
    clear h105
    refine dr_batch tabOk2 tabZ_ok2 (by repeat (first | with_reducible exact PF.body | with_reducible apply PF.inB | with_reducible apply PF.next)) [(5, {}), (6, {}), (7, {}), (8, {})] [27, 3, 0, 1, 4, 23, 28, 31] (T' := [(27, .int .u8 ((a.th x).prio)), (3, .pointer (some ⟨b2, 0, none⟩)), (0, .pointer (some ⟨mb, 0, none⟩)), (1, .agg #[.int .u16 ((Z.ky x).idx), .int .u32 ((Z.ky x).gen)]), (4, .pointer (some ⟨(Z.tp x), 0, none⟩)), (23, .pointer (some ⟨mb, 0, none⟩)), (28, .pointer (some ⟨mb, 0, none⟩)), (31, .pointer (some ⟨(Z.tp x), 1, none⟩))]) (φ := True) (fuel := 11) h106 (by kernel_rfl) rfl (by kernel_rfl) (by kernel_rfl) ⟨trivial, trivial, trivial, trivial, trivial⟩ trivial fun a107 h108 => ?_
    clear h106
    refine dr_read (i := 9) (b := (Z.tp x)) (p := 2) (v := .int .u8 ((a.th x).prio)) (fuel := 10) (by repeat (first | with_reducible exact PF.body | with_reducible apply PF.inB | with_reducible apply PF.next)) h108 rfl rfl rfl (by kernel_rfl) (by kernel_rfl) (by kernel_rfl) rfl (rd_th h108 (x := x) (k := 1) (v := .int .u8 ((a.th x).prio)) hx rfl rfl rfl rfl ⟨rfl, trivial⟩) ?_
    have h109 := h108.put (d := some 32) (v := .int .u8 ((a.th x).prio)) (T' := [(32, .int .u8 ((a.th x).prio)), (27, .int .u8 ((a.th x).prio)), (3, .pointer (some ⟨b2, 0, none⟩)), (0, .pointer (some ⟨mb, 0, none⟩)), (1, .agg #[.int .u16 ((Z.ky x).idx), .int .u32 ((Z.ky x).gen)]), (4, .pointer (some ⟨(Z.tp x), 0, none⟩)), (23, .pointer (some ⟨mb, 0, none⟩)), (28, .pointer (some ⟨mb, 0, none⟩)), (31, .pointer (some ⟨(Z.tp x), 1, none⟩))]) rfl
    clear h108
    refine dr_batch tabOk2 tabZ_ok2 (by repeat (first | with_reducible exact PF.body | with_reducible apply PF.inB | with_reducible apply PF.next)) [(10, {}), (11, {}), (12, {})] [27, 3, 0, 1, 4, 23, 35] (T' := [(27, .int .u8 ((a.th x).prio)), (3, .pointer (some ⟨b2, 0, none⟩)), (0, .pointer (some ⟨mb, 0, none⟩)), (1, .agg #[.int .u16 ((Z.ky x).idx), .int .u32 ((Z.ky x).gen)]), (4, .pointer (some ⟨(Z.tp x), 0, none⟩)), (23, .pointer (some ⟨mb, 0, none⟩)), (35, .pointer (some ⟨mb, 5 + ((((a.th x).prio).toNat) * 1), none⟩))]) (φ := (0 ≤ ((a.th x).prio) ∧ ((a.th x).prio) < 8) ∧ True) (fuel := 7) h109 (by kernel_rfl) rfl (by kernel_rfl) (by kernel_rfl) ⟨trivial, trivial, trivial, trivial⟩ ⟨⟨by omega, by omega⟩, trivial⟩ fun a110 h111 => ?_
    clear h109
    refine dr_read (i := 13) (b := mb) (p := 3) (v := .slice (R.ro (((a.th x).prio).toNat)) ((kys Z (a.q (.r (((a.th x).prio).toNat)))).length) (R.rk (((a.th x).prio).toNat))) (fuel := 6) (by repeat (first | with_reducible exact PF.body | with_reducible apply PF.inB | with_reducible apply PF.next)) h111 rfl rfl rfl (by kernel_rfl) (by kernel_rfl) (by kernel_rfl) rfl (rd_m h111 (k := 5 + ((((a.th x).prio).toNat) * 1)) (v := .slice (R.ro (((a.th x).prio).toNat)) ((kys Z (a.q (.r (((a.th x).prio).toNat)))).length) (R.rk (((a.th x).prio).toNat))) rfl rfl rfl rfl (md_r (p := (((a.th x).prio).toNat)) (by omega) (by omega))) ?_
    have h112 := h111.put (d := some 36) (v := .slice (R.ro (((a.th x).prio).toNat)) ((kys Z (a.q (.r (((a.th x).prio).toNat)))).length) (R.rk (((a.th x).prio).toNat))) (T' := [(36, .slice (R.ro (((a.th x).prio).toNat)) ((kys Z (a.q (.r (((a.th x).prio).toNat)))).length) (R.rk (((a.th x).prio).toNat))), (27, .int .u8 ((a.th x).prio)), (3, .pointer (some ⟨b2, 0, none⟩)), (0, .pointer (some ⟨mb, 0, none⟩)), (1, .agg #[.int .u16 ((Z.ky x).idx), .int .u32 ((Z.ky x).gen)]), (4, .pointer (some ⟨(Z.tp x), 0, none⟩)), (23, .pointer (some ⟨mb, 0, none⟩)), (35, .pointer (some ⟨mb, 5 + ((((a.th x).prio).toNat) * 1), none⟩))]) rfl
    clear h111
    refine dr_batch tabOk2 tabZ_ok2 (by repeat (first | with_reducible exact PF.body | with_reducible apply PF.inB | with_reducible apply PF.next)) [(14, {k := 1, p := 1}), (16, {}), (17, {})] [36, 27, 3, 0, 1, 4, 37, 40] (T' := [(36, .slice (R.ro (((a.th x).prio).toNat)) ((kys Z (a.q (.r (((a.th x).prio).toNat)))).length) (R.rk (((a.th x).prio).toNat))), (27, .int .u8 ((a.th x).prio)), (3, .pointer (some ⟨b2, 0, none⟩)), (0, .pointer (some ⟨mb, 0, none⟩)), (1, .agg #[.int .u16 ((Z.ky x).idx), .int .u32 ((Z.ky x).gen)]), (4, .pointer (some ⟨(Z.tp x), 0, none⟩)), (37, .agg #[.int .u16 ((Z.ky x).idx), .int .u32 ((Z.ky x).gen)]), (40, .pointer (some ⟨mb, 5, none⟩))]) (φ := (b2 = b2 ∧ Nat.ble (0 + 2) 2 = true) ∧ True) (fuel := 3) h112 (by kernel_rfl) rfl (by kernel_rfl) (by kernel_rfl) ⟨rfl, trivial, trivial, trivial⟩ ⟨⟨rfl, rfl⟩, trivial⟩ fun a113 h114 => ?_
    clear h112
    refine wpAnyK_one (i := 15) (fuel := 2) (by kernel_rfl) ?_
    have hq122 : a.q (.r (a.th x).prio.toNat) = a.q (.r (a.th x).prio.toNat) := by first | rfl | exact aq_other _ _ (by simp)
    refine op_call h114 rfl rfl rfl (callOk Tryd.func107 (by decide) rfl) (args := [.slice (R.ro (((a.th x).prio).toNat)) ((kys Z (a.q (.r (((a.th x).prio).toNat)))).length) (R.rk (((a.th x).prio).toNat)), .agg #[.int .u16 ((Z.ky x).idx), .int .u32 ((Z.ky x).gen)]]) rfl (without_ok (kys Z (a.q (.r (a.th x).prio.toNat))) (Z.ky x) _ _ _ (by rw [hq122]; exact hP.klen hkk hokr) _ (h114.inv.1.rr (a.th x).prio.toNat (by omega) (by rw [hho]; simp))) ?_
    rintro _ w121 ⟨o115, c116, F117, rfl, hr118, hf119, hF120⟩
    refine ⟨_, rfl, ?_⟩
    rw [withoutP_kys (by rw [hq122]; exact hP.sep hkk hokr hx)] at hr118 ⊢
    have hF120n := newK h114 hF120
    have hF120l := newL h114 hF120
    have hF120a := fun l hl (_ : l ≠ (MLoc.rr (a.th x).prio.toNat)) => h114.inv.1.apart (l0 := (MLoc.rr (a.th x).prio.toNat)) (show _ < 8 by omega) (Nat.le_refl _) (fun b hb => .inr (hF120 b hb)) hl ‹_›
    refine ⟨(keepCons (kpM h114.inv.1 (l := (.th x)) hx (List.mem_cons_self ..) hf119) keepNil), ?_⟩
    have h123 := (h114.grow hf119).put (d := some 38) (v := .slice o115 ((kys Z ((a.q (.r (a.th x).prio.toNat)).filter (fun y => decide (y ≠ x)))).length) c116) (T' := [(38, .slice o115 ((kys Z ((a.q (.r (a.th x).prio.toNat)).filter (fun y => decide (y ≠ x)))).length) c116), (36, .slice (R.ro (((a.th x).prio).toNat)) ((kys Z (a.q (.r (((a.th x).prio).toNat)))).length) (R.rk (((a.th x).prio).toNat))), (27, .int .u8 ((a.th x).prio)), (3, .pointer (some ⟨b2, 0, none⟩)), (0, .pointer (some ⟨mb, 0, none⟩)), (1, .agg #[.int .u16 ((Z.ky x).idx), .int .u32 ((Z.ky x).gen)]), (4, .pointer (some ⟨(Z.tp x), 0, none⟩)), (37, .agg #[.int .u16 ((Z.ky x).idx), .int .u32 ((Z.ky x).gen)]), (40, .pointer (some ⟨mb, 5, none⟩))]) rfl
    clear h114
    refine dr_batch tabOk2 tabZ_ok2 (by repeat (first | with_reducible exact PF.body | with_reducible apply PF.inB | with_reducible apply PF.next)) [(18, {})] [38, 3, 0, 1, 4, 41] (T' := [(38, .slice o115 ((kys Z ((a.q (.r (a.th x).prio.toNat)).filter (fun y => decide (y ≠ x)))).length) c116), (3, .pointer (some ⟨b2, 0, none⟩)), (0, .pointer (some ⟨mb, 0, none⟩)), (1, .agg #[.int .u16 ((Z.ky x).idx), .int .u32 ((Z.ky x).gen)]), (4, .pointer (some ⟨(Z.tp x), 0, none⟩)), (41, .pointer (some ⟨mb, 5 + ((((a.th x).prio).toNat) * 1), none⟩))]) (φ := (0 ≤ ((a.th x).prio) ∧ ((a.th x).prio) < 8) ∧ True) (fuel := 1) h123 (by kernel_rfl) rfl (by kernel_rfl) (by kernel_rfl) ⟨trivial, trivial⟩ ⟨⟨by omega, by omega⟩, trivial⟩ fun a124 h125 => ?_
    clear h123
    refine wpAnyK_one (i := 19) (fuel := 0) (by kernel_rfl) ?_
    refine op_mRdy (p := (((a.th x).prio).toNat)) (off := 5 + ((((a.th x).prio).toNat) * 1)) (so := o115) (c := c116) (F := F117) (ys := ((a.q (.r (a.th x).prio.toNat)).filter (fun y => decide (y ≠ x)))) h125 rfl rfl rfl rfl rfl rfl rfl (by omega) (by omega) (.inl hho) hr118 hF120a hF120n (kcons (fun _ => rfl) (kcons (fun hq => by cases hq) knil)) hF120l fun w126 hf127 h128 => ?_
    obtain ⟨a129, ea129⟩ : ∃ z : AK, z = a.setQ (.r (((a.th x).prio).toNat)) ((a.q (.r (a.th x).prio.toNat)).filter (fun y => decide (y ≠ x))) := ⟨_, rfl⟩
    rw [← ea129] at h128
    refine ⟨keepNil, ?_⟩
    clear h125
    have ht130 : a129.th x = (a.th x) := by rw [ea129] <;> exact rfl
    have hhoh128 : (R.setR (((a.th x).prio).toNat) o115 c116 F117).ho = none := rfl
    refine wpAnyK_done (by kernel_rfl) ?_ _
    refine hK100 _ _ ?_
    clear hK100
    refine wp_seq_k fun K131 hK131 => ?_
    refine wp_seq_k fun K132 hK132 => ?_
    refine dr_start (KB := [3, b2, mb, (Z.tp x), Z.qb]) (Bi := [[0, 1, 2, 3, 4], [0, 1, 2, 3, 4], [0, 1, 2, 3, 4], [0, 1, 2, 3, 4], [0, 1, 2, 3, 4], [0, 1, 2, 3, 4], [0, 1, 2, 3, 4], [0, 1, 2, 3, 4], [0, 1, 2, 3, 4], [0, 1, 2, 3, 4], [0, 1, 2, 3, 4], [0, 1, 2, 3, 4], [0, 1, 2, 3, 4], [0, 1, 2, 3, 4]]) mixed h128 fun w133 h134 => ?_
    clear h128
    refine dr_batch tabOk2 tabZ_ok2 (by repeat (first | with_reducible exact PF.body | with_reducible apply PF.inB | with_reducible apply PF.next)) [(0, {}), (1, {}), (2, {})] [3, 0, 1, 4, 45] (T' := [(3, .pointer (some ⟨b2, 0, none⟩)), (0, .pointer (some ⟨mb, 0, none⟩)), (1, .agg #[.int .u16 ((Z.ky x).idx), .int .u32 ((Z.ky x).gen)]), (4, .pointer (some ⟨(Z.tp x), 0, none⟩)), (45, .pointer (some ⟨mb, 3, none⟩))]) (φ := True) (fuel := 11) h134 (by kernel_rfl) rfl (by kernel_rfl) (by kernel_rfl) ⟨trivial, trivial, trivial, trivial⟩ trivial fun a136 h137 => ?_
    clear h134
    refine dr_read (i := 3) (b := mb) (p := 2) (v := .map (some Z.qb)) (fuel := 10) (by repeat (first | with_reducible exact PF.body | with_reducible apply PF.inB | with_reducible apply PF.next)) h137 rfl rfl rfl (by kernel_rfl) (by kernel_rfl) (by kernel_rfl) rfl (rd_m h137 (k := 3) (v := .map (some Z.qb)) rfl rfl rfl rfl (md_p ⟨rfl, trivial⟩)) ?_
    have h138 := h137.put (d := some 46) (v := .map (some Z.qb)) (T' := [(46, .map (some Z.qb)), (3, .pointer (some ⟨b2, 0, none⟩)), (0, .pointer (some ⟨mb, 0, none⟩)), (1, .agg #[.int .u16 ((Z.ky x).idx), .int .u32 ((Z.ky x).gen)]), (4, .pointer (some ⟨(Z.tp x), 0, none⟩)), (45, .pointer (some ⟨mb, 3, none⟩))]) rfl
    clear h137
    refine dr_batch tabOk2 tabZ_ok2 (by repeat (first | with_reducible exact PF.body | with_reducible apply PF.inB | with_reducible apply PF.next)) [(4, {}), (5, {}), (6, {})] [46, 3, 0, 1, 4, 49] (T' := [(46, .map (some Z.qb)), (3, .pointer (some ⟨b2, 0, none⟩)), (0, .pointer (some ⟨mb, 0, none⟩)), (1, .agg #[.int .u16 ((Z.ky x).idx), .int .u32 ((Z.ky x).gen)]), (4, .pointer (some ⟨(Z.tp x), 0, none⟩)), (49, .pointer (some ⟨(Z.tp x), 2, none⟩))]) (φ := True) (fuel := 7) h138 (by kernel_rfl) rfl (by kernel_rfl) (by kernel_rfl) ⟨trivial, trivial, trivial, trivial⟩ trivial fun a139 h140 => ?_
    clear h138
    refine dr_read (i := 7) (b := (Z.tp x)) (p := 3) (v := .agg #[.int .u16 ((a.th x).wait.idx), .int .u32 ((a.th x).wait.gen)]) (fuel := 6) (by repeat (first | with_reducible exact PF.body | with_reducible apply PF.inB | with_reducible apply PF.next)) h140 rfl rfl rfl (by kernel_rfl) (by kernel_rfl) (by kernel_rfl) rfl (rd_thA h140 (x := x) (k := 2) (vs := [.int .u16 ((a.th x).wait.idx), .int .u32 ((a.th x).wait.gen)]) hx rfl rfl rfl rfl rfl (by rw [ht130]; exact ⟨rfl, rfl, trivial⟩)) ?_
    have h141 := h140.put (d := some 50) (v := .agg #[.int .u16 ((a.th x).wait.idx), .int .u32 ((a.th x).wait.gen)]) (T' := [(50, .agg #[.int .u16 ((a.th x).wait.idx), .int .u32 ((a.th x).wait.gen)]), (46, .map (some Z.qb)), (3, .pointer (some ⟨b2, 0, none⟩)), (0, .pointer (some ⟨mb, 0, none⟩)), (1, .agg #[.int .u16 ((Z.ky x).idx), .int .u32 ((Z.ky x).gen)]), (4, .pointer (some ⟨(Z.tp x), 0, none⟩)), (49, .pointer (some ⟨(Z.tp x), 2, none⟩))]) rfl
    clear h140
    refine dr_read (i := 8) (b := Z.qb) (p := 4) (v := .tuple #[.slice none 0 0, .bool false]) (fuel := 5) (by repeat (first | with_reducible exact PF.body | with_reducible apply PF.inB | with_reducible apply PF.next)) h141 rfl rfl rfl (by kernel_rfl) (by kernel_rfl) (by kernel_rfl) rfl (rd_QN h141 (k := (a.th x).wait) hnn rfl rfl rfl) ?_
    have h142 := h141.put (d := some 51) (v := .tuple #[.slice none 0 0, .bool false]) (T' := [(51, .tuple #[.slice none 0 0, .bool false]), (50, .agg #[.int .u16 ((a.th x).wait.idx), .int .u32 ((a.th x).wait.gen)]), (46, .map (some Z.qb)), (3, .pointer (some ⟨b2, 0, none⟩)), (0, .pointer (some ⟨mb, 0, none⟩)), (1, .agg #[.int .u16 ((Z.ky x).idx), .int .u32 ((Z.ky x).gen)]), (4, .pointer (some ⟨(Z.tp x), 0, none⟩)), (49, .pointer (some ⟨(Z.tp x), 2, none⟩))]) rfl
    clear h141
    refine dr_batch tabOk2 tabZ_ok2 (by repeat (first | with_reducible exact PF.body | with_reducible apply PF.inB | with_reducible apply PF.next)) [(9, {}), (10, {}), (11, {}), (12, {}), (13, {})] [3, 0, 1, 4, 6] (T' := [(3, .pointer (some ⟨b2, 0, none⟩)), (0, .pointer (some ⟨mb, 0, none⟩)), (1, .agg #[.int .u16 ((Z.ky x).idx), .int .u32 ((Z.ky x).gen)]), (4, .pointer (some ⟨(Z.tp x), 0, none⟩)), (6, .bool false)]) (φ := True) (fuel := 0) h142 (by kernel_rfl) rfl (by kernel_rfl) (by kernel_rfl) ⟨trivial, trivial, trivial, trivial, trivial, trivial⟩ trivial fun a143 h144 => ?_
    clear h142
    refine wpAnyK_done (by kernel_rfl) ?_ _
    refine hK132 _ _ ?_
    clear hK132
    refine wp_seq_k fun K145 hK145 => ?_
    refine nd_start (l := [0]) rfl ?_
    refine nd_batch tabOk2 tabZ_ok2 [(0, {})] [3, 0, 1, 4, 6, 54] (T' := [(3, .pointer (some ⟨b2, 0, none⟩)), (0, .pointer (some ⟨mb, 0, none⟩)), (1, .agg #[.int .u16 ((Z.ky x).idx), .int .u32 ((Z.ky x).gen)]), (4, .pointer (some ⟨(Z.tp x), 0, none⟩)), (6, .bool false), (54, .bool false)]) (φ := True) (rest := []) h144 (by kernel_rfl) rfl trivial fun a146 h147 => ?_
    clear h144
    refine nd_done ?_
    refine hK145 _ _ ?_
    clear hK145
    refine c_false h147 rfl ?_
    refine wp_skip ?_
    refine hK131 _ _ ?_
    clear hK131
    refine nd_start (l := [0, 1, 2, 3, 4, 5, 6, 7, 8]) rfl ?_
    refine nd_batch tabOk2 tabZ_ok2 [(0, {}), (1, {}), (2, {k := 0}), (3, {}), (4, {})] [3, 0, 1, 4, 6, 75, 76, 78] (T' := [(3, .pointer (some ⟨b2, 0, none⟩)), (0, .pointer (some ⟨mb, 0, none⟩)), (1, .agg #[.int .u16 ((Z.ky x).idx), .int .u32 ((Z.ky x).gen)]), (4, .pointer (some ⟨(Z.tp x), 0, none⟩)), (6, .bool false), (75, .pointer (some ⟨(Z.tp x), 0, none⟩)), (76, .agg #[.int .u16 0, .int .u32 0]), (78, .pointer (some ⟨(Z.tp x), 0, none⟩))]) (φ := (3 = 3 ∧ Nat.ble (0 + 2) 2 = true) ∧ True) (rest := [5, 6, 7, 8]) h147 (by kernel_rfl) rfl ⟨⟨rfl, rfl⟩, trivial⟩ fun a148 h149 => ?_
    clear h147
    refine nd_op ?_
    refine op_mTh (x := x) (off := 0) (v := .int .u8 0) (y := { a.th x with st := 0 }) h149 rfl rfl rfl rfl rfl rfl rfl rfl rfl hx rfl (by rw [ht130]; rfl) (kcons (fun _ => rfl) (kcons (fun hq => by cases hq) knil)) fun w150 hf151 h152 => ?_
    obtain ⟨a153, ea153⟩ : ∃ z : AK, z = a129.setT x { a.th x with st := 0 } := ⟨_, rfl⟩
    rw [← ea153] at h152
    clear h149
    have ht154 : a153.th x = { a.th x with st := 0 } := by rw [ea153]; exact upd_same _ _ _
    refine nd_batch tabOk2 tabZ_ok2 [(6, {}), (7, {})] [3, 0, 1, 4, 6, 76, 80] (T' := [(3, .pointer (some ⟨b2, 0, none⟩)), (0, .pointer (some ⟨mb, 0, none⟩)), (1, .agg #[.int .u16 ((Z.ky x).idx), .int .u32 ((Z.ky x).gen)]), (4, .pointer (some ⟨(Z.tp x), 0, none⟩)), (6, .bool false), (76, .agg #[.int .u16 0, .int .u32 0]), (80, .pointer (some ⟨(Z.tp x), 2, none⟩))]) (φ := True) (rest := [8]) h152 (by kernel_rfl) rfl trivial fun a155 h156 => ?_
    clear h152
    refine nd_op ?_
    refine op_mTh (x := x) (off := 2) (v := .agg #[.int .u16 0, .int .u32 0]) (y := { a.th x with st := 0, wait := ⟨0, 0⟩ }) h156 rfl rfl rfl rfl rfl rfl rfl rfl rfl hx rfl (by rw [ht154]; rfl) (kcons (fun _ => rfl) (kcons (fun hq => by cases hq) knil)) fun w157 hf158 h159 => ?_
    obtain ⟨a160, ea160⟩ : ∃ z : AK, z = a153.setT x { a.th x with st := 0, wait := ⟨0, 0⟩ } := ⟨_, rfl⟩
    rw [← ea160] at h159
    clear h156
    have ht161 : a160.th x = { a.th x with st := 0, wait := ⟨0, 0⟩ } := by rw [ea160]; exact upd_same _ _ _
    refine nd_done ?_
    try simp only [Exit.then, Exit.inBlock]
    try rw [if_pos trivial]
    exact s_end tabOk2 tabZ_ok2 h159 [] (vs := []) (φ := True) rfl (by kernel_rfl) trivial ⟨rfl, _, mg_end hH h159 hhoh128 (by subst ea160 ea153 ea129; exact idleN hP hx hn a.cur (by rw [if_neg hst2]))⟩

theorem idleW_ok (mb : Nat) (Z : MZ) (R : MR) (a : AK) (C : CP) (x : Nat) (hx : x ∈ sl Z.tl) (hP : MP Z a) (i : Nat) (hpl : place (a.th x) = some (.w i)) (w : World) (hH : MH mb Z R a C w) :
    Calls Tryd.prog 87 #[.pointer (some ⟨mb, 0, none⟩), .agg #[.int .u16 ((Z.ky x).idx), .int .u32 ((Z.ky x).gen)]] w fun e w' => e = .returned (.tuple #[]) ∧ ∃ R', MG mb Z R C w Z R' (leaveA a x) C w' := by
  have hpr := hP.pr x hx
  have hokr : (QL.r (a.th x).prio.toNat).ok := by show _ < 8; omega
  obtain ⟨hi, hwt⟩ := hP.wq x hx i hpl
  have hokw : (QL.w i).ok := hH.md.k.qx i hi
  obtain ⟨ty3, hg3⟩ := hH.g3
  have hho := hH.ho
  have hkk := hH.md.k
  refine enter (n := 81) (K := mdF mb Z R C) (A := MD (mdF mb Z R C) w.heap.size mb Z R a C) (F := mdF mb Z R C) (T := [(0, .pointer (some ⟨mb, 0, none⟩)), (1, .agg #[.int .u16 ((Z.ky x).idx), .int .u32 ((Z.ky x).gen)])]) (L := [(3, ⟨[.int .u16 0, .int .u32 0], ty3, true⟩)]) (args := [.pointer (some ⟨mb, 0, none⟩), .agg #[.int .u16 ((Z.ky x).idx), .int .u32 ((Z.ky x).gen)]]) Tryd.func87 rfl rfl rfl rfl (kcons hg3 knil) (by simp) (kcons (by intro hq; cases hq) knil) hH.mD MD.stable hH.md.low (kcons (by intro hq; cases hq) knil) ?_
  intro ac h
  refine wp_seq_k fun K1 hK1 => ?_
  refine nd_start (l := [0]) rfl ?_
  refine nd_op ?_
  refine op_new tabOk2 (cells := [.int .u16 ((Z.ky x).idx), .int .u32 ((Z.ky x).gen)]) (ty := 39) (ln := none) (L1 := fun b2 => [(3, ⟨[.int .u16 0, .int .u32 0], ty3, true⟩), (b2, ⟨[.int .u16 ((Z.ky x).idx), .int .u32 ((Z.ky x).gen)], 39, false⟩)]) h rfl rfl rfl rfl (by kernel_rfl) (fun _ => rfl) fun b2 w3 a4 h5 hf6 hn7 => ?_
  clear h
  refine nd_done ?_
  refine hK1 _ _ ?_
  clear hK1
  refine wp_seq_k fun K8 hK8 => ?_
  refine dr_start (KB := [3, b2, mb, Z.tb]) (Bi := [[0, 1, 2, 3], [0, 1, 2, 3], [0, 1, 2, 3], [0, 1, 2, 3], [0, 1, 2, 3], [0, 1, 2, 3], [0, 1, 2, 3]]) mixed h5 fun w9 h10 => ?_
  clear h5
  refine dr_batch tabOk2 tabZ_ok2 (by repeat (first | with_reducible exact PF.body | with_reducible apply PF.inB | with_reducible apply PF.next)) [(0, {}), (1, {}), (2, {})] [3, 0, 1, 9] (T' := [(3, .pointer (some ⟨b2, 0, none⟩)), (0, .pointer (some ⟨mb, 0, none⟩)), (1, .agg #[.int .u16 ((Z.ky x).idx), .int .u32 ((Z.ky x).gen)]), (9, .pointer (some ⟨mb, 2, none⟩))]) (φ := True) (fuel := 4) h10 (by kernel_rfl) rfl (by kernel_rfl) (by kernel_rfl) ⟨trivial, trivial, trivial, trivial⟩ trivial fun a12 h13 => ?_
  clear h10
  refine dr_read (i := 3) (b := mb) (p := 2) (v := .map (some Z.tb)) (fuel := 3) (by repeat (first | with_reducible exact PF.body | with_reducible apply PF.inB | with_reducible apply PF.next)) h13 rfl rfl rfl (by kernel_rfl) (by kernel_rfl) (by kernel_rfl) rfl (rd_m h13 (k := 2) (v := .map (some Z.tb)) rfl rfl rfl rfl (md_p ⟨rfl, trivial⟩)) ?_
  have h14 := h13.put (d := some 10) (v := .map (some Z.tb)) (T' := [(10, .map (some Z.tb)), (3, .pointer (some ⟨b2, 0, none⟩)), (0, .pointer (some ⟨mb, 0, none⟩)), (1, .agg #[.int .u16 ((Z.ky x).idx), .int .u32 ((Z.ky x).gen)]), (9, .pointer (some ⟨mb, 2, none⟩))]) rfl
  clear h13
  refine dr_batch tabOk2 tabZ_ok2 (by repeat (first | with_reducible exact PF.body | with_reducible apply PF.inB | with_reducible apply PF.next)) [(4, {k := 1, p := 1})] [10, 3, 0, 1, 11] (T' := [(10, .map (some Z.tb)), (3, .pointer (some ⟨b2, 0, none⟩)), (0, .pointer (some ⟨mb, 0, none⟩)), (1, .agg #[.int .u16 ((Z.ky x).idx), .int .u32 ((Z.ky x).gen)]), (11, .agg #[.int .u16 ((Z.ky x).idx), .int .u32 ((Z.ky x).gen)])]) (φ := (b2 = b2 ∧ Nat.ble (0 + 2) 2 = true) ∧ True) (fuel := 2) h14 (by kernel_rfl) rfl (by kernel_rfl) (by kernel_rfl) ⟨rfl, trivial⟩ ⟨⟨rfl, rfl⟩, trivial⟩ fun a15 h16 => ?_
  clear h14
  refine dr_read (i := 5) (b := Z.tb) (p := 3) (v := .pointer (some ⟨(Z.tp x), 0, none⟩)) (fuel := 1) (by repeat (first | with_reducible exact PF.body | with_reducible apply PF.inB | with_reducible apply PF.next)) h16 rfl rfl rfl (by kernel_rfl) (by kernel_rfl) (by kernel_rfl) rfl (rd_T h16 (x := x) hx rfl rfl rfl) ?_
  have h17 := h16.put (d := some 12) (v := .pointer (some ⟨(Z.tp x), 0, none⟩)) (T' := [(12, .pointer (some ⟨(Z.tp x), 0, none⟩)), (10, .map (some Z.tb)), (3, .pointer (some ⟨b2, 0, none⟩)), (0, .pointer (some ⟨mb, 0, none⟩)), (1, .agg #[.int .u16 ((Z.ky x).idx), .int .u32 ((Z.ky x).gen)]), (11, .agg #[.int .u16 ((Z.ky x).idx), .int .u32 ((Z.ky x).gen)])]) rfl
  clear h16
  refine dr_batch tabOk2 tabZ_ok2 (by repeat (first | with_reducible exact PF.body | with_reducible apply PF.inB | with_reducible apply PF.next)) [(6, {})] [3, 0, 1, 4] (T' := [(3, .pointer (some ⟨b2, 0, none⟩)), (0, .pointer (some ⟨mb, 0, none⟩)), (1, .agg #[.int .u16 ((Z.ky x).idx), .int .u32 ((Z.ky x).gen)]), (4, .pointer (some ⟨(Z.tp x), 0, none⟩))]) (φ := True) (fuel := 0) h17 (by kernel_rfl) rfl (by kernel_rfl) (by kernel_rfl) ⟨trivial, trivial⟩ trivial fun a18 h19 => ?_
  clear h17
  refine wpAnyK_done (by kernel_rfl) ?_ _
  refine hK8 _ _ ?_
  clear hK8
  refine wp_seq_k fun K20 hK20 => ?_
  refine wp_seq_k fun K21 hK21 => ?_
  refine dr_start (KB := [3, b2, mb]) (Bi := [[0, 1, 2], [0, 1, 2], [0, 1, 2], [0, 1, 2], [0, 1, 2], [0, 1, 2]]) mixed h19 fun w22 h23 => ?_
  clear h19
  refine dr_batch tabOk2 tabZ_ok2 (by repeat (first | with_reducible exact PF.body | with_reducible apply PF.inB | with_reducible apply PF.next)) [(0, {}), (1, {}), (2, {})] [3, 0, 1, 4, 15] (T' := [(3, .pointer (some ⟨b2, 0, none⟩)), (0, .pointer (some ⟨mb, 0, none⟩)), (1, .agg #[.int .u16 ((Z.ky x).idx), .int .u32 ((Z.ky x).gen)]), (4, .pointer (some ⟨(Z.tp x), 0, none⟩)), (15, .pointer (some ⟨mb, 13, none⟩))]) (φ := True) (fuel := 3) h23 (by kernel_rfl) rfl (by kernel_rfl) (by kernel_rfl) ⟨trivial, trivial, trivial, trivial⟩ trivial fun a25 h26 => ?_
  clear h23
  refine dr_read (i := 3) (b := mb) (p := 2) (v := .agg #[.int .u16 ((curR Z a).idx), .int .u32 ((curR Z a).gen)]) (fuel := 2) (by repeat (first | with_reducible exact PF.body | with_reducible apply PF.inB | with_reducible apply PF.next)) h26 rfl rfl rfl (by kernel_rfl) (by kernel_rfl) (by kernel_rfl) rfl (rd_mA h26 (k := 13) (vs := [.int .u16 ((curR Z a).idx), .int .u32 ((curR Z a).gen)]) rfl rfl rfl rfl rfl md_cur) ?_
  have h27 := h26.put (d := some 16) (v := .agg #[.int .u16 ((curR Z a).idx), .int .u32 ((curR Z a).gen)]) (T' := [(16, .agg #[.int .u16 ((curR Z a).idx), .int .u32 ((curR Z a).gen)]), (3, .pointer (some ⟨b2, 0, none⟩)), (0, .pointer (some ⟨mb, 0, none⟩)), (1, .agg #[.int .u16 ((Z.ky x).idx), .int .u32 ((Z.ky x).gen)]), (4, .pointer (some ⟨(Z.tp x), 0, none⟩)), (15, .pointer (some ⟨mb, 13, none⟩))]) rfl
  clear h26
  refine dr_batch tabOk2 tabZ_ok2 (by repeat (first | with_reducible exact PF.body | with_reducible apply PF.inB | with_reducible apply PF.next)) [(4, {k := 1, p := 1}), (5, {vs := [.bool (decide ((curR Z a) = (Z.ky x)))]})] [3, 0, 1, 4, 18] (T' := [(3, .pointer (some ⟨b2, 0, none⟩)), (0, .pointer (some ⟨mb, 0, none⟩)), (1, .agg #[.int .u16 ((Z.ky x).idx), .int .u32 ((Z.ky x).gen)]), (4, .pointer (some ⟨(Z.tp x), 0, none⟩)), (18, .bool (Bool.xor false (decide ((curR Z a) = (Z.ky x)))))]) (φ := (b2 = b2 ∧ Nat.ble (0 + 2) 2 = true) ∧ EqRun Tryd.prog 39 (.agg #[.int .u16 ((curR Z a).idx), .int .u32 ((curR Z a).gen)]) (.agg #[.int .u16 ((Z.ky x).idx), .int .u32 ((Z.ky x).gen)]) (decide ((curR Z a) = (Z.ky x))) ∧ True) (fuel := 0) h27 (by kernel_rfl) rfl (by kernel_rfl) (by kernel_rfl) ⟨rfl, trivial, trivial⟩ ⟨⟨rfl, rfl⟩, (runRf (curR Z a) (Z.ky x)), trivial⟩ fun a28 h29 => ?_
  clear h27
  refine wpAnyK_done (by kernel_rfl) ?_ _
  refine hK21 _ _ ?_
  clear hK21
  refine c_split h29 (b := (Bool.xor false (decide ((curR Z a) = (Z.ky x))))) rfl (fun hc30 => ?_) (fun hc30 => ?_)
  ·
    have hc30f : (curR Z a) = (Z.ky x) := by simpa using hc30
    have hst2 : (a.th x).st = 2 := by first | exact (curR_iff hP hkk hx).1 hc30f | exact fun q => hc30f ((curR_iff hP hkk hx).2 q)
    refine nd_start (l := [0, 1, 2, 3, 4]) rfl ?_
    refine nd_batch tabOk2 tabZ_ok2 [(0, {}), (1, {k := 0}), (2, {}), (3, {})] [3, 0, 1, 4, 20, 22] (T' := [(3, .pointer (some ⟨b2, 0, none⟩)), (0, .pointer (some ⟨mb, 0, none⟩)), (1, .agg #[.int .u16 ((Z.ky x).idx), .int .u32 ((Z.ky x).gen)]), (4, .pointer (some ⟨(Z.tp x), 0, none⟩)), (20, .agg #[.int .u16 0, .int .u32 0]), (22, .pointer (some ⟨mb, 13, none⟩))]) (φ := (3 = 3 ∧ Nat.ble (0 + 2) 2 = true) ∧ True) (rest := [4]) h29 (by kernel_rfl) rfl ⟨⟨rfl, rfl⟩, trivial⟩ fun a31 h32 => ?_
    clear h29
    refine nd_op ?_
    refine op_mM (off := 13) (v := .agg #[.int .u16 0, .int .u32 0]) (a' := { a with cur := -1 }) h32 rfl rfl rfl rfl rfl rfl rfl rfl rfl (by decide) (md_cur_w (r := (⟨0, 0⟩ : Rf)) (c := (-1)) rfl) rfl rfl rfl (kcons (fun _ => rfl) (kcons (fun hq => by cases hq) knil)) fun w33 hf34 h35 => ?_
    obtain ⟨a36, ea36⟩ : ∃ z : AK, z = { a with cur := -1 } := ⟨_, rfl⟩
    rw [← ea36] at h35
    clear h32
    have ht37 : a36.th x = (a.th x) := by rw [ea36] <;> exact rfl
    refine nd_done ?_
    refine hK20 _ _ ?_
    clear hK20
    refine wp_seq_k fun K38 hK38 => ?_
    refine dr_start (KB := [3, b2, (Z.tp x), mb]) (Bi := [[0, 1, 2, 3], [0, 1, 2, 3], [0, 1, 2, 3], [0, 1, 2, 3], [0, 1, 2, 3], [0, 1, 2, 3], [0, 1, 2, 3], [0, 1, 2, 3], [0, 1, 2, 3], [0, 1, 2, 3], [0, 1, 2, 3], [0, 1, 2, 3], [0, 1, 2, 3], [0, 1, 2, 3], [0, 1, 2, 3], [2], [0, 1, 2, 3], [0, 1, 2, 3], [0, 1, 2, 3], []]) mixed h35 fun w39 h40 => ?_
    clear h35
    refine dr_batch tabOk2 tabZ_ok2 (by repeat (first | with_reducible exact PF.body | with_reducible apply PF.inB | with_reducible apply PF.next)) [(0, {}), (1, {}), (2, {}), (3, {})] [3, 0, 1, 4, 23, 26] (T' := [(3, .pointer (some ⟨b2, 0, none⟩)), (0, .pointer (some ⟨mb, 0, none⟩)), (1, .agg #[.int .u16 ((Z.ky x).idx), .int .u32 ((Z.ky x).gen)]), (4, .pointer (some ⟨(Z.tp x), 0, none⟩)), (23, .pointer (some ⟨mb, 0, none⟩)), (26, .pointer (some ⟨(Z.tp x), 1, none⟩))]) (φ := True) (fuel := 16) h40 (by kernel_rfl) rfl (by kernel_rfl) (by kernel_rfl) ⟨trivial, trivial, trivial, trivial, trivial⟩ trivial fun a42 h43 => ?_
    clear h40
    refine dr_read (i := 4) (b := (Z.tp x)) (p := 2) (v := .int .u8 ((a.th x).prio)) (fuel := 15) (by repeat (first | with_reducible exact PF.body | with_reducible apply PF.inB | with_reducible apply PF.next)) h43 rfl rfl rfl (by kernel_rfl) (by kernel_rfl) (by kernel_rfl) rfl (rd_th h43 (x := x) (k := 1) (v := .int .u8 ((a.th x).prio)) hx rfl rfl rfl rfl (by rw [ht37]; exact ⟨rfl, trivial⟩)) ?_
    have h44 := h43.put (d := some 27) (v := .int .u8 ((a.th x).prio)) (T' := [(27, .int .u8 ((a.th x).prio)), (3, .pointer (some ⟨b2, 0, none⟩)), (0, .pointer (some ⟨mb, 0, none⟩)), (1, .agg #[.int .u16 ((Z.ky x).idx), .int .u32 ((Z.ky x).gen)]), (4, .pointer (some ⟨(Z.tp x), 0, none⟩)), (23, .pointer (some ⟨mb, 0, none⟩)), (26, .pointer (some ⟨(Z.tp x), 1, none⟩))]) rfl
    clear h43
    refine dr_batch tabOk2 tabZ_ok2 (by repeat (first | with_reducible exact PF.body | with_reducible apply PF.inB | with_reducible apply PF.next)) [(5, {}), (6, {}), (7, {}), (8, {})] [27, 3, 0, 1, 4, 23, 28, 31] (T' := [(27, .int .u8 ((a.th x).prio)), (3, .pointer (some ⟨b2, 0, none⟩)), (0, .pointer (some ⟨mb, 0, none⟩)), (1, .agg #[.int .u16 ((Z.ky x).idx), .int .u32 ((Z.ky x).gen)]), (4, .pointer (some ⟨(Z.tp x), 0, none⟩)), (23, .pointer (some ⟨mb, 0, none⟩)), (28, .pointer (some ⟨mb, 0, none⟩)), (31, .pointer (some ⟨(Z.tp x), 1, none⟩))]) (φ := True) (fuel := 11) h44 (by kernel_rfl) rfl (by kernel_rfl) (by kernel_rfl) ⟨trivial, trivial, trivial, trivial, trivial⟩ trivial fun a45 h46 => ?_
    clear h44
    refine dr_read (i := 9) (b := (Z.tp x)) (p := 2) (v := .int .u8 ((a.th x).prio)) (fuel := 10) (by repeat (first | with_reducible exact PF.body | with_reducible apply PF.inB | with_reducible apply PF.next)) h46 rfl rfl rfl (by kernel_rfl) (by kernel_rfl) (by kernel_rfl) rfl (rd_th h46 (x := x) (k := 1) (v := .int .u8 ((a.th x).prio)) hx rfl rfl rfl rfl (by rw [ht37]; exact ⟨rfl, trivial⟩)) ?_
    have h47 := h46.put (d := some 32) (v := .int .u8 ((a.th x).prio)) (T' := [(32, .int .u8 ((a.th x).prio)), (27, .int .u8 ((a.th x).prio)), (3, .pointer (some ⟨b2, 0, none⟩)), (0, .pointer (some ⟨mb, 0, none⟩)), (1, .agg #[.int .u16 ((Z.ky x).idx), .int .u32 ((Z.ky x).gen)]), (4, .pointer (some ⟨(Z.tp x), 0, none⟩)), (23, .pointer (some ⟨mb, 0, none⟩)), (28, .pointer (some ⟨mb, 0, none⟩)), (31, .pointer (some ⟨(Z.tp x), 1, none⟩))]) rfl
    clear h46
    refine dr_batch tabOk2 tabZ_ok2 (by repeat (first | with_reducible exact PF.body | with_reducible apply PF.inB | with_reducible apply PF.next)) [(10, {}), (11, {}), (12, {})] [27, 3, 0, 1, 4, 23, 35] (T' := [(27, .int .u8 ((a.th x).prio)), (3, .pointer (some ⟨b2, 0, none⟩)), (0, .pointer (some ⟨mb, 0, none⟩)), (1, .agg #[.int .u16 ((Z.ky x).idx), .int .u32 ((Z.ky x).gen)]), (4, .pointer (some ⟨(Z.tp x), 0, none⟩)), (23, .pointer (some ⟨mb, 0, none⟩)), (35, .pointer (some ⟨mb, 5 + ((((a.th x).prio).toNat) * 1), none⟩))]) (φ := (0 ≤ ((a.th x).prio) ∧ ((a.th x).prio) < 8) ∧ True) (fuel := 7) h47 (by kernel_rfl) rfl (by kernel_rfl) (by kernel_rfl) ⟨trivial, trivial, trivial, trivial⟩ ⟨⟨by omega, by omega⟩, trivial⟩ fun a48 h49 => ?_
    clear h47
    refine dr_read (i := 13) (b := mb) (p := 3) (v := .slice (R.ro (((a.th x).prio).toNat)) ((kys Z (a36.q (.r (((a.th x).prio).toNat)))).length) (R.rk (((a.th x).prio).toNat))) (fuel := 6) (by repeat (first | with_reducible exact PF.body | with_reducible apply PF.inB | with_reducible apply PF.next)) h49 rfl rfl rfl (by kernel_rfl) (by kernel_rfl) (by kernel_rfl) rfl (rd_m h49 (k := 5 + ((((a.th x).prio).toNat) * 1)) (v := .slice (R.ro (((a.th x).prio).toNat)) ((kys Z (a36.q (.r (((a.th x).prio).toNat)))).length) (R.rk (((a.th x).prio).toNat))) rfl rfl rfl rfl (md_r (p := (((a.th x).prio).toNat)) (by omega) (by omega))) ?_
    have h50 := h49.put (d := some 36) (v := .slice (R.ro (((a.th x).prio).toNat)) ((kys Z (a36.q (.r (((a.th x).prio).toNat)))).length) (R.rk (((a.th x).prio).toNat))) (T' := [(36, .slice (R.ro (((a.th x).prio).toNat)) ((kys Z (a36.q (.r (((a.th x).prio).toNat)))).length) (R.rk (((a.th x).prio).toNat))), (27, .int .u8 ((a.th x).prio)), (3, .pointer (some ⟨b2, 0, none⟩)), (0, .pointer (some ⟨mb, 0, none⟩)), (1, .agg #[.int .u16 ((Z.ky x).idx), .int .u32 ((Z.ky x).gen)]), (4, .pointer (some ⟨(Z.tp x), 0, none⟩)), (23, .pointer (some ⟨mb, 0, none⟩)), (35, .pointer (some ⟨mb, 5 + ((((a.th x).prio).toNat) * 1), none⟩))]) rfl
    clear h49
    refine dr_batch tabOk2 tabZ_ok2 (by repeat (first | with_reducible exact PF.body | with_reducible apply PF.inB | with_reducible apply PF.next)) [(14, {k := 1, p := 1}), (16, {}), (17, {})] [36, 27, 3, 0, 1, 4, 37, 40] (T' := [(36, .slice (R.ro (((a.th x).prio).toNat)) ((kys Z (a36.q (.r (((a.th x).prio).toNat)))).length) (R.rk (((a.th x).prio).toNat))), (27, .int .u8 ((a.th x).prio)), (3, .pointer (some ⟨b2, 0, none⟩)), (0, .pointer (some ⟨mb, 0, none⟩)), (1, .agg #[.int .u16 ((Z.ky x).idx), .int .u32 ((Z.ky x).gen)]), (4, .pointer (some ⟨(Z.tp x), 0, none⟩)), (37, .agg #[.int .u16 ((Z.ky x).idx), .int .u32 ((Z.ky x).gen)]), (40, .pointer (some ⟨mb, 5, none⟩))]) (φ := (b2 = b2 ∧ Nat.ble (0 + 2) 2 = true) ∧ True) (fuel := 3) h50 (by kernel_rfl) rfl (by kernel_rfl) (by kernel_rfl) ⟨rfl, trivial, trivial, trivial⟩ ⟨⟨rfl, rfl⟩, trivial⟩ fun a51 h52 => ?_
    clear h50
    refine wpAnyK_one (i := 15) (fuel := 2) (by kernel_rfl) ?_
    have hq60 : a36.q (.r (a.th x).prio.toNat) = a.q (.r (a.th x).prio.toNat) := by rw [ea36] <;> first | rfl | exact aq_other _ _ (by simp)
    refine op_call h52 rfl rfl rfl (callOk Tryd.func107 (by decide) rfl) (args := [.slice (R.ro (((a.th x).prio).toNat)) ((kys Z (a36.q (.r (((a.th x).prio).toNat)))).length) (R.rk (((a.th x).prio).toNat)), .agg #[.int .u16 ((Z.ky x).idx), .int .u32 ((Z.ky x).gen)]]) rfl (without_ok (kys Z (a36.q (.r (a.th x).prio.toNat))) (Z.ky x) _ _ _ (by rw [hq60]; exact hP.klen hkk hokr) _ (h52.inv.1.rr (a.th x).prio.toNat (by omega) (by rw [hho]; simp))) ?_
    rintro _ w59 ⟨o53, c54, F55, rfl, hr56, hf57, hF58⟩
    refine ⟨_, rfl, ?_⟩
    rw [withoutP_kys (by rw [hq60]; exact hP.sep hkk hokr hx)] at hr56 ⊢
    have hF58n := newK h52 hF58
    have hF58l := newL h52 hF58
    have hF58a := fun l hl (_ : l ≠ (MLoc.rr (a.th x).prio.toNat)) => h52.inv.1.apart (l0 := (MLoc.rr (a.th x).prio.toNat)) (show _ < 8 by omega) (Nat.le_refl _) (fun b hb => .inr (hF58 b hb)) hl ‹_›
    refine ⟨(keepCons (kpM h52.inv.1 (l := (.th x)) hx (List.mem_cons_self ..) hf57) keepNil), ?_⟩
    have h61 := (h52.grow hf57).put (d := some 38) (v := .slice o53 ((kys Z ((a36.q (.r (a.th x).prio.toNat)).filter (fun y => decide (y ≠ x)))).length) c54) (T' := [(38, .slice o53 ((kys Z ((a36.q (.r (a.th x).prio.toNat)).filter (fun y => decide (y ≠ x)))).length) c54), (36, .slice (R.ro (((a.th x).prio).toNat)) ((kys Z (a36.q (.r (((a.th x).prio).toNat)))).length) (R.rk (((a.th x).prio).toNat))), (27, .int .u8 ((a.th x).prio)), (3, .pointer (some ⟨b2, 0, none⟩)), (0, .pointer (some ⟨mb, 0, none⟩)), (1, .agg #[.int .u16 ((Z.ky x).idx), .int .u32 ((Z.ky x).gen)]), (4, .pointer (some ⟨(Z.tp x), 0, none⟩)), (37, .agg #[.int .u16 ((Z.ky x).idx), .int .u32 ((Z.ky x).gen)]), (40, .pointer (some ⟨mb, 5, none⟩))]) rfl
    clear h52
    refine dr_batch tabOk2 tabZ_ok2 (by repeat (first | with_reducible exact PF.body | with_reducible apply PF.inB | with_reducible apply PF.next)) [(18, {})] [38, 3, 0, 1, 4, 41] (T' := [(38, .slice o53 ((kys Z ((a36.q (.r (a.th x).prio.toNat)).filter (fun y => decide (y ≠ x)))).length) c54), (3, .pointer (some ⟨b2, 0, none⟩)), (0, .pointer (some ⟨mb, 0, none⟩)), (1, .agg #[.int .u16 ((Z.ky x).idx), .int .u32 ((Z.ky x).gen)]), (4, .pointer (some ⟨(Z.tp x), 0, none⟩)), (41, .pointer (some ⟨mb, 5 + ((((a.th x).prio).toNat) * 1), none⟩))]) (φ := (0 ≤ ((a.th x).prio) ∧ ((a.th x).prio) < 8) ∧ True) (fuel := 1) h61 (by kernel_rfl) rfl (by kernel_rfl) (by kernel_rfl) ⟨trivial, trivial⟩ ⟨⟨by omega, by omega⟩, trivial⟩ fun a62 h63 => ?_
    clear h61
    refine wpAnyK_one (i := 19) (fuel := 0) (by kernel_rfl) ?_
    refine op_mRdy (p := (((a.th x).prio).toNat)) (off := 5 + ((((a.th x).prio).toNat) * 1)) (so := o53) (c := c54) (F := F55) (ys := ((a36.q (.r (a.th x).prio.toNat)).filter (fun y => decide (y ≠ x)))) h63 rfl rfl rfl rfl rfl rfl rfl (by omega) (by omega) (.inl hho) hr56 hF58a hF58n (kcons (fun _ => rfl) (kcons (fun hq => by cases hq) knil)) hF58l fun w64 hf65 h66 => ?_
    obtain ⟨a67, ea67⟩ : ∃ z : AK, z = a36.setQ (.r (((a.th x).prio).toNat)) ((a36.q (.r (a.th x).prio.toNat)).filter (fun y => decide (y ≠ x))) := ⟨_, rfl⟩
    rw [← ea67] at h66
    refine ⟨keepNil, ?_⟩
    clear h63
    have ht68 : a67.th x = (a.th x) := by rw [ea67] <;> exact ht37
    have hhoh66 : (R.setR (((a.th x).prio).toNat) o53 c54 F55).ho = none := rfl
    refine wpAnyK_done (by kernel_rfl) ?_ _
    refine hK38 _ _ ?_
    clear hK38
    refine wp_seq_k fun K69 hK69 => ?_
    refine wp_seq_k fun K70 hK70 => ?_
    refine dr_start (KB := [3, b2, mb, (Z.tp x), Z.qb]) (Bi := [[0, 1, 2, 3, 4], [0, 1, 2, 3, 4], [0, 1, 2, 3, 4], [0, 1, 2, 3, 4], [0, 1, 2, 3, 4], [0, 1, 2, 3, 4], [0, 1, 2, 3, 4], [0, 1, 2, 3, 4], [0, 1, 2, 3, 4], [0, 1, 2, 3, 4], [0, 1, 2, 3, 4], [0, 1, 2, 3, 4], [0, 1, 2, 3, 4], [0, 1, 2, 3, 4]]) mixed h66 fun w71 h72 => ?_
    clear h66
    refine dr_batch tabOk2 tabZ_ok2 (by repeat (first | with_reducible exact PF.body | with_reducible apply PF.inB | with_reducible apply PF.next)) [(0, {}), (1, {}), (2, {})] [3, 0, 1, 4, 45] (T' := [(3, .pointer (some ⟨b2, 0, none⟩)), (0, .pointer (some ⟨mb, 0, none⟩)), (1, .agg #[.int .u16 ((Z.ky x).idx), .int .u32 ((Z.ky x).gen)]), (4, .pointer (some ⟨(Z.tp x), 0, none⟩)), (45, .pointer (some ⟨mb, 3, none⟩))]) (φ := True) (fuel := 11) h72 (by kernel_rfl) rfl (by kernel_rfl) (by kernel_rfl) ⟨trivial, trivial, trivial, trivial⟩ trivial fun a74 h75 => ?_
    clear h72
    refine dr_read (i := 3) (b := mb) (p := 2) (v := .map (some Z.qb)) (fuel := 10) (by repeat (first | with_reducible exact PF.body | with_reducible apply PF.inB | with_reducible apply PF.next)) h75 rfl rfl rfl (by kernel_rfl) (by kernel_rfl) (by kernel_rfl) rfl (rd_m h75 (k := 3) (v := .map (some Z.qb)) rfl rfl rfl rfl (md_p ⟨rfl, trivial⟩)) ?_
    have h76 := h75.put (d := some 46) (v := .map (some Z.qb)) (T' := [(46, .map (some Z.qb)), (3, .pointer (some ⟨b2, 0, none⟩)), (0, .pointer (some ⟨mb, 0, none⟩)), (1, .agg #[.int .u16 ((Z.ky x).idx), .int .u32 ((Z.ky x).gen)]), (4, .pointer (some ⟨(Z.tp x), 0, none⟩)), (45, .pointer (some ⟨mb, 3, none⟩))]) rfl
    clear h75
    refine dr_batch tabOk2 tabZ_ok2 (by repeat (first | with_reducible exact PF.body | with_reducible apply PF.inB | with_reducible apply PF.next)) [(4, {}), (5, {}), (6, {})] [46, 3, 0, 1, 4, 49] (T' := [(46, .map (some Z.qb)), (3, .pointer (some ⟨b2, 0, none⟩)), (0, .pointer (some ⟨mb, 0, none⟩)), (1, .agg #[.int .u16 ((Z.ky x).idx), .int .u32 ((Z.ky x).gen)]), (4, .pointer (some ⟨(Z.tp x), 0, none⟩)), (49, .pointer (some ⟨(Z.tp x), 2, none⟩))]) (φ := True) (fuel := 7) h76 (by kernel_rfl) rfl (by kernel_rfl) (by kernel_rfl) ⟨trivial, trivial, trivial, trivial⟩ trivial fun a77 h78 => ?_
    clear h76
    refine dr_read (i := 7) (b := (Z.tp x)) (p := 3) (v := .agg #[.int .u16 ((Z.ky i).idx), .int .u32 ((Z.ky i).gen)]) (fuel := 6) (by repeat (first | with_reducible exact PF.body | with_reducible apply PF.inB | with_reducible apply PF.next)) h78 rfl rfl rfl (by kernel_rfl) (by kernel_rfl) (by kernel_rfl) rfl (rd_thA h78 (x := x) (k := 2) (vs := [.int .u16 ((Z.ky i).idx), .int .u32 ((Z.ky i).gen)]) hx rfl rfl rfl rfl rfl (by rw [ht68, ← hwt]; exact ⟨rfl, rfl, trivial⟩)) ?_
    have h79 := h78.put (d := some 50) (v := .agg #[.int .u16 ((Z.ky i).idx), .int .u32 ((Z.ky i).gen)]) (T' := [(50, .agg #[.int .u16 ((Z.ky i).idx), .int .u32 ((Z.ky i).gen)]), (46, .map (some Z.qb)), (3, .pointer (some ⟨b2, 0, none⟩)), (0, .pointer (some ⟨mb, 0, none⟩)), (1, .agg #[.int .u16 ((Z.ky x).idx), .int .u32 ((Z.ky x).gen)]), (4, .pointer (some ⟨(Z.tp x), 0, none⟩)), (49, .pointer (some ⟨(Z.tp x), 2, none⟩))]) rfl
    clear h78
    refine dr_read (i := 8) (b := Z.qb) (p := 4) (v := .tuple #[.slice ((R.setR (((a.th x).prio).toNat) o53 c54 F55).qo i) ((kys Z (a67.q (.w i))).length) ((R.setR (((a.th x).prio).toNat) o53 c54 F55).qk i), .bool true]) (fuel := 5) (by repeat (first | with_reducible exact PF.body | with_reducible apply PF.inB | with_reducible apply PF.next)) h79 rfl rfl rfl (by kernel_rfl) (by kernel_rfl) (by kernel_rfl) rfl (rd_QB h79 (x := i) hi rfl rfl rfl) ?_
    have h80 := h79.put (d := some 51) (v := .tuple #[.slice ((R.setR (((a.th x).prio).toNat) o53 c54 F55).qo i) ((kys Z (a67.q (.w i))).length) ((R.setR (((a.th x).prio).toNat) o53 c54 F55).qk i), .bool true]) (T' := [(51, .tuple #[.slice ((R.setR (((a.th x).prio).toNat) o53 c54 F55).qo i) ((kys Z (a67.q (.w i))).length) ((R.setR (((a.th x).prio).toNat) o53 c54 F55).qk i), .bool true]), (50, .agg #[.int .u16 ((Z.ky i).idx), .int .u32 ((Z.ky i).gen)]), (46, .map (some Z.qb)), (3, .pointer (some ⟨b2, 0, none⟩)), (0, .pointer (some ⟨mb, 0, none⟩)), (1, .agg #[.int .u16 ((Z.ky x).idx), .int .u32 ((Z.ky x).gen)]), (4, .pointer (some ⟨(Z.tp x), 0, none⟩)), (49, .pointer (some ⟨(Z.tp x), 2, none⟩))]) rfl
    clear h79
    refine dr_batch tabOk2 tabZ_ok2 (by repeat (first | with_reducible exact PF.body | with_reducible apply PF.inB | with_reducible apply PF.next)) [(9, {}), (10, {}), (11, {}), (12, {}), (13, {})] [3, 0, 1, 4, 6] (T' := [(3, .pointer (some ⟨b2, 0, none⟩)), (0, .pointer (some ⟨mb, 0, none⟩)), (1, .agg #[.int .u16 ((Z.ky x).idx), .int .u32 ((Z.ky x).gen)]), (4, .pointer (some ⟨(Z.tp x), 0, none⟩)), (6, .bool true)]) (φ := True) (fuel := 0) h80 (by kernel_rfl) rfl (by kernel_rfl) (by kernel_rfl) ⟨trivial, trivial, trivial, trivial, trivial, trivial⟩ trivial fun a81 h82 => ?_
    clear h80
    refine wpAnyK_done (by kernel_rfl) ?_ _
    refine hK70 _ _ ?_
    clear hK70
    refine wp_seq_k fun K83 hK83 => ?_
    refine nd_start (l := [0]) rfl ?_
    refine nd_batch tabOk2 tabZ_ok2 [(0, {})] [3, 0, 1, 4, 6, 54] (T' := [(3, .pointer (some ⟨b2, 0, none⟩)), (0, .pointer (some ⟨mb, 0, none⟩)), (1, .agg #[.int .u16 ((Z.ky x).idx), .int .u32 ((Z.ky x).gen)]), (4, .pointer (some ⟨(Z.tp x), 0, none⟩)), (6, .bool true), (54, .bool true)]) (φ := True) (rest := []) h82 (by kernel_rfl) rfl trivial fun a84 h85 => ?_
    clear h82
    refine nd_done ?_
    refine hK83 _ _ ?_
    clear hK83
    refine c_true h85 rfl ?_
    refine dr_start (KB := [3, b2, mb, (Z.tp x), Z.qb]) (Bi := [[0, 1, 2, 3, 4], [0, 1, 2, 3, 4], [0, 1, 2, 3, 4], [0, 1, 2, 3, 4], [0, 1, 2, 3, 4], [0, 1, 2, 3, 4], [0, 1, 2, 3, 4], [0, 1, 2, 3, 4], [0, 1, 2, 3, 4], [0, 1, 2, 3, 4], [0, 1, 2, 3, 4], [0, 1, 2, 3, 4], [0, 1, 2, 3, 4], [0, 1, 2, 3, 4], [0, 1, 2, 3, 4], [0, 1, 2, 3, 4], [0, 1, 2, 3, 4], [0, 1, 2, 3, 4], [2, 3], []]) mixed h85 fun w86 h87 => ?_
    clear h85
    refine dr_batch tabOk2 tabZ_ok2 (by repeat (first | with_reducible exact PF.body | with_reducible apply PF.inB | with_reducible apply PF.next)) [(0, {}), (1, {}), (2, {})] [3, 0, 1, 4, 6, 57] (T' := [(3, .pointer (some ⟨b2, 0, none⟩)), (0, .pointer (some ⟨mb, 0, none⟩)), (1, .agg #[.int .u16 ((Z.ky x).idx), .int .u32 ((Z.ky x).gen)]), (4, .pointer (some ⟨(Z.tp x), 0, none⟩)), (6, .bool true), (57, .pointer (some ⟨mb, 3, none⟩))]) (φ := True) (fuel := 17) h87 (by kernel_rfl) rfl (by kernel_rfl) (by kernel_rfl) ⟨trivial, trivial, trivial, trivial⟩ trivial fun a89 h90 => ?_
    clear h87
    refine dr_read (i := 3) (b := mb) (p := 2) (v := .map (some Z.qb)) (fuel := 16) (by repeat (first | with_reducible exact PF.body | with_reducible apply PF.inB | with_reducible apply PF.next)) h90 rfl rfl rfl (by kernel_rfl) (by kernel_rfl) (by kernel_rfl) rfl (rd_m h90 (k := 3) (v := .map (some Z.qb)) rfl rfl rfl rfl (md_p ⟨rfl, trivial⟩)) ?_
    have h91 := h90.put (d := some 58) (v := .map (some Z.qb)) (T' := [(58, .map (some Z.qb)), (3, .pointer (some ⟨b2, 0, none⟩)), (0, .pointer (some ⟨mb, 0, none⟩)), (1, .agg #[.int .u16 ((Z.ky x).idx), .int .u32 ((Z.ky x).gen)]), (4, .pointer (some ⟨(Z.tp x), 0, none⟩)), (6, .bool true), (57, .pointer (some ⟨mb, 3, none⟩))]) rfl
    clear h90
    refine dr_batch tabOk2 tabZ_ok2 (by repeat (first | with_reducible exact PF.body | with_reducible apply PF.inB | with_reducible apply PF.next)) [(4, {}), (5, {}), (6, {})] [58, 3, 0, 1, 4, 6, 61] (T' := [(58, .map (some Z.qb)), (3, .pointer (some ⟨b2, 0, none⟩)), (0, .pointer (some ⟨mb, 0, none⟩)), (1, .agg #[.int .u16 ((Z.ky x).idx), .int .u32 ((Z.ky x).gen)]), (4, .pointer (some ⟨(Z.tp x), 0, none⟩)), (6, .bool true), (61, .pointer (some ⟨(Z.tp x), 2, none⟩))]) (φ := True) (fuel := 13) h91 (by kernel_rfl) rfl (by kernel_rfl) (by kernel_rfl) ⟨trivial, trivial, trivial, trivial⟩ trivial fun a92 h93 => ?_
    clear h91
    refine dr_read (i := 7) (b := (Z.tp x)) (p := 3) (v := .agg #[.int .u16 ((Z.ky i).idx), .int .u32 ((Z.ky i).gen)]) (fuel := 12) (by repeat (first | with_reducible exact PF.body | with_reducible apply PF.inB | with_reducible apply PF.next)) h93 rfl rfl rfl (by kernel_rfl) (by kernel_rfl) (by kernel_rfl) rfl (rd_thA h93 (x := x) (k := 2) (vs := [.int .u16 ((Z.ky i).idx), .int .u32 ((Z.ky i).gen)]) hx rfl rfl rfl rfl rfl (by rw [ht68, ← hwt]; exact ⟨rfl, rfl, trivial⟩)) ?_
    have h94 := h93.put (d := some 62) (v := .agg #[.int .u16 ((Z.ky i).idx), .int .u32 ((Z.ky i).gen)]) (T' := [(62, .agg #[.int .u16 ((Z.ky i).idx), .int .u32 ((Z.ky i).gen)]), (58, .map (some Z.qb)), (3, .pointer (some ⟨b2, 0, none⟩)), (0, .pointer (some ⟨mb, 0, none⟩)), (1, .agg #[.int .u16 ((Z.ky x).idx), .int .u32 ((Z.ky x).gen)]), (4, .pointer (some ⟨(Z.tp x), 0, none⟩)), (6, .bool true), (61, .pointer (some ⟨(Z.tp x), 2, none⟩))]) rfl
    clear h93
    refine dr_batch tabOk2 tabZ_ok2 (by repeat (first | with_reducible exact PF.body | with_reducible apply PF.inB | with_reducible apply PF.next)) [(8, {}), (9, {}), (10, {})] [62, 58, 3, 0, 1, 4, 6, 65] (T' := [(62, .agg #[.int .u16 ((Z.ky i).idx), .int .u32 ((Z.ky i).gen)]), (58, .map (some Z.qb)), (3, .pointer (some ⟨b2, 0, none⟩)), (0, .pointer (some ⟨mb, 0, none⟩)), (1, .agg #[.int .u16 ((Z.ky x).idx), .int .u32 ((Z.ky x).gen)]), (4, .pointer (some ⟨(Z.tp x), 0, none⟩)), (6, .bool true), (65, .pointer (some ⟨mb, 3, none⟩))]) (φ := True) (fuel := 9) h94 (by kernel_rfl) rfl (by kernel_rfl) (by kernel_rfl) ⟨trivial, trivial, trivial, trivial⟩ trivial fun a95 h96 => ?_
    clear h94
    refine dr_read (i := 11) (b := mb) (p := 2) (v := .map (some Z.qb)) (fuel := 8) (by repeat (first | with_reducible exact PF.body | with_reducible apply PF.inB | with_reducible apply PF.next)) h96 rfl rfl rfl (by kernel_rfl) (by kernel_rfl) (by kernel_rfl) rfl (rd_m h96 (k := 3) (v := .map (some Z.qb)) rfl rfl rfl rfl (md_p ⟨rfl, trivial⟩)) ?_
    have h97 := h96.put (d := some 66) (v := .map (some Z.qb)) (T' := [(66, .map (some Z.qb)), (62, .agg #[.int .u16 ((Z.ky i).idx), .int .u32 ((Z.ky i).gen)]), (58, .map (some Z.qb)), (3, .pointer (some ⟨b2, 0, none⟩)), (0, .pointer (some ⟨mb, 0, none⟩)), (1, .agg #[.int .u16 ((Z.ky x).idx), .int .u32 ((Z.ky x).gen)]), (4, .pointer (some ⟨(Z.tp x), 0, none⟩)), (6, .bool true), (65, .pointer (some ⟨mb, 3, none⟩))]) rfl
    clear h96
    refine dr_batch tabOk2 tabZ_ok2 (by repeat (first | with_reducible exact PF.body | with_reducible apply PF.inB | with_reducible apply PF.next)) [(12, {}), (13, {}), (14, {})] [66, 62, 58, 3, 0, 1, 4, 6, 69] (T' := [(66, .map (some Z.qb)), (62, .agg #[.int .u16 ((Z.ky i).idx), .int .u32 ((Z.ky i).gen)]), (58, .map (some Z.qb)), (3, .pointer (some ⟨b2, 0, none⟩)), (0, .pointer (some ⟨mb, 0, none⟩)), (1, .agg #[.int .u16 ((Z.ky x).idx), .int .u32 ((Z.ky x).gen)]), (4, .pointer (some ⟨(Z.tp x), 0, none⟩)), (6, .bool true), (69, .pointer (some ⟨(Z.tp x), 2, none⟩))]) (φ := True) (fuel := 5) h97 (by kernel_rfl) rfl (by kernel_rfl) (by kernel_rfl) ⟨trivial, trivial, trivial, trivial⟩ trivial fun a98 h99 => ?_
    clear h97
    refine dr_read (i := 15) (b := (Z.tp x)) (p := 3) (v := .agg #[.int .u16 ((Z.ky i).idx), .int .u32 ((Z.ky i).gen)]) (fuel := 4) (by repeat (first | with_reducible exact PF.body | with_reducible apply PF.inB | with_reducible apply PF.next)) h99 rfl rfl rfl (by kernel_rfl) (by kernel_rfl) (by kernel_rfl) rfl (rd_thA h99 (x := x) (k := 2) (vs := [.int .u16 ((Z.ky i).idx), .int .u32 ((Z.ky i).gen)]) hx rfl rfl rfl rfl rfl (by rw [ht68, ← hwt]; exact ⟨rfl, rfl, trivial⟩)) ?_
    have h100 := h99.put (d := some 70) (v := .agg #[.int .u16 ((Z.ky i).idx), .int .u32 ((Z.ky i).gen)]) (T' := [(70, .agg #[.int .u16 ((Z.ky i).idx), .int .u32 ((Z.ky i).gen)]), (66, .map (some Z.qb)), (62, .agg #[.int .u16 ((Z.ky i).idx), .int .u32 ((Z.ky i).gen)]), (58, .map (some Z.qb)), (3, .pointer (some ⟨b2, 0, none⟩)), (0, .pointer (some ⟨mb, 0, none⟩)), (1, .agg #[.int .u16 ((Z.ky x).idx), .int .u32 ((Z.ky x).gen)]), (4, .pointer (some ⟨(Z.tp x), 0, none⟩)), (6, .bool true), (69, .pointer (some ⟨(Z.tp x), 2, none⟩))]) rfl
    clear h99
    refine dr_read (i := 16) (b := Z.qb) (p := 4) (v := .slice ((R.setR (((a.th x).prio).toNat) o53 c54 F55).qo i) ((kys Z (a67.q (.w i))).length) ((R.setR (((a.th x).prio).toNat) o53 c54 F55).qk i)) (fuel := 3) (by repeat (first | with_reducible exact PF.body | with_reducible apply PF.inB | with_reducible apply PF.next)) h100 rfl rfl rfl (by kernel_rfl) (by kernel_rfl) (by kernel_rfl) rfl (rd_Q h100 (x := i) hi rfl rfl rfl) ?_
    have h101 := h100.put (d := some 71) (v := .slice ((R.setR (((a.th x).prio).toNat) o53 c54 F55).qo i) ((kys Z (a67.q (.w i))).length) ((R.setR (((a.th x).prio).toNat) o53 c54 F55).qk i)) (T' := [(71, .slice ((R.setR (((a.th x).prio).toNat) o53 c54 F55).qo i) ((kys Z (a67.q (.w i))).length) ((R.setR (((a.th x).prio).toNat) o53 c54 F55).qk i)), (70, .agg #[.int .u16 ((Z.ky i).idx), .int .u32 ((Z.ky i).gen)]), (66, .map (some Z.qb)), (62, .agg #[.int .u16 ((Z.ky i).idx), .int .u32 ((Z.ky i).gen)]), (58, .map (some Z.qb)), (3, .pointer (some ⟨b2, 0, none⟩)), (0, .pointer (some ⟨mb, 0, none⟩)), (1, .agg #[.int .u16 ((Z.ky x).idx), .int .u32 ((Z.ky x).gen)]), (4, .pointer (some ⟨(Z.tp x), 0, none⟩)), (6, .bool true), (69, .pointer (some ⟨(Z.tp x), 2, none⟩))]) rfl
    clear h100
    refine dr_batch tabOk2 tabZ_ok2 (by repeat (first | with_reducible exact PF.body | with_reducible apply PF.inB | with_reducible apply PF.next)) [(17, {k := 1, p := 1})] [71, 62, 58, 3, 0, 1, 4, 6, 72] (T' := [(71, .slice ((R.setR (((a.th x).prio).toNat) o53 c54 F55).qo i) ((kys Z (a67.q (.w i))).length) ((R.setR (((a.th x).prio).toNat) o53 c54 F55).qk i)), (62, .agg #[.int .u16 ((Z.ky i).idx), .int .u32 ((Z.ky i).gen)]), (58, .map (some Z.qb)), (3, .pointer (some ⟨b2, 0, none⟩)), (0, .pointer (some ⟨mb, 0, none⟩)), (1, .agg #[.int .u16 ((Z.ky x).idx), .int .u32 ((Z.ky x).gen)]), (4, .pointer (some ⟨(Z.tp x), 0, none⟩)), (6, .bool true), (72, .agg #[.int .u16 ((Z.ky x).idx), .int .u32 ((Z.ky x).gen)])]) (φ := (b2 = b2 ∧ Nat.ble (0 + 2) 2 = true) ∧ True) (fuel := 2) h101 (by kernel_rfl) rfl (by kernel_rfl) (by kernel_rfl) ⟨rfl, trivial⟩ ⟨⟨rfl, rfl⟩, trivial⟩ fun a102 h103 => ?_
    clear h101
    refine wpAnyK_one (i := 18) (fuel := 1) (by kernel_rfl) ?_
    have hq111 : a67.q (.w i) = a.q (.w i) := by rw [ea67, ea36] <;> first | rfl | exact aq_other _ _ (by simp)
    refine op_call h103 rfl rfl rfl (callOk Tryd.func107 (by decide) rfl) (args := [.slice ((R.setR (((a.th x).prio).toNat) o53 c54 F55).qo i) ((kys Z (a67.q (.w i))).length) ((R.setR (((a.th x).prio).toNat) o53 c54 F55).qk i), .agg #[.int .u16 ((Z.ky x).idx), .int .u32 ((Z.ky x).gen)]]) rfl (without_ok (kys Z (a67.q (.w i))) (Z.ky x) _ _ _ (by rw [hq111]; exact hP.klen hkk hokw) _ (h103.inv.1.qr i hi (by rw [hhoh66]; simp))) ?_
    rintro _ w110 ⟨o104, c105, F106, rfl, hr107, hf108, hF109⟩
    refine ⟨_, rfl, ?_⟩
    rw [withoutP_kys (by rw [hq111]; exact hP.sep hkk hokw hx)] at hr107 ⊢
    have hF109n := newK h103 hF109
    have hF109l := newL h103 hF109
    have hF109a := fun l hl (_ : l ≠ (MLoc.qr i)) => h103.inv.1.apart (l0 := (MLoc.qr i)) hi (Nat.le_refl _) (fun b hb => .inr (hF109 b hb)) hl ‹_›
    refine ⟨(keepCons (kpM h103.inv.1 (l := .m) trivial (List.mem_cons_self ..) hf108) (keepCons (kpM h103.inv.1 (l := (.th x)) hx (List.mem_cons_self ..) hf108) keepNil)), ?_⟩
    have h112 := (h103.grow hf108).put (d := some 73) (v := .slice o104 ((kys Z ((a67.q (.w i)).filter (fun y => decide (y ≠ x)))).length) c105) (T' := [(73, .slice o104 ((kys Z ((a67.q (.w i)).filter (fun y => decide (y ≠ x)))).length) c105), (71, .slice ((R.setR (((a.th x).prio).toNat) o53 c54 F55).qo i) ((kys Z (a67.q (.w i))).length) ((R.setR (((a.th x).prio).toNat) o53 c54 F55).qk i)), (62, .agg #[.int .u16 ((Z.ky i).idx), .int .u32 ((Z.ky i).gen)]), (58, .map (some Z.qb)), (3, .pointer (some ⟨b2, 0, none⟩)), (0, .pointer (some ⟨mb, 0, none⟩)), (1, .agg #[.int .u16 ((Z.ky x).idx), .int .u32 ((Z.ky x).gen)]), (4, .pointer (some ⟨(Z.tp x), 0, none⟩)), (6, .bool true), (72, .agg #[.int .u16 ((Z.ky x).idx), .int .u32 ((Z.ky x).gen)])]) rfl
    clear h103
    refine wpAnyK_one (i := 19) (fuel := 0) (by kernel_rfl) ?_
    refine op_mQ (j := i) (so := o104) (c := c105) (F := F106) (ys := ((a67.q (.w i)).filter (fun y => decide (y ≠ x)))) h112 rfl rfl rfl rfl rfl rfl rfl hi hhoh66 hr107 hF109a hF109n hF109l (kcons (fun _ => rfl) (kcons (fun hq => by cases hq) knil)) fun w113 hf114 h115a => ?_
    have h115 := h115a.put (d := none) (v := undef) (T' := [(73, .slice o104 ((kys Z ((a67.q (.w i)).filter (fun y => decide (y ≠ x)))).length) c105), (71, .slice ((R.setR (((a.th x).prio).toNat) o53 c54 F55).qo i) ((kys Z (a67.q (.w i))).length) ((R.setR (((a.th x).prio).toNat) o53 c54 F55).qk i)), (62, .agg #[.int .u16 ((Z.ky i).idx), .int .u32 ((Z.ky i).gen)]), (58, .map (some Z.qb)), (3, .pointer (some ⟨b2, 0, none⟩)), (0, .pointer (some ⟨mb, 0, none⟩)), (1, .agg #[.int .u16 ((Z.ky x).idx), .int .u32 ((Z.ky x).gen)]), (4, .pointer (some ⟨(Z.tp x), 0, none⟩)), (6, .bool true), (72, .agg #[.int .u16 ((Z.ky x).idx), .int .u32 ((Z.ky x).gen)])]) rfl
    obtain ⟨a116, ea116⟩ : ∃ z : AK, z = a67.setQ (.w i) ((a67.q (.w i)).filter (fun y => decide (y ≠ x))) := ⟨_, rfl⟩
    rw [← ea116] at h115
    refine ⟨keepNil, ?_⟩
    clear h112 h115a
    have ht117 : a116.th x = (a.th x) := by rw [ea116] <;> exact ht68
    have hhoh115 : ((R.setR (((a.th x).prio).toNat) o53 c54 F55).setQ i o104 c105 F106).ho = none := rfl
    refine wpAnyK_done (by kernel_rfl) ?_ _
    refine hK69 _ _ ?_
    clear hK69
    refine nd_start (l := [0, 1, 2, 3, 4, 5, 6, 7, 8]) rfl ?_
    refine nd_batch tabOk2 tabZ_ok2 [(0, {}), (1, {}), (2, {k := 0}), (3, {}), (4, {})] [3, 0, 1, 4, 6, 75, 76, 78] (T' := [(3, .pointer (some ⟨b2, 0, none⟩)), (0, .pointer (some ⟨mb, 0, none⟩)), (1, .agg #[.int .u16 ((Z.ky x).idx), .int .u32 ((Z.ky x).gen)]), (4, .pointer (some ⟨(Z.tp x), 0, none⟩)), (6, .bool true), (75, .pointer (some ⟨(Z.tp x), 0, none⟩)), (76, .agg #[.int .u16 0, .int .u32 0]), (78, .pointer (some ⟨(Z.tp x), 0, none⟩))]) (φ := (3 = 3 ∧ Nat.ble (0 + 2) 2 = true) ∧ True) (rest := [5, 6, 7, 8]) h115 (by kernel_rfl) rfl ⟨⟨rfl, rfl⟩, trivial⟩ fun a118 h119 => ?_
    clear h115
    refine nd_op ?_
    refine op_mTh (x := x) (off := 0) (v := .int .u8 0) (y := { a.th x with st := 0 }) h119 rfl rfl rfl rfl rfl rfl rfl rfl rfl hx rfl (by rw [ht117]; rfl) (kcons (fun _ => rfl) (kcons (fun hq => by cases hq) knil)) fun w120 hf121 h122 => ?_
    obtain ⟨a123, ea123⟩ : ∃ z : AK, z = a116.setT x { a.th x with st := 0 } := ⟨_, rfl⟩
    rw [← ea123] at h122
    clear h119
    have ht124 : a123.th x = { a.th x with st := 0 } := by rw [ea123]; exact upd_same _ _ _
    refine nd_batch tabOk2 tabZ_ok2 [(6, {}), (7, {})] [3, 0, 1, 4, 6, 76, 80] (T' := [(3, .pointer (some ⟨b2, 0, none⟩)), (0, .pointer (some ⟨mb, 0, none⟩)), (1, .agg #[.int .u16 ((Z.ky x).idx), .int .u32 ((Z.ky x).gen)]), (4, .pointer (some ⟨(Z.tp x), 0, none⟩)), (6, .bool true), (76, .agg #[.int .u16 0, .int .u32 0]), (80, .pointer (some ⟨(Z.tp x), 2, none⟩))]) (φ := True) (rest := [8]) h122 (by kernel_rfl) rfl trivial fun a125 h126 => ?_
    clear h122
    refine nd_op ?_
    refine op_mTh (x := x) (off := 2) (v := .agg #[.int .u16 0, .int .u32 0]) (y := { a.th x with st := 0, wait := ⟨0, 0⟩ }) h126 rfl rfl rfl rfl rfl rfl rfl rfl rfl hx rfl (by rw [ht124]; rfl) (kcons (fun _ => rfl) (kcons (fun hq => by cases hq) knil)) fun w127 hf128 h129 => ?_
    obtain ⟨a130, ea130⟩ : ∃ z : AK, z = a123.setT x { a.th x with st := 0, wait := ⟨0, 0⟩ } := ⟨_, rfl⟩
    rw [← ea130] at h129
    clear h126
    have ht131 : a130.th x = { a.th x with st := 0, wait := ⟨0, 0⟩ } := by rw [ea130]; exact upd_same _ _ _
    refine nd_done ?_
    try simp only [Exit.then, Exit.inBlock]
    try rw [if_pos trivial]
    exact s_end tabOk2 tabZ_ok2 h129 [] (vs := []) (φ := True) rfl (by kernel_rfl) trivial ⟨rfl, _, mg_end hH h129 hhoh115 (by subst ea130 ea123 ea116 ea67 ea36; exact idleW hP hx hokw hpl (-1) (by rw [if_pos hst2]))⟩
  ·
    have hc30f : ¬ ((curR Z a) = (Z.ky x)) := by simpa using hc30
    have hst2 : ¬ (a.th x).st = 2 := by first | exact (curR_iff hP hkk hx).1 hc30f | exact fun q => hc30f ((curR_iff hP hkk hx).2 q)
    refine wp_skip ?_
    refine hK20 _ _ ?_
    clear hK20
    refine wp_seq_k fun K132 hK132 => ?_
    refine dr_start (KB := [3, b2, (Z.tp x), mb]) (Bi := [[0, 1, 2, 3], [0, 1, 2, 3], [0, 1, 2, 3], [0, 1, 2, 3], [0, 1, 2, 3], [0, 1, 2, 3], [0, 1, 2, 3], [0, 1, 2, 3], [0, 1, 2, 3], [0, 1, 2, 3], [0, 1, 2, 3], [0, 1, 2, 3], [0, 1, 2, 3], [0, 1, 2, 3], [0, 1, 2, 3], [2], [0, 1, 2, 3], [0, 1, 2, 3], [0, 1, 2, 3], []]) mixed h29 fun w133 h134 => ?_
    clear h29
    refine dr_batch tabOk2 tabZ_ok2 (by repeat (first | with_reducible exact PF.body | with_reducible apply PF.inB | with_reducible apply PF.next)) [(0, {}), (1, {}), (2, {}), (3, {})] [3, 0, 1, 4, 23, 26] (T' := [(3, .pointer (some ⟨b2, 0, none⟩)), (0, .pointer (some ⟨mb, 0, none⟩)), (1, .agg #[.int .u16 ((Z.ky x).idx), .int .u32 ((Z.ky x).gen)]), (4, .pointer (some ⟨(Z.tp x), 0, none⟩)), (23, .pointer (some ⟨mb, 0, none⟩)), (26, .pointer (some ⟨(Z.tp x), 1, none⟩))]) (φ := True) (fuel := 16) h134 (by kernel_rfl) rfl (by kernel_rfl) (by kernel_rfl) ⟨trivial, trivial, trivial, trivial, trivial⟩ trivial fun a136 h137 => ?_
    clear h134
    refine dr_read (i := 4) (b := (Z.tp x)) (p := 2) (v := .int .u8 ((a.th x).prio)) (fuel := 15) (by repeat (first | with_reducible exact PF.body | with_reducible apply PF.inB | with_reducible apply PF.next)) h137 rfl rfl rfl (by kernel_rfl) (by kernel_rfl) (by kernel_rfl) rfl (rd_th h137 (x := x) (k := 1) (v := .int .u8 ((a.th x).prio)) hx rfl rfl rfl rfl ⟨rfl, trivial⟩) ?_
    have h138 := h137.put (d := some 27) (v := .int .u8 ((a.th x).prio)) (T' := [(27, .int .u8 ((a.th x).prio)), (3, .pointer (some ⟨b2, 0, none⟩)), (0, .pointer (some ⟨mb, 0, none⟩)), (1, .agg #[.int .u16 ((Z.ky x).idx), .int .u32 ((Z.ky x).gen)]), (4, .pointer (some ⟨(Z.tp x), 0, none⟩)), (23, .pointer (some ⟨mb, 0, none⟩)), (26, .pointer (some ⟨(Z.tp x), 1, none⟩))]) rfl
    clear h137
    refine dr_batch tabOk2 tabZ_ok2 (by repeat (first | with_reducible exact PF.body | with_reducible apply PF.inB | with_reducible apply PF.next)) [(5, {}), (6, {}), (7, {}), (8, {})] [27, 3, 0, 1, 4, 23, 28, 31] (T' := [(27, .int .u8 ((a.th x).prio)), (3, .pointer (some ⟨b2, 0, none⟩)), (0, .pointer (some ⟨mb, 0, none⟩)), (1, .agg #[.int .u16 ((Z.ky x).idx), .int .u32 ((Z.ky x).gen)]), (4, .pointer (some ⟨(Z.tp x), 0, none⟩)), (23, .pointer (some ⟨mb, 0, none⟩)), (28, .pointer (some ⟨mb, 0, none⟩)), (31, .pointer (some ⟨(Z.tp x), 1, none⟩))]) (φ := True) (fuel := 11) h138 (by kernel_rfl) rfl (by kernel_rfl) (by kernel_rfl) ⟨trivial, trivial, trivial, trivial, trivial⟩ trivial fun a139 h140 => ?_
    clear h138
    refine dr_read (i := 9) (b := (Z.tp x)) (p := 2) (v := .int .u8 ((a.th x).prio)) (fuel := 10) (by repeat (first | with_reducible exact PF.body | with_reducible apply PF.inB | with_reducible apply PF.next)) h140 rfl rfl rfl (by kernel_rfl) (by kernel_rfl) (by kernel_rfl) rfl (rd_th h140 (x := x) (k := 1) (v := .int .u8 ((a.th x).prio)) hx rfl rfl rfl rfl ⟨rfl, trivial⟩) ?_
    have h141 := h140.put (d := some 32) (v := .int .u8 ((a.th x).prio)) (T' := [(32, .int .u8 ((a.th x).prio)), (27, .int .u8 ((a.th x).prio)), (3, .pointer (some ⟨b2, 0, none⟩)), (0, .pointer (some ⟨mb, 0, none⟩)), (1, .agg #[.int .u16 ((Z.ky x).idx), .int .u32 ((Z.ky x).gen)]), (4, .pointer (some ⟨(Z.tp x), 0, none⟩)), (23, .pointer (some ⟨mb, 0, none⟩)), (28, .pointer (some ⟨mb, 0, none⟩)), (31, .pointer (some ⟨(Z.tp x), 1, none⟩))]) rfl
    clear h140
    refine dr_batch tabOk2 tabZ_ok2 (by repeat (first | with_reducible exact PF.body | with_reducible apply PF.inB | with_reducible apply PF.next)) [(10, {}), (11, {}), (12, {})] [27, 3, 0, 1, 4, 23, 35] (T' := [(27, .int .u8 ((a.th x).prio)), (3, .pointer (some ⟨b2, 0, none⟩)), (0, .pointer (some ⟨mb, 0, none⟩)), (1, .agg #[.int .u16 ((Z.ky x).idx), .int .u32 ((Z.ky x).gen)]), (4, .pointer (some ⟨(Z.tp x), 0, none⟩)), (23, .pointer (some ⟨mb, 0, none⟩)), (35, .pointer (some ⟨mb, 5 + ((((a.th x).prio).toNat) * 1), none⟩))]) (φ := (0 ≤ ((a.th x).prio) ∧ ((a.th x).prio) < 8) ∧ True) (fuel := 7) h141 (by kernel_rfl) rfl (by kernel_rfl) (by kernel_rfl) ⟨trivial, trivial, trivial, trivial⟩ ⟨⟨by omega, by omega⟩, trivial⟩ fun a142 h143 => ?_
    clear h141
    refine dr_read (i := 13) (b := mb) (p := 3) (v := .slice (R.ro (((a.th x).prio).toNat)) ((kys Z (a.q (.r (((a.th x).prio).toNat)))).length) (R.rk (((a.th x).prio).toNat))) (fuel := 6) (by repeat (first | with_reducible exact PF.body | with_reducible apply PF.inB | with_reducible apply PF.next)) h143 rfl rfl rfl (by kernel_rfl) (by kernel_rfl) (by kernel_rfl) rfl (rd_m h143 (k := 5 + ((((a.th x).prio).toNat) * 1)) (v := .slice (R.ro (((a.th x).prio).toNat)) ((kys Z (a.q (.r (((a.th x).prio).toNat)))).length) (R.rk (((a.th x).prio).toNat))) rfl rfl rfl rfl (md_r (p := (((a.th x).prio).toNat)) (by omega) (by omega))) ?_
    have h144 := h143.put (d := some 36) (v := .slice (R.ro (((a.th x).prio).toNat)) ((kys Z (a.q (.r (((a.th x).prio).toNat)))).length) (R.rk (((a.th x).prio).toNat))) (T' := [(36, .slice (R.ro (((a.th x).prio).toNat)) ((kys Z (a.q (.r (((a.th x).prio).toNat)))).length) (R.rk (((a.th x).prio).toNat))), (27, .int .u8 ((a.th x).prio)), (3, .pointer (some ⟨b2, 0, none⟩)), (0, .pointer (some ⟨mb, 0, none⟩)), (1, .agg #[.int .u16 ((Z.ky x).idx), .int .u32 ((Z.ky x).gen)]), (4, .pointer (some ⟨(Z.tp x), 0, none⟩)), (23, .pointer (some ⟨mb, 0, none⟩)), (35, .pointer (some ⟨mb, 5 + ((((a.th x).prio).toNat) * 1), none⟩))]) rfl
    clear h143
    refine dr_batch tabOk2 tabZ_ok2 (by repeat (first | with_reducible exact PF.body | with_reducible apply PF.inB | with_reducible apply PF.next)) [(14, {k := 1, p := 1}), (16, {}), (17, {})] [36, 27, 3, 0, 1, 4, 37, 40] (T' := [(36, .slice (R.ro (((a.th x).prio).toNat)) ((kys Z (a.q (.r (((a.th x).prio).toNat)))).length) (R.rk (((a.th x).prio).toNat))), (27, .int .u8 ((a.th x).prio)), (3, .pointer (some ⟨b2, 0, none⟩)), (0, .pointer (some ⟨mb, 0, none⟩)), (1, .agg #[.int .u16 ((Z.ky x).idx), .int .u32 ((Z.ky x).gen)]), (4, .pointer (some ⟨(Z.tp x), 0, none⟩)), (37, .agg #[.int .u16 ((Z.ky x).idx), .int .u32 ((Z.ky x).gen)]), (40, .pointer (some ⟨mb, 5, none⟩))]) (φ := (b2 = b2 ∧ Nat.ble (0 + 2) 2 = true) ∧ True) (fuel := 3) h144 (by kernel_rfl) rfl (by kernel_rfl) (by kernel_rfl) ⟨rfl, trivial, trivial, trivial⟩ ⟨⟨rfl, rfl⟩, trivial⟩ fun a145 h146 => ?_
    clear h144
    refine wpAnyK_one (i := 15) (fuel := 2) (by kernel_rfl) ?_
    have hq154 : a.q (.r (a.th x).prio.toNat) = a.q (.r (a.th x).prio.toNat) := by first | rfl | exact aq_other _ _ (by simp)
    refine op_call h146 rfl rfl rfl (callOk Tryd.func107 (by decide) rfl) (args := [.slice (R.ro (((a.th x).prio).toNat)) ((kys Z (a.q (.r (((a.th x).prio).toNat)))).length) (R.rk (((a.th x).prio).toNat)), .agg #[.int .u16 ((Z.ky x).idx), .int .u32 ((Z.ky x).gen)]]) rfl (without_ok (kys Z (a.q (.r (a.th x).prio.toNat))) (Z.ky x) _ _ _ (by rw [hq154]; exact hP.klen hkk hokr) _ (h146.inv.1.rr (a.th x).prio.toNat (by omega) (by rw [hho]; simp))) ?_
    rintro _ w153 ⟨o147, c148, F149, rfl, hr150, hf151, hF152⟩
    refine ⟨_, rfl, ?_⟩
    rw [withoutP_kys (by rw [hq154]; exact hP.sep hkk hokr hx)] at hr150 ⊢
    have hF152n := newK h146 hF152
    have hF152l := newL h146 hF152
    have hF152a := fun l hl (_ : l ≠ (MLoc.rr (a.th x).prio.toNat)) => h146.inv.1.apart (l0 := (MLoc.rr (a.th x).prio.toNat)) (show _ < 8 by omega) (Nat.le_refl _) (fun b hb => .inr (hF152 b hb)) hl ‹_›
    refine ⟨(keepCons (kpM h146.inv.1 (l := (.th x)) hx (List.mem_cons_self ..) hf151) keepNil), ?_⟩
    have h155 := (h146.grow hf151).put (d := some 38) (v := .slice o147 ((kys Z ((a.q (.r (a.th x).prio.toNat)).filter (fun y => decide (y ≠ x)))).length) c148) (T' := [(38, .slice o147 ((kys Z ((a.q (.r (a.th x).prio.toNat)).filter (fun y => decide (y ≠ x)))).length) c148), (36, .slice (R.ro (((a.th x).prio).toNat)) ((kys Z (a.q (.r (((a.th x).prio).toNat)))).length) (R.rk (((a.th x).prio).toNat))), (27, .int .u8 ((a.th x).prio)), (3, .pointer (some ⟨b2, 0, none⟩)), (0, .pointer (some ⟨mb, 0, none⟩)), (1, .agg #[.int .u16 ((Z.ky x).idx), .int .u32 ((Z.ky x).gen)]), (4, .pointer (some ⟨(Z.tp x), 0, none⟩)), (37, .agg #[.int .u16 ((Z.ky x).idx), .int .u32 ((Z.ky x).gen)]), (40, .pointer (some ⟨mb, 5, none⟩))]) rfl
    clear h146
    refine dr_batch tabOk2 tabZ_ok2 (by repeat (first | with_reducible exact PF.body | with_reducible apply PF.inB | with_reducible apply PF.next)) [(18, {})] [38, 3, 0, 1, 4, 41] (T' := [(38, .slice o147 ((kys Z ((a.q (.r (a.th x).prio.toNat)).filter (fun y => decide (y ≠ x)))).length) c148), (3, .pointer (some ⟨b2, 0, none⟩)), (0, .pointer (some ⟨mb, 0, none⟩)), (1, .agg #[.int .u16 ((Z.ky x).idx), .int .u32 ((Z.ky x).gen)]), (4, .pointer (some ⟨(Z.tp x), 0, none⟩)), (41, .pointer (some ⟨mb, 5 + ((((a.th x).prio).toNat) * 1), none⟩))]) (φ := (0 ≤ ((a.th x).prio) ∧ ((a.th x).prio) < 8) ∧ True) (fuel := 1) h155 (by kernel_rfl) rfl (by kernel_rfl) (by kernel_rfl) ⟨trivial, trivial⟩ ⟨⟨by omega, by omega⟩, trivial⟩ fun a156 h157 => ?_
    clear h155
    refine wpAnyK_one (i := 19) (fuel := 0) (by kernel_rfl) ?_
    refine op_mRdy (p := (((a.th x).prio).toNat)) (off := 5 + ((((a.th x).prio).toNat) * 1)) (so := o147) (c := c148) (F := F149) (ys := ((a.q (.r (a.th x).prio.toNat)).filter (fun y => decide (y ≠ x)))) h157 rfl rfl rfl rfl rfl rfl rfl (by omega) (by omega) (.inl hho) hr150 hF152a hF152n (kcons (fun _ => rfl) (kcons (fun hq => by cases hq) knil)) hF152l fun w158 hf159 h160 => ?_
    obtain ⟨a161, ea161⟩ : ∃ z : AK, z = a.setQ (.r (((a.th x).prio).toNat)) ((a.q (.r (a.th x).prio.toNat)).filter (fun y => decide (y ≠ x))) := ⟨_, rfl⟩
    rw [← ea161] at h160
    refine ⟨keepNil, ?_⟩
    clear h157
    have ht162 : a161.th x = (a.th x) := by rw [ea161] <;> exact rfl
    have hhoh160 : (R.setR (((a.th x).prio).toNat) o147 c148 F149).ho = none := rfl
    refine wpAnyK_done (by kernel_rfl) ?_ _
    refine hK132 _ _ ?_
    clear hK132
    refine wp_seq_k fun K163 hK163 => ?_
    refine wp_seq_k fun K164 hK164 => ?_
    refine dr_start (KB := [3, b2, mb, (Z.tp x), Z.qb]) (Bi := [[0, 1, 2, 3, 4], [0, 1, 2, 3, 4], [0, 1, 2, 3, 4], [0, 1, 2, 3, 4], [0, 1, 2, 3, 4], [0, 1, 2, 3, 4], [0, 1, 2, 3, 4], [0, 1, 2, 3, 4], [0, 1, 2, 3, 4], [0, 1, 2, 3, 4], [0, 1, 2, 3, 4], [0, 1, 2, 3, 4], [0, 1, 2, 3, 4], [0, 1, 2, 3, 4]]) mixed h160 fun w165 h166 => ?_
    clear h160
    refine dr_batch tabOk2 tabZ_ok2 (by repeat (first | with_reducible exact PF.body | with_reducible apply PF.inB | with_reducible apply PF.next)) [(0, {}), (1, {}), (2, {})] [3, 0, 1, 4, 45] (T' := [(3, .pointer (some ⟨b2, 0, none⟩)), (0, .pointer (some ⟨mb, 0, none⟩)), (1, .agg #[.int .u16 ((Z.ky x).idx), .int .u32 ((Z.ky x).gen)]), (4, .pointer (some ⟨(Z.tp x), 0, none⟩)), (45, .pointer (some ⟨mb, 3, none⟩))]) (φ := True) (fuel := 11) h166 (by kernel_rfl) rfl (by kernel_rfl) (by kernel_rfl) ⟨trivial, trivial, trivial, trivial⟩ trivial fun a168 h169 => ?_
    clear h166
    refine dr_read (i := 3) (b := mb) (p := 2) (v := .map (some Z.qb)) (fuel := 10) (by repeat (first | with_reducible exact PF.body | with_reducible apply PF.inB | with_reducible apply PF.next)) h169 rfl rfl rfl (by kernel_rfl) (by kernel_rfl) (by kernel_rfl) rfl (rd_m h169 (k := 3) (v := .map (some Z.qb)) rfl rfl rfl rfl (md_p ⟨rfl, trivial⟩)) ?_
    have h170 := h169.put (d := some 46) (v := .map (some Z.qb)) (T' := [(46, .map (some Z.qb)), (3, .pointer (some ⟨b2, 0, none⟩)), (0, .pointer (some ⟨mb, 0, none⟩)), (1, .agg #[.int .u16 ((Z.ky x).idx), .int .u32 ((Z.ky x).gen)]), (4, .pointer (some ⟨(Z.tp x), 0, none⟩)), (45, .pointer (some ⟨mb, 3, none⟩))]) rfl
    clear h169
    refine dr_batch tabOk2 tabZ_ok2 (by repeat (first | with_reducible exact PF.body | with_reducible apply PF.inB | with_reducible apply PF.next)) [(4, {}), (5, {}), (6, {})] [46, 3, 0, 1, 4, 49] (T' := [(46, .map (some Z.qb)), (3, .pointer (some ⟨b2, 0, none⟩)), (0, .pointer (some ⟨mb, 0, none⟩)), (1, .agg #[.int .u16 ((Z.ky x).idx), .int .u32 ((Z.ky x).gen)]), (4, .pointer (some ⟨(Z.tp x), 0, none⟩)), (49, .pointer (some ⟨(Z.tp x), 2, none⟩))]) (φ := True) (fuel := 7) h170 (by kernel_rfl) rfl (by kernel_rfl) (by kernel_rfl) ⟨trivial, trivial, trivial, trivial⟩ trivial fun a171 h172 => ?_
    clear h170
    refine dr_read (i := 7) (b := (Z.tp x)) (p := 3) (v := .agg #[.int .u16 ((Z.ky i).idx), .int .u32 ((Z.ky i).gen)]) (fuel := 6) (by repeat (first | with_reducible exact PF.body | with_reducible apply PF.inB | with_reducible apply PF.next)) h172 rfl rfl rfl (by kernel_rfl) (by kernel_rfl) (by kernel_rfl) rfl (rd_thA h172 (x := x) (k := 2) (vs := [.int .u16 ((Z.ky i).idx), .int .u32 ((Z.ky i).gen)]) hx rfl rfl rfl rfl rfl (by rw [ht162, ← hwt]; exact ⟨rfl, rfl, trivial⟩)) ?_
    have h173 := h172.put (d := some 50) (v := .agg #[.int .u16 ((Z.ky i).idx), .int .u32 ((Z.ky i).gen)]) (T' := [(50, .agg #[.int .u16 ((Z.ky i).idx), .int .u32 ((Z.ky i).gen)]), (46, .map (some Z.qb)), (3, .pointer (some ⟨b2, 0, none⟩)), (0, .pointer (some ⟨mb, 0, none⟩)), (1, .agg #[.int .u16 ((Z.ky x).idx), .int .u32 ((Z.ky x).gen)]), (4, .pointer (some ⟨(Z.tp x), 0, none⟩)), (49, .pointer (some ⟨(Z.tp x), 2, none⟩))]) rfl
    clear h172
    refine dr_read (i := 8) (b := Z.qb) (p := 4) (v := .tuple #[.slice ((R.setR (((a.th x).prio).toNat) o147 c148 F149).qo i) ((kys Z (a161.q (.w i))).length) ((R.setR (((a.th x).prio).toNat) o147 c148 F149).qk i), .bool true]) (fuel := 5) (by repeat (first | with_reducible exact PF.body | with_reducible apply PF.inB | with_reducible apply PF.next)) h173 rfl rfl rfl (by kernel_rfl) (by kernel_rfl) (by kernel_rfl) rfl (rd_QB h173 (x := i) hi rfl rfl rfl) ?_
    have h174 := h173.put (d := some 51) (v := .tuple #[.slice ((R.setR (((a.th x).prio).toNat) o147 c148 F149).qo i) ((kys Z (a161.q (.w i))).length) ((R.setR (((a.th x).prio).toNat) o147 c148 F149).qk i), .bool true]) (T' := [(51, .tuple #[.slice ((R.setR (((a.th x).prio).toNat) o147 c148 F149).qo i) ((kys Z (a161.q (.w i))).length) ((R.setR (((a.th x).prio).toNat) o147 c148 F149).qk i), .bool true]), (50, .agg #[.int .u16 ((Z.ky i).idx), .int .u32 ((Z.ky i).gen)]), (46, .map (some Z.qb)), (3, .pointer (some ⟨b2, 0, none⟩)), (0, .pointer (some ⟨mb, 0, none⟩)), (1, .agg #[.int .u16 ((Z.ky x).idx), .int .u32 ((Z.ky x).gen)]), (4, .pointer (some ⟨(Z.tp x), 0, none⟩)), (49, .pointer (some ⟨(Z.tp x), 2, none⟩))]) rfl
    clear h173
    refine dr_batch tabOk2 tabZ_ok2 (by repeat (first | with_reducible exact PF.body | with_reducible apply PF.inB | with_reducible apply PF.next)) [(9, {}), (10, {}), (11, {}), (12, {}), (13, {})] [3, 0, 1, 4, 6] (T' := [(3, .pointer (some ⟨b2, 0, none⟩)), (0, .pointer (some ⟨mb, 0, none⟩)), (1, .agg #[.int .u16 ((Z.ky x).idx), .int .u32 ((Z.ky x).gen)]), (4, .pointer (some ⟨(Z.tp x), 0, none⟩)), (6, .bool true)]) (φ := True) (fuel := 0) h174 (by kernel_rfl) rfl (by kernel_rfl) (by kernel_rfl) ⟨trivial, trivial, trivial, trivial, trivial, trivial⟩ trivial fun a175 h176 => ?_
    clear h174
    refine wpAnyK_done (by kernel_rfl) ?_ _
    refine hK164 _ _ ?_
    clear hK164
    refine wp_seq_k fun K177 hK177 => ?_
    refine nd_start (l := [0]) rfl ?_
    refine nd_batch tabOk2 tabZ_ok2 [(0, {})] [3, 0, 1, 4, 6, 54] (T' := [(3, .pointer (some ⟨b2, 0, none⟩)), (0, .pointer (some ⟨mb, 0, none⟩)), (1, .agg #[.int .u16 ((Z.ky x).idx), .int .u32 ((Z.ky x).gen)]), (4, .pointer (some ⟨(Z.tp x), 0, none⟩)), (6, .bool true), (54, .bool true)]) (φ := True) (rest := []) h176 (by kernel_rfl) rfl trivial fun a178 h179 => ?_
    clear h176
    refine nd_done ?_
    refine hK177 _ _ ?_
    clear hK177
    refine c_true h179 rfl ?_
    refine dr_start (KB := [3, b2, mb, (Z.tp x), Z.qb]) (Bi := [[0, 1, 2, 3, 4], [0, 1, 2, 3, 4], [0, 1, 2, 3, 4], [0, 1, 2, 3, 4], [0, 1, 2, 3, 4], [0, 1, 2, 3, 4], [0, 1, 2, 3, 4], [0, 1, 2, 3, 4], [0, 1, 2, 3, 4], [0, 1, 2, 3, 4], [0, 1, 2, 3, 4], [0, 1, 2, 3, 4], [0, 1, 2, 3, 4], [0, 1, 2, 3, 4], [0, 1, 2, 3, 4], [0, 1, 2, 3, 4], [0, 1, 2, 3, 4], [0, 1, 2, 3, 4], [2, 3], []]) mixed h179 fun w180 h181 => ?_
    clear h179
    refine dr_batch tabOk2 tabZ_ok2 (by repeat (first | with_reducible exact PF.body | with_reducible apply PF.inB | with_reducible apply PF.next)) [(0, {}), (1, {}), (2, {})] [3, 0, 1, 4, 6, 57] (T' := [(3, .pointer (some ⟨b2, 0, none⟩)), (0, .pointer (some ⟨mb, 0, none⟩)), (1, .agg #[.int .u16 ((Z.ky x).idx), .int .u32 ((Z.ky x).gen)]), (4, .pointer (some ⟨(Z.tp x), 0, none⟩)), (6, .bool true), (57, .pointer (some ⟨mb, 3, none⟩))]) (φ := True) (fuel := 17) h181 (by kernel_rfl) rfl (by kernel_rfl) (by kernel_rfl) ⟨trivial, trivial, trivial, trivial⟩ trivial fun a183 h184 => ?_
    clear h181
    refine dr_read (i := 3) (b := mb) (p := 2) (v := .map (some Z.qb)) (fuel := 16) (by repeat (first | with_reducible exact PF.body | with_reducible apply PF.inB | with_reducible apply PF.next)) h184 rfl rfl rfl (by kernel_rfl) (by kernel_rfl) (by kernel_rfl) rfl (rd_m h184 (k := 3) (v := .map (some Z.qb)) rfl rfl rfl rfl (md_p ⟨rfl, trivial⟩)) ?_
    have h185 := h184.put (d := some 58) (v := .map (some Z.qb)) (T' := [(58, .map (some Z.qb)), (3, .pointer (some ⟨b2, 0, none⟩)), (0, .pointer (some ⟨mb, 0, none⟩)), (1, .agg #[.int .u16 ((Z.ky x).idx), .int .u32 ((Z.ky x).gen)]), (4, .pointer (some ⟨(Z.tp x), 0, none⟩)), (6, .bool true), (57, .pointer (some ⟨mb, 3, none⟩))]) rfl
    clear h184
    refine dr_batch tabOk2 tabZ_ok2 (by repeat (first | with_reducible exact PF.body | with_reducible apply PF.inB | with_reducible apply PF.next)) [(4, {}), (5, {}), (6, {})] [58, 3, 0, 1, 4, 6, 61] (T' := [(58, .map (some Z.qb)), (3, .pointer (some ⟨b2, 0, none⟩)), (0, .pointer (some ⟨mb, 0, none⟩)), (1, .agg #[.int .u16 ((Z.ky x).idx), .int .u32 ((Z.ky x).gen)]), (4, .pointer (some ⟨(Z.tp x), 0, none⟩)), (6, .bool true), (61, .pointer (some ⟨(Z.tp x), 2, none⟩))]) (φ := True) (fuel := 13) h185 (by kernel_rfl) rfl (by kernel_rfl) (by kernel_rfl) ⟨trivial, trivial, trivial, trivial⟩ trivial fun a186 h187 => ?_
    clear h185
    refine dr_read (i := 7) (b := (Z.tp x)) (p := 3) (v := .agg #[.int .u16 ((Z.ky i).idx), .int .u32 ((Z.ky i).gen)]) (fuel := 12) (by repeat (first | with_reducible exact PF.body | with_reducible apply PF.inB | with_reducible apply PF.next)) h187 rfl rfl rfl (by kernel_rfl) (by kernel_rfl) (by kernel_rfl) rfl (rd_thA h187 (x := x) (k := 2) (vs := [.int .u16 ((Z.ky i).idx), .int .u32 ((Z.ky i).gen)]) hx rfl rfl rfl rfl rfl (by rw [ht162, ← hwt]; exact ⟨rfl, rfl, trivial⟩)) ?_
    have h188 := h187.put (d := some 62) (v := .agg #[.int .u16 ((Z.ky i).idx), .int .u32 ((Z.ky i).gen)]) (T' := [(62, .agg #[.int .u16 ((Z.ky i).idx), .int .u32 ((Z.ky i).gen)]), (58, .map (some Z.qb)), (3, .pointer (some ⟨b2, 0, none⟩)), (0, .pointer (some ⟨mb, 0, none⟩)), (1, .agg #[.int .u16 ((Z.ky x).idx), .int .u32 ((Z.ky x).gen)]), (4, .pointer (some ⟨(Z.tp x), 0, none⟩)), (6, .bool true), (61, .pointer (some ⟨(Z.tp x), 2, none⟩))]) rfl
    clear h187
    refine dr_batch tabOk2 tabZ_ok2 (by repeat (first | with_reducible exact PF.body | with_reducible apply PF.inB | with_reducible apply PF.next)) [(8, {}), (9, {}), (10, {})] [62, 58, 3, 0, 1, 4, 6, 65] (T' := [(62, .agg #[.int .u16 ((Z.ky i).idx), .int .u32 ((Z.ky i).gen)]), (58, .map (some Z.qb)), (3, .pointer (some ⟨b2, 0, none⟩)), (0, .pointer (some ⟨mb, 0, none⟩)), (1, .agg #[.int .u16 ((Z.ky x).idx), .int .u32 ((Z.ky x).gen)]), (4, .pointer (some ⟨(Z.tp x), 0, none⟩)), (6, .bool true), (65, .pointer (some ⟨mb, 3, none⟩))]) (φ := True) (fuel := 9) h188 (by kernel_rfl) rfl (by kernel_rfl) (by kernel_rfl) ⟨trivial, trivial, trivial, trivial⟩ trivial fun a189 h190 => ?_
    clear h188
    refine dr_read (i := 11) (b := mb) (p := 2) (v := .map (some Z.qb)) (fuel := 8) (by repeat (first | with_reducible exact PF.body | with_reducible apply PF.inB | with_reducible apply PF.next)) h190 rfl rfl rfl (by kernel_rfl) (by kernel_rfl) (by kernel_rfl) rfl (rd_m h190 (k := 3) (v := .map (some Z.qb)) rfl rfl rfl rfl (md_p ⟨rfl, trivial⟩)) ?_
    have h191 := h190.put (d := some 66) (v := .map (some Z.qb)) (T' := [(66, .map (some Z.qb)), (62, .agg #[.int .u16 ((Z.ky i).idx), .int .u32 ((Z.ky i).gen)]), (58, .map (some Z.qb)), (3, .pointer (some ⟨b2, 0, none⟩)), (0, .pointer (some ⟨mb, 0, none⟩)), (1, .agg #[.int .u16 ((Z.ky x).idx), .int .u32 ((Z.ky x).gen)]), (4, .pointer (some ⟨(Z.tp x), 0, none⟩)), (6, .bool true), (65, .pointer (some ⟨mb, 3, none⟩))]) rfl
    clear h190
    refine dr_batch tabOk2 tabZ_ok2 (by repeat (first | with_reducible exact PF.body | with_reducible apply PF.inB | with_reducible apply PF.next)) [(12, {}), (13, {}), (14, {})] [66, 62, 58, 3, 0, 1, 4, 6, 69] (T' := [(66, .map (some Z.qb)), (62, .agg #[.int .u16 ((Z.ky i).idx), .int .u32 ((Z.ky i).gen)]), (58, .map (some Z.qb)), (3, .pointer (some ⟨b2, 0, none⟩)), (0, .pointer (some ⟨mb, 0, none⟩)), (1, .agg #[.int .u16 ((Z.ky x).idx), .int .u32 ((Z.ky x).gen)]), (4, .pointer (some ⟨(Z.tp x), 0, none⟩)), (6, .bool true), (69, .pointer (some ⟨(Z.tp x), 2, none⟩))]) (φ := True) (fuel := 5) h191 (by kernel_rfl) rfl (by kernel_rfl) (by kernel_rfl) ⟨trivial, trivial, trivial, trivial⟩ trivial fun a192 h193 => ?_
    clear h191
    refine dr_read (i := 15) (b := (Z.tp x)) (p := 3) (v := .agg #[.int .u16 ((Z.ky i).idx), .int .u32 ((Z.ky i).gen)]) (fuel := 4) (by repeat (first | with_reducible exact PF.body | with_reducible apply PF.inB | with_reducible apply PF.next)) h193 rfl rfl rfl (by kernel_rfl) (by kernel_rfl) (by kernel_rfl) rfl (rd_thA h193 (x := x) (k := 2) (vs := [.int .u16 ((Z.ky i).idx), .int .u32 ((Z.ky i).gen)]) hx rfl rfl rfl rfl rfl (by rw [ht162, ← hwt]; exact ⟨rfl, rfl, trivial⟩)) ?_
    have h194 := h193.put (d := some 70) (v := .agg #[.int .u16 ((Z.ky i).idx), .int .u32 ((Z.ky i).gen)]) (T' := [(70, .agg #[.int .u16 ((Z.ky i).idx), .int .u32 ((Z.ky i).gen)]), (66, .map (some Z.qb)), (62, .agg #[.int .u16 ((Z.ky i).idx), .int .u32 ((Z.ky i).gen)]), (58, .map (some Z.qb)), (3, .pointer (some ⟨b2, 0, none⟩)), (0, .pointer (some ⟨mb, 0, none⟩)), (1, .agg #[.int .u16 ((Z.ky x).idx), .int .u32 ((Z.ky x).gen)]), (4, .pointer (some ⟨(Z.tp x), 0, none⟩)), (6, .bool true), (69, .pointer (some ⟨(Z.tp x), 2, none⟩))]) rfl
    clear h193
    refine dr_read (i := 16) (b := Z.qb) (p := 4) (v := .slice ((R.setR (((a.th x).prio).toNat) o147 c148 F149).qo i) ((kys Z (a161.q (.w i))).length) ((R.setR (((a.th x).prio).toNat) o147 c148 F149).qk i)) (fuel := 3) (by repeat (first | with_reducible exact PF.body | with_reducible apply PF.inB | with_reducible apply PF.next)) h194 rfl rfl rfl (by kernel_rfl) (by kernel_rfl) (by kernel_rfl) rfl (rd_Q h194 (x := i) hi rfl rfl rfl) ?_
    have h195 := h194.put (d := some 71) (v := .slice ((R.setR (((a.th x).prio).toNat) o147 c148 F149).qo i) ((kys Z (a161.q (.w i))).length) ((R.setR (((a.th x).prio).toNat) o147 c148 F149).qk i)) (T' := [(71, .slice ((R.setR (((a.th x).prio).toNat) o147 c148 F149).qo i) ((kys Z (a161.q (.w i))).length) ((R.setR (((a.th x).prio).toNat) o147 c148 F149).qk i)), (70, .agg #[.int .u16 ((Z.ky i).idx), .int .u32 ((Z.ky i).gen)]), (66, .map (some Z.qb)), (62, .agg #[.int .u16 ((Z.ky i).idx), .int .u32 ((Z.ky i).gen)]), (58, .map (some Z.qb)), (3, .pointer (some ⟨b2, 0, none⟩)), (0, .pointer (some ⟨mb, 0, none⟩)), (1, .agg #[.int .u16 ((Z.ky x).idx), .int .u32 ((Z.ky x).gen)]), (4, .pointer (some ⟨(Z.tp x), 0, none⟩)), (6, .bool true), (69, .pointer (some ⟨(Z.tp x), 2, none⟩))]) rfl
    clear h194
    refine dr_batch tabOk2 tabZ_ok2 (by repeat (first | with_reducible exact PF.body | with_reducible apply PF.inB | with_reducible apply PF.next)) [(17, {k := 1, p := 1})] [71, 62, 58, 3, 0, 1, 4, 6, 72] (T' := [(71, .slice ((R.setR (((a.th x).prio).toNat) o147 c148 F149).qo i) ((kys Z (a161.q (.w i))).length) ((R.setR (((a.th x).prio).toNat) o147 c148 F149).qk i)), (62, .agg #[.int .u16 ((Z.ky i).idx), .int .u32 ((Z.ky i).gen)]), (58, .map (some Z.qb)), (3, .pointer (some ⟨b2, 0, none⟩)), (0, .pointer (some ⟨mb, 0, none⟩)), (1, .agg #[.int .u16 ((Z.ky x).idx), .int .u32 ((Z.ky x).gen)]), (4, .pointer (some ⟨(Z.tp x), 0, none⟩)), (6, .bool true), (72, .agg #[.int .u16 ((Z.ky x).idx), .int .u32 ((Z.ky x).gen)])]) (φ := (b2 = b2 ∧ Nat.ble (0 + 2) 2 = true) ∧ True) (fuel := 2) h195 (by kernel_rfl) rfl (by kernel_rfl) (by kernel_rfl) ⟨rfl, trivial⟩ ⟨⟨rfl, rfl⟩, trivial⟩ fun a196 h197 => ?_
    clear h195
    refine wpAnyK_one (i := 18) (fuel := 1) (by kernel_rfl) ?_
    have hq205 : a161.q (.w i) = a.q (.w i) := by rw [ea161] <;> first | rfl | exact aq_other _ _ (by simp)
    refine op_call h197 rfl rfl rfl (callOk Tryd.func107 (by decide) rfl) (args := [.slice ((R.setR (((a.th x).prio).toNat) o147 c148 F149).qo i) ((kys Z (a161.q (.w i))).length) ((R.setR (((a.th x).prio).toNat) o147 c148 F149).qk i), .agg #[.int .u16 ((Z.ky x).idx), .int .u32 ((Z.ky x).gen)]]) rfl (without_ok (kys Z (a161.q (.w i))) (Z.ky x) _ _ _ (by rw [hq205]; exact hP.klen hkk hokw) _ (h197.inv.1.qr i hi (by rw [hhoh160]; simp))) ?_
    rintro _ w204 ⟨o198, c199, F200, rfl, hr201, hf202, hF203⟩
    refine ⟨_, rfl, ?_⟩
    rw [withoutP_kys (by rw [hq205]; exact hP.sep hkk hokw hx)] at hr201 ⊢
    have hF203n := newK h197 hF203
    have hF203l := newL h197 hF203
    have hF203a := fun l hl (_ : l ≠ (MLoc.qr i)) => h197.inv.1.apart (l0 := (MLoc.qr i)) hi (Nat.le_refl _) (fun b hb => .inr (hF203 b hb)) hl ‹_›
    refine ⟨(keepCons (kpM h197.inv.1 (l := .m) trivial (List.mem_cons_self ..) hf202) (keepCons (kpM h197.inv.1 (l := (.th x)) hx (List.mem_cons_self ..) hf202) keepNil)), ?_⟩
    have h206 := (h197.grow hf202).put (d := some 73) (v := .slice o198 ((kys Z ((a161.q (.w i)).filter (fun y => decide (y ≠ x)))).length) c199) (T' := [(73, .slice o198 ((kys Z ((a161.q (.w i)).filter (fun y => decide (y ≠ x)))).length) c199), (71, .slice ((R.setR (((a.th x).prio).toNat) o147 c148 F149).qo i) ((kys Z (a161.q (.w i))).length) ((R.setR (((a.th x).prio).toNat) o147 c148 F149).qk i)), (62, .agg #[.int .u16 ((Z.ky i).idx), .int .u32 ((Z.ky i).gen)]), (58, .map (some Z.qb)), (3, .pointer (some ⟨b2, 0, none⟩)), (0, .pointer (some ⟨mb, 0, none⟩)), (1, .agg #[.int .u16 ((Z.ky x).idx), .int .u32 ((Z.ky x).gen)]), (4, .pointer (some ⟨(Z.tp x), 0, none⟩)), (6, .bool true), (72, .agg #[.int .u16 ((Z.ky x).idx), .int .u32 ((Z.ky x).gen)])]) rfl
    clear h197
    refine wpAnyK_one (i := 19) (fuel := 0) (by kernel_rfl) ?_
    refine op_mQ (j := i) (so := o198) (c := c199) (F := F200) (ys := ((a161.q (.w i)).filter (fun y => decide (y ≠ x)))) h206 rfl rfl rfl rfl rfl rfl rfl hi hhoh160 hr201 hF203a hF203n hF203l (kcons (fun _ => rfl) (kcons (fun hq => by cases hq) knil)) fun w207 hf208 h209a => ?_
    have h209 := h209a.put (d := none) (v := undef) (T' := [(73, .slice o198 ((kys Z ((a161.q (.w i)).filter (fun y => decide (y ≠ x)))).length) c199), (71, .slice ((R.setR (((a.th x).prio).toNat) o147 c148 F149).qo i) ((kys Z (a161.q (.w i))).length) ((R.setR (((a.th x).prio).toNat) o147 c148 F149).qk i)), (62, .agg #[.int .u16 ((Z.ky i).idx), .int .u32 ((Z.ky i).gen)]), (58, .map (some Z.qb)), (3, .pointer (some ⟨b2, 0, none⟩)), (0, .pointer (some ⟨mb, 0, none⟩)), (1, .agg #[.int .u16 ((Z.ky x).idx), .int .u32 ((Z.ky x).gen)]), (4, .pointer (some ⟨(Z.tp x), 0, none⟩)), (6, .bool true), (72, .agg #[.int .u16 ((Z.ky x).idx), .int .u32 ((Z.ky x).gen)])]) rfl
    obtain ⟨a210, ea210⟩ : ∃ z : AK, z = a161.setQ (.w i) ((a161.q (.w i)).filter (fun y => decide (y ≠ x))) := ⟨_, rfl⟩
    rw [← ea210] at h209
    refine ⟨keepNil, ?_⟩
    clear h206 h209a
    have ht211 : a210.th x = (a.th x) := by rw [ea210] <;> exact ht162
    have hhoh209 : ((R.setR (((a.th x).prio).toNat) o147 c148 F149).setQ i o198 c199 F200).ho = none := rfl
    refine wpAnyK_done (by kernel_rfl) ?_ _
    refine hK163 _ _ ?_
    clear hK163
    refine nd_start (l := [0, 1, 2, 3, 4, 5, 6, 7, 8]) rfl ?_
    refine nd_batch tabOk2 tabZ_ok2 [(0, {}), (1, {}), (2, {k := 0}), (3, {}), (4, {})] [3, 0, 1, 4, 6, 75, 76, 78] (T' := [(3, .pointer (some ⟨b2, 0, none⟩)), (0, .pointer (some ⟨mb, 0, none⟩)), (1, .agg #[.int .u16 ((Z.ky x).idx), .int .u32 ((Z.ky x).gen)]), (4, .pointer (some ⟨(Z.tp x), 0, none⟩)), (6, .bool true), (75, .pointer (some ⟨(Z.tp x), 0, none⟩)), (76, .agg #[.int .u16 0, .int .u32 0]), (78, .pointer (some ⟨(Z.tp x), 0, none⟩))]) (φ := (3 = 3 ∧ Nat.ble (0 + 2) 2 = true) ∧ True) (rest := [5, 6, 7, 8]) h209 (by kernel_rfl) rfl ⟨⟨rfl, rfl⟩, trivial⟩ fun a212 h213 => ?_
    clear h209
    refine nd_op ?_
    refine op_mTh (x := x) (off := 0) (v := .int .u8 0) (y := { a.th x with st := 0 }) h213 rfl rfl rfl rfl rfl rfl rfl rfl rfl hx rfl (by rw [ht211]; rfl) (kcons (fun _ => rfl) (kcons (fun hq => by cases hq) knil)) fun w214 hf215 h216 => ?_
    obtain ⟨a217, ea217⟩ : ∃ z : AK, z = a210.setT x { a.th x with st := 0 } := ⟨_, rfl⟩
    rw [← ea217] at h216
    clear h213
    have ht218 : a217.th x = { a.th x with st := 0 } := by rw [ea217]; exact upd_same _ _ _
    refine nd_batch tabOk2 tabZ_ok2 [(6, {}), (7, {})] [3, 0, 1, 4, 6, 76, 80] (T' := [(3, .pointer (some ⟨b2, 0, none⟩)), (0, .pointer (some ⟨mb, 0, none⟩)), (1, .agg #[.int .u16 ((Z.ky x).idx), .int .u32 ((Z.ky x).gen)]), (4, .pointer (some ⟨(Z.tp x), 0, none⟩)), (6, .bool true), (76, .agg #[.int .u16 0, .int .u32 0]), (80, .pointer (some ⟨(Z.tp x), 2, none⟩))]) (φ := True) (rest := [8]) h216 (by kernel_rfl) rfl trivial fun a219 h220 => ?_
    clear h216
    refine nd_op ?_
    refine op_mTh (x := x) (off := 2) (v := .agg #[.int .u16 0, .int .u32 0]) (y := { a.th x with st := 0, wait := ⟨0, 0⟩ }) h220 rfl rfl rfl rfl rfl rfl rfl rfl rfl hx rfl (by rw [ht218]; rfl) (kcons (fun _ => rfl) (kcons (fun hq => by cases hq) knil)) fun w221 hf222 h223 => ?_
    obtain ⟨a224, ea224⟩ : ∃ z : AK, z = a217.setT x { a.th x with st := 0, wait := ⟨0, 0⟩ } := ⟨_, rfl⟩
    rw [← ea224] at h223
    clear h220
    have ht225 : a224.th x = { a.th x with st := 0, wait := ⟨0, 0⟩ } := by rw [ea224]; exact upd_same _ _ _
    refine nd_done ?_
    try simp only [Exit.then, Exit.inBlock]
    try rw [if_pos trivial]
    exact s_end tabOk2 tabZ_ok2 h223 [] (vs := []) (φ := True) rfl (by kernel_rfl) trivial ⟨rfl, _, mg_end hH h223 hhoh209 (by subst ea224 ea217 ea210 ea161; exact idleW hP hx hokw hpl a.cur (by rw [if_neg hst2]))⟩

theorem idle_ok (mb : Nat) (Z : MZ) (R : MR) (a : AK) (C : CP) (x : Nat) (hx : x ∈ sl Z.tl) (hP : MP Z a) (w : World) (hH : MH mb Z R a C w) :
    Calls Tryd.prog 87 #[.pointer (some ⟨mb, 0, none⟩), .agg #[.int .u16 ((Z.ky x).idx), .int .u32 ((Z.ky x).gen)]] w fun e w' => e = .returned (.tuple #[]) ∧ ∃ R', MG mb Z R C w Z R' (leaveA a x) C w' := by
  by_cases hn : ∀ i, place (a.th x) ≠ some (.w i)
  · exact idleN_ok mb Z R a C x hx hP hn w hH
  · obtain ⟨i, hi⟩ : ∃ i, place (a.th x) = some (.w i) := Classical.byContradiction (fun hq => hn (fun i h => hq ⟨i, h⟩))
    exact idleW_ok mb Z R a C x hx hP i hi w hH

end Go.Proofs.Qxb6500918aDoor
