/-
  The model: ready, queueUp. (Made by program: a symbolic walk that prints its steps.)
-/
import Derived.Test.Qxb6500918aDoorUe
namespace Go.Proofs.Qxb6500918aDoor
open Go.Sx Go.Kn
set_option maxRecDepth 100000
set_option maxHeartbeats 4000000
set_option linter.unusedVariables false
set_option linter.unusedSimpArgs false

theorem mready_ok (mb : Nat) (Z : MZ) (R : MR) (a : AK) (C : CP) (x : Nat) (hx : x ∈ sl Z.tl) (hP : MP Z a) (w : World) (hH : MH mb Z R a C w) :
    Calls Tryd.prog 52 #[.pointer (some ⟨mb, 0, none⟩), .agg #[.int .u16 ((Z.ky x).idx), .int .u32 ((Z.ky x).gen)]] w fun e w' => e = .returned (.tuple #[]) ∧ ∃ R', MG mb Z R C w Z R' (wakeA a x) C w' := by
  have hpr := hP.pr x hx
  have hokr : (QL.r (a.th x).prio.toNat).ok := by show _ < 8; omega
  obtain ⟨ty3, hg3⟩ := hH.g3
  have hho := hH.ho
  have hkk := hH.md.k
  refine enter (n := 45) (K := mdF mb Z R C) (A := MD (mdF mb Z R C) w.heap.size mb Z R a C) (F := mdF mb Z R C) (T := [(0, .pointer (some ⟨mb, 0, none⟩)), (1, .agg #[.int .u16 ((Z.ky x).idx), .int .u32 ((Z.ky x).gen)])]) (L := [(3, ⟨[.int .u16 0, .int .u32 0], ty3, true⟩)]) (args := [.pointer (some ⟨mb, 0, none⟩), .agg #[.int .u16 ((Z.ky x).idx), .int .u32 ((Z.ky x).gen)]]) Tryd.func52 rfl rfl rfl rfl (kcons hg3 knil) (by simp) (kcons (by intro hq; cases hq) knil) hH.mD MD.stable hH.md.low (kcons (by intro hq; cases hq) knil) ?_
  intro ac h
  refine wp_seq_k fun K1 hK1 => ?_
  refine nd_start (l := [0]) rfl ?_
  refine nd_op ?_
  refine op_new tabOk2 (cells := [.int .u16 ((Z.ky x).idx), .int .u32 ((Z.ky x).gen)]) (ty := 39) (ln := none) (L1 := fun b2 => [(3, ⟨[.int .u16 0, .int .u32 0], ty3, true⟩), (b2, ⟨[.int .u16 ((Z.ky x).idx), .int .u32 ((Z.ky x).gen)], 39, false⟩)]) h rfl rfl rfl rfl (by kernel_rfl) (fun _ => rfl) fun b2 w3 a4 h5 hf6 hn7 => ?_
  clear h
  refine nd_done ?_
  refine hK1 _ _ ?_
  clear hK1
  refine wp_seq_k fun K8 hK8 => ?_
  refine nd_start (l := [0, 1, 2]) rfl ?_
  refine nd_batch tabOk2 tabZ_ok2 [(0, {}), (1, {k := 1})] [3, 0, 1, 4, 5] (T' := [(3, .pointer (some ⟨b2, 0, none⟩)), (0, .pointer (some ⟨mb, 0, none⟩)), (1, .agg #[.int .u16 ((Z.ky x).idx), .int .u32 ((Z.ky x).gen)]), (4, .pointer (some ⟨mb, 0, none⟩)), (5, .agg #[.int .u16 ((Z.ky x).idx), .int .u32 ((Z.ky x).gen)])]) (φ := (b2 = b2 ∧ Nat.ble (0 + 2) 2 = true) ∧ True) (rest := [2]) h5 (by kernel_rfl) rfl ⟨⟨rfl, rfl⟩, trivial⟩ fun a9 h10 => ?_
  clear h5
  refine nd_op ?_
  refine op_call h10 rfl rfl rfl (callOk Tryd.func87 (by decide) rfl) (args := [.pointer (some ⟨mb, 0, none⟩), .agg #[.int .u16 ((Z.ky x).idx), .int .u32 ((Z.ky x).gen)]]) rfl (idle_ok mb Z _ a _ x hx hP _ (mh_of h10 hho (k := 0) rfl)) ?_
  rintro _ w11 ⟨rfl, R12, hg13⟩
  refine ⟨_, rfl, ?_⟩
  have h14a := st_mg h10 hg13 (kcons (fun _ => rfl) (kcons (fun hq => by cases hq) knil))
  have h14 := h14a.put (d := some 6) (v := .tuple #[]) (T' := [(6, .tuple #[]), (3, .pointer (some ⟨b2, 0, none⟩)), (0, .pointer (some ⟨mb, 0, none⟩)), (1, .agg #[.int .u16 ((Z.ky x).idx), .int .u32 ((Z.ky x).gen)]), (4, .pointer (some ⟨mb, 0, none⟩)), (5, .agg #[.int .u16 ((Z.ky x).idx), .int .u32 ((Z.ky x).gen)])]) rfl
  have hhoh14 := hg13.mh.ho
  obtain ⟨a15, ea15⟩ : ∃ z : AK, z = leaveA a x := ⟨_, rfl⟩
  rw [← ea15] at h14
  clear h10 h14a
  have ht16 : a15.th x = { a.th x with st := 0, wait := ⟨0, 0⟩ } := by rw [ea15, leave_th]
  have hP17 : MP Z a15 := by rw [ea15]; exact MP.leave hP hkk hx
  refine nd_done ?_
  refine hK8 _ _ ?_
  clear hK8
  refine wp_seq_k fun K18 hK18 => ?_
  refine dr_start (KB := [3, b2, mb, Z.tb]) (Bi := [[0, 1, 2, 3], [0, 1, 2, 3], [0, 1, 2, 3], [0, 1, 2, 3], [0, 1, 2, 3], [0, 1, 2, 3], [0, 1, 2, 3], [0, 1, 2, 3], []]) mixed h14 fun w19 h20 => ?_
  clear h14
  refine dr_batch tabOk2 tabZ_ok2 (by repeat (first | with_reducible exact PF.body | with_reducible apply PF.inB | with_reducible apply PF.next)) [(0, {}), (1, {}), (2, {})] [3, 0, 1, 9] (T' := [(3, .pointer (some ⟨b2, 0, none⟩)), (0, .pointer (some ⟨mb, 0, none⟩)), (1, .agg #[.int .u16 ((Z.ky x).idx), .int .u32 ((Z.ky x).gen)]), (9, .pointer (some ⟨mb, 2, none⟩))]) (φ := True) (fuel := 6) h20 (by kernel_rfl) rfl (by kernel_rfl) (by kernel_rfl) ⟨trivial, trivial, trivial, trivial⟩ trivial fun a22 h23 => ?_
  clear h20
  refine dr_read (i := 3) (b := mb) (p := 2) (v := .map (some Z.tb)) (fuel := 5) (by repeat (first | with_reducible exact PF.body | with_reducible apply PF.inB | with_reducible apply PF.next)) h23 rfl rfl rfl (by kernel_rfl) (by kernel_rfl) (by kernel_rfl) rfl (rd_m h23 (k := 2) (v := .map (some Z.tb)) rfl rfl rfl rfl (md_p ⟨rfl, trivial⟩)) ?_
  have h24 := h23.put (d := some 10) (v := .map (some Z.tb)) (T' := [(10, .map (some Z.tb)), (3, .pointer (some ⟨b2, 0, none⟩)), (0, .pointer (some ⟨mb, 0, none⟩)), (1, .agg #[.int .u16 ((Z.ky x).idx), .int .u32 ((Z.ky x).gen)]), (9, .pointer (some ⟨mb, 2, none⟩))]) rfl
  clear h23
  refine dr_batch tabOk2 tabZ_ok2 (by repeat (first | with_reducible exact PF.body | with_reducible apply PF.inB | with_reducible apply PF.next)) [(4, {k := 1, p := 1})] [10, 3, 0, 1, 11] (T' := [(10, .map (some Z.tb)), (3, .pointer (some ⟨b2, 0, none⟩)), (0, .pointer (some ⟨mb, 0, none⟩)), (1, .agg #[.int .u16 ((Z.ky x).idx), .int .u32 ((Z.ky x).gen)]), (11, .agg #[.int .u16 ((Z.ky x).idx), .int .u32 ((Z.ky x).gen)])]) (φ := (b2 = b2 ∧ Nat.ble (0 + 2) 2 = true) ∧ True) (fuel := 4) h24 (by kernel_rfl) rfl (by kernel_rfl) (by kernel_rfl) ⟨rfl, trivial⟩ ⟨⟨rfl, rfl⟩, trivial⟩ fun a25 h26 => ?_
  clear h24
  refine dr_read (i := 5) (b := Z.tb) (p := 3) (v := .pointer (some ⟨(Z.tp x), 0, none⟩)) (fuel := 3) (by repeat (first | with_reducible exact PF.body | with_reducible apply PF.inB | with_reducible apply PF.next)) h26 rfl rfl rfl (by kernel_rfl) (by kernel_rfl) (by kernel_rfl) rfl (rd_T h26 (x := x) hx rfl rfl rfl) ?_
  have h27 := h26.put (d := some 12) (v := .pointer (some ⟨(Z.tp x), 0, none⟩)) (T' := [(12, .pointer (some ⟨(Z.tp x), 0, none⟩)), (10, .map (some Z.tb)), (3, .pointer (some ⟨b2, 0, none⟩)), (0, .pointer (some ⟨mb, 0, none⟩)), (1, .agg #[.int .u16 ((Z.ky x).idx), .int .u32 ((Z.ky x).gen)]), (11, .agg #[.int .u16 ((Z.ky x).idx), .int .u32 ((Z.ky x).gen)])]) rfl
  clear h26
  refine dr_batch tabOk2 tabZ_ok2 (by repeat (first | with_reducible exact PF.body | with_reducible apply PF.inB | with_reducible apply PF.next)) [(6, {}), (7, {})] [3, 0, 1, 14] (T' := [(3, .pointer (some ⟨b2, 0, none⟩)), (0, .pointer (some ⟨mb, 0, none⟩)), (1, .agg #[.int .u16 ((Z.ky x).idx), .int .u32 ((Z.ky x).gen)]), (14, .pointer (some ⟨(Z.tp x), 0, none⟩))]) (φ := True) (fuel := 1) h27 (by kernel_rfl) rfl (by kernel_rfl) (by kernel_rfl) ⟨trivial, trivial, trivial⟩ trivial fun a28 h29 => ?_
  clear h27
  refine wpAnyK_one (i := 8) (fuel := 0) (by kernel_rfl) ?_
  refine op_mTh (x := x) (off := 0) (v := .int .u8 1) (y := { a.th x with st := 1, wait := ⟨0, 0⟩ }) h29 rfl rfl rfl rfl rfl rfl rfl rfl rfl hx rfl (by rw [ht16]; rfl) (kcons (fun _ => rfl) (kcons (fun hq => by cases hq) knil)) fun w30 hf31 h32 => ?_
  obtain ⟨a33, ea33⟩ : ∃ z : AK, z = a15.setT x { a.th x with st := 1, wait := ⟨0, 0⟩ } := ⟨_, rfl⟩
  rw [← ea33] at h32
  refine ⟨keepNil, ?_⟩
  clear h29
  have ht34 : a33.th x = { a.th x with st := 1, wait := ⟨0, 0⟩ } := by rw [ea33]; exact upd_same _ _ _
  refine wpAnyK_done (by kernel_rfl) ?_ _
  refine hK18 _ _ ?_
  clear hK18
  refine dr_start (KB := [3, b2, mb, Z.tb, (Z.tp x)]) (Bi := [[0, 1, 2, 3, 4], [0, 1, 2, 3, 4], [0, 1, 2, 3, 4], [0, 1, 2, 3, 4], [0, 1, 2, 3, 4], [0, 1, 2, 3, 4], [0, 1, 2, 3, 4], [0, 1, 2, 3, 4], [0, 1, 2, 3, 4], [0, 1, 2, 3, 4], [0, 1, 2, 3, 4], [0, 1, 2, 3, 4], [0, 1, 2, 3, 4], [0, 1, 2, 3, 4], [0, 1, 2, 3, 4], [0, 1, 2, 3, 4], [0, 1, 2, 3, 4], [0, 1, 2, 3, 4], [0, 1, 2, 3, 4], [0, 1, 2, 3, 4], [0, 1, 2, 3, 4], [0, 1, 2, 3, 4], [0, 1, 2, 3, 4], [0, 1, 2, 3, 4], [0, 1, 2, 3, 4], [1, 2, 3, 4], [1, 2, 3, 4], [0, 1, 2, 3, 4], [0, 1, 2, 3, 4], [0, 1, 2, 3, 4], []]) mixed h32 fun w36 h37 => ?_
  clear h32
  refine dr_batch tabOk2 tabZ_ok2 (by repeat (first | with_reducible exact PF.body | with_reducible apply PF.inB | with_reducible apply PF.next)) [(0, {}), (1, {}), (2, {}), (3, {})] [3, 0, 1, 15, 18] (T' := [(3, .pointer (some ⟨b2, 0, none⟩)), (0, .pointer (some ⟨mb, 0, none⟩)), (1, .agg #[.int .u16 ((Z.ky x).idx), .int .u32 ((Z.ky x).gen)]), (15, .pointer (some ⟨mb, 0, none⟩)), (18, .pointer (some ⟨mb, 2, none⟩))]) (φ := True) (fuel := 27) h37 (by kernel_rfl) rfl (by kernel_rfl) (by kernel_rfl) ⟨trivial, trivial, trivial, trivial, trivial⟩ trivial fun a39 h40 => ?_
  clear h37
  refine dr_read (i := 4) (b := mb) (p := 2) (v := .map (some Z.tb)) (fuel := 26) (by repeat (first | with_reducible exact PF.body | with_reducible apply PF.inB | with_reducible apply PF.next)) h40 rfl rfl rfl (by kernel_rfl) (by kernel_rfl) (by kernel_rfl) rfl (rd_m h40 (k := 2) (v := .map (some Z.tb)) rfl rfl rfl rfl (md_p ⟨rfl, trivial⟩)) ?_
  have h41 := h40.put (d := some 19) (v := .map (some Z.tb)) (T' := [(19, .map (some Z.tb)), (3, .pointer (some ⟨b2, 0, none⟩)), (0, .pointer (some ⟨mb, 0, none⟩)), (1, .agg #[.int .u16 ((Z.ky x).idx), .int .u32 ((Z.ky x).gen)]), (15, .pointer (some ⟨mb, 0, none⟩)), (18, .pointer (some ⟨mb, 2, none⟩))]) rfl
  clear h40
  refine dr_batch tabOk2 tabZ_ok2 (by repeat (first | with_reducible exact PF.body | with_reducible apply PF.inB | with_reducible apply PF.next)) [(5, {k := 1, p := 1})] [19, 3, 0, 1, 15, 20] (T' := [(19, .map (some Z.tb)), (3, .pointer (some ⟨b2, 0, none⟩)), (0, .pointer (some ⟨mb, 0, none⟩)), (1, .agg #[.int .u16 ((Z.ky x).idx), .int .u32 ((Z.ky x).gen)]), (15, .pointer (some ⟨mb, 0, none⟩)), (20, .agg #[.int .u16 ((Z.ky x).idx), .int .u32 ((Z.ky x).gen)])]) (φ := (b2 = b2 ∧ Nat.ble (0 + 2) 2 = true) ∧ True) (fuel := 25) h41 (by kernel_rfl) rfl (by kernel_rfl) (by kernel_rfl) ⟨rfl, trivial⟩ ⟨⟨rfl, rfl⟩, trivial⟩ fun a42 h43 => ?_
  clear h41
  refine dr_read (i := 6) (b := Z.tb) (p := 3) (v := .pointer (some ⟨(Z.tp x), 0, none⟩)) (fuel := 24) (by repeat (first | with_reducible exact PF.body | with_reducible apply PF.inB | with_reducible apply PF.next)) h43 rfl rfl rfl (by kernel_rfl) (by kernel_rfl) (by kernel_rfl) rfl (rd_T h43 (x := x) hx rfl rfl rfl) ?_
  have h44 := h43.put (d := some 21) (v := .pointer (some ⟨(Z.tp x), 0, none⟩)) (T' := [(21, .pointer (some ⟨(Z.tp x), 0, none⟩)), (19, .map (some Z.tb)), (3, .pointer (some ⟨b2, 0, none⟩)), (0, .pointer (some ⟨mb, 0, none⟩)), (1, .agg #[.int .u16 ((Z.ky x).idx), .int .u32 ((Z.ky x).gen)]), (15, .pointer (some ⟨mb, 0, none⟩)), (20, .agg #[.int .u16 ((Z.ky x).idx), .int .u32 ((Z.ky x).gen)])]) rfl
  clear h43
  refine dr_batch tabOk2 tabZ_ok2 (by repeat (first | with_reducible exact PF.body | with_reducible apply PF.inB | with_reducible apply PF.next)) [(7, {}), (8, {})] [3, 0, 1, 15, 23] (T' := [(3, .pointer (some ⟨b2, 0, none⟩)), (0, .pointer (some ⟨mb, 0, none⟩)), (1, .agg #[.int .u16 ((Z.ky x).idx), .int .u32 ((Z.ky x).gen)]), (15, .pointer (some ⟨mb, 0, none⟩)), (23, .pointer (some ⟨(Z.tp x), 1, none⟩))]) (φ := True) (fuel := 22) h44 (by kernel_rfl) rfl (by kernel_rfl) (by kernel_rfl) ⟨trivial, trivial, trivial⟩ trivial fun a45 h46 => ?_
  clear h44
  refine dr_read (i := 9) (b := (Z.tp x)) (p := 4) (v := .int .u8 ((a.th x).prio)) (fuel := 21) (by repeat (first | with_reducible exact PF.body | with_reducible apply PF.inB | with_reducible apply PF.next)) h46 rfl rfl rfl (by kernel_rfl) (by kernel_rfl) (by kernel_rfl) rfl (rd_th h46 (x := x) (k := 1) (v := .int .u8 ((a.th x).prio)) hx rfl rfl rfl rfl (by rw [ht34]; exact ⟨rfl, trivial⟩)) ?_
  have h47 := h46.put (d := some 24) (v := .int .u8 ((a.th x).prio)) (T' := [(24, .int .u8 ((a.th x).prio)), (3, .pointer (some ⟨b2, 0, none⟩)), (0, .pointer (some ⟨mb, 0, none⟩)), (1, .agg #[.int .u16 ((Z.ky x).idx), .int .u32 ((Z.ky x).gen)]), (15, .pointer (some ⟨mb, 0, none⟩)), (23, .pointer (some ⟨(Z.tp x), 1, none⟩))]) rfl
  clear h46
  refine dr_batch tabOk2 tabZ_ok2 (by repeat (first | with_reducible exact PF.body | with_reducible apply PF.inB | with_reducible apply PF.next)) [(10, {}), (11, {}), (12, {}), (13, {})] [24, 3, 0, 1, 15, 25, 28] (T' := [(24, .int .u8 ((a.th x).prio)), (3, .pointer (some ⟨b2, 0, none⟩)), (0, .pointer (some ⟨mb, 0, none⟩)), (1, .agg #[.int .u16 ((Z.ky x).idx), .int .u32 ((Z.ky x).gen)]), (15, .pointer (some ⟨mb, 0, none⟩)), (25, .pointer (some ⟨mb, 0, none⟩)), (28, .pointer (some ⟨mb, 2, none⟩))]) (φ := True) (fuel := 17) h47 (by kernel_rfl) rfl (by kernel_rfl) (by kernel_rfl) ⟨trivial, trivial, trivial, trivial, trivial⟩ trivial fun a48 h49 => ?_
  clear h47
  refine dr_read (i := 14) (b := mb) (p := 2) (v := .map (some Z.tb)) (fuel := 16) (by repeat (first | with_reducible exact PF.body | with_reducible apply PF.inB | with_reducible apply PF.next)) h49 rfl rfl rfl (by kernel_rfl) (by kernel_rfl) (by kernel_rfl) rfl (rd_m h49 (k := 2) (v := .map (some Z.tb)) rfl rfl rfl rfl (md_p ⟨rfl, trivial⟩)) ?_
  have h50 := h49.put (d := some 29) (v := .map (some Z.tb)) (T' := [(29, .map (some Z.tb)), (24, .int .u8 ((a.th x).prio)), (3, .pointer (some ⟨b2, 0, none⟩)), (0, .pointer (some ⟨mb, 0, none⟩)), (1, .agg #[.int .u16 ((Z.ky x).idx), .int .u32 ((Z.ky x).gen)]), (15, .pointer (some ⟨mb, 0, none⟩)), (25, .pointer (some ⟨mb, 0, none⟩)), (28, .pointer (some ⟨mb, 2, none⟩))]) rfl
  clear h49
  refine dr_batch tabOk2 tabZ_ok2 (by repeat (first | with_reducible exact PF.body | with_reducible apply PF.inB | with_reducible apply PF.next)) [(15, {k := 1, p := 1})] [29, 24, 3, 0, 1, 15, 25, 30] (T' := [(29, .map (some Z.tb)), (24, .int .u8 ((a.th x).prio)), (3, .pointer (some ⟨b2, 0, none⟩)), (0, .pointer (some ⟨mb, 0, none⟩)), (1, .agg #[.int .u16 ((Z.ky x).idx), .int .u32 ((Z.ky x).gen)]), (15, .pointer (some ⟨mb, 0, none⟩)), (25, .pointer (some ⟨mb, 0, none⟩)), (30, .agg #[.int .u16 ((Z.ky x).idx), .int .u32 ((Z.ky x).gen)])]) (φ := (b2 = b2 ∧ Nat.ble (0 + 2) 2 = true) ∧ True) (fuel := 15) h50 (by kernel_rfl) rfl (by kernel_rfl) (by kernel_rfl) ⟨rfl, trivial⟩ ⟨⟨rfl, rfl⟩, trivial⟩ fun a51 h52 => ?_
  clear h50
  refine dr_read (i := 16) (b := Z.tb) (p := 3) (v := .pointer (some ⟨(Z.tp x), 0, none⟩)) (fuel := 14) (by repeat (first | with_reducible exact PF.body | with_reducible apply PF.inB | with_reducible apply PF.next)) h52 rfl rfl rfl (by kernel_rfl) (by kernel_rfl) (by kernel_rfl) rfl (rd_T h52 (x := x) hx rfl rfl rfl) ?_
  have h53 := h52.put (d := some 31) (v := .pointer (some ⟨(Z.tp x), 0, none⟩)) (T' := [(31, .pointer (some ⟨(Z.tp x), 0, none⟩)), (29, .map (some Z.tb)), (24, .int .u8 ((a.th x).prio)), (3, .pointer (some ⟨b2, 0, none⟩)), (0, .pointer (some ⟨mb, 0, none⟩)), (1, .agg #[.int .u16 ((Z.ky x).idx), .int .u32 ((Z.ky x).gen)]), (15, .pointer (some ⟨mb, 0, none⟩)), (25, .pointer (some ⟨mb, 0, none⟩)), (30, .agg #[.int .u16 ((Z.ky x).idx), .int .u32 ((Z.ky x).gen)])]) rfl
  clear h52
  refine dr_batch tabOk2 tabZ_ok2 (by repeat (first | with_reducible exact PF.body | with_reducible apply PF.inB | with_reducible apply PF.next)) [(17, {}), (18, {})] [24, 3, 0, 1, 15, 25, 33] (T' := [(24, .int .u8 ((a.th x).prio)), (3, .pointer (some ⟨b2, 0, none⟩)), (0, .pointer (some ⟨mb, 0, none⟩)), (1, .agg #[.int .u16 ((Z.ky x).idx), .int .u32 ((Z.ky x).gen)]), (15, .pointer (some ⟨mb, 0, none⟩)), (25, .pointer (some ⟨mb, 0, none⟩)), (33, .pointer (some ⟨(Z.tp x), 1, none⟩))]) (φ := True) (fuel := 12) h53 (by kernel_rfl) rfl (by kernel_rfl) (by kernel_rfl) ⟨trivial, trivial, trivial⟩ trivial fun a54 h55 => ?_
  clear h53
  refine dr_read (i := 19) (b := (Z.tp x)) (p := 4) (v := .int .u8 ((a.th x).prio)) (fuel := 11) (by repeat (first | with_reducible exact PF.body | with_reducible apply PF.inB | with_reducible apply PF.next)) h55 rfl rfl rfl (by kernel_rfl) (by kernel_rfl) (by kernel_rfl) rfl (rd_th h55 (x := x) (k := 1) (v := .int .u8 ((a.th x).prio)) hx rfl rfl rfl rfl (by rw [ht34]; exact ⟨rfl, trivial⟩)) ?_
  have h56 := h55.put (d := some 34) (v := .int .u8 ((a.th x).prio)) (T' := [(34, .int .u8 ((a.th x).prio)), (24, .int .u8 ((a.th x).prio)), (3, .pointer (some ⟨b2, 0, none⟩)), (0, .pointer (some ⟨mb, 0, none⟩)), (1, .agg #[.int .u16 ((Z.ky x).idx), .int .u32 ((Z.ky x).gen)]), (15, .pointer (some ⟨mb, 0, none⟩)), (25, .pointer (some ⟨mb, 0, none⟩)), (33, .pointer (some ⟨(Z.tp x), 1, none⟩))]) rfl
  clear h55
  refine dr_batch tabOk2 tabZ_ok2 (by repeat (first | with_reducible exact PF.body | with_reducible apply PF.inB | with_reducible apply PF.next)) [(20, {}), (21, {}), (22, {})] [24, 3, 0, 1, 15, 37] (T' := [(24, .int .u8 ((a.th x).prio)), (3, .pointer (some ⟨b2, 0, none⟩)), (0, .pointer (some ⟨mb, 0, none⟩)), (1, .agg #[.int .u16 ((Z.ky x).idx), .int .u32 ((Z.ky x).gen)]), (15, .pointer (some ⟨mb, 0, none⟩)), (37, .pointer (some ⟨mb, 5 + ((((a.th x).prio).toNat) * 1), none⟩))]) (φ := (0 ≤ ((a.th x).prio) ∧ ((a.th x).prio) < 8) ∧ True) (fuel := 8) h56 (by kernel_rfl) rfl (by kernel_rfl) (by kernel_rfl) ⟨trivial, trivial, trivial, trivial⟩ ⟨⟨by omega, by omega⟩, trivial⟩ fun a57 h58 => ?_
  clear h56
  refine dr_read (i := 23) (b := mb) (p := 2) (v := .slice (R12.ro (((a.th x).prio).toNat)) ((kys Z (a33.q (.r (((a.th x).prio).toNat)))).length) (R12.rk (((a.th x).prio).toNat))) (fuel := 7) (by repeat (first | with_reducible exact PF.body | with_reducible apply PF.inB | with_reducible apply PF.next)) h58 rfl rfl rfl (by kernel_rfl) (by kernel_rfl) (by kernel_rfl) rfl (rd_m h58 (k := 5 + ((((a.th x).prio).toNat) * 1)) (v := .slice (R12.ro (((a.th x).prio).toNat)) ((kys Z (a33.q (.r (((a.th x).prio).toNat)))).length) (R12.rk (((a.th x).prio).toNat))) rfl rfl rfl rfl (md_r (p := (((a.th x).prio).toNat)) (by omega) (by omega))) ?_
  have h59 := h58.put (d := some 38) (v := .slice (R12.ro (((a.th x).prio).toNat)) ((kys Z (a33.q (.r (((a.th x).prio).toNat)))).length) (R12.rk (((a.th x).prio).toNat))) (T' := [(38, .slice (R12.ro (((a.th x).prio).toNat)) ((kys Z (a33.q (.r (((a.th x).prio).toNat)))).length) (R12.rk (((a.th x).prio).toNat))), (24, .int .u8 ((a.th x).prio)), (3, .pointer (some ⟨b2, 0, none⟩)), (0, .pointer (some ⟨mb, 0, none⟩)), (1, .agg #[.int .u16 ((Z.ky x).idx), .int .u32 ((Z.ky x).gen)]), (15, .pointer (some ⟨mb, 0, none⟩)), (37, .pointer (some ⟨mb, 5 + ((((a.th x).prio).toNat) * 1), none⟩))]) rfl
  clear h58
  refine dr_batch tabOk2 tabZ_ok2 (by repeat (first | with_reducible exact PF.body | with_reducible apply PF.inB | with_reducible apply PF.next)) [(24, {k := 1, p := 1}), (27, {}), (28, {})] [38, 24, 3, 0, 1, 39, 43] (T' := [(38, .slice (R12.ro (((a.th x).prio).toNat)) ((kys Z (a33.q (.r (((a.th x).prio).toNat)))).length) (R12.rk (((a.th x).prio).toNat))), (24, .int .u8 ((a.th x).prio)), (3, .pointer (some ⟨b2, 0, none⟩)), (0, .pointer (some ⟨mb, 0, none⟩)), (1, .agg #[.int .u16 ((Z.ky x).idx), .int .u32 ((Z.ky x).gen)]), (39, .agg #[.int .u16 ((Z.ky x).idx), .int .u32 ((Z.ky x).gen)]), (43, .pointer (some ⟨mb, 5, none⟩))]) (φ := (b2 = b2 ∧ Nat.ble (0 + 2) 2 = true) ∧ True) (fuel := 4) h59 (by kernel_rfl) rfl (by kernel_rfl) (by kernel_rfl) ⟨rfl, trivial, trivial, trivial⟩ ⟨⟨rfl, rfl⟩, trivial⟩ fun a60 h61 => ?_
  clear h59
  refine wpAnyK_one (i := 25) (fuel := 3) (by kernel_rfl) ?_
  refine op_new tabOk2 (cells := [.int .u16 ((Z.ky x).idx), .int .u32 ((Z.ky x).gen)]) (ty := 39) (ln := (some 1)) (L1 := fun b62 => [(3, ⟨[.int .u16 0, .int .u32 0], ty3, true⟩), (b2, ⟨[.int .u16 ((Z.ky x).idx), .int .u32 ((Z.ky x).gen)], 39, false⟩), (b62, ⟨[.int .u16 ((Z.ky x).idx), .int .u32 ((Z.ky x).gen)], 39, false⟩)]) h61 rfl rfl rfl rfl (by kernel_rfl) (fun _ => rfl) fun b62 w63 a64 h65 hf66 hn67 => ?_
  refine ⟨(keepCons (kpLf h61.known hf66 (q := 1) rfl) (keepCons (kpM h61.inv.1 (l := .m) trivial (List.mem_cons_self ..) hf66) (keepCons (kpM h61.inv.1 (l := .t) trivial (List.mem_cons_self ..) hf66) (keepCons (kpM h61.inv.1 (l := (.th x)) hx (List.mem_cons_self ..) hf66) keepNil)))), ?_⟩
  clear h61
  refine wpAnyK_one (i := 26) (fuel := 2) (by kernel_rfl) ?_
  have hq78 : a33.q (.r (((a.th x).prio).toNat)) = (leaveA a x).q (.r (((a.th x).prio).toNat)) := by rw [ea33, ea15] <;> rfl
  refine op_mAppR (p := (((a.th x).prio).toNat)) (r := Z.ky x) (k := 2) h65 rfl rfl rfl rfl rfl rfl rfl (by omega) hhoh14 (by rw [hq78]; exact (MP.leave hP hkk hx).len hkk hokr) (kcons (fun _ => rfl) (kcons (fun hq => by cases hq) (kcons (fun hq => by cases hq) knil))) ?_
  intro o68 c69 F70 w71 hr72 hf73 ha74 hF75 hl76 h77a
  have hr72e : kys Z (a33.q (.r (((a.th x).prio).toNat))) ++ [Z.ky x] = kys Z (a33.q (.r (((a.th x).prio).toNat)) ++ [x]) := by simp [kys]
  rw [hr72e] at hr72 ⊢
  have h77 := h77a.put (d := some 41) (v := .slice o68 ((kys Z (a33.q (.r (((a.th x).prio).toNat)) ++ [x])).length) c69) (T' := [(41, .slice o68 ((kys Z (a33.q (.r (((a.th x).prio).toNat)) ++ [x])).length) c69), (40, .slice (some ⟨b62, 0, none⟩) 1 1), (38, .slice (R12.ro (((a.th x).prio).toNat)) ((kys Z (a33.q (.r (((a.th x).prio).toNat)))).length) (R12.rk (((a.th x).prio).toNat))), (24, .int .u8 ((a.th x).prio)), (3, .pointer (some ⟨b2, 0, none⟩)), (0, .pointer (some ⟨mb, 0, none⟩)), (1, .agg #[.int .u16 ((Z.ky x).idx), .int .u32 ((Z.ky x).gen)]), (39, .agg #[.int .u16 ((Z.ky x).idx), .int .u32 ((Z.ky x).gen)]), (43, .pointer (some ⟨mb, 5, none⟩))]) rfl
  refine ⟨(keepCons (kpL h65 h77 (q := 1) (q' := 1) rfl rfl) (keepCons (kpMM h65.inv.1 (l := .m) (l0 := (.rr (((a.th x).prio).toNat))) (show _ < 8 by omega) trivial (by simp) (List.mem_cons_self ..) hf73) (keepCons (kpMM h65.inv.1 (l := .t) (l0 := (.rr (((a.th x).prio).toNat))) (show _ < 8 by omega) trivial (by simp) (List.mem_cons_self ..) hf73) (keepCons (kpMM h65.inv.1 (l := (.th x)) (l0 := (.rr (((a.th x).prio).toNat))) (show _ < 8 by omega) hx (by simp) (List.mem_cons_self ..) hf73) keepNil)))), ?_⟩
  clear h65 h77a
  refine dr_batch tabOk2 tabZ_ok2 (by repeat (first | with_reducible exact PF.body | with_reducible apply PF.inB | with_reducible apply PF.next)) [(29, {})] [41, 3, 0, 1, 44] (T' := [(41, .slice o68 ((kys Z (a33.q (.r (((a.th x).prio).toNat)) ++ [x])).length) c69), (3, .pointer (some ⟨b2, 0, none⟩)), (0, .pointer (some ⟨mb, 0, none⟩)), (1, .agg #[.int .u16 ((Z.ky x).idx), .int .u32 ((Z.ky x).gen)]), (44, .pointer (some ⟨mb, 5 + ((((a.th x).prio).toNat) * 1), none⟩))]) (φ := (0 ≤ ((a.th x).prio) ∧ ((a.th x).prio) < 8) ∧ True) (fuel := 1) h77 (by kernel_rfl) rfl (by kernel_rfl) (by kernel_rfl) ⟨trivial, trivial⟩ ⟨⟨by omega, by omega⟩, trivial⟩ fun a79 h80 => ?_
  clear h77
  refine wpAnyK_one (i := 30) (fuel := 0) (by kernel_rfl) ?_
  refine op_mRdy (p := (((a.th x).prio).toNat)) (off := 5 + ((((a.th x).prio).toNat) * 1)) (so := o68) (c := c69) (F := F70) (ys := (a33.q (.r (((a.th x).prio).toNat)) ++ [x])) h80 rfl rfl rfl rfl rfl rfl rfl (by omega) (by omega) (.inr rfl) hr72 ha74 hF75 (kcons (fun _ => rfl) (kcons (fun hq => by cases hq) (kcons (fun hq => by cases hq) knil))) hl76 fun w81 hf82 h83 => ?_
  obtain ⟨a84, ea84⟩ : ∃ z : AK, z = a33.setQ (.r (((a.th x).prio).toNat)) (a33.q (.r (((a.th x).prio).toNat)) ++ [x]) := ⟨_, rfl⟩
  rw [← ea84] at h83
  refine ⟨keepNil, ?_⟩
  clear h80
  have ht85 : a84.th x = { a.th x with st := 1, wait := ⟨0, 0⟩ } := by rw [ea84] <;> exact ht34
  have hhoh83 : ((R12.hole (MLoc.rr (((a.th x).prio).toNat))).setR (((a.th x).prio).toNat) o68 c69 F70).ho = none := rfl
  refine wpAnyK_done (by kernel_rfl) ?_ _
  try simp only [Exit.then, Exit.inBlock]
  try rw [if_pos trivial]
  exact s_end tabOk2 tabZ_ok2 h83 [] (vs := []) (φ := True) rfl (by kernel_rfl) trivial ⟨rfl, _, mg_end hH h83 hhoh83 (by subst ea84 ea33 ea15; exact ready_eq a x)⟩

theorem queueUp_ok (mb : Nat) (Z : MZ) (R : MR) (a : AK) (C : CP) (x : Nat) (hx : x ∈ sl Z.tl) (s : Int) (hs : s = 3 ∨ s = 4 ∨ s = 5) (i : Nat) (hi : i ∈ sl Z.ql) (hP : MP Z a) (w : World) (hH : MH mb Z R a C w) :
    Calls Tryd.prog 92 #[.pointer (some ⟨mb, 0, none⟩), .agg #[.int .u16 ((Z.ky x).idx), .int .u32 ((Z.ky x).gen)], .int .u8 s, .agg #[.int .u16 ((Z.ky i).idx), .int .u32 ((Z.ky i).gen)]] w fun e w' => e = .returned (.tuple #[]) ∧ ∃ R', MG mb Z R C w Z R' (blockA a x s (Z.ky i)) C w' := by
  have hs6 : s ≠ 6 := by omega
  have hokw : (QL.w i).ok := hH.md.k.qx i hi
  obtain ⟨eb, heb⟩ : ∃ eb, (i, eb) ∈ Z.ql := by
    obtain ⟨⟨i', eb⟩, heb, hie⟩ := List.mem_map.1 hi
    exact ⟨eb, by rw [← show i' = i from hie]; exact heb⟩
  obtain ⟨ty3, hg3⟩ := hH.g3
  have hho := hH.ho
  have hkk := hH.md.k
  refine enter (n := 40) (K := mdF mb Z R C) (A := MD (mdF mb Z R C) w.heap.size mb Z R a C) (F := mdF mb Z R C) (T := [(0, .pointer (some ⟨mb, 0, none⟩)), (1, .agg #[.int .u16 ((Z.ky x).idx), .int .u32 ((Z.ky x).gen)]), (2, .int .u8 s), (3, .agg #[.int .u16 ((Z.ky i).idx), .int .u32 ((Z.ky i).gen)])]) (L := [(3, ⟨[.int .u16 0, .int .u32 0], ty3, true⟩)]) (args := [.pointer (some ⟨mb, 0, none⟩), .agg #[.int .u16 ((Z.ky x).idx), .int .u32 ((Z.ky x).gen)], .int .u8 s, .agg #[.int .u16 ((Z.ky i).idx), .int .u32 ((Z.ky i).gen)]]) Tryd.func92 rfl rfl rfl rfl (kcons hg3 knil) (by simp) (kcons (by intro hq; cases hq) knil) hH.mD MD.stable hH.md.low (kcons (by intro hq; cases hq) knil) ?_
  intro ac h
  refine wp_seq_k fun K1 hK1 => ?_
  refine nd_start (l := [0, 1]) rfl ?_
  refine nd_op ?_
  refine op_new tabOk2 (cells := [.int .u16 ((Z.ky x).idx), .int .u32 ((Z.ky x).gen)]) (ty := 39) (ln := none) (L1 := fun b2 => [(3, ⟨[.int .u16 0, .int .u32 0], ty3, true⟩), (b2, ⟨[.int .u16 ((Z.ky x).idx), .int .u32 ((Z.ky x).gen)], 39, false⟩)]) h rfl rfl rfl rfl (by kernel_rfl) (fun _ => rfl) fun b2 w3 a4 h5 hf6 hn7 => ?_
  clear h
  refine nd_op ?_
  refine op_new tabOk2 (cells := [.int .u16 ((Z.ky i).idx), .int .u32 ((Z.ky i).gen)]) (ty := 39) (ln := none) (L1 := fun b8 => [(3, ⟨[.int .u16 0, .int .u32 0], ty3, true⟩), (b2, ⟨[.int .u16 ((Z.ky x).idx), .int .u32 ((Z.ky x).gen)], 39, false⟩), (b8, ⟨[.int .u16 ((Z.ky i).idx), .int .u32 ((Z.ky i).gen)], 39, false⟩)]) h5 rfl rfl rfl rfl (by kernel_rfl) (fun _ => rfl) fun b8 w9 a10 h11 hf12 hn13 => ?_
  clear h5
  refine nd_done ?_
  refine hK1 _ _ ?_
  clear hK1
  refine wp_seq_k fun K14 hK14 => ?_
  refine nd_start (l := [0, 1, 2]) rfl ?_
  refine nd_batch tabOk2 tabZ_ok2 [(0, {}), (1, {k := 1})] [7, 5, 0, 1, 2, 3, 8, 9] (T' := [(7, .pointer (some ⟨b8, 0, none⟩)), (5, .pointer (some ⟨b2, 0, none⟩)), (0, .pointer (some ⟨mb, 0, none⟩)), (1, .agg #[.int .u16 ((Z.ky x).idx), .int .u32 ((Z.ky x).gen)]), (2, .int .u8 s), (3, .agg #[.int .u16 ((Z.ky i).idx), .int .u32 ((Z.ky i).gen)]), (8, .pointer (some ⟨mb, 0, none⟩)), (9, .agg #[.int .u16 ((Z.ky x).idx), .int .u32 ((Z.ky x).gen)])]) (φ := (b2 = b2 ∧ Nat.ble (0 + 2) 2 = true) ∧ True) (rest := [2]) h11 (by kernel_rfl) rfl ⟨⟨rfl, rfl⟩, trivial⟩ fun a15 h16 => ?_
  clear h11
  refine nd_op ?_
  refine op_call h16 rfl rfl rfl (callOk Tryd.func87 (by decide) rfl) (args := [.pointer (some ⟨mb, 0, none⟩), .agg #[.int .u16 ((Z.ky x).idx), .int .u32 ((Z.ky x).gen)]]) rfl (idle_ok mb Z _ a _ x hx hP _ (mh_of h16 hho (k := 0) rfl)) ?_
  rintro _ w17 ⟨rfl, R18, hg19⟩
  refine ⟨_, rfl, ?_⟩
  have h20a := st_mg h16 hg19 (kcons (fun _ => rfl) (kcons (fun hq => by cases hq) (kcons (fun hq => by cases hq) knil)))
  have h20 := h20a.put (d := some 10) (v := .tuple #[]) (T' := [(10, .tuple #[]), (7, .pointer (some ⟨b8, 0, none⟩)), (5, .pointer (some ⟨b2, 0, none⟩)), (0, .pointer (some ⟨mb, 0, none⟩)), (1, .agg #[.int .u16 ((Z.ky x).idx), .int .u32 ((Z.ky x).gen)]), (2, .int .u8 s), (3, .agg #[.int .u16 ((Z.ky i).idx), .int .u32 ((Z.ky i).gen)]), (8, .pointer (some ⟨mb, 0, none⟩)), (9, .agg #[.int .u16 ((Z.ky x).idx), .int .u32 ((Z.ky x).gen)])]) rfl
  have hhoh20 := hg19.mh.ho
  obtain ⟨a21, ea21⟩ : ∃ z : AK, z = leaveA a x := ⟨_, rfl⟩
  rw [← ea21] at h20
  clear h16 h20a
  have ht22 : a21.th x = { a.th x with st := 0, wait := ⟨0, 0⟩ } := by rw [ea21, leave_th]
  have hP23 : MP Z a21 := by rw [ea21]; exact MP.leave hP hkk hx
  refine nd_done ?_
  refine hK14 _ _ ?_
  clear hK14
  refine wp_seq_k fun K24 hK24 => ?_
  refine dr_start (KB := [3, b2, b8, mb, Z.tb]) (Bi := [[0, 1, 2, 3, 4], [0, 1, 2, 3, 4], [0, 1, 2, 3, 4], [0, 1, 2, 3, 4], [0, 1, 2, 3, 4], [0, 1, 2, 3, 4], [0, 1, 2, 3, 4], [0, 1, 2, 3, 4], [0, 1, 2, 3, 4], [0, 1, 2, 3, 4], [0, 1, 2, 3, 4], [0, 1, 2, 3, 4], [0, 1, 2, 3, 4], [0, 1, 2, 3, 4], [0, 1, 2, 3, 4], [0, 1, 2, 3, 4], [2], [0, 1, 2, 3, 4], [0, 1, 2, 3, 4], []]) mixed h20 fun w25 h26 => ?_
  clear h20
  refine dr_batch tabOk2 tabZ_ok2 (by repeat (first | with_reducible exact PF.body | with_reducible apply PF.inB | with_reducible apply PF.next)) [(0, {}), (1, {}), (2, {})] [7, 5, 0, 1, 2, 3, 13] (T' := [(7, .pointer (some ⟨b8, 0, none⟩)), (5, .pointer (some ⟨b2, 0, none⟩)), (0, .pointer (some ⟨mb, 0, none⟩)), (1, .agg #[.int .u16 ((Z.ky x).idx), .int .u32 ((Z.ky x).gen)]), (2, .int .u8 s), (3, .agg #[.int .u16 ((Z.ky i).idx), .int .u32 ((Z.ky i).gen)]), (13, .pointer (some ⟨mb, 2, none⟩))]) (φ := True) (fuel := 17) h26 (by kernel_rfl) rfl (by kernel_rfl) (by kernel_rfl) ⟨trivial, trivial, trivial, trivial⟩ trivial fun a28 h29 => ?_
  clear h26
  refine dr_read (i := 3) (b := mb) (p := 3) (v := .map (some Z.tb)) (fuel := 16) (by repeat (first | with_reducible exact PF.body | with_reducible apply PF.inB | with_reducible apply PF.next)) h29 rfl rfl rfl (by kernel_rfl) (by kernel_rfl) (by kernel_rfl) rfl (rd_m h29 (k := 2) (v := .map (some Z.tb)) rfl rfl rfl rfl (md_p ⟨rfl, trivial⟩)) ?_
  have h30 := h29.put (d := some 14) (v := .map (some Z.tb)) (T' := [(14, .map (some Z.tb)), (7, .pointer (some ⟨b8, 0, none⟩)), (5, .pointer (some ⟨b2, 0, none⟩)), (0, .pointer (some ⟨mb, 0, none⟩)), (1, .agg #[.int .u16 ((Z.ky x).idx), .int .u32 ((Z.ky x).gen)]), (2, .int .u8 s), (3, .agg #[.int .u16 ((Z.ky i).idx), .int .u32 ((Z.ky i).gen)]), (13, .pointer (some ⟨mb, 2, none⟩))]) rfl
  clear h29
  refine dr_batch tabOk2 tabZ_ok2 (by repeat (first | with_reducible exact PF.body | with_reducible apply PF.inB | with_reducible apply PF.next)) [(4, {k := 1, p := 1})] [14, 7, 5, 0, 1, 2, 3, 15] (T' := [(14, .map (some Z.tb)), (7, .pointer (some ⟨b8, 0, none⟩)), (5, .pointer (some ⟨b2, 0, none⟩)), (0, .pointer (some ⟨mb, 0, none⟩)), (1, .agg #[.int .u16 ((Z.ky x).idx), .int .u32 ((Z.ky x).gen)]), (2, .int .u8 s), (3, .agg #[.int .u16 ((Z.ky i).idx), .int .u32 ((Z.ky i).gen)]), (15, .agg #[.int .u16 ((Z.ky x).idx), .int .u32 ((Z.ky x).gen)])]) (φ := (b2 = b2 ∧ Nat.ble (0 + 2) 2 = true) ∧ True) (fuel := 15) h30 (by kernel_rfl) rfl (by kernel_rfl) (by kernel_rfl) ⟨rfl, trivial⟩ ⟨⟨rfl, rfl⟩, trivial⟩ fun a31 h32 => ?_
  clear h30
  refine dr_read (i := 5) (b := Z.tb) (p := 4) (v := .pointer (some ⟨(Z.tp x), 0, none⟩)) (fuel := 14) (by repeat (first | with_reducible exact PF.body | with_reducible apply PF.inB | with_reducible apply PF.next)) h32 rfl rfl rfl (by kernel_rfl) (by kernel_rfl) (by kernel_rfl) rfl (rd_T h32 (x := x) hx rfl rfl rfl) ?_
  have h33 := h32.put (d := some 16) (v := .pointer (some ⟨(Z.tp x), 0, none⟩)) (T' := [(16, .pointer (some ⟨(Z.tp x), 0, none⟩)), (14, .map (some Z.tb)), (7, .pointer (some ⟨b8, 0, none⟩)), (5, .pointer (some ⟨b2, 0, none⟩)), (0, .pointer (some ⟨mb, 0, none⟩)), (1, .agg #[.int .u16 ((Z.ky x).idx), .int .u32 ((Z.ky x).gen)]), (2, .int .u8 s), (3, .agg #[.int .u16 ((Z.ky i).idx), .int .u32 ((Z.ky i).gen)]), (15, .agg #[.int .u16 ((Z.ky x).idx), .int .u32 ((Z.ky x).gen)])]) rfl
  clear h32
  refine dr_batch tabOk2 tabZ_ok2 (by repeat (first | with_reducible exact PF.body | with_reducible apply PF.inB | with_reducible apply PF.next)) [(6, {}), (7, {}), (8, {})] [16, 7, 5, 0, 1, 2, 3, 19] (T' := [(16, .pointer (some ⟨(Z.tp x), 0, none⟩)), (7, .pointer (some ⟨b8, 0, none⟩)), (5, .pointer (some ⟨b2, 0, none⟩)), (0, .pointer (some ⟨mb, 0, none⟩)), (1, .agg #[.int .u16 ((Z.ky x).idx), .int .u32 ((Z.ky x).gen)]), (2, .int .u8 s), (3, .agg #[.int .u16 ((Z.ky i).idx), .int .u32 ((Z.ky i).gen)]), (19, .pointer (some ⟨mb, 2, none⟩))]) (φ := True) (fuel := 11) h33 (by kernel_rfl) rfl (by kernel_rfl) (by kernel_rfl) ⟨trivial, trivial, trivial, trivial⟩ trivial fun a34 h35 => ?_
  clear h33
  refine dr_read (i := 9) (b := mb) (p := 3) (v := .map (some Z.tb)) (fuel := 10) (by repeat (first | with_reducible exact PF.body | with_reducible apply PF.inB | with_reducible apply PF.next)) h35 rfl rfl rfl (by kernel_rfl) (by kernel_rfl) (by kernel_rfl) rfl (rd_m h35 (k := 2) (v := .map (some Z.tb)) rfl rfl rfl rfl (md_p ⟨rfl, trivial⟩)) ?_
  have h36 := h35.put (d := some 20) (v := .map (some Z.tb)) (T' := [(20, .map (some Z.tb)), (16, .pointer (some ⟨(Z.tp x), 0, none⟩)), (7, .pointer (some ⟨b8, 0, none⟩)), (5, .pointer (some ⟨b2, 0, none⟩)), (0, .pointer (some ⟨mb, 0, none⟩)), (1, .agg #[.int .u16 ((Z.ky x).idx), .int .u32 ((Z.ky x).gen)]), (2, .int .u8 s), (3, .agg #[.int .u16 ((Z.ky i).idx), .int .u32 ((Z.ky i).gen)]), (19, .pointer (some ⟨mb, 2, none⟩))]) rfl
  clear h35
  refine dr_batch tabOk2 tabZ_ok2 (by repeat (first | with_reducible exact PF.body | with_reducible apply PF.inB | with_reducible apply PF.next)) [(10, {k := 1, p := 1})] [20, 16, 7, 5, 0, 1, 2, 3, 21] (T' := [(20, .map (some Z.tb)), (16, .pointer (some ⟨(Z.tp x), 0, none⟩)), (7, .pointer (some ⟨b8, 0, none⟩)), (5, .pointer (some ⟨b2, 0, none⟩)), (0, .pointer (some ⟨mb, 0, none⟩)), (1, .agg #[.int .u16 ((Z.ky x).idx), .int .u32 ((Z.ky x).gen)]), (2, .int .u8 s), (3, .agg #[.int .u16 ((Z.ky i).idx), .int .u32 ((Z.ky i).gen)]), (21, .agg #[.int .u16 ((Z.ky x).idx), .int .u32 ((Z.ky x).gen)])]) (φ := (b2 = b2 ∧ Nat.ble (0 + 2) 2 = true) ∧ True) (fuel := 9) h36 (by kernel_rfl) rfl (by kernel_rfl) (by kernel_rfl) ⟨rfl, trivial⟩ ⟨⟨rfl, rfl⟩, trivial⟩ fun a37 h38 => ?_
  clear h36
  refine dr_read (i := 11) (b := Z.tb) (p := 4) (v := .pointer (some ⟨(Z.tp x), 0, none⟩)) (fuel := 8) (by repeat (first | with_reducible exact PF.body | with_reducible apply PF.inB | with_reducible apply PF.next)) h38 rfl rfl rfl (by kernel_rfl) (by kernel_rfl) (by kernel_rfl) rfl (rd_T h38 (x := x) hx rfl rfl rfl) ?_
  have h39 := h38.put (d := some 22) (v := .pointer (some ⟨(Z.tp x), 0, none⟩)) (T' := [(22, .pointer (some ⟨(Z.tp x), 0, none⟩)), (20, .map (some Z.tb)), (16, .pointer (some ⟨(Z.tp x), 0, none⟩)), (7, .pointer (some ⟨b8, 0, none⟩)), (5, .pointer (some ⟨b2, 0, none⟩)), (0, .pointer (some ⟨mb, 0, none⟩)), (1, .agg #[.int .u16 ((Z.ky x).idx), .int .u32 ((Z.ky x).gen)]), (2, .int .u8 s), (3, .agg #[.int .u16 ((Z.ky i).idx), .int .u32 ((Z.ky i).gen)]), (21, .agg #[.int .u16 ((Z.ky x).idx), .int .u32 ((Z.ky x).gen)])]) rfl
  clear h38
  refine dr_batch tabOk2 tabZ_ok2 (by repeat (first | with_reducible exact PF.body | with_reducible apply PF.inB | with_reducible apply PF.next)) [(12, {}), (13, {k := 2, p := 2}), (14, {}), (15, {})] [22, 7, 5, 0, 1, 2, 3, 23, 24, 26] (T' := [(22, .pointer (some ⟨(Z.tp x), 0, none⟩)), (7, .pointer (some ⟨b8, 0, none⟩)), (5, .pointer (some ⟨b2, 0, none⟩)), (0, .pointer (some ⟨mb, 0, none⟩)), (1, .agg #[.int .u16 ((Z.ky x).idx), .int .u32 ((Z.ky x).gen)]), (2, .int .u8 s), (3, .agg #[.int .u16 ((Z.ky i).idx), .int .u32 ((Z.ky i).gen)]), (23, .int .u8 s), (24, .agg #[.int .u16 ((Z.ky i).idx), .int .u32 ((Z.ky i).gen)]), (26, .pointer (some ⟨(Z.tp x), 0, none⟩))]) (φ := (b8 = b8 ∧ Nat.ble (0 + 2) 2 = true) ∧ True) (fuel := 4) h39 (by kernel_rfl) rfl (by kernel_rfl) (by kernel_rfl) ⟨trivial, rfl, trivial, trivial, trivial⟩ ⟨⟨rfl, rfl⟩, trivial⟩ fun a40 h41 => ?_
  clear h39
  refine wpAnyK_one (i := 16) (fuel := 3) (by kernel_rfl) ?_
  refine op_mTh (x := x) (off := 0) (v := .int .u8 s) (y := { a.th x with st := s, wait := ⟨0, 0⟩ }) h41 rfl rfl rfl rfl rfl rfl rfl rfl rfl hx rfl (by rw [ht22]; rfl) (kcons (fun _ => rfl) (kcons (fun hq => by cases hq) (kcons (fun hq => by cases hq) knil))) fun w42 hf43 h44 => ?_
  obtain ⟨a45, ea45⟩ : ∃ z : AK, z = a21.setT x { a.th x with st := s, wait := ⟨0, 0⟩ } := ⟨_, rfl⟩
  rw [← ea45] at h44
  refine ⟨(keepCons (kpL h41 h44 (q := 2) (q' := 2) rfl rfl) keepNil), ?_⟩
  clear h41
  have ht46 : a45.th x = { a.th x with st := s, wait := ⟨0, 0⟩ } := by rw [ea45]; exact upd_same _ _ _
  refine dr_batch tabOk2 tabZ_ok2 (by repeat (first | with_reducible exact PF.body | with_reducible apply PF.inB | with_reducible apply PF.next)) [(17, {}), (18, {})] [7, 5, 0, 1, 2, 3, 24, 28] (T' := [(7, .pointer (some ⟨b8, 0, none⟩)), (5, .pointer (some ⟨b2, 0, none⟩)), (0, .pointer (some ⟨mb, 0, none⟩)), (1, .agg #[.int .u16 ((Z.ky x).idx), .int .u32 ((Z.ky x).gen)]), (2, .int .u8 s), (3, .agg #[.int .u16 ((Z.ky i).idx), .int .u32 ((Z.ky i).gen)]), (24, .agg #[.int .u16 ((Z.ky i).idx), .int .u32 ((Z.ky i).gen)]), (28, .pointer (some ⟨(Z.tp x), 2, none⟩))]) (φ := True) (fuel := 1) h44 (by kernel_rfl) rfl (by kernel_rfl) (by kernel_rfl) ⟨trivial, trivial, trivial⟩ trivial fun a48 h49 => ?_
  clear h44
  refine wpAnyK_one (i := 19) (fuel := 0) (by kernel_rfl) ?_
  refine op_mTh (x := x) (off := 2) (v := .agg #[.int .u16 ((Z.ky i).idx), .int .u32 ((Z.ky i).gen)]) (y := { a.th x with st := s, wait := ⟨(Z.ky i).idx, (Z.ky i).gen⟩ }) h49 rfl rfl rfl rfl rfl rfl rfl rfl rfl hx rfl (by rw [ht46]; rfl) (kcons (fun _ => rfl) (kcons (fun hq => by cases hq) (kcons (fun hq => by cases hq) knil))) fun w50 hf51 h52 => ?_
  obtain ⟨a53, ea53⟩ : ∃ z : AK, z = a45.setT x { a.th x with st := s, wait := ⟨(Z.ky i).idx, (Z.ky i).gen⟩ } := ⟨_, rfl⟩
  rw [← ea53] at h52
  refine ⟨keepNil, ?_⟩
  clear h49
  have ht54 : a53.th x = { a.th x with st := s, wait := ⟨(Z.ky i).idx, (Z.ky i).gen⟩ } := by rw [ea53]; exact upd_same _ _ _
  refine wpAnyK_done (by kernel_rfl) ?_ _
  refine hK24 _ _ ?_
  clear hK24
  refine dr_start (KB := [3, b2, b8, mb]) (Bi := [[0, 1, 2, 3], [0, 1, 2, 3], [0, 1, 2, 3], [0, 1, 2, 3], [0, 1, 2, 3], [0, 1, 2, 3], [2, 3], [], [0, 1, 2, 3], [], [0, 1, 2, 3], []]) mixed h52 fun w55 h56 => ?_
  clear h52
  refine dr_batch tabOk2 tabZ_ok2 (by repeat (first | with_reducible exact PF.body | with_reducible apply PF.inB | with_reducible apply PF.next)) [(0, {}), (1, {}), (2, {})] [7, 5, 0, 1, 2, 3, 31] (T' := [(7, .pointer (some ⟨b8, 0, none⟩)), (5, .pointer (some ⟨b2, 0, none⟩)), (0, .pointer (some ⟨mb, 0, none⟩)), (1, .agg #[.int .u16 ((Z.ky x).idx), .int .u32 ((Z.ky x).gen)]), (2, .int .u8 s), (3, .agg #[.int .u16 ((Z.ky i).idx), .int .u32 ((Z.ky i).gen)]), (31, .pointer (some ⟨mb, 3, none⟩))]) (φ := True) (fuel := 9) h56 (by kernel_rfl) rfl (by kernel_rfl) (by kernel_rfl) ⟨trivial, trivial, trivial, trivial⟩ trivial fun a58 h59 => ?_
  clear h56
  refine dr_read (i := 3) (b := mb) (p := 3) (v := .map (some Z.qb)) (fuel := 8) (by repeat (first | with_reducible exact PF.body | with_reducible apply PF.inB | with_reducible apply PF.next)) h59 rfl rfl rfl (by kernel_rfl) (by kernel_rfl) (by kernel_rfl) rfl (rd_m h59 (k := 3) (v := .map (some Z.qb)) rfl rfl rfl rfl (md_p ⟨rfl, trivial⟩)) ?_
  have h60 := h59.put (d := some 32) (v := .map (some Z.qb)) (T' := [(32, .map (some Z.qb)), (7, .pointer (some ⟨b8, 0, none⟩)), (5, .pointer (some ⟨b2, 0, none⟩)), (0, .pointer (some ⟨mb, 0, none⟩)), (1, .agg #[.int .u16 ((Z.ky x).idx), .int .u32 ((Z.ky x).gen)]), (2, .int .u8 s), (3, .agg #[.int .u16 ((Z.ky i).idx), .int .u32 ((Z.ky i).gen)]), (31, .pointer (some ⟨mb, 3, none⟩))]) rfl
  clear h59
  refine dr_batch tabOk2 tabZ_ok2 (by repeat (first | with_reducible exact PF.body | with_reducible apply PF.inB | with_reducible apply PF.next)) [(4, {k := 2, p := 2}), (5, {k := 1, p := 1})] [32, 7, 5, 0, 1, 2, 3, 33, 35] (T' := [(32, .map (some Z.qb)), (7, .pointer (some ⟨b8, 0, none⟩)), (5, .pointer (some ⟨b2, 0, none⟩)), (0, .pointer (some ⟨mb, 0, none⟩)), (1, .agg #[.int .u16 ((Z.ky x).idx), .int .u32 ((Z.ky x).gen)]), (2, .int .u8 s), (3, .agg #[.int .u16 ((Z.ky i).idx), .int .u32 ((Z.ky i).gen)]), (33, .agg #[.int .u16 ((Z.ky i).idx), .int .u32 ((Z.ky i).gen)]), (35, .agg #[.int .u16 ((Z.ky x).idx), .int .u32 ((Z.ky x).gen)])]) (φ := (b8 = b8 ∧ Nat.ble (0 + 2) 2 = true) ∧ (b2 = b2 ∧ Nat.ble (0 + 2) 2 = true) ∧ True) (fuel := 6) h60 (by kernel_rfl) rfl (by kernel_rfl) (by kernel_rfl) ⟨rfl, rfl, trivial⟩ ⟨⟨rfl, rfl⟩, ⟨rfl, rfl⟩, trivial⟩ fun a61 h62 => ?_
  clear h60
  refine wpAnyK_one (i := 6) (fuel := 5) (by kernel_rfl) ?_
  refine op_new tabOk2 (cells := [.int .u16 ((Z.ky x).idx), .int .u32 ((Z.ky x).gen)]) (ty := 39) (ln := (some 1)) (L1 := fun b63 => [(3, ⟨[.int .u16 0, .int .u32 0], ty3, true⟩), (b2, ⟨[.int .u16 ((Z.ky x).idx), .int .u32 ((Z.ky x).gen)], 39, false⟩), (b8, ⟨[.int .u16 ((Z.ky i).idx), .int .u32 ((Z.ky i).gen)], 39, false⟩), (b63, ⟨[.int .u16 ((Z.ky x).idx), .int .u32 ((Z.ky x).gen)], 39, false⟩)]) h62 rfl rfl rfl rfl (by kernel_rfl) (fun _ => rfl) fun b63 w64 a65 h66 hf67 hn68 => ?_
  refine ⟨(keepCons (kpLf h62.known hf67 (q := 2) rfl) (keepCons (kpM h62.inv.1 (l := .m) trivial (List.mem_cons_self ..) hf67) keepNil)), ?_⟩
  clear h62
  refine wpAnyK_one (i := 7) (fuel := 4) (by kernel_rfl) ?_
  refine op_mEnt (j := i) (b := eb) h66 rfl rfl rfl rfl rfl heb (kcons (fun _ => rfl) (kcons (fun hq => by cases hq) (kcons (fun hq => by cases hq) (kcons (fun hq => by cases hq) knil)))) fun w69 hf70 he71 h72a => ?_
  have h72 := h72a.put (d := some 37) (v := .tuple #[.slice (R18.qo i) ((kys Z (a53.q (.w i))).length) (R18.qk i), .int .i64 ((eb : Nat) : Int)]) (T' := [(37, .tuple #[.slice (R18.qo i) ((kys Z (a53.q (.w i))).length) (R18.qk i), .int .i64 ((eb : Nat) : Int)]), (36, .slice (some ⟨b63, 0, none⟩) 1 1), (32, .map (some Z.qb)), (7, .pointer (some ⟨b8, 0, none⟩)), (5, .pointer (some ⟨b2, 0, none⟩)), (0, .pointer (some ⟨mb, 0, none⟩)), (1, .agg #[.int .u16 ((Z.ky x).idx), .int .u32 ((Z.ky x).gen)]), (2, .int .u8 s), (3, .agg #[.int .u16 ((Z.ky i).idx), .int .u32 ((Z.ky i).gen)]), (33, .agg #[.int .u16 ((Z.ky i).idx), .int .u32 ((Z.ky i).gen)]), (35, .agg #[.int .u16 ((Z.ky x).idx), .int .u32 ((Z.ky x).gen)])]) rfl
  refine ⟨keepNil, ?_⟩
  clear h66 h72a
  refine dr_batch tabOk2 tabZ_ok2 (by repeat (first | with_reducible exact PF.body | with_reducible apply PF.inB | with_reducible apply PF.next)) [(8, {}), (10, {})] [36, 32, 7, 5, 0, 1, 2, 3, 34, 39] (T' := [(36, .slice (some ⟨b63, 0, none⟩) 1 1), (32, .map (some Z.qb)), (7, .pointer (some ⟨b8, 0, none⟩)), (5, .pointer (some ⟨b2, 0, none⟩)), (0, .pointer (some ⟨mb, 0, none⟩)), (1, .agg #[.int .u16 ((Z.ky x).idx), .int .u32 ((Z.ky x).gen)]), (2, .int .u8 s), (3, .agg #[.int .u16 ((Z.ky i).idx), .int .u32 ((Z.ky i).gen)]), (34, .slice (R18.qo i) ((kys Z (a53.q (.w i))).length) (R18.qk i)), (39, .int .i64 ((eb : Nat) : Int))]) (φ := True) (fuel := 2) h72 (by kernel_rfl) rfl (by kernel_rfl) (by kernel_rfl) ⟨trivial, trivial, trivial⟩ trivial fun a73 h74 => ?_
  clear h72
  refine wpAnyK_one (i := 9) (fuel := 1) (by kernel_rfl) ?_
  have hq85 : a53.q (.w i) = (leaveA a x).q (.w i) := by rw [ea53, ea45, ea21] <;> rfl
  refine op_mAppQ (j := i) (r := Z.ky x) (k := 3) h74 rfl rfl rfl rfl rfl rfl hi hhoh20 (by rw [hq85]; exact (MP.leave hP hkk hx).len hkk hokw) (kcons (fun _ => rfl) (kcons (fun hq => by cases hq) (kcons (fun hq => by cases hq) (kcons (fun hq => by cases hq) knil)))) ?_
  intro o75 c76 F77 w78 hr79 hf80 ha81 hF82 hl83 h84a
  have hr79e : kys Z (a53.q (.w i)) ++ [Z.ky x] = kys Z (a53.q (.w i) ++ [x]) := by simp [kys]
  rw [hr79e] at hr79 ⊢
  have h84 := h84a.put (d := some 38) (v := .slice o75 ((kys Z (a53.q (.w i) ++ [x])).length) c76) (T' := [(38, .slice o75 ((kys Z (a53.q (.w i) ++ [x])).length) c76), (36, .slice (some ⟨b63, 0, none⟩) 1 1), (32, .map (some Z.qb)), (7, .pointer (some ⟨b8, 0, none⟩)), (5, .pointer (some ⟨b2, 0, none⟩)), (0, .pointer (some ⟨mb, 0, none⟩)), (1, .agg #[.int .u16 ((Z.ky x).idx), .int .u32 ((Z.ky x).gen)]), (2, .int .u8 s), (3, .agg #[.int .u16 ((Z.ky i).idx), .int .u32 ((Z.ky i).gen)]), (34, .slice (R18.qo i) ((kys Z (a53.q (.w i))).length) (R18.qk i)), (39, .int .i64 ((eb : Nat) : Int))]) rfl
  refine ⟨keepNil, ?_⟩
  clear h74 h84a
  refine wpAnyK_one (i := 11) (fuel := 0) (by kernel_rfl) ?_
  refine op_mESt (j := i) (b := eb) (so := o75) (c := c76) (F := F77) (ys := (a53.q (.w i) ++ [x])) h84 rfl rfl rfl rfl rfl rfl rfl heb (.inr rfl) hr79 ha81 hF82 hl83 (kcons (fun _ => rfl) (kcons (fun hq => by cases hq) (kcons (fun hq => by cases hq) (kcons (fun hq => by cases hq) knil)))) fun w86 hf87 h88a => ?_
  have h88 := h88a.put (d := none) (v := undef) (T' := [(38, .slice o75 ((kys Z (a53.q (.w i) ++ [x])).length) c76), (36, .slice (some ⟨b63, 0, none⟩) 1 1), (32, .map (some Z.qb)), (7, .pointer (some ⟨b8, 0, none⟩)), (5, .pointer (some ⟨b2, 0, none⟩)), (0, .pointer (some ⟨mb, 0, none⟩)), (1, .agg #[.int .u16 ((Z.ky x).idx), .int .u32 ((Z.ky x).gen)]), (2, .int .u8 s), (3, .agg #[.int .u16 ((Z.ky i).idx), .int .u32 ((Z.ky i).gen)]), (34, .slice (R18.qo i) ((kys Z (a53.q (.w i))).length) (R18.qk i)), (39, .int .i64 ((eb : Nat) : Int))]) rfl
  obtain ⟨a89, ea89⟩ : ∃ z : AK, z = a53.setQ (.w i) (a53.q (.w i) ++ [x]) := ⟨_, rfl⟩
  rw [← ea89] at h88
  refine ⟨keepNil, ?_⟩
  clear h84 h88a
  have ht90 : a89.th x = { a.th x with st := s, wait := ⟨(Z.ky i).idx, (Z.ky i).gen⟩ } := by rw [ea89] <;> exact ht54
  have hhoh88 : ((R18.hole (MLoc.qr i)).setQ i o75 c76 F77).ho = none := rfl
  refine wpAnyK_done (by kernel_rfl) ?_ _
  try simp only [Exit.then, Exit.inBlock]
  try rw [if_pos trivial]
  exact s_end tabOk2 tabZ_ok2 h88 [] (vs := []) (φ := True) rfl (by kernel_rfl) trivial ⟨rfl, _, mg_end hH h88 hhoh88 (by subst ea89 ea53 ea45 ea21; exact queue_eq hkk hi hs6)⟩

end Go.Proofs.Qxb6500918aDoor
