/-
  The model: signal. (Made by program: a symbolic walk that prints its steps.)
-/
import Derived.Test.Qxb6500918aDoorUg
namespace Go.Proofs.Qxb6500918aDoor
open Go.Sx Go.Kn
set_option maxRecDepth 100000
set_option maxHeartbeats 4000000
set_option linter.unusedVariables false
set_option linter.unusedSimpArgs false

theorem signal_A (mb : Nat) (Z : MZ) (R : MR) (a : AK) (C : CP) (i : Nat) (hi : i ∈ sl Z.ql) (b : Int) (hP : MP Z a) (y : Nat) (hy : y ∈ sl Z.tl) (ho : oldestA a (Z.ky i) 5 = (y : Int)) (w : World) (hH : MH mb Z R a C w) :
    Calls Tryd.prog 54 #[.pointer (some ⟨mb, 0, none⟩), .agg #[.int .u16 ((Z.ky i).idx), .int .u32 ((Z.ky i).gen)], .int .u64 b] w fun e w' => e = .returned (.tuple #[]) ∧ ∃ R', MG mb Z R C w Z R' (signalA a (Z.ky i) b) C w' := by
  have hf : firstR Z a i 5 = Z.ky y := by rw [firstR_old hH.md.k (hH.md.k.qx i hi), ho]; rw [if_neg (by omega), Int.toNat_natCast]
  obtain ⟨ty3, hg3⟩ := hH.g3
  have hho := hH.ho
  have hkk := hH.md.k
  refine enter (n := 38) (K := mdF mb Z R C) (A := MD (mdF mb Z R C) w.heap.size mb Z R a C) (F := mdF mb Z R C) (T := [(0, .pointer (some ⟨mb, 0, none⟩)), (1, .agg #[.int .u16 ((Z.ky i).idx), .int .u32 ((Z.ky i).gen)]), (2, .int .u64 b)]) (L := [(3, ⟨[.int .u16 0, .int .u32 0], ty3, true⟩)]) (args := [.pointer (some ⟨mb, 0, none⟩), .agg #[.int .u16 ((Z.ky i).idx), .int .u32 ((Z.ky i).gen)], .int .u64 b]) Tryd.func54 rfl rfl rfl rfl (kcons hg3 knil) (by simp) (kcons (by intro hq; cases hq) knil) hH.mD MD.stable hH.md.low (kcons (by intro hq; cases hq) knil) ?_
  intro ac h
  refine wp_seq_k fun K1 hK1 => ?_
  refine nd_start (l := [0]) rfl ?_
  refine nd_op ?_
  refine op_new tabOk2 (cells := [.int .u16 ((Z.ky i).idx), .int .u32 ((Z.ky i).gen)]) (ty := 39) (ln := none) (L1 := fun b2 => [(3, ⟨[.int .u16 0, .int .u32 0], ty3, true⟩), (b2, ⟨[.int .u16 ((Z.ky i).idx), .int .u32 ((Z.ky i).gen)], 39, false⟩)]) h rfl rfl rfl rfl (by kernel_rfl) (fun _ => rfl) fun b2 w3 a4 h5 hf6 hn7 => ?_
  clear h
  refine nd_done ?_
  refine hK1 _ _ ?_
  clear hK1
  refine wp_seq_k fun K8 hK8 => ?_
  refine nd_start (l := [0, 1, 2, 3, 4]) rfl ?_
  refine nd_batch tabOk2 tabZ_ok2 [(0, {}), (1, {k := 1})] [4, 0, 1, 2, 7, 8] (T' := [(4, .pointer (some ⟨b2, 0, none⟩)), (0, .pointer (some ⟨mb, 0, none⟩)), (1, .agg #[.int .u16 ((Z.ky i).idx), .int .u32 ((Z.ky i).gen)]), (2, .int .u64 b), (7, .pointer (some ⟨mb, 0, none⟩)), (8, .agg #[.int .u16 ((Z.ky i).idx), .int .u32 ((Z.ky i).gen)])]) (φ := (b2 = b2 ∧ Nat.ble (0 + 2) 2 = true) ∧ True) (rest := [2, 3, 4]) h5 (by kernel_rfl) rfl ⟨⟨rfl, rfl⟩, trivial⟩ fun a9 h10 => ?_
  clear h5
  refine nd_op ?_
  refine op_call h10 rfl rfl rfl (callOk Tryd.func88 (by decide) rfl) (args := [.pointer (some ⟨mb, 0, none⟩), .agg #[.int .u16 ((Z.ky i).idx), .int .u32 ((Z.ky i).gen)], .int .u8 5]) rfl (by have hf9 := first_ok mb Z _ a _ i hi 5 hP _ (mh_of h10 hho (k := 0) rfl); rw [hf] at hf9; exact hf9) ?_
  rintro _ w11 ⟨rfl, hg13⟩
  refine ⟨_, rfl, ?_⟩
  have h14a := st_mg h10 hg13 (kcons (fun _ => rfl) (kcons (fun hq => by cases hq) knil))
  have h14 := h14a.put (d := some 9) (v := .agg #[.int .u16 ((Z.ky y).idx), .int .u32 ((Z.ky y).gen)]) (T' := [(9, .agg #[.int .u16 ((Z.ky y).idx), .int .u32 ((Z.ky y).gen)]), (4, .pointer (some ⟨b2, 0, none⟩)), (0, .pointer (some ⟨mb, 0, none⟩)), (1, .agg #[.int .u16 ((Z.ky i).idx), .int .u32 ((Z.ky i).gen)]), (2, .int .u64 b), (7, .pointer (some ⟨mb, 0, none⟩)), (8, .agg #[.int .u16 ((Z.ky i).idx), .int .u32 ((Z.ky i).gen)])]) rfl
  have hhoh14 := hg13.mh.ho
  clear h10 h14a
  refine nd_op ?_
  refine op_new tabOk2 (cells := [.int .u16 0, .int .u32 0]) (ty := 39) (ln := none) (L1 := fun b15 => [(3, ⟨[.int .u16 0, .int .u32 0], ty3, true⟩), (b2, ⟨[.int .u16 ((Z.ky i).idx), .int .u32 ((Z.ky i).gen)], 39, false⟩), (b15, ⟨[.int .u16 0, .int .u32 0], 39, false⟩)]) h14 rfl rfl rfl rfl (by kernel_rfl) (fun _ => rfl) fun b15 w16 a17 h18 hf19 hn20 => ?_
  clear h14
  refine nd_op ?_
  refine op_store tabOk2 {k := 2} (L' := [(3, ⟨[.int .u16 0, .int .u32 0], ty3, true⟩), (b2, ⟨[.int .u16 ((Z.ky i).idx), .int .u32 ((Z.ky i).gen)], 39, false⟩), (b15, ⟨[.int .u16 ((Z.ky y).idx), .int .u32 ((Z.ky y).gen)], 39, false⟩)]) (φ := b15 = b15 ∧ Nat.ble (0 + 2) 2 = true) h18 rfl rfl rfl (by kernel_rfl) ⟨rfl, rfl⟩ fun w21 h22 => ?_
  clear h18
  refine nd_done ?_
  refine hK8 _ _ ?_
  clear hK8
  refine wp_seq_k fun K23 hK23 => ?_
  refine nd_start (l := [0, 1, 2]) rfl ?_
  refine nd_batch tabOk2 tabZ_ok2 [(0, {k := 2}), (1, {k := 0}), (2, {f := 2})] [6, 4, 0, 1, 2, 12] (T' := [(6, .pointer (some ⟨b15, 0, none⟩)), (4, .pointer (some ⟨b2, 0, none⟩)), (0, .pointer (some ⟨mb, 0, none⟩)), (1, .agg #[.int .u16 ((Z.ky i).idx), .int .u32 ((Z.ky i).gen)]), (2, .int .u64 b), (12, .bool true)]) (φ := (b15 = b15 ∧ Nat.ble (0 + 2) 2 = true) ∧ (3 = 3 ∧ Nat.ble (0 + 2) 2 = true) ∧ EqRun Tryd.prog 39 (.agg #[.int .u16 ((Z.ky y).idx), .int .u32 ((Z.ky y).gen)]) (.agg #[.int .u16 0, .int .u32 0]) false ∧ True) (rest := []) h22 (by kernel_rfl) rfl ⟨⟨rfl, rfl⟩, ⟨rfl, rfl⟩, (by have hq := runRf (Z.ky y) (⟨0, 0⟩ : Rf); rw [show decide (Z.ky y = (⟨0, 0⟩ : Rf)) = false from decide_eq_false (hkk.ne0 (hkk.tx y hy))] at hq; exact hq), trivial⟩ fun a24 h25 => ?_
  clear h22
  refine nd_done ?_
  refine hK23 _ _ ?_
  clear hK23
  refine c_true h25 rfl ?_
  refine wp_seq_k fun K26 hK26 => ?_
  refine dr_start (KB := [3, b2, b15, mb, Z.tb]) (Bi := [[0, 1, 2, 3, 4], [0, 1, 2, 3, 4], [0, 1, 2, 3, 4], [0, 1, 2, 3, 4], [0, 1, 2, 3, 4], [0, 1, 2, 3, 4], [0, 1, 2, 3, 4], [0, 1, 2, 3, 4], [0, 1, 2, 3, 4], []]) mixed h25 fun w27 h28 => ?_
  clear h25
  refine dr_batch tabOk2 tabZ_ok2 (by repeat (first | with_reducible exact PF.body | with_reducible apply PF.inB | with_reducible apply PF.next)) [(0, {}), (1, {}), (2, {})] [6, 4, 0, 1, 2, 15] (T' := [(6, .pointer (some ⟨b15, 0, none⟩)), (4, .pointer (some ⟨b2, 0, none⟩)), (0, .pointer (some ⟨mb, 0, none⟩)), (1, .agg #[.int .u16 ((Z.ky i).idx), .int .u32 ((Z.ky i).gen)]), (2, .int .u64 b), (15, .pointer (some ⟨mb, 2, none⟩))]) (φ := True) (fuel := 7) h28 (by kernel_rfl) rfl (by kernel_rfl) (by kernel_rfl) ⟨trivial, trivial, trivial, trivial⟩ trivial fun a30 h31 => ?_
  clear h28
  refine dr_read (i := 3) (b := mb) (p := 3) (v := .map (some Z.tb)) (fuel := 6) (by repeat (first | with_reducible exact PF.body | with_reducible apply PF.inB | with_reducible apply PF.next)) h31 rfl rfl rfl (by kernel_rfl) (by kernel_rfl) (by kernel_rfl) rfl (rd_m h31 (k := 2) (v := .map (some Z.tb)) rfl rfl rfl rfl (md_p ⟨rfl, trivial⟩)) ?_
  have h32 := h31.put (d := some 16) (v := .map (some Z.tb)) (T' := [(16, .map (some Z.tb)), (6, .pointer (some ⟨b15, 0, none⟩)), (4, .pointer (some ⟨b2, 0, none⟩)), (0, .pointer (some ⟨mb, 0, none⟩)), (1, .agg #[.int .u16 ((Z.ky i).idx), .int .u32 ((Z.ky i).gen)]), (2, .int .u64 b), (15, .pointer (some ⟨mb, 2, none⟩))]) rfl
  clear h31
  refine dr_batch tabOk2 tabZ_ok2 (by repeat (first | with_reducible exact PF.body | with_reducible apply PF.inB | with_reducible apply PF.next)) [(4, {k := 2, p := 2})] [16, 6, 4, 0, 1, 2, 17] (T' := [(16, .map (some Z.tb)), (6, .pointer (some ⟨b15, 0, none⟩)), (4, .pointer (some ⟨b2, 0, none⟩)), (0, .pointer (some ⟨mb, 0, none⟩)), (1, .agg #[.int .u16 ((Z.ky i).idx), .int .u32 ((Z.ky i).gen)]), (2, .int .u64 b), (17, .agg #[.int .u16 ((Z.ky y).idx), .int .u32 ((Z.ky y).gen)])]) (φ := (b15 = b15 ∧ Nat.ble (0 + 2) 2 = true) ∧ True) (fuel := 5) h32 (by kernel_rfl) rfl (by kernel_rfl) (by kernel_rfl) ⟨rfl, trivial⟩ ⟨⟨rfl, rfl⟩, trivial⟩ fun a33 h34 => ?_
  clear h32
  refine dr_read (i := 5) (b := Z.tb) (p := 4) (v := .pointer (some ⟨(Z.tp y), 0, none⟩)) (fuel := 4) (by repeat (first | with_reducible exact PF.body | with_reducible apply PF.inB | with_reducible apply PF.next)) h34 rfl rfl rfl (by kernel_rfl) (by kernel_rfl) (by kernel_rfl) rfl (rd_T h34 (x := y) hy rfl rfl rfl) ?_
  have h35 := h34.put (d := some 18) (v := .pointer (some ⟨(Z.tp y), 0, none⟩)) (T' := [(18, .pointer (some ⟨(Z.tp y), 0, none⟩)), (16, .map (some Z.tb)), (6, .pointer (some ⟨b15, 0, none⟩)), (4, .pointer (some ⟨b2, 0, none⟩)), (0, .pointer (some ⟨mb, 0, none⟩)), (1, .agg #[.int .u16 ((Z.ky i).idx), .int .u32 ((Z.ky i).gen)]), (2, .int .u64 b), (17, .agg #[.int .u16 ((Z.ky y).idx), .int .u32 ((Z.ky y).gen)])]) rfl
  clear h34
  refine dr_batch tabOk2 tabZ_ok2 (by repeat (first | with_reducible exact PF.body | with_reducible apply PF.inB | with_reducible apply PF.next)) [(6, {}), (7, {}), (8, {})] [6, 4, 0, 1, 2, 19, 21] (T' := [(6, .pointer (some ⟨b15, 0, none⟩)), (4, .pointer (some ⟨b2, 0, none⟩)), (0, .pointer (some ⟨mb, 0, none⟩)), (1, .agg #[.int .u16 ((Z.ky i).idx), .int .u32 ((Z.ky i).gen)]), (2, .int .u64 b), (19, .int .u64 b), (21, .pointer (some ⟨(Z.tp y), 8, none⟩))]) (φ := True) (fuel := 1) h35 (by kernel_rfl) rfl (by kernel_rfl) (by kernel_rfl) ⟨trivial, trivial, trivial, trivial⟩ trivial fun a36 h37 => ?_
  clear h35
  refine wpAnyK_one (i := 9) (fuel := 0) (by kernel_rfl) ?_
  refine op_mTh (x := y) (off := 8) (v := .int .u64 b) (y := { a.th y with badge := b }) h37 rfl rfl rfl rfl rfl rfl rfl rfl rfl hy rfl rfl (kcons (fun _ => rfl) (kcons (fun hq => by cases hq) (kcons (fun hq => by cases hq) knil))) fun w38 hf39 h40 => ?_
  obtain ⟨a41, ea41⟩ : ∃ z : AK, z = a.setT y { a.th y with badge := b } := ⟨_, rfl⟩
  rw [← ea41] at h40
  refine ⟨keepNil, ?_⟩
  clear h37
  have ht42 : a41.th y = { a.th y with badge := b } := by rw [ea41]; exact upd_same _ _ _
  have hP43 : MP Z a41 := by rw [ea41]; exact MP.like hP rfl rfl rfl
  refine wpAnyK_done (by kernel_rfl) ?_ _
  refine hK26 _ _ ?_
  clear hK26
  refine nd_start (l := [0, 1, 2]) rfl ?_
  refine nd_batch tabOk2 tabZ_ok2 [(0, {}), (1, {k := 2})] [6, 4, 0, 1, 2, 22, 23] (T' := [(6, .pointer (some ⟨b15, 0, none⟩)), (4, .pointer (some ⟨b2, 0, none⟩)), (0, .pointer (some ⟨mb, 0, none⟩)), (1, .agg #[.int .u16 ((Z.ky i).idx), .int .u32 ((Z.ky i).gen)]), (2, .int .u64 b), (22, .pointer (some ⟨mb, 0, none⟩)), (23, .agg #[.int .u16 ((Z.ky y).idx), .int .u32 ((Z.ky y).gen)])]) (φ := (b15 = b15 ∧ Nat.ble (0 + 2) 2 = true) ∧ True) (rest := [2]) h40 (by kernel_rfl) rfl ⟨⟨rfl, rfl⟩, trivial⟩ fun a44 h45 => ?_
  clear h40
  refine nd_op ?_
  refine op_call h45 rfl rfl rfl (callOk Tryd.func52 (by decide) rfl) (args := [.pointer (some ⟨mb, 0, none⟩), .agg #[.int .u16 ((Z.ky y).idx), .int .u32 ((Z.ky y).gen)]]) rfl (mready_ok mb Z _ a41 _ y hy hP43 _ (mh_of h45 hhoh14 (k := 0) rfl)) ?_
  rintro _ w46 ⟨rfl, R47, hg48⟩
  refine ⟨_, rfl, ?_⟩
  have h49a := st_mg h45 hg48 (kcons (fun _ => rfl) (kcons (fun hq => by cases hq) (kcons (fun hq => by cases hq) knil)))
  have h49 := h49a.put (d := some 24) (v := .tuple #[]) (T' := [(24, .tuple #[]), (6, .pointer (some ⟨b15, 0, none⟩)), (4, .pointer (some ⟨b2, 0, none⟩)), (0, .pointer (some ⟨mb, 0, none⟩)), (1, .agg #[.int .u16 ((Z.ky i).idx), .int .u32 ((Z.ky i).gen)]), (2, .int .u64 b), (22, .pointer (some ⟨mb, 0, none⟩)), (23, .agg #[.int .u16 ((Z.ky y).idx), .int .u32 ((Z.ky y).gen)])]) rfl
  have hhoh49 := hg48.mh.ho
  obtain ⟨a50, ea50⟩ : ∃ z : AK, z = wakeA a41 y := ⟨_, rfl⟩
  rw [← ea50] at h49
  clear h45 h49a
  have ht51 : a50.th y = { a.th y with st := 1, wait := ⟨0, 0⟩, badge := b } := by rw [ea50, wake_th, ht42]
  have hP52 : MP Z a50 := by rw [ea50]; exact MP.wake hP43 hkk hy
  refine nd_done ?_
  try simp only [Exit.then, Exit.inBlock]
  try rw [if_pos trivial]
  exact s_end tabOk2 tabZ_ok2 h49 [] (vs := []) (φ := True) rfl (by kernel_rfl) trivial ⟨rfl, _, mg_end hH h49 hhoh49 (by subst ea50 ea41; unfold signalA; rw [ho, if_pos (by omega), Int.toNat_natCast])⟩

theorem signalB (mb : Nat) (Z : MZ) (R : MR) (a : AK) (C : CP) (i : Nat) (hi : i ∈ sl Z.ql) (b : Int) (hP : MP Z a) (ho : oldestA a (Z.ky i) 5 = -1) (w : World) (hH : MH mb Z R a C w) :
    Calls Tryd.prog 54 #[.pointer (some ⟨mb, 0, none⟩), .agg #[.int .u16 ((Z.ky i).idx), .int .u32 ((Z.ky i).gen)], .int .u64 b] w fun e w' => e = .returned (.tuple #[]) ∧ ∃ R', MG mb Z R C w Z R' (signalA a (Z.ky i) b) C w' := by
  have hf : firstR Z a i 5 = ⟨0, 0⟩ := by rw [firstR_old hH.md.k (hH.md.k.qx i hi), ho]; rfl
  obtain ⟨ty3, hg3⟩ := hH.g3
  have hho := hH.ho
  have hkk := hH.md.k
  refine enter (n := 38) (K := mdF mb Z R C) (A := MD (mdF mb Z R C) w.heap.size mb Z R a C) (F := mdF mb Z R C) (T := [(0, .pointer (some ⟨mb, 0, none⟩)), (1, .agg #[.int .u16 ((Z.ky i).idx), .int .u32 ((Z.ky i).gen)]), (2, .int .u64 b)]) (L := [(3, ⟨[.int .u16 0, .int .u32 0], ty3, true⟩)]) (args := [.pointer (some ⟨mb, 0, none⟩), .agg #[.int .u16 ((Z.ky i).idx), .int .u32 ((Z.ky i).gen)], .int .u64 b]) Tryd.func54 rfl rfl rfl rfl (kcons hg3 knil) (by simp) (kcons (by intro hq; cases hq) knil) hH.mD MD.stable hH.md.low (kcons (by intro hq; cases hq) knil) ?_
  intro ac h
  refine wp_seq_k fun K1 hK1 => ?_
  refine nd_start (l := [0]) rfl ?_
  refine nd_op ?_
  refine op_new tabOk2 (cells := [.int .u16 ((Z.ky i).idx), .int .u32 ((Z.ky i).gen)]) (ty := 39) (ln := none) (L1 := fun b2 => [(3, ⟨[.int .u16 0, .int .u32 0], ty3, true⟩), (b2, ⟨[.int .u16 ((Z.ky i).idx), .int .u32 ((Z.ky i).gen)], 39, false⟩)]) h rfl rfl rfl rfl (by kernel_rfl) (fun _ => rfl) fun b2 w3 a4 h5 hf6 hn7 => ?_
  clear h
  refine nd_done ?_
  refine hK1 _ _ ?_
  clear hK1
  refine wp_seq_k fun K8 hK8 => ?_
  refine nd_start (l := [0, 1, 2, 3, 4]) rfl ?_
  refine nd_batch tabOk2 tabZ_ok2 [(0, {}), (1, {k := 1})] [4, 0, 1, 2, 7, 8] (T' := [(4, .pointer (some ⟨b2, 0, none⟩)), (0, .pointer (some ⟨mb, 0, none⟩)), (1, .agg #[.int .u16 ((Z.ky i).idx), .int .u32 ((Z.ky i).gen)]), (2, .int .u64 b), (7, .pointer (some ⟨mb, 0, none⟩)), (8, .agg #[.int .u16 ((Z.ky i).idx), .int .u32 ((Z.ky i).gen)])]) (φ := (b2 = b2 ∧ Nat.ble (0 + 2) 2 = true) ∧ True) (rest := [2, 3, 4]) h5 (by kernel_rfl) rfl ⟨⟨rfl, rfl⟩, trivial⟩ fun a9 h10 => ?_
  clear h5
  refine nd_op ?_
  refine op_call h10 rfl rfl rfl (callOk Tryd.func88 (by decide) rfl) (args := [.pointer (some ⟨mb, 0, none⟩), .agg #[.int .u16 ((Z.ky i).idx), .int .u32 ((Z.ky i).gen)], .int .u8 5]) rfl (by have hf9 := first_ok mb Z _ a _ i hi 5 hP _ (mh_of h10 hho (k := 0) rfl); rw [hf] at hf9; exact hf9) ?_
  rintro _ w11 ⟨rfl, hg13⟩
  refine ⟨_, rfl, ?_⟩
  have h14a := st_mg h10 hg13 (kcons (fun _ => rfl) (kcons (fun hq => by cases hq) knil))
  have h14 := h14a.put (d := some 9) (v := .agg #[.int .u16 0, .int .u32 0]) (T' := [(9, .agg #[.int .u16 0, .int .u32 0]), (4, .pointer (some ⟨b2, 0, none⟩)), (0, .pointer (some ⟨mb, 0, none⟩)), (1, .agg #[.int .u16 ((Z.ky i).idx), .int .u32 ((Z.ky i).gen)]), (2, .int .u64 b), (7, .pointer (some ⟨mb, 0, none⟩)), (8, .agg #[.int .u16 ((Z.ky i).idx), .int .u32 ((Z.ky i).gen)])]) rfl
  have hhoh14 := hg13.mh.ho
  clear h10 h14a
  refine nd_op ?_
  refine op_new tabOk2 (cells := [.int .u16 0, .int .u32 0]) (ty := 39) (ln := none) (L1 := fun b15 => [(3, ⟨[.int .u16 0, .int .u32 0], ty3, true⟩), (b2, ⟨[.int .u16 ((Z.ky i).idx), .int .u32 ((Z.ky i).gen)], 39, false⟩), (b15, ⟨[.int .u16 0, .int .u32 0], 39, false⟩)]) h14 rfl rfl rfl rfl (by kernel_rfl) (fun _ => rfl) fun b15 w16 a17 h18 hf19 hn20 => ?_
  clear h14
  refine nd_op ?_
  refine op_store tabOk2 {k := 2} (L' := [(3, ⟨[.int .u16 0, .int .u32 0], ty3, true⟩), (b2, ⟨[.int .u16 ((Z.ky i).idx), .int .u32 ((Z.ky i).gen)], 39, false⟩), (b15, ⟨[.int .u16 0, .int .u32 0], 39, false⟩)]) (φ := b15 = b15 ∧ Nat.ble (0 + 2) 2 = true) h18 rfl rfl rfl (by kernel_rfl) ⟨rfl, rfl⟩ fun w21 h22 => ?_
  clear h18
  refine nd_done ?_
  refine hK8 _ _ ?_
  clear hK8
  refine wp_seq_k fun K23 hK23 => ?_
  refine nd_start (l := [0, 1, 2]) rfl ?_
  refine nd_batch tabOk2 tabZ_ok2 [(0, {k := 2}), (1, {k := 0}), (2, {f := 1})] [6, 4, 0, 1, 2, 12] (T' := [(6, .pointer (some ⟨b15, 0, none⟩)), (4, .pointer (some ⟨b2, 0, none⟩)), (0, .pointer (some ⟨mb, 0, none⟩)), (1, .agg #[.int .u16 ((Z.ky i).idx), .int .u32 ((Z.ky i).gen)]), (2, .int .u64 b), (12, .bool false)]) (φ := (b15 = b15 ∧ Nat.ble (0 + 2) 2 = true) ∧ (3 = 3 ∧ Nat.ble (0 + 2) 2 = true) ∧ EqRun Tryd.prog 39 (.agg #[.int .u16 0, .int .u32 0]) (.agg #[.int .u16 0, .int .u32 0]) true ∧ True) (rest := []) h22 (by kernel_rfl) rfl ⟨⟨rfl, rfl⟩, ⟨rfl, rfl⟩, (by have hq := runRf (⟨0, 0⟩ : Rf) (⟨0, 0⟩ : Rf); rw [show decide ((⟨0, 0⟩ : Rf) = (⟨0, 0⟩ : Rf)) = true from decide_eq_true rfl] at hq; exact hq), trivial⟩ fun a24 h25 => ?_
  clear h22
  refine nd_done ?_
  refine hK23 _ _ ?_
  clear hK23
  refine c_false h25 rfl ?_
  refine dr_start (KB := [3, b2, b15, mb, Z.wb]) (Bi := [[0, 1, 2, 3, 4], [0, 1, 2, 3, 4], [0, 1, 2, 3, 4], [0, 1, 2, 3, 4], [0, 1, 2, 3, 4], [0, 1, 2, 3, 4], [0, 1, 2, 3, 4], [0, 1, 2, 3, 4], [0, 1, 2, 3, 4], [0, 1, 2, 3, 4], [0, 1, 2, 3, 4], [0, 1, 2, 3, 4], [0, 1, 2, 3, 4], []]) mixed h25 fun w26 h27 => ?_
  clear h25
  refine dr_batch tabOk2 tabZ_ok2 (by repeat (first | with_reducible exact PF.body | with_reducible apply PF.inB | with_reducible apply PF.next)) [(0, {}), (1, {}), (2, {})] [6, 4, 0, 1, 2, 27] (T' := [(6, .pointer (some ⟨b15, 0, none⟩)), (4, .pointer (some ⟨b2, 0, none⟩)), (0, .pointer (some ⟨mb, 0, none⟩)), (1, .agg #[.int .u16 ((Z.ky i).idx), .int .u32 ((Z.ky i).gen)]), (2, .int .u64 b), (27, .pointer (some ⟨mb, 4, none⟩))]) (φ := True) (fuel := 11) h27 (by kernel_rfl) rfl (by kernel_rfl) (by kernel_rfl) ⟨trivial, trivial, trivial, trivial⟩ trivial fun a29 h30 => ?_
  clear h27
  refine dr_read (i := 3) (b := mb) (p := 3) (v := .map (some Z.wb)) (fuel := 10) (by repeat (first | with_reducible exact PF.body | with_reducible apply PF.inB | with_reducible apply PF.next)) h30 rfl rfl rfl (by kernel_rfl) (by kernel_rfl) (by kernel_rfl) rfl (rd_m h30 (k := 4) (v := .map (some Z.wb)) rfl rfl rfl rfl (md_p ⟨rfl, trivial⟩)) ?_
  have h31 := h30.put (d := some 28) (v := .map (some Z.wb)) (T' := [(28, .map (some Z.wb)), (6, .pointer (some ⟨b15, 0, none⟩)), (4, .pointer (some ⟨b2, 0, none⟩)), (0, .pointer (some ⟨mb, 0, none⟩)), (1, .agg #[.int .u16 ((Z.ky i).idx), .int .u32 ((Z.ky i).gen)]), (2, .int .u64 b), (27, .pointer (some ⟨mb, 4, none⟩))]) rfl
  clear h30
  refine dr_batch tabOk2 tabZ_ok2 (by repeat (first | with_reducible exact PF.body | with_reducible apply PF.inB | with_reducible apply PF.next)) [(4, {k := 1, p := 1}), (5, {}), (6, {}), (7, {})] [28, 6, 4, 0, 1, 2, 29, 32] (T' := [(28, .map (some Z.wb)), (6, .pointer (some ⟨b15, 0, none⟩)), (4, .pointer (some ⟨b2, 0, none⟩)), (0, .pointer (some ⟨mb, 0, none⟩)), (1, .agg #[.int .u16 ((Z.ky i).idx), .int .u32 ((Z.ky i).gen)]), (2, .int .u64 b), (29, .agg #[.int .u16 ((Z.ky i).idx), .int .u32 ((Z.ky i).gen)]), (32, .pointer (some ⟨mb, 4, none⟩))]) (φ := (b2 = b2 ∧ Nat.ble (0 + 2) 2 = true) ∧ True) (fuel := 6) h31 (by kernel_rfl) rfl (by kernel_rfl) (by kernel_rfl) ⟨rfl, trivial, trivial, trivial, trivial⟩ ⟨⟨rfl, rfl⟩, trivial⟩ fun a32 h33 => ?_
  clear h31
  refine dr_read (i := 8) (b := mb) (p := 3) (v := .map (some Z.wb)) (fuel := 5) (by repeat (first | with_reducible exact PF.body | with_reducible apply PF.inB | with_reducible apply PF.next)) h33 rfl rfl rfl (by kernel_rfl) (by kernel_rfl) (by kernel_rfl) rfl (rd_m h33 (k := 4) (v := .map (some Z.wb)) rfl rfl rfl rfl (md_p ⟨rfl, trivial⟩)) ?_
  have h34 := h33.put (d := some 33) (v := .map (some Z.wb)) (T' := [(33, .map (some Z.wb)), (28, .map (some Z.wb)), (6, .pointer (some ⟨b15, 0, none⟩)), (4, .pointer (some ⟨b2, 0, none⟩)), (0, .pointer (some ⟨mb, 0, none⟩)), (1, .agg #[.int .u16 ((Z.ky i).idx), .int .u32 ((Z.ky i).gen)]), (2, .int .u64 b), (29, .agg #[.int .u16 ((Z.ky i).idx), .int .u32 ((Z.ky i).gen)]), (32, .pointer (some ⟨mb, 4, none⟩))]) rfl
  clear h33
  refine dr_batch tabOk2 tabZ_ok2 (by repeat (first | with_reducible exact PF.body | with_reducible apply PF.inB | with_reducible apply PF.next)) [(9, {k := 1, p := 1})] [33, 28, 6, 4, 0, 1, 2, 29, 34] (T' := [(33, .map (some Z.wb)), (28, .map (some Z.wb)), (6, .pointer (some ⟨b15, 0, none⟩)), (4, .pointer (some ⟨b2, 0, none⟩)), (0, .pointer (some ⟨mb, 0, none⟩)), (1, .agg #[.int .u16 ((Z.ky i).idx), .int .u32 ((Z.ky i).gen)]), (2, .int .u64 b), (29, .agg #[.int .u16 ((Z.ky i).idx), .int .u32 ((Z.ky i).gen)]), (34, .agg #[.int .u16 ((Z.ky i).idx), .int .u32 ((Z.ky i).gen)])]) (φ := (b2 = b2 ∧ Nat.ble (0 + 2) 2 = true) ∧ True) (fuel := 4) h34 (by kernel_rfl) rfl (by kernel_rfl) (by kernel_rfl) ⟨rfl, trivial⟩ ⟨⟨rfl, rfl⟩, trivial⟩ fun a35 h36 => ?_
  clear h34
  refine dr_read (i := 10) (b := Z.wb) (p := 4) (v := .int .u64 (a.word i)) (fuel := 3) (by repeat (first | with_reducible exact PF.body | with_reducible apply PF.inB | with_reducible apply PF.next)) h36 rfl rfl rfl (by kernel_rfl) (by kernel_rfl) (by kernel_rfl) rfl (rd_W h36 (x := i) hi rfl rfl rfl) ?_
  have h37 := h36.put (d := some 35) (v := .int .u64 (a.word i)) (T' := [(35, .int .u64 (a.word i)), (33, .map (some Z.wb)), (28, .map (some Z.wb)), (6, .pointer (some ⟨b15, 0, none⟩)), (4, .pointer (some ⟨b2, 0, none⟩)), (0, .pointer (some ⟨mb, 0, none⟩)), (1, .agg #[.int .u16 ((Z.ky i).idx), .int .u32 ((Z.ky i).gen)]), (2, .int .u64 b), (29, .agg #[.int .u16 ((Z.ky i).idx), .int .u32 ((Z.ky i).gen)]), (34, .agg #[.int .u16 ((Z.ky i).idx), .int .u32 ((Z.ky i).gen)])]) rfl
  clear h36
  refine dr_batch tabOk2 tabZ_ok2 (by repeat (first | with_reducible exact PF.body | with_reducible apply PF.inB | with_reducible apply PF.next)) [(11, {}), (12, {})] [28, 6, 4, 0, 1, 2, 29, 37] (T' := [(28, .map (some Z.wb)), (6, .pointer (some ⟨b15, 0, none⟩)), (4, .pointer (some ⟨b2, 0, none⟩)), (0, .pointer (some ⟨mb, 0, none⟩)), (1, .agg #[.int .u16 ((Z.ky i).idx), .int .u32 ((Z.ky i).gen)]), (2, .int .u64 b), (29, .agg #[.int .u16 ((Z.ky i).idx), .int .u32 ((Z.ky i).gen)]), (37, .int .u64 (bitI .or .u64 (a.word i) b))]) (φ := True) (fuel := 1) h37 (by kernel_rfl) rfl (by kernel_rfl) (by kernel_rfl) ⟨trivial, trivial, trivial⟩ trivial fun a38 h39 => ?_
  clear h37
  refine wpAnyK_one (i := 13) (fuel := 0) (by kernel_rfl) ?_
  refine op_mW (j := i) (v := bitI .or .u64 (a.word i) b) h39 rfl rfl rfl rfl rfl rfl hi (kcons (fun _ => rfl) (kcons (fun hq => by cases hq) (kcons (fun hq => by cases hq) knil))) fun w40 hf41 h42a => ?_
  have h42 := h42a.put (d := none) (v := undef) (T' := [(28, .map (some Z.wb)), (6, .pointer (some ⟨b15, 0, none⟩)), (4, .pointer (some ⟨b2, 0, none⟩)), (0, .pointer (some ⟨mb, 0, none⟩)), (1, .agg #[.int .u16 ((Z.ky i).idx), .int .u32 ((Z.ky i).gen)]), (2, .int .u64 b), (29, .agg #[.int .u16 ((Z.ky i).idx), .int .u32 ((Z.ky i).gen)]), (37, .int .u64 (bitI .or .u64 (a.word i) b))]) rfl
  obtain ⟨a43, ea43⟩ : ∃ z : AK, z = a.setW i (bitI .or .u64 (a.word i) b) := ⟨_, rfl⟩
  rw [← ea43] at h42
  refine ⟨keepNil, ?_⟩
  have hhoh42 : (R.putW i).ho = none := by unfold MR.putW; split <;> exact hhoh14
  clear h39 h42a
  have hP44 : MP Z a43 := by rw [ea43]; exact MP.same hP rfl rfl rfl
  refine wpAnyK_done (by kernel_rfl) ?_ _
  try simp only [Exit.then, Exit.inBlock]
  try rw [if_pos trivial]
  exact s_end tabOk2 tabZ_ok2 h42 [] (vs := []) (φ := True) rfl (by kernel_rfl) trivial ⟨rfl, _, mg_end hH h42 hhoh42 (by subst ea43; unfold signalA; rw [ho, if_neg (fun q => q rfl), hkk.kx i (hkk.qx i hi), Int.toNat_natCast])⟩

theorem msignal_ok (mb : Nat) (Z : MZ) (R : MR) (a : AK) (C : CP) (i : Nat) (hi : i ∈ sl Z.ql) (b : Int) (hP : MP Z a) (w : World) (hH : MH mb Z R a C w) :
    Calls Tryd.prog 54 #[.pointer (some ⟨mb, 0, none⟩), .agg #[.int .u16 ((Z.ky i).idx), .int .u32 ((Z.ky i).gen)], .int .u64 b] w fun e w' => e = .returned (.tuple #[]) ∧ ∃ R', MG mb Z R C w Z R' (signalA a (Z.ky i) b) C w' := by
  by_cases ho : oldestA a (Z.ky i) 5 = -1
  · exact signalB mb Z R a C i hi b hP ho w hH
  · have hk := hH.md.k
    obtain ⟨y, h1, h2, _, _⟩ := hP.old (g := (Z.ky i).gen) (hk.qx i hi) (by rw [← hk.kx i (hk.qx i hi)]) ho
    exact signal_A mb Z R a C i hi b hP y h2 h1 w hH

end Go.Proofs.Qxb6500918aDoor
