/-
  The model: pass. (Made by program: a symbolic walk that prints its steps.)
-/
import Derived.Test.Qxb6500918aDoorUj
namespace Go.Proofs.Qxb6500918aDoor
open Go.Sx Go.Kn
set_option maxRecDepth 100000
set_option maxHeartbeats 4000000
set_option linter.unusedVariables false
set_option linter.unusedSimpArgs false

theorem pass_ok (mb : Nat) (Z : MZ) (R : MR) (a : AK) (C : CP) (hC : CI C) (s r : Nat) (hsm : s ∈ sl Z.tl) (hrm : r ∈ sl Z.tl) (hsr : s ≠ r) (hts : TOk (a.th s)) (htr : TOk (a.th r)) (hP : MP Z a) (w : World) (hH : MH mb Z R a C w) :
    Calls Tryd.prog 91 #[.pointer (some ⟨mb, 0, none⟩), .agg #[.int .u16 ((Z.ky s).idx), .int .u32 ((Z.ky s).gen)], .agg #[.int .u16 ((Z.ky r).idx), .int .u32 ((Z.ky r).gen)]] w fun e w' => e = .returned (.tuple #[]) ∧ ∃ R', MG mb Z R C w Z R' (passA Z (deliverA a C s r).1 s r) (deliverA a C s r).2 w' := by
  obtain ⟨ty3, hg3⟩ := hH.g3
  have hho := hH.ho
  have hkk := hH.md.k
  refine enter (n := 129) (K := mdF mb Z R C) (A := MD (mdF mb Z R C) w.heap.size mb Z R a C) (F := mdF mb Z R C) (T := [(0, .pointer (some ⟨mb, 0, none⟩)), (1, .agg #[.int .u16 ((Z.ky s).idx), .int .u32 ((Z.ky s).gen)]), (2, .agg #[.int .u16 ((Z.ky r).idx), .int .u32 ((Z.ky r).gen)])]) (L := [(3, ⟨[.int .u16 0, .int .u32 0], ty3, true⟩)]) (args := [.pointer (some ⟨mb, 0, none⟩), .agg #[.int .u16 ((Z.ky s).idx), .int .u32 ((Z.ky s).gen)], .agg #[.int .u16 ((Z.ky r).idx), .int .u32 ((Z.ky r).gen)]]) Tryd.func91 rfl rfl rfl rfl (kcons hg3 knil) (by simp) (kcons (by intro hq; cases hq) knil) hH.mD MD.stable hH.md.low (kcons (by intro hq; cases hq) knil) ?_
  intro ac h
  refine wp_seq_k fun K1 hK1 => ?_
  refine nd_start (l := [0, 1]) rfl ?_
  refine nd_op ?_
  refine op_new tabOk2 (cells := [.int .u16 ((Z.ky s).idx), .int .u32 ((Z.ky s).gen)]) (ty := 39) (ln := none) (L1 := fun b2 => [(3, ⟨[.int .u16 0, .int .u32 0], ty3, true⟩), (b2, ⟨[.int .u16 ((Z.ky s).idx), .int .u32 ((Z.ky s).gen)], 39, false⟩)]) h rfl rfl rfl rfl (by kernel_rfl) (fun _ => rfl) fun b2 w3 a4 h5 hf6 hn7 => ?_
  clear h
  refine nd_op ?_
  refine op_new tabOk2 (cells := [.int .u16 ((Z.ky r).idx), .int .u32 ((Z.ky r).gen)]) (ty := 39) (ln := none) (L1 := fun b8 => [(3, ⟨[.int .u16 0, .int .u32 0], ty3, true⟩), (b2, ⟨[.int .u16 ((Z.ky s).idx), .int .u32 ((Z.ky s).gen)], 39, false⟩), (b8, ⟨[.int .u16 ((Z.ky r).idx), .int .u32 ((Z.ky r).gen)], 39, false⟩)]) h5 rfl rfl rfl rfl (by kernel_rfl) (fun _ => rfl) fun b8 w9 a10 h11 hf12 hn13 => ?_
  clear h5
  refine nd_done ?_
  refine hK1 _ _ ?_
  clear hK1
  refine wp_seq_k fun K14 hK14 => ?_
  refine dr_start (KB := [3, b2, b8, mb, Z.tb]) (Bi := [[0, 1, 2, 3, 4], [0, 1, 2, 3, 4], [0, 1, 2, 3, 4], [0, 1, 2, 3, 4], [0, 1, 2, 3, 4], [0, 1, 2, 3, 4], [0, 1, 2, 3, 4], [0, 1, 2, 3, 4], [0, 1, 2, 3, 4], [0, 1, 2, 3, 4], [0, 1, 2, 3, 4], [0, 1, 2, 3, 4], [0, 1, 2, 3, 4], [0, 1, 2, 3, 4]]) mixed h11 fun w15 h16 => ?_
  clear h11
  refine dr_batch tabOk2 tabZ_ok2 (by repeat (first | with_reducible exact PF.body | with_reducible apply PF.inB | with_reducible apply PF.next)) [(0, {}), (1, {}), (2, {})] [5, 4, 0, 1, 2, 14] (T' := [(5, .pointer (some ⟨b8, 0, none⟩)), (4, .pointer (some ⟨b2, 0, none⟩)), (0, .pointer (some ⟨mb, 0, none⟩)), (1, .agg #[.int .u16 ((Z.ky s).idx), .int .u32 ((Z.ky s).gen)]), (2, .agg #[.int .u16 ((Z.ky r).idx), .int .u32 ((Z.ky r).gen)]), (14, .pointer (some ⟨mb, 2, none⟩))]) (φ := True) (fuel := 11) h16 (by kernel_rfl) rfl (by kernel_rfl) (by kernel_rfl) ⟨trivial, trivial, trivial, trivial⟩ trivial fun a18 h19 => ?_
  clear h16
  refine dr_read (i := 3) (b := mb) (p := 3) (v := .map (some Z.tb)) (fuel := 10) (by repeat (first | with_reducible exact PF.body | with_reducible apply PF.inB | with_reducible apply PF.next)) h19 rfl rfl rfl (by kernel_rfl) (by kernel_rfl) (by kernel_rfl) rfl (rd_m h19 (k := 2) (v := .map (some Z.tb)) rfl rfl rfl rfl (md_p ⟨rfl, trivial⟩)) ?_
  have h20 := h19.put (d := some 15) (v := .map (some Z.tb)) (T' := [(15, .map (some Z.tb)), (5, .pointer (some ⟨b8, 0, none⟩)), (4, .pointer (some ⟨b2, 0, none⟩)), (0, .pointer (some ⟨mb, 0, none⟩)), (1, .agg #[.int .u16 ((Z.ky s).idx), .int .u32 ((Z.ky s).gen)]), (2, .agg #[.int .u16 ((Z.ky r).idx), .int .u32 ((Z.ky r).gen)]), (14, .pointer (some ⟨mb, 2, none⟩))]) rfl
  clear h19
  refine dr_batch tabOk2 tabZ_ok2 (by repeat (first | with_reducible exact PF.body | with_reducible apply PF.inB | with_reducible apply PF.next)) [(4, {k := 1, p := 1})] [15, 5, 4, 0, 1, 2, 16] (T' := [(15, .map (some Z.tb)), (5, .pointer (some ⟨b8, 0, none⟩)), (4, .pointer (some ⟨b2, 0, none⟩)), (0, .pointer (some ⟨mb, 0, none⟩)), (1, .agg #[.int .u16 ((Z.ky s).idx), .int .u32 ((Z.ky s).gen)]), (2, .agg #[.int .u16 ((Z.ky r).idx), .int .u32 ((Z.ky r).gen)]), (16, .agg #[.int .u16 ((Z.ky s).idx), .int .u32 ((Z.ky s).gen)])]) (φ := (b2 = b2 ∧ Nat.ble (0 + 2) 2 = true) ∧ True) (fuel := 9) h20 (by kernel_rfl) rfl (by kernel_rfl) (by kernel_rfl) ⟨rfl, trivial⟩ ⟨⟨rfl, rfl⟩, trivial⟩ fun a21 h22 => ?_
  clear h20
  refine dr_read (i := 5) (b := Z.tb) (p := 4) (v := .pointer (some ⟨(Z.tp s), 0, none⟩)) (fuel := 8) (by repeat (first | with_reducible exact PF.body | with_reducible apply PF.inB | with_reducible apply PF.next)) h22 rfl rfl rfl (by kernel_rfl) (by kernel_rfl) (by kernel_rfl) rfl (rd_T h22 (x := s) hsm rfl rfl rfl) ?_
  have h23 := h22.put (d := some 17) (v := .pointer (some ⟨(Z.tp s), 0, none⟩)) (T' := [(17, .pointer (some ⟨(Z.tp s), 0, none⟩)), (15, .map (some Z.tb)), (5, .pointer (some ⟨b8, 0, none⟩)), (4, .pointer (some ⟨b2, 0, none⟩)), (0, .pointer (some ⟨mb, 0, none⟩)), (1, .agg #[.int .u16 ((Z.ky s).idx), .int .u32 ((Z.ky s).gen)]), (2, .agg #[.int .u16 ((Z.ky r).idx), .int .u32 ((Z.ky r).gen)]), (16, .agg #[.int .u16 ((Z.ky s).idx), .int .u32 ((Z.ky s).gen)])]) rfl
  clear h22
  refine dr_batch tabOk2 tabZ_ok2 (by repeat (first | with_reducible exact PF.body | with_reducible apply PF.inB | with_reducible apply PF.next)) [(6, {}), (7, {}), (8, {})] [17, 5, 4, 0, 1, 2, 20] (T' := [(17, .pointer (some ⟨(Z.tp s), 0, none⟩)), (5, .pointer (some ⟨b8, 0, none⟩)), (4, .pointer (some ⟨b2, 0, none⟩)), (0, .pointer (some ⟨mb, 0, none⟩)), (1, .agg #[.int .u16 ((Z.ky s).idx), .int .u32 ((Z.ky s).gen)]), (2, .agg #[.int .u16 ((Z.ky r).idx), .int .u32 ((Z.ky r).gen)]), (20, .pointer (some ⟨mb, 2, none⟩))]) (φ := True) (fuel := 5) h23 (by kernel_rfl) rfl (by kernel_rfl) (by kernel_rfl) ⟨trivial, trivial, trivial, trivial⟩ trivial fun a24 h25 => ?_
  clear h23
  refine dr_read (i := 9) (b := mb) (p := 3) (v := .map (some Z.tb)) (fuel := 4) (by repeat (first | with_reducible exact PF.body | with_reducible apply PF.inB | with_reducible apply PF.next)) h25 rfl rfl rfl (by kernel_rfl) (by kernel_rfl) (by kernel_rfl) rfl (rd_m h25 (k := 2) (v := .map (some Z.tb)) rfl rfl rfl rfl (md_p ⟨rfl, trivial⟩)) ?_
  have h26 := h25.put (d := some 21) (v := .map (some Z.tb)) (T' := [(21, .map (some Z.tb)), (17, .pointer (some ⟨(Z.tp s), 0, none⟩)), (5, .pointer (some ⟨b8, 0, none⟩)), (4, .pointer (some ⟨b2, 0, none⟩)), (0, .pointer (some ⟨mb, 0, none⟩)), (1, .agg #[.int .u16 ((Z.ky s).idx), .int .u32 ((Z.ky s).gen)]), (2, .agg #[.int .u16 ((Z.ky r).idx), .int .u32 ((Z.ky r).gen)]), (20, .pointer (some ⟨mb, 2, none⟩))]) rfl
  clear h25
  refine dr_batch tabOk2 tabZ_ok2 (by repeat (first | with_reducible exact PF.body | with_reducible apply PF.inB | with_reducible apply PF.next)) [(10, {k := 2, p := 2})] [21, 17, 5, 4, 0, 1, 2, 22] (T' := [(21, .map (some Z.tb)), (17, .pointer (some ⟨(Z.tp s), 0, none⟩)), (5, .pointer (some ⟨b8, 0, none⟩)), (4, .pointer (some ⟨b2, 0, none⟩)), (0, .pointer (some ⟨mb, 0, none⟩)), (1, .agg #[.int .u16 ((Z.ky s).idx), .int .u32 ((Z.ky s).gen)]), (2, .agg #[.int .u16 ((Z.ky r).idx), .int .u32 ((Z.ky r).gen)]), (22, .agg #[.int .u16 ((Z.ky r).idx), .int .u32 ((Z.ky r).gen)])]) (φ := (b8 = b8 ∧ Nat.ble (0 + 2) 2 = true) ∧ True) (fuel := 3) h26 (by kernel_rfl) rfl (by kernel_rfl) (by kernel_rfl) ⟨rfl, trivial⟩ ⟨⟨rfl, rfl⟩, trivial⟩ fun a27 h28 => ?_
  clear h26
  refine dr_read (i := 11) (b := Z.tb) (p := 4) (v := .pointer (some ⟨(Z.tp r), 0, none⟩)) (fuel := 2) (by repeat (first | with_reducible exact PF.body | with_reducible apply PF.inB | with_reducible apply PF.next)) h28 rfl rfl rfl (by kernel_rfl) (by kernel_rfl) (by kernel_rfl) rfl (rd_T h28 (x := r) hrm rfl rfl rfl) ?_
  have h29 := h28.put (d := some 23) (v := .pointer (some ⟨(Z.tp r), 0, none⟩)) (T' := [(23, .pointer (some ⟨(Z.tp r), 0, none⟩)), (21, .map (some Z.tb)), (17, .pointer (some ⟨(Z.tp s), 0, none⟩)), (5, .pointer (some ⟨b8, 0, none⟩)), (4, .pointer (some ⟨b2, 0, none⟩)), (0, .pointer (some ⟨mb, 0, none⟩)), (1, .agg #[.int .u16 ((Z.ky s).idx), .int .u32 ((Z.ky s).gen)]), (2, .agg #[.int .u16 ((Z.ky r).idx), .int .u32 ((Z.ky r).gen)]), (22, .agg #[.int .u16 ((Z.ky r).idx), .int .u32 ((Z.ky r).gen)])]) rfl
  clear h28
  refine dr_batch tabOk2 tabZ_ok2 (by repeat (first | with_reducible exact PF.body | with_reducible apply PF.inB | with_reducible apply PF.next)) [(12, {}), (13, {})] [5, 4, 0, 1, 2, 6, 7] (T' := [(5, .pointer (some ⟨b8, 0, none⟩)), (4, .pointer (some ⟨b2, 0, none⟩)), (0, .pointer (some ⟨mb, 0, none⟩)), (1, .agg #[.int .u16 ((Z.ky s).idx), .int .u32 ((Z.ky s).gen)]), (2, .agg #[.int .u16 ((Z.ky r).idx), .int .u32 ((Z.ky r).gen)]), (6, .pointer (some ⟨(Z.tp s), 0, none⟩)), (7, .pointer (some ⟨(Z.tp r), 0, none⟩))]) (φ := True) (fuel := 0) h29 (by kernel_rfl) rfl (by kernel_rfl) (by kernel_rfl) ⟨trivial, trivial, trivial⟩ trivial fun a30 h31 => ?_
  clear h29
  refine wpAnyK_done (by kernel_rfl) ?_ _
  refine hK14 _ _ ?_
  clear hK14
  refine wp_seq_k fun K32 hK32 => ?_
  refine dr_start (KB := [3, b2, b8, (Z.tp s)]) (Bi := [[0, 1, 2, 3], [0, 1, 2, 3], [0, 1, 2, 3], [0, 1, 2, 3], [0, 1, 2, 3], [0, 1, 2, 3], [0, 1, 2, 3], [0, 1, 2, 3], [0, 1, 2, 3], [0, 1, 2, 3], [0, 1, 2, 3], [0, 1, 2, 3], [0, 1, 2, 3], [0, 1, 2, 3], [0, 1, 2, 3], [0, 1, 2, 3], [0, 1, 2, 3], [0, 1, 2, 3], [], [0, 1, 2, 3], [0, 1, 2, 3], [], [0, 1, 2, 3], [0, 1, 2, 3], [], [0, 1, 2, 3], [0, 1, 2, 3], []]) mixed h31 fun w33 h34 => ?_
  clear h31
  refine dr_batch tabOk2 tabZ_ok2 (by repeat (first | with_reducible exact PF.body | with_reducible apply PF.inB | with_reducible apply PF.next)) [(0, {}), (1, {}), (2, {}), (3, {}), (4, {}), (5, {}), (6, {})] [5, 4, 0, 1, 2, 6, 7, 24, 25, 26, 27, 30] (T' := [(5, .pointer (some ⟨b8, 0, none⟩)), (4, .pointer (some ⟨b2, 0, none⟩)), (0, .pointer (some ⟨mb, 0, none⟩)), (1, .agg #[.int .u16 ((Z.ky s).idx), .int .u32 ((Z.ky s).gen)]), (2, .agg #[.int .u16 ((Z.ky r).idx), .int .u32 ((Z.ky r).gen)]), (6, .pointer (some ⟨(Z.tp s), 0, none⟩)), (7, .pointer (some ⟨(Z.tp r), 0, none⟩)), (24, .pointer (some ⟨(Z.tp r), 0, none⟩)), (25, .pointer (some ⟨(Z.tp r), 0, none⟩)), (26, .pointer (some ⟨(Z.tp r), 0, none⟩)), (27, .pointer (some ⟨(Z.tp r), 0, none⟩)), (30, .pointer (some ⟨(Z.tp s), 9, none⟩))]) (φ := True) (fuel := 21) h34 (by kernel_rfl) rfl (by kernel_rfl) (by kernel_rfl) ⟨trivial, trivial, trivial, trivial, trivial, trivial, trivial, trivial⟩ trivial fun a36 h37 => ?_
  clear h34
  refine dr_read (i := 7) (b := (Z.tp s)) (p := 3) (v := .agg #[.int .u64 ((a.th s).m0), .int .u64 ((a.th s).m1), .int .u64 ((a.th s).m2), .int .u64 ((a.th s).m3)]) (fuel := 20) (by repeat (first | with_reducible exact PF.body | with_reducible apply PF.inB | with_reducible apply PF.next)) h37 rfl rfl rfl (by kernel_rfl) (by kernel_rfl) (by kernel_rfl) rfl (rd_thA h37 (x := s) (k := 9) (vs := [.int .u64 ((a.th s).m0), .int .u64 ((a.th s).m1), .int .u64 ((a.th s).m2), .int .u64 ((a.th s).m3)]) hsm rfl rfl rfl rfl rfl ⟨rfl, rfl, rfl, rfl, trivial⟩) ?_
  have h38 := h37.put (d := some 31) (v := .agg #[.int .u64 ((a.th s).m0), .int .u64 ((a.th s).m1), .int .u64 ((a.th s).m2), .int .u64 ((a.th s).m3)]) (T' := [(31, .agg #[.int .u64 ((a.th s).m0), .int .u64 ((a.th s).m1), .int .u64 ((a.th s).m2), .int .u64 ((a.th s).m3)]), (5, .pointer (some ⟨b8, 0, none⟩)), (4, .pointer (some ⟨b2, 0, none⟩)), (0, .pointer (some ⟨mb, 0, none⟩)), (1, .agg #[.int .u16 ((Z.ky s).idx), .int .u32 ((Z.ky s).gen)]), (2, .agg #[.int .u16 ((Z.ky r).idx), .int .u32 ((Z.ky r).gen)]), (6, .pointer (some ⟨(Z.tp s), 0, none⟩)), (7, .pointer (some ⟨(Z.tp r), 0, none⟩)), (24, .pointer (some ⟨(Z.tp r), 0, none⟩)), (25, .pointer (some ⟨(Z.tp r), 0, none⟩)), (26, .pointer (some ⟨(Z.tp r), 0, none⟩)), (27, .pointer (some ⟨(Z.tp r), 0, none⟩)), (30, .pointer (some ⟨(Z.tp s), 9, none⟩))]) rfl
  clear h37
  refine dr_batch tabOk2 tabZ_ok2 (by repeat (first | with_reducible exact PF.body | with_reducible apply PF.inB | with_reducible apply PF.next)) [(8, {}), (9, {}), (10, {})] [31, 5, 4, 0, 1, 2, 6, 7, 24, 25, 26, 27, 34] (T' := [(31, .agg #[.int .u64 ((a.th s).m0), .int .u64 ((a.th s).m1), .int .u64 ((a.th s).m2), .int .u64 ((a.th s).m3)]), (5, .pointer (some ⟨b8, 0, none⟩)), (4, .pointer (some ⟨b2, 0, none⟩)), (0, .pointer (some ⟨mb, 0, none⟩)), (1, .agg #[.int .u16 ((Z.ky s).idx), .int .u32 ((Z.ky s).gen)]), (2, .agg #[.int .u16 ((Z.ky r).idx), .int .u32 ((Z.ky r).gen)]), (6, .pointer (some ⟨(Z.tp s), 0, none⟩)), (7, .pointer (some ⟨(Z.tp r), 0, none⟩)), (24, .pointer (some ⟨(Z.tp r), 0, none⟩)), (25, .pointer (some ⟨(Z.tp r), 0, none⟩)), (26, .pointer (some ⟨(Z.tp r), 0, none⟩)), (27, .pointer (some ⟨(Z.tp r), 0, none⟩)), (34, .pointer (some ⟨(Z.tp s), 13, none⟩))]) (φ := True) (fuel := 17) h38 (by kernel_rfl) rfl (by kernel_rfl) (by kernel_rfl) ⟨trivial, trivial, trivial, trivial⟩ trivial fun a39 h40 => ?_
  clear h38
  refine dr_read (i := 11) (b := (Z.tp s)) (p := 3) (v := .int .u8 ((a.th s).len)) (fuel := 16) (by repeat (first | with_reducible exact PF.body | with_reducible apply PF.inB | with_reducible apply PF.next)) h40 rfl rfl rfl (by kernel_rfl) (by kernel_rfl) (by kernel_rfl) rfl (rd_th h40 (x := s) (k := 13) (v := .int .u8 ((a.th s).len)) hsm rfl rfl rfl rfl ⟨rfl, trivial⟩) ?_
  have h41 := h40.put (d := some 35) (v := .int .u8 ((a.th s).len)) (T' := [(35, .int .u8 ((a.th s).len)), (31, .agg #[.int .u64 ((a.th s).m0), .int .u64 ((a.th s).m1), .int .u64 ((a.th s).m2), .int .u64 ((a.th s).m3)]), (5, .pointer (some ⟨b8, 0, none⟩)), (4, .pointer (some ⟨b2, 0, none⟩)), (0, .pointer (some ⟨mb, 0, none⟩)), (1, .agg #[.int .u16 ((Z.ky s).idx), .int .u32 ((Z.ky s).gen)]), (2, .agg #[.int .u16 ((Z.ky r).idx), .int .u32 ((Z.ky r).gen)]), (6, .pointer (some ⟨(Z.tp s), 0, none⟩)), (7, .pointer (some ⟨(Z.tp r), 0, none⟩)), (24, .pointer (some ⟨(Z.tp r), 0, none⟩)), (25, .pointer (some ⟨(Z.tp r), 0, none⟩)), (26, .pointer (some ⟨(Z.tp r), 0, none⟩)), (27, .pointer (some ⟨(Z.tp r), 0, none⟩)), (34, .pointer (some ⟨(Z.tp s), 13, none⟩))]) rfl
  clear h40
  refine dr_batch tabOk2 tabZ_ok2 (by repeat (first | with_reducible exact PF.body | with_reducible apply PF.inB | with_reducible apply PF.next)) [(12, {}), (13, {}), (14, {})] [35, 31, 5, 4, 0, 1, 2, 6, 7, 24, 25, 26, 27, 38] (T' := [(35, .int .u8 ((a.th s).len)), (31, .agg #[.int .u64 ((a.th s).m0), .int .u64 ((a.th s).m1), .int .u64 ((a.th s).m2), .int .u64 ((a.th s).m3)]), (5, .pointer (some ⟨b8, 0, none⟩)), (4, .pointer (some ⟨b2, 0, none⟩)), (0, .pointer (some ⟨mb, 0, none⟩)), (1, .agg #[.int .u16 ((Z.ky s).idx), .int .u32 ((Z.ky s).gen)]), (2, .agg #[.int .u16 ((Z.ky r).idx), .int .u32 ((Z.ky r).gen)]), (6, .pointer (some ⟨(Z.tp s), 0, none⟩)), (7, .pointer (some ⟨(Z.tp r), 0, none⟩)), (24, .pointer (some ⟨(Z.tp r), 0, none⟩)), (25, .pointer (some ⟨(Z.tp r), 0, none⟩)), (26, .pointer (some ⟨(Z.tp r), 0, none⟩)), (27, .pointer (some ⟨(Z.tp r), 0, none⟩)), (38, .pointer (some ⟨(Z.tp s), 8, none⟩))]) (φ := True) (fuel := 13) h41 (by kernel_rfl) rfl (by kernel_rfl) (by kernel_rfl) ⟨trivial, trivial, trivial, trivial⟩ trivial fun a42 h43 => ?_
  clear h41
  refine dr_read (i := 15) (b := (Z.tp s)) (p := 3) (v := .int .u64 ((a.th s).badge)) (fuel := 12) (by repeat (first | with_reducible exact PF.body | with_reducible apply PF.inB | with_reducible apply PF.next)) h43 rfl rfl rfl (by kernel_rfl) (by kernel_rfl) (by kernel_rfl) rfl (rd_th h43 (x := s) (k := 8) (v := .int .u64 ((a.th s).badge)) hsm rfl rfl rfl rfl ⟨rfl, trivial⟩) ?_
  have h44 := h43.put (d := some 39) (v := .int .u64 ((a.th s).badge)) (T' := [(39, .int .u64 ((a.th s).badge)), (35, .int .u8 ((a.th s).len)), (31, .agg #[.int .u64 ((a.th s).m0), .int .u64 ((a.th s).m1), .int .u64 ((a.th s).m2), .int .u64 ((a.th s).m3)]), (5, .pointer (some ⟨b8, 0, none⟩)), (4, .pointer (some ⟨b2, 0, none⟩)), (0, .pointer (some ⟨mb, 0, none⟩)), (1, .agg #[.int .u16 ((Z.ky s).idx), .int .u32 ((Z.ky s).gen)]), (2, .agg #[.int .u16 ((Z.ky r).idx), .int .u32 ((Z.ky r).gen)]), (6, .pointer (some ⟨(Z.tp s), 0, none⟩)), (7, .pointer (some ⟨(Z.tp r), 0, none⟩)), (24, .pointer (some ⟨(Z.tp r), 0, none⟩)), (25, .pointer (some ⟨(Z.tp r), 0, none⟩)), (26, .pointer (some ⟨(Z.tp r), 0, none⟩)), (27, .pointer (some ⟨(Z.tp r), 0, none⟩)), (38, .pointer (some ⟨(Z.tp s), 8, none⟩))]) rfl
  clear h43
  refine dr_batch tabOk2 tabZ_ok2 (by repeat (first | with_reducible exact PF.body | with_reducible apply PF.inB | with_reducible apply PF.next)) [(16, {}), (17, {})] [39, 35, 31, 5, 4, 0, 1, 2, 6, 7, 25, 26, 27, 41] (T' := [(39, .int .u64 ((a.th s).badge)), (35, .int .u8 ((a.th s).len)), (31, .agg #[.int .u64 ((a.th s).m0), .int .u64 ((a.th s).m1), .int .u64 ((a.th s).m2), .int .u64 ((a.th s).m3)]), (5, .pointer (some ⟨b8, 0, none⟩)), (4, .pointer (some ⟨b2, 0, none⟩)), (0, .pointer (some ⟨mb, 0, none⟩)), (1, .agg #[.int .u16 ((Z.ky s).idx), .int .u32 ((Z.ky s).gen)]), (2, .agg #[.int .u16 ((Z.ky r).idx), .int .u32 ((Z.ky r).gen)]), (6, .pointer (some ⟨(Z.tp s), 0, none⟩)), (7, .pointer (some ⟨(Z.tp r), 0, none⟩)), (25, .pointer (some ⟨(Z.tp r), 0, none⟩)), (26, .pointer (some ⟨(Z.tp r), 0, none⟩)), (27, .pointer (some ⟨(Z.tp r), 0, none⟩)), (41, .pointer (some ⟨(Z.tp r), 9, none⟩))]) (φ := True) (fuel := 10) h44 (by kernel_rfl) rfl (by kernel_rfl) (by kernel_rfl) ⟨trivial, trivial, trivial⟩ trivial fun a45 h46 => ?_
  clear h44
  refine wpAnyK_one (i := 18) (fuel := 9) (by kernel_rfl) ?_
  refine op_mTh (x := r) (off := 9) (v := .agg #[.int .u64 ((a.th s).m0), .int .u64 ((a.th s).m1), .int .u64 ((a.th s).m2), .int .u64 ((a.th s).m3)]) (y := { a.th r with m0 := (a.th s).m0, m1 := (a.th s).m1, m2 := (a.th s).m2, m3 := (a.th s).m3 }) h46 rfl rfl rfl rfl rfl rfl rfl rfl rfl hrm rfl rfl (kcons (fun _ => rfl) (kcons (fun hq => by cases hq) (kcons (fun hq => by cases hq) knil))) fun w47 hf48 h49 => ?_
  obtain ⟨a50, ea50⟩ : ∃ z : AK, z = a.setT r { a.th r with m0 := (a.th s).m0, m1 := (a.th s).m1, m2 := (a.th s).m2, m3 := (a.th s).m3 } := ⟨_, rfl⟩
  rw [← ea50] at h49
  refine ⟨keepNil, ?_⟩
  clear h46
  have ht51 : a50.th s = (a.th s) := by rw [ea50]; exact (upd_other _ _ hsr).trans rfl
  have ht52 : a50.th r = { a.th r with m0 := (a.th s).m0, m1 := (a.th s).m1, m2 := (a.th s).m2, m3 := (a.th s).m3 } := by rw [ea50]; exact upd_same _ _ _
  have hP53 : MP Z a50 := by rw [ea50]; exact MP.like hP rfl rfl rfl
  refine dr_batch tabOk2 tabZ_ok2 (by repeat (first | with_reducible exact PF.body | with_reducible apply PF.inB | with_reducible apply PF.next)) [(19, {}), (20, {})] [39, 35, 5, 4, 0, 1, 2, 6, 7, 26, 27, 43] (T' := [(39, .int .u64 ((a.th s).badge)), (35, .int .u8 ((a.th s).len)), (5, .pointer (some ⟨b8, 0, none⟩)), (4, .pointer (some ⟨b2, 0, none⟩)), (0, .pointer (some ⟨mb, 0, none⟩)), (1, .agg #[.int .u16 ((Z.ky s).idx), .int .u32 ((Z.ky s).gen)]), (2, .agg #[.int .u16 ((Z.ky r).idx), .int .u32 ((Z.ky r).gen)]), (6, .pointer (some ⟨(Z.tp s), 0, none⟩)), (7, .pointer (some ⟨(Z.tp r), 0, none⟩)), (26, .pointer (some ⟨(Z.tp r), 0, none⟩)), (27, .pointer (some ⟨(Z.tp r), 0, none⟩)), (43, .pointer (some ⟨(Z.tp r), 13, none⟩))]) (φ := True) (fuel := 7) h49 (by kernel_rfl) rfl (by kernel_rfl) (by kernel_rfl) ⟨trivial, trivial, trivial⟩ trivial fun a54 h55 => ?_
  clear h49
  refine wpAnyK_one (i := 21) (fuel := 6) (by kernel_rfl) ?_
  refine op_mTh (x := r) (off := 13) (v := .int .u8 ((a.th s).len)) (y := { a.th r with m0 := (a.th s).m0, m1 := (a.th s).m1, m2 := (a.th s).m2, m3 := (a.th s).m3, len := (a.th s).len }) h55 rfl rfl rfl rfl rfl rfl rfl rfl rfl hrm rfl (by rw [ht52]; rfl) (kcons (fun _ => rfl) (kcons (fun hq => by cases hq) (kcons (fun hq => by cases hq) knil))) fun w56 hf57 h58 => ?_
  obtain ⟨a59, ea59⟩ : ∃ z : AK, z = a50.setT r { a.th r with m0 := (a.th s).m0, m1 := (a.th s).m1, m2 := (a.th s).m2, m3 := (a.th s).m3, len := (a.th s).len } := ⟨_, rfl⟩
  rw [← ea59] at h58
  refine ⟨keepNil, ?_⟩
  clear h55
  have ht60 : a59.th s = (a.th s) := by rw [ea59]; exact (upd_other _ _ hsr).trans ht51
  have ht61 : a59.th r = { a.th r with m0 := (a.th s).m0, m1 := (a.th s).m1, m2 := (a.th s).m2, m3 := (a.th s).m3, len := (a.th s).len } := by rw [ea59]; exact upd_same _ _ _
  have hP62 : MP Z a59 := by rw [ea59]; exact MP.like hP53 (by rw [ht52] <;> rfl) (by rw [ht52] <;> rfl) (by rw [ht52] <;> rfl)
  refine dr_batch tabOk2 tabZ_ok2 (by repeat (first | with_reducible exact PF.body | with_reducible apply PF.inB | with_reducible apply PF.next)) [(22, {}), (23, {})] [39, 5, 4, 0, 1, 2, 6, 7, 27, 45] (T' := [(39, .int .u64 ((a.th s).badge)), (5, .pointer (some ⟨b8, 0, none⟩)), (4, .pointer (some ⟨b2, 0, none⟩)), (0, .pointer (some ⟨mb, 0, none⟩)), (1, .agg #[.int .u16 ((Z.ky s).idx), .int .u32 ((Z.ky s).gen)]), (2, .agg #[.int .u16 ((Z.ky r).idx), .int .u32 ((Z.ky r).gen)]), (6, .pointer (some ⟨(Z.tp s), 0, none⟩)), (7, .pointer (some ⟨(Z.tp r), 0, none⟩)), (27, .pointer (some ⟨(Z.tp r), 0, none⟩)), (45, .pointer (some ⟨(Z.tp r), 8, none⟩))]) (φ := True) (fuel := 4) h58 (by kernel_rfl) rfl (by kernel_rfl) (by kernel_rfl) ⟨trivial, trivial, trivial⟩ trivial fun a63 h64 => ?_
  clear h58
  refine wpAnyK_one (i := 24) (fuel := 3) (by kernel_rfl) ?_
  refine op_mTh (x := r) (off := 8) (v := .int .u64 ((a.th s).badge)) (y := { a.th r with badge := (a.th s).badge, m0 := (a.th s).m0, m1 := (a.th s).m1, m2 := (a.th s).m2, m3 := (a.th s).m3, len := (a.th s).len }) h64 rfl rfl rfl rfl rfl rfl rfl rfl rfl hrm rfl (by rw [ht61]; rfl) (kcons (fun _ => rfl) (kcons (fun hq => by cases hq) (kcons (fun hq => by cases hq) knil))) fun w65 hf66 h67 => ?_
  obtain ⟨a68, ea68⟩ : ∃ z : AK, z = a59.setT r { a.th r with badge := (a.th s).badge, m0 := (a.th s).m0, m1 := (a.th s).m1, m2 := (a.th s).m2, m3 := (a.th s).m3, len := (a.th s).len } := ⟨_, rfl⟩
  rw [← ea68] at h67
  refine ⟨keepNil, ?_⟩
  clear h64
  have ht69 : a68.th s = (a.th s) := by rw [ea68]; exact (upd_other _ _ hsr).trans ht60
  have ht70 : a68.th r = { a.th r with badge := (a.th s).badge, m0 := (a.th s).m0, m1 := (a.th s).m1, m2 := (a.th s).m2, m3 := (a.th s).m3, len := (a.th s).len } := by rw [ea68]; exact upd_same _ _ _
  have hP71 : MP Z a68 := by rw [ea68]; exact MP.like hP62 (by rw [ht61] <;> rfl) (by rw [ht61] <;> rfl) (by rw [ht61] <;> rfl)
  refine dr_batch tabOk2 tabZ_ok2 (by repeat (first | with_reducible exact PF.body | with_reducible apply PF.inB | with_reducible apply PF.next)) [(25, {}), (26, {})] [5, 4, 0, 1, 2, 6, 7, 47] (T' := [(5, .pointer (some ⟨b8, 0, none⟩)), (4, .pointer (some ⟨b2, 0, none⟩)), (0, .pointer (some ⟨mb, 0, none⟩)), (1, .agg #[.int .u16 ((Z.ky s).idx), .int .u32 ((Z.ky s).gen)]), (2, .agg #[.int .u16 ((Z.ky r).idx), .int .u32 ((Z.ky r).gen)]), (6, .pointer (some ⟨(Z.tp s), 0, none⟩)), (7, .pointer (some ⟨(Z.tp r), 0, none⟩)), (47, .pointer (some ⟨(Z.tp r), 14, none⟩))]) (φ := True) (fuel := 1) h67 (by kernel_rfl) rfl (by kernel_rfl) (by kernel_rfl) ⟨trivial, trivial, trivial⟩ trivial fun a72 h73 => ?_
  clear h67
  refine wpAnyK_one (i := 27) (fuel := 0) (by kernel_rfl) ?_
  refine op_mTh (x := r) (off := 14) (v := .int .u8 0) (y := { a.th r with badge := (a.th s).badge, m0 := (a.th s).m0, m1 := (a.th s).m1, m2 := (a.th s).m2, m3 := (a.th s).m3, len := (a.th s).len, got := 0 }) h73 rfl rfl rfl rfl rfl rfl rfl rfl rfl hrm rfl (by rw [ht70]; rfl) (kcons (fun _ => rfl) (kcons (fun hq => by cases hq) (kcons (fun hq => by cases hq) knil))) fun w74 hf75 h76 => ?_
  obtain ⟨a77, ea77⟩ : ∃ z : AK, z = a68.setT r { a.th r with badge := (a.th s).badge, m0 := (a.th s).m0, m1 := (a.th s).m1, m2 := (a.th s).m2, m3 := (a.th s).m3, len := (a.th s).len, got := 0 } := ⟨_, rfl⟩
  rw [← ea77] at h76
  refine ⟨keepNil, ?_⟩
  clear h73
  have ht78 : a77.th s = (a.th s) := by rw [ea77]; exact (upd_other _ _ hsr).trans ht69
  have ht79 : a77.th r = { a.th r with badge := (a.th s).badge, m0 := (a.th s).m0, m1 := (a.th s).m1, m2 := (a.th s).m2, m3 := (a.th s).m3, len := (a.th s).len, got := 0 } := by rw [ea77]; exact upd_same _ _ _
  have hP80 : MP Z a77 := by rw [ea77]; exact MP.like hP71 (by rw [ht70] <;> rfl) (by rw [ht70] <;> rfl) (by rw [ht70] <;> rfl)
  refine wpAnyK_done (by kernel_rfl) ?_ _
  refine hK32 _ _ ?_
  clear hK32
  refine wp_seq_k fun K81 hK81 => ?_
  refine wp_seq_k fun K82 hK82 => ?_
  rcases Bool.eq_false_or_eq_true ((a.th s).grant) with hb83 | hb83
  ·
    refine nd_start (l := [0, 1, 2, 3, 4, 5, 6, 7, 8, 9, 10]) rfl ?_
    refine nd_batch tabOk2 tabZ_ok2 [(0, {}), (1, {}), (2, {})] [5, 4, 0, 1, 2, 6, 7, 50] (T' := [(5, .pointer (some ⟨b8, 0, none⟩)), (4, .pointer (some ⟨b2, 0, none⟩)), (0, .pointer (some ⟨mb, 0, none⟩)), (1, .agg #[.int .u16 ((Z.ky s).idx), .int .u32 ((Z.ky s).gen)]), (2, .agg #[.int .u16 ((Z.ky r).idx), .int .u32 ((Z.ky r).gen)]), (6, .pointer (some ⟨(Z.tp s), 0, none⟩)), (7, .pointer (some ⟨(Z.tp r), 0, none⟩)), (50, .pointer (some ⟨(Z.tp s), 17, none⟩))]) (φ := True) (rest := [3, 4, 5, 6, 7, 8, 9, 10]) h76 (by kernel_rfl) rfl trivial fun a84 h85 => ?_
    clear h76
    refine nd_op ?_
    refine op_read (b := (Z.tp s)) (v := .bool true) h85 rfl rfl (rd_th h85 (x := s) (k := 17) (v := .bool true) hsm rfl rfl rfl rfl (by rw [ht78, ← hb83]; exact ⟨rfl, trivial⟩)) ?_
    have h86 := h85.put (d := some 51) (v := .bool true) (T' := [(51, .bool true), (5, .pointer (some ⟨b8, 0, none⟩)), (4, .pointer (some ⟨b2, 0, none⟩)), (0, .pointer (some ⟨mb, 0, none⟩)), (1, .agg #[.int .u16 ((Z.ky s).idx), .int .u32 ((Z.ky s).gen)]), (2, .agg #[.int .u16 ((Z.ky r).idx), .int .u32 ((Z.ky r).gen)]), (6, .pointer (some ⟨(Z.tp s), 0, none⟩)), (7, .pointer (some ⟨(Z.tp r), 0, none⟩)), (50, .pointer (some ⟨(Z.tp s), 17, none⟩))]) rfl
    clear h85
    refine nd_batch tabOk2 tabZ_ok2 [(4, {}), (5, {}), (6, {}), (7, {})] [5, 4, 0, 1, 2, 6, 7, 52, 55] (T' := [(5, .pointer (some ⟨b8, 0, none⟩)), (4, .pointer (some ⟨b2, 0, none⟩)), (0, .pointer (some ⟨mb, 0, none⟩)), (1, .agg #[.int .u16 ((Z.ky s).idx), .int .u32 ((Z.ky s).gen)]), (2, .agg #[.int .u16 ((Z.ky r).idx), .int .u32 ((Z.ky r).gen)]), (6, .pointer (some ⟨(Z.tp s), 0, none⟩)), (7, .pointer (some ⟨(Z.tp r), 0, none⟩)), (52, .bool true), (55, .pointer (some ⟨(Z.tp s), 15, none⟩))]) (φ := True) (rest := [8, 9, 10]) h86 (by kernel_rfl) rfl trivial fun a87 h88 => ?_
    clear h86
    refine nd_op ?_
    refine op_read (b := (Z.tp s)) (v := .int .u32 ((a.th s).xfer)) h88 rfl rfl (rd_th h88 (x := s) (k := 15) (v := .int .u32 ((a.th s).xfer)) hsm rfl rfl rfl rfl (by rw [ht78]; exact ⟨rfl, trivial⟩)) ?_
    have h89 := h88.put (d := some 56) (v := .int .u32 ((a.th s).xfer)) (T' := [(56, .int .u32 ((a.th s).xfer)), (5, .pointer (some ⟨b8, 0, none⟩)), (4, .pointer (some ⟨b2, 0, none⟩)), (0, .pointer (some ⟨mb, 0, none⟩)), (1, .agg #[.int .u16 ((Z.ky s).idx), .int .u32 ((Z.ky s).gen)]), (2, .agg #[.int .u16 ((Z.ky r).idx), .int .u32 ((Z.ky r).gen)]), (6, .pointer (some ⟨(Z.tp s), 0, none⟩)), (7, .pointer (some ⟨(Z.tp r), 0, none⟩)), (52, .bool true), (55, .pointer (some ⟨(Z.tp s), 15, none⟩))]) rfl
    clear h88
    refine nd_batch tabOk2 tabZ_ok2 [(9, {}), (10, {})] [5, 4, 0, 1, 2, 6, 7, 58] (T' := [(5, .pointer (some ⟨b8, 0, none⟩)), (4, .pointer (some ⟨b2, 0, none⟩)), (0, .pointer (some ⟨mb, 0, none⟩)), (1, .agg #[.int .u16 ((Z.ky s).idx), .int .u32 ((Z.ky s).gen)]), (2, .agg #[.int .u16 ((Z.ky r).idx), .int .u32 ((Z.ky r).gen)]), (6, .pointer (some ⟨(Z.tp s), 0, none⟩)), (7, .pointer (some ⟨(Z.tp r), 0, none⟩)), (58, .bool ((a.th s).xfer != 0))]) (φ := True) (rest := []) h89 (by kernel_rfl) rfl trivial fun a90 h91 => ?_
    clear h89
    refine nd_done ?_
    refine hK82 _ _ ?_
    clear hK82
    refine c_split h91 (b := ((a.th s).xfer != 0)) rfl (fun hc92 => ?_) (fun hc92 => ?_)
    ·
      have hc92f : (a.th s).xfer ≠ 0 := by simpa using hc92
      refine wp_seq_k fun K93 hK93 => ?_
      refine dr_start (KB := [3, b2, b8, mb, (Z.tp s)]) (Bi := [[0, 1, 2, 3, 4], [0, 1, 2, 3, 4], [0, 1, 2, 3, 4], [0, 1, 2, 3, 4], [0, 1, 2, 3, 4], [0, 1, 2, 3, 4], [0, 1, 2, 3, 4], [0, 1, 2, 3, 4], [0, 1, 2, 3, 4], [0, 1, 2, 3, 4], [0, 1, 2, 3, 4], [0, 1, 2, 3, 4], [0, 1, 2, 3, 4], [], [0, 1, 2, 3, 4], [0, 1, 2, 3, 4], [0, 1, 2, 3, 4], [0, 1, 2, 3, 4], [0, 1, 2, 3, 4]]) mixed h91 fun w94 h95 => ?_
      clear h91
      refine dr_batch tabOk2 tabZ_ok2 (by repeat (first | with_reducible exact PF.body | with_reducible apply PF.inB | with_reducible apply PF.next)) [(0, {}), (1, {}), (2, {})] [5, 4, 0, 1, 2, 6, 7, 62] (T' := [(5, .pointer (some ⟨b8, 0, none⟩)), (4, .pointer (some ⟨b2, 0, none⟩)), (0, .pointer (some ⟨mb, 0, none⟩)), (1, .agg #[.int .u16 ((Z.ky s).idx), .int .u32 ((Z.ky s).gen)]), (2, .agg #[.int .u16 ((Z.ky r).idx), .int .u32 ((Z.ky r).gen)]), (6, .pointer (some ⟨(Z.tp s), 0, none⟩)), (7, .pointer (some ⟨(Z.tp r), 0, none⟩)), (62, .pointer (some ⟨mb, 1, none⟩))]) (φ := True) (fuel := 16) h95 (by kernel_rfl) rfl (by kernel_rfl) (by kernel_rfl) ⟨trivial, trivial, trivial, trivial⟩ trivial fun a97 h98 => ?_
      clear h95
      refine dr_read (i := 3) (b := mb) (p := 3) (v := .pointer (some ⟨Z.mc, 0, none⟩)) (fuel := 15) (by repeat (first | with_reducible exact PF.body | with_reducible apply PF.inB | with_reducible apply PF.next)) h98 rfl rfl rfl (by kernel_rfl) (by kernel_rfl) (by kernel_rfl) rfl (rd_m h98 (k := 1) (v := .pointer (some ⟨Z.mc, 0, none⟩)) rfl rfl rfl rfl (md_p ⟨rfl, trivial⟩)) ?_
      have h99 := h98.put (d := some 63) (v := .pointer (some ⟨Z.mc, 0, none⟩)) (T' := [(63, .pointer (some ⟨Z.mc, 0, none⟩)), (5, .pointer (some ⟨b8, 0, none⟩)), (4, .pointer (some ⟨b2, 0, none⟩)), (0, .pointer (some ⟨mb, 0, none⟩)), (1, .agg #[.int .u16 ((Z.ky s).idx), .int .u32 ((Z.ky s).gen)]), (2, .agg #[.int .u16 ((Z.ky r).idx), .int .u32 ((Z.ky r).gen)]), (6, .pointer (some ⟨(Z.tp s), 0, none⟩)), (7, .pointer (some ⟨(Z.tp r), 0, none⟩)), (62, .pointer (some ⟨mb, 1, none⟩))]) rfl
      clear h98
      refine dr_batch tabOk2 tabZ_ok2 (by repeat (first | with_reducible exact PF.body | with_reducible apply PF.inB | with_reducible apply PF.next)) [(4, {}), (5, {}), (6, {})] [63, 5, 4, 0, 1, 2, 6, 7, 66] (T' := [(63, .pointer (some ⟨Z.mc, 0, none⟩)), (5, .pointer (some ⟨b8, 0, none⟩)), (4, .pointer (some ⟨b2, 0, none⟩)), (0, .pointer (some ⟨mb, 0, none⟩)), (1, .agg #[.int .u16 ((Z.ky s).idx), .int .u32 ((Z.ky s).gen)]), (2, .agg #[.int .u16 ((Z.ky r).idx), .int .u32 ((Z.ky r).gen)]), (6, .pointer (some ⟨(Z.tp s), 0, none⟩)), (7, .pointer (some ⟨(Z.tp r), 0, none⟩)), (66, .pointer (some ⟨(Z.tp s), 4, none⟩))]) (φ := True) (fuel := 12) h99 (by kernel_rfl) rfl (by kernel_rfl) (by kernel_rfl) ⟨trivial, trivial, trivial, trivial⟩ trivial fun a100 h101 => ?_
      clear h99
      refine dr_read (i := 7) (b := (Z.tp s)) (p := 4) (v := .agg #[.int .u16 ((a.th s).cs.idx), .int .u32 ((a.th s).cs.gen)]) (fuel := 11) (by repeat (first | with_reducible exact PF.body | with_reducible apply PF.inB | with_reducible apply PF.next)) h101 rfl rfl rfl (by kernel_rfl) (by kernel_rfl) (by kernel_rfl) rfl (rd_thA h101 (x := s) (k := 4) (vs := [.int .u16 ((a.th s).cs.idx), .int .u32 ((a.th s).cs.gen)]) hsm rfl rfl rfl rfl rfl (by rw [ht78]; exact ⟨rfl, rfl, trivial⟩)) ?_
      have h102 := h101.put (d := some 67) (v := .agg #[.int .u16 ((a.th s).cs.idx), .int .u32 ((a.th s).cs.gen)]) (T' := [(67, .agg #[.int .u16 ((a.th s).cs.idx), .int .u32 ((a.th s).cs.gen)]), (63, .pointer (some ⟨Z.mc, 0, none⟩)), (5, .pointer (some ⟨b8, 0, none⟩)), (4, .pointer (some ⟨b2, 0, none⟩)), (0, .pointer (some ⟨mb, 0, none⟩)), (1, .agg #[.int .u16 ((Z.ky s).idx), .int .u32 ((Z.ky s).gen)]), (2, .agg #[.int .u16 ((Z.ky r).idx), .int .u32 ((Z.ky r).gen)]), (6, .pointer (some ⟨(Z.tp s), 0, none⟩)), (7, .pointer (some ⟨(Z.tp r), 0, none⟩)), (66, .pointer (some ⟨(Z.tp s), 4, none⟩))]) rfl
      clear h101
      refine dr_batch tabOk2 tabZ_ok2 (by repeat (first | with_reducible exact PF.body | with_reducible apply PF.inB | with_reducible apply PF.next)) [(8, {}), (9, {}), (10, {})] [67, 63, 5, 4, 0, 1, 2, 6, 7, 70] (T' := [(67, .agg #[.int .u16 ((a.th s).cs.idx), .int .u32 ((a.th s).cs.gen)]), (63, .pointer (some ⟨Z.mc, 0, none⟩)), (5, .pointer (some ⟨b8, 0, none⟩)), (4, .pointer (some ⟨b2, 0, none⟩)), (0, .pointer (some ⟨mb, 0, none⟩)), (1, .agg #[.int .u16 ((Z.ky s).idx), .int .u32 ((Z.ky s).gen)]), (2, .agg #[.int .u16 ((Z.ky r).idx), .int .u32 ((Z.ky r).gen)]), (6, .pointer (some ⟨(Z.tp s), 0, none⟩)), (7, .pointer (some ⟨(Z.tp r), 0, none⟩)), (70, .pointer (some ⟨(Z.tp s), 15, none⟩))]) (φ := True) (fuel := 8) h102 (by kernel_rfl) rfl (by kernel_rfl) (by kernel_rfl) ⟨trivial, trivial, trivial, trivial⟩ trivial fun a103 h104 => ?_
      clear h102
      refine dr_read (i := 11) (b := (Z.tp s)) (p := 4) (v := .int .u32 ((a.th s).xfer)) (fuel := 7) (by repeat (first | with_reducible exact PF.body | with_reducible apply PF.inB | with_reducible apply PF.next)) h104 rfl rfl rfl (by kernel_rfl) (by kernel_rfl) (by kernel_rfl) rfl (rd_th h104 (x := s) (k := 15) (v := .int .u32 ((a.th s).xfer)) hsm rfl rfl rfl rfl (by rw [ht78]; exact ⟨rfl, trivial⟩)) ?_
      have h105 := h104.put (d := some 71) (v := .int .u32 ((a.th s).xfer)) (T' := [(71, .int .u32 ((a.th s).xfer)), (67, .agg #[.int .u16 ((a.th s).cs.idx), .int .u32 ((a.th s).cs.gen)]), (63, .pointer (some ⟨Z.mc, 0, none⟩)), (5, .pointer (some ⟨b8, 0, none⟩)), (4, .pointer (some ⟨b2, 0, none⟩)), (0, .pointer (some ⟨mb, 0, none⟩)), (1, .agg #[.int .u16 ((Z.ky s).idx), .int .u32 ((Z.ky s).gen)]), (2, .agg #[.int .u16 ((Z.ky r).idx), .int .u32 ((Z.ky r).gen)]), (6, .pointer (some ⟨(Z.tp s), 0, none⟩)), (7, .pointer (some ⟨(Z.tp r), 0, none⟩)), (70, .pointer (some ⟨(Z.tp s), 15, none⟩))]) rfl
      clear h104
      refine dr_batch tabOk2 tabZ_ok2 (by repeat (first | with_reducible exact PF.body | with_reducible apply PF.inB | with_reducible apply PF.next)) [(12, {m := 1})] [67, 63, 5, 4, 0, 1, 2, 6, 7, 72] (T' := [(67, .agg #[.int .u16 ((a.th s).cs.idx), .int .u32 ((a.th s).cs.gen)]), (63, .pointer (some ⟨Z.mc, 0, none⟩)), (5, .pointer (some ⟨b8, 0, none⟩)), (4, .pointer (some ⟨b2, 0, none⟩)), (0, .pointer (some ⟨mb, 0, none⟩)), (1, .agg #[.int .u16 ((Z.ky s).idx), .int .u32 ((Z.ky s).gen)]), (2, .agg #[.int .u16 ((Z.ky r).idx), .int .u32 ((Z.ky r).gen)]), (6, .pointer (some ⟨(Z.tp s), 0, none⟩)), (7, .pointer (some ⟨(Z.tp r), 0, none⟩)), (72, .int .u32 (IntKind.wrap .u32 (((a.th s).xfer) - 1)))]) (φ := True) (fuel := 6) h105 (by kernel_rfl) rfl (by kernel_rfl) (by kernel_rfl) ⟨trivial, trivial⟩ trivial fun a106 h107 => ?_
      clear h105
      refine wpAnyK_one (i := 13) (fuel := 5) (by kernel_rfl) ?_
      obtain ⟨s1, k1, e1⟩ : ∃ u v : Int, lookP C.ent (a.th s).cs (IntKind.wrap .u32 (((a.th s).xfer) - 1)) = (u, v) := ⟨_, _, rfl⟩
      refine op_call h107 rfl rfl rfl (callOk Tryd.func39 (by decide) rfl) (args := [.pointer (some ⟨Z.mc, 0, none⟩), .agg #[.int .u16 ((a.th s).cs.idx), .int .u32 ((a.th s).cs.gen)], .int .u32 (IntKind.wrap .u32 (((a.th s).xfer) - 1))]) rfl (lookupE (E := C.ent) Z.mo Z.mc Z.nd C.pres (a.th s).cs (IntKind.wrap .u32 (((a.th s).xfer) - 1)) (hts.ci.imp_right (fun h => by omega)) (wrap32 _) _ h107.inv.1.cp.sp h107.inv.1.cp.st h107.inv.1.cp.ap.symm e1) ?_
      rintro _ w108 ⟨rfl, hf110⟩
      refine ⟨_, rfl, ?_⟩
      have h109 := (h107.grow hf110).put (d := some 73) (v := .tuple #[.int .i64 s1, .int .u8 k1]) (T' := [(73, .tuple #[.int .i64 s1, .int .u8 k1]), (67, .agg #[.int .u16 ((a.th s).cs.idx), .int .u32 ((a.th s).cs.gen)]), (63, .pointer (some ⟨Z.mc, 0, none⟩)), (5, .pointer (some ⟨b8, 0, none⟩)), (4, .pointer (some ⟨b2, 0, none⟩)), (0, .pointer (some ⟨mb, 0, none⟩)), (1, .agg #[.int .u16 ((Z.ky s).idx), .int .u32 ((Z.ky s).gen)]), (2, .agg #[.int .u16 ((Z.ky r).idx), .int .u32 ((Z.ky r).gen)]), (6, .pointer (some ⟨(Z.tp s), 0, none⟩)), (7, .pointer (some ⟨(Z.tp r), 0, none⟩)), (72, .int .u32 (IntKind.wrap .u32 (((a.th s).xfer) - 1)))]) rfl
      refine ⟨keepNil, ?_⟩
      clear h107
      refine dr_batch tabOk2 tabZ_ok2 (by repeat (first | with_reducible exact PF.body | with_reducible apply PF.inB | with_reducible apply PF.next)) [(14, {}), (15, {}), (16, {}), (17, {}), (18, {})] [5, 4, 0, 1, 2, 6, 7, 8, 9] (T' := [(5, .pointer (some ⟨b8, 0, none⟩)), (4, .pointer (some ⟨b2, 0, none⟩)), (0, .pointer (some ⟨mb, 0, none⟩)), (1, .agg #[.int .u16 ((Z.ky s).idx), .int .u32 ((Z.ky s).gen)]), (2, .agg #[.int .u16 ((Z.ky r).idx), .int .u32 ((Z.ky r).gen)]), (6, .pointer (some ⟨(Z.tp s), 0, none⟩)), (7, .pointer (some ⟨(Z.tp r), 0, none⟩)), (8, .int .i64 s1), (9, .int .u8 k1)]) (φ := True) (fuel := 0) h109 (by kernel_rfl) rfl (by kernel_rfl) (by kernel_rfl) ⟨trivial, trivial, trivial, trivial, trivial, trivial⟩ trivial fun a111 h112 => ?_
      clear h109
      refine wpAnyK_done (by kernel_rfl) ?_ _
      refine hK93 _ _ ?_
      clear hK93
      refine wp_seq_k fun K113 hK113 => ?_
      refine dr_start (KB := [3, b2, b8, mb, (Z.tp r)]) (Bi := [[0, 1, 2, 3, 4], [0, 1, 2, 3, 4], [0, 1, 2, 3, 4], [0, 1, 2, 3, 4], [0, 1, 2, 3, 4], [0, 1, 2, 3, 4], [0, 1, 2, 3, 4], [0, 1, 2, 3, 4], [0, 1, 2, 3, 4], [0, 1, 2, 3, 4], [0, 1, 2, 3, 4], [0, 1, 2, 3, 4], [], [0, 1, 2, 3, 4], [0, 1, 2, 3, 4], [0, 1, 2, 3, 4], [0, 1, 2, 3, 4], [0, 1, 2, 3, 4]]) mixed h112 fun w114 h115 => ?_
      clear h112
      refine dr_batch tabOk2 tabZ_ok2 (by repeat (first | with_reducible exact PF.body | with_reducible apply PF.inB | with_reducible apply PF.next)) [(0, {}), (1, {}), (2, {})] [5, 4, 0, 1, 2, 6, 7, 8, 9, 79] (T' := [(5, .pointer (some ⟨b8, 0, none⟩)), (4, .pointer (some ⟨b2, 0, none⟩)), (0, .pointer (some ⟨mb, 0, none⟩)), (1, .agg #[.int .u16 ((Z.ky s).idx), .int .u32 ((Z.ky s).gen)]), (2, .agg #[.int .u16 ((Z.ky r).idx), .int .u32 ((Z.ky r).gen)]), (6, .pointer (some ⟨(Z.tp s), 0, none⟩)), (7, .pointer (some ⟨(Z.tp r), 0, none⟩)), (8, .int .i64 s1), (9, .int .u8 k1), (79, .pointer (some ⟨mb, 1, none⟩))]) (φ := True) (fuel := 15) h115 (by kernel_rfl) rfl (by kernel_rfl) (by kernel_rfl) ⟨trivial, trivial, trivial, trivial⟩ trivial fun a117 h118 => ?_
      clear h115
      refine dr_read (i := 3) (b := mb) (p := 3) (v := .pointer (some ⟨Z.mc, 0, none⟩)) (fuel := 14) (by repeat (first | with_reducible exact PF.body | with_reducible apply PF.inB | with_reducible apply PF.next)) h118 rfl rfl rfl (by kernel_rfl) (by kernel_rfl) (by kernel_rfl) rfl (rd_m h118 (k := 1) (v := .pointer (some ⟨Z.mc, 0, none⟩)) rfl rfl rfl rfl (md_p ⟨rfl, trivial⟩)) ?_
      have h119 := h118.put (d := some 80) (v := .pointer (some ⟨Z.mc, 0, none⟩)) (T' := [(80, .pointer (some ⟨Z.mc, 0, none⟩)), (5, .pointer (some ⟨b8, 0, none⟩)), (4, .pointer (some ⟨b2, 0, none⟩)), (0, .pointer (some ⟨mb, 0, none⟩)), (1, .agg #[.int .u16 ((Z.ky s).idx), .int .u32 ((Z.ky s).gen)]), (2, .agg #[.int .u16 ((Z.ky r).idx), .int .u32 ((Z.ky r).gen)]), (6, .pointer (some ⟨(Z.tp s), 0, none⟩)), (7, .pointer (some ⟨(Z.tp r), 0, none⟩)), (8, .int .i64 s1), (9, .int .u8 k1), (79, .pointer (some ⟨mb, 1, none⟩))]) rfl
      clear h118
      refine dr_batch tabOk2 tabZ_ok2 (by repeat (first | with_reducible exact PF.body | with_reducible apply PF.inB | with_reducible apply PF.next)) [(4, {}), (5, {}), (6, {})] [80, 5, 4, 0, 1, 2, 6, 7, 8, 9, 83] (T' := [(80, .pointer (some ⟨Z.mc, 0, none⟩)), (5, .pointer (some ⟨b8, 0, none⟩)), (4, .pointer (some ⟨b2, 0, none⟩)), (0, .pointer (some ⟨mb, 0, none⟩)), (1, .agg #[.int .u16 ((Z.ky s).idx), .int .u32 ((Z.ky s).gen)]), (2, .agg #[.int .u16 ((Z.ky r).idx), .int .u32 ((Z.ky r).gen)]), (6, .pointer (some ⟨(Z.tp s), 0, none⟩)), (7, .pointer (some ⟨(Z.tp r), 0, none⟩)), (8, .int .i64 s1), (9, .int .u8 k1), (83, .pointer (some ⟨(Z.tp r), 4, none⟩))]) (φ := True) (fuel := 11) h119 (by kernel_rfl) rfl (by kernel_rfl) (by kernel_rfl) ⟨trivial, trivial, trivial, trivial⟩ trivial fun a120 h121 => ?_
      clear h119
      refine dr_read (i := 7) (b := (Z.tp r)) (p := 4) (v := .agg #[.int .u16 ((a.th r).cs.idx), .int .u32 ((a.th r).cs.gen)]) (fuel := 10) (by repeat (first | with_reducible exact PF.body | with_reducible apply PF.inB | with_reducible apply PF.next)) h121 rfl rfl rfl (by kernel_rfl) (by kernel_rfl) (by kernel_rfl) rfl (rd_thA h121 (x := r) (k := 4) (vs := [.int .u16 ((a.th r).cs.idx), .int .u32 ((a.th r).cs.gen)]) hrm rfl rfl rfl rfl rfl (by rw [ht79]; exact ⟨rfl, rfl, trivial⟩)) ?_
      have h122 := h121.put (d := some 84) (v := .agg #[.int .u16 ((a.th r).cs.idx), .int .u32 ((a.th r).cs.gen)]) (T' := [(84, .agg #[.int .u16 ((a.th r).cs.idx), .int .u32 ((a.th r).cs.gen)]), (80, .pointer (some ⟨Z.mc, 0, none⟩)), (5, .pointer (some ⟨b8, 0, none⟩)), (4, .pointer (some ⟨b2, 0, none⟩)), (0, .pointer (some ⟨mb, 0, none⟩)), (1, .agg #[.int .u16 ((Z.ky s).idx), .int .u32 ((Z.ky s).gen)]), (2, .agg #[.int .u16 ((Z.ky r).idx), .int .u32 ((Z.ky r).gen)]), (6, .pointer (some ⟨(Z.tp s), 0, none⟩)), (7, .pointer (some ⟨(Z.tp r), 0, none⟩)), (8, .int .i64 s1), (9, .int .u8 k1), (83, .pointer (some ⟨(Z.tp r), 4, none⟩))]) rfl
      clear h121
      refine dr_batch tabOk2 tabZ_ok2 (by repeat (first | with_reducible exact PF.body | with_reducible apply PF.inB | with_reducible apply PF.next)) [(8, {}), (9, {}), (10, {})] [84, 80, 5, 4, 0, 1, 2, 6, 7, 8, 9, 87] (T' := [(84, .agg #[.int .u16 ((a.th r).cs.idx), .int .u32 ((a.th r).cs.gen)]), (80, .pointer (some ⟨Z.mc, 0, none⟩)), (5, .pointer (some ⟨b8, 0, none⟩)), (4, .pointer (some ⟨b2, 0, none⟩)), (0, .pointer (some ⟨mb, 0, none⟩)), (1, .agg #[.int .u16 ((Z.ky s).idx), .int .u32 ((Z.ky s).gen)]), (2, .agg #[.int .u16 ((Z.ky r).idx), .int .u32 ((Z.ky r).gen)]), (6, .pointer (some ⟨(Z.tp s), 0, none⟩)), (7, .pointer (some ⟨(Z.tp r), 0, none⟩)), (8, .int .i64 s1), (9, .int .u8 k1), (87, .pointer (some ⟨(Z.tp r), 16, none⟩))]) (φ := True) (fuel := 7) h122 (by kernel_rfl) rfl (by kernel_rfl) (by kernel_rfl) ⟨trivial, trivial, trivial, trivial⟩ trivial fun a123 h124 => ?_
      clear h122
      refine dr_read (i := 11) (b := (Z.tp r)) (p := 4) (v := .int .u32 ((a.th r).dst)) (fuel := 6) (by repeat (first | with_reducible exact PF.body | with_reducible apply PF.inB | with_reducible apply PF.next)) h124 rfl rfl rfl (by kernel_rfl) (by kernel_rfl) (by kernel_rfl) rfl (rd_th h124 (x := r) (k := 16) (v := .int .u32 ((a.th r).dst)) hrm rfl rfl rfl rfl (by rw [ht79]; exact ⟨rfl, trivial⟩)) ?_
      have h125 := h124.put (d := some 88) (v := .int .u32 ((a.th r).dst)) (T' := [(88, .int .u32 ((a.th r).dst)), (84, .agg #[.int .u16 ((a.th r).cs.idx), .int .u32 ((a.th r).cs.gen)]), (80, .pointer (some ⟨Z.mc, 0, none⟩)), (5, .pointer (some ⟨b8, 0, none⟩)), (4, .pointer (some ⟨b2, 0, none⟩)), (0, .pointer (some ⟨mb, 0, none⟩)), (1, .agg #[.int .u16 ((Z.ky s).idx), .int .u32 ((Z.ky s).gen)]), (2, .agg #[.int .u16 ((Z.ky r).idx), .int .u32 ((Z.ky r).gen)]), (6, .pointer (some ⟨(Z.tp s), 0, none⟩)), (7, .pointer (some ⟨(Z.tp r), 0, none⟩)), (8, .int .i64 s1), (9, .int .u8 k1), (87, .pointer (some ⟨(Z.tp r), 16, none⟩))]) rfl
      clear h124
      refine wpAnyK_one (i := 12) (fuel := 5) (by kernel_rfl) ?_
      obtain ⟨s2, k2, e2⟩ : ∃ u v : Int, lookP C.ent (a.th r).cs ((a.th r).dst) = (u, v) := ⟨_, _, rfl⟩
      refine op_call h125 rfl rfl rfl (callOk Tryd.func39 (by decide) rfl) (args := [.pointer (some ⟨Z.mc, 0, none⟩), .agg #[.int .u16 ((a.th r).cs.idx), .int .u32 ((a.th r).cs.gen)], .int .u32 ((a.th r).dst)]) rfl (lookupE (E := C.ent) Z.mo Z.mc Z.nd C.pres (a.th r).cs ((a.th r).dst) (htr.ci.imp_right (fun h => by omega)) htr.ds _ h125.inv.1.cp.sp h125.inv.1.cp.st h125.inv.1.cp.ap.symm e2) ?_
      rintro _ w126 ⟨rfl, hf128⟩
      refine ⟨_, rfl, ?_⟩
      have h127 := (h125.grow hf128).put (d := some 89) (v := .tuple #[.int .i64 s2, .int .u8 k2]) (T' := [(89, .tuple #[.int .i64 s2, .int .u8 k2]), (88, .int .u32 ((a.th r).dst)), (84, .agg #[.int .u16 ((a.th r).cs.idx), .int .u32 ((a.th r).cs.gen)]), (80, .pointer (some ⟨Z.mc, 0, none⟩)), (5, .pointer (some ⟨b8, 0, none⟩)), (4, .pointer (some ⟨b2, 0, none⟩)), (0, .pointer (some ⟨mb, 0, none⟩)), (1, .agg #[.int .u16 ((Z.ky s).idx), .int .u32 ((Z.ky s).gen)]), (2, .agg #[.int .u16 ((Z.ky r).idx), .int .u32 ((Z.ky r).gen)]), (6, .pointer (some ⟨(Z.tp s), 0, none⟩)), (7, .pointer (some ⟨(Z.tp r), 0, none⟩)), (8, .int .i64 s1), (9, .int .u8 k1), (87, .pointer (some ⟨(Z.tp r), 16, none⟩))]) rfl
      refine ⟨keepNil, ?_⟩
      clear h125
      refine dr_batch tabOk2 tabZ_ok2 (by repeat (first | with_reducible exact PF.body | with_reducible apply PF.inB | with_reducible apply PF.next)) [(13, {}), (14, {}), (15, {}), (16, {}), (17, {})] [5, 4, 0, 1, 2, 6, 7, 8, 9, 10, 11] (T' := [(5, .pointer (some ⟨b8, 0, none⟩)), (4, .pointer (some ⟨b2, 0, none⟩)), (0, .pointer (some ⟨mb, 0, none⟩)), (1, .agg #[.int .u16 ((Z.ky s).idx), .int .u32 ((Z.ky s).gen)]), (2, .agg #[.int .u16 ((Z.ky r).idx), .int .u32 ((Z.ky r).gen)]), (6, .pointer (some ⟨(Z.tp s), 0, none⟩)), (7, .pointer (some ⟨(Z.tp r), 0, none⟩)), (8, .int .i64 s1), (9, .int .u8 k1), (10, .int .i64 s2), (11, .int .u8 k2)]) (φ := True) (fuel := 0) h127 (by kernel_rfl) rfl (by kernel_rfl) (by kernel_rfl) ⟨trivial, trivial, trivial, trivial, trivial, trivial⟩ trivial fun a129 h130 => ?_
      clear h127
      refine wpAnyK_done (by kernel_rfl) ?_ _
      refine hK113 _ _ ?_
      clear hK113
      refine wp_seq_k fun K131 hK131 => ?_
      rcases Bool.eq_false_or_eq_true ((k1 == 0)) with hb132 | hb132
      ·
        have hb132f : k1 = 0 := by simpa using hb132
        rcases Bool.eq_false_or_eq_true ((k2 == 0)) with hb133 | hb133
        ·
          have hb133f : k2 = 0 := by simpa using hb133
          refine nd_start (l := [0, 1, 2, 3, 4, 5, 6, 7, 8, 9, 10, 11, 12, 13, 14, 15]) rfl ?_
          refine nd_batch tabOk2 tabZ_ok2 [(0, {}), (1, {f := 2}), (2, {}), (3, {}), (4, {f := 2}), (5, {}), (6, {}), (7, {}), (8, {}), (9, {})] [5, 4, 0, 1, 2, 6, 7, 8, 9, 10, 11, 98, 101] (T' := [(5, .pointer (some ⟨b8, 0, none⟩)), (4, .pointer (some ⟨b2, 0, none⟩)), (0, .pointer (some ⟨mb, 0, none⟩)), (1, .agg #[.int .u16 ((Z.ky s).idx), .int .u32 ((Z.ky s).gen)]), (2, .agg #[.int .u16 ((Z.ky r).idx), .int .u32 ((Z.ky r).gen)]), (6, .pointer (some ⟨(Z.tp s), 0, none⟩)), (7, .pointer (some ⟨(Z.tp r), 0, none⟩)), (8, .int .i64 s1), (9, .int .u8 k1), (10, .int .i64 s2), (11, .int .u8 k2), (98, .bool true), (101, .pointer (some ⟨mb, 1, none⟩))]) (φ := ((k1 == 0)) = true ∧ ((k2 == 0)) = true ∧ True) (rest := [10, 11, 12, 13, 14, 15]) h130 (by kernel_rfl) rfl ⟨hb132, hb133, trivial⟩ fun a134 h135 => ?_
          clear h130
          refine nd_op ?_
          refine op_read (b := mb) (v := .pointer (some ⟨Z.mc, 0, none⟩)) h135 rfl rfl (rd_m h135 (k := 1) (v := .pointer (some ⟨Z.mc, 0, none⟩)) rfl rfl rfl rfl (md_p ⟨rfl, trivial⟩)) ?_
          have h136 := h135.put (d := some 102) (v := .pointer (some ⟨Z.mc, 0, none⟩)) (T' := [(102, .pointer (some ⟨Z.mc, 0, none⟩)), (5, .pointer (some ⟨b8, 0, none⟩)), (4, .pointer (some ⟨b2, 0, none⟩)), (0, .pointer (some ⟨mb, 0, none⟩)), (1, .agg #[.int .u16 ((Z.ky s).idx), .int .u32 ((Z.ky s).gen)]), (2, .agg #[.int .u16 ((Z.ky r).idx), .int .u32 ((Z.ky r).gen)]), (6, .pointer (some ⟨(Z.tp s), 0, none⟩)), (7, .pointer (some ⟨(Z.tp r), 0, none⟩)), (8, .int .i64 s1), (9, .int .u8 k1), (10, .int .i64 s2), (11, .int .u8 k2), (98, .bool true), (101, .pointer (some ⟨mb, 1, none⟩))]) rfl
          clear h135
          refine nd_batch tabOk2 tabZ_ok2 [(11, {}), (12, {})] [102, 5, 4, 0, 1, 2, 6, 7, 8, 9, 10, 11, 98, 103, 104] (T' := [(102, .pointer (some ⟨Z.mc, 0, none⟩)), (5, .pointer (some ⟨b8, 0, none⟩)), (4, .pointer (some ⟨b2, 0, none⟩)), (0, .pointer (some ⟨mb, 0, none⟩)), (1, .agg #[.int .u16 ((Z.ky s).idx), .int .u32 ((Z.ky s).gen)]), (2, .agg #[.int .u16 ((Z.ky r).idx), .int .u32 ((Z.ky r).gen)]), (6, .pointer (some ⟨(Z.tp s), 0, none⟩)), (7, .pointer (some ⟨(Z.tp r), 0, none⟩)), (8, .int .i64 s1), (9, .int .u8 k1), (10, .int .i64 s2), (11, .int .u8 k2), (98, .bool true), (103, .int .i64 s2), (104, .int .i64 s1)]) (φ := True) (rest := [13, 14, 15]) h136 (by kernel_rfl) rfl trivial fun a137 h138 => ?_
          clear h136
          refine nd_op ?_
          obtain ⟨dc, dk, edc⟩ : ∃ u v, deriveP C.cel s2.toNat s1.toNat 7 0 = (u, v) := ⟨_, _, rfl⟩
          obtain ⟨i2, j2, hi2, hj2, hp2, hs2⟩ := look_fact hC htr.ci.1 htr.ds.1 e2 hb133f
          obtain ⟨i1, j1, hi1, hj1, hp1, hs1⟩ := look_fact hC hts.ci.1 (wrap32 _).1 e1 hb132f
          refine op_call h138 rfl rfl rfl (callOk Tryd.func94 (by decide) rfl) (args := [.pointer (some ⟨Z.mc, 0, none⟩), .int .i64 s2, .int .i64 s1, .int .u8 7, .int .u64 0]) rfl (deriveE Z.mo Z.mc Z.nd C hi1 hj1 hp1 hs1 hi2 hj2 hp2 hs2 7 0 _ h138.inv.1.cp edc) ?_
          rintro _ w139 ⟨rfl, hc140, hf141⟩
          refine ⟨_, rfl, ?_⟩
          have h142a := st_cap h138 hc140 hf141 (fun b hb => .inl hb) (kcons (fun _ => rfl) (kcons (fun hq => by cases hq) (kcons (fun hq => by cases hq) knil)))
          have h142 := h142a.put (d := some 105) (v := .int .u8 dk) (T' := [(105, .int .u8 dk), (102, .pointer (some ⟨Z.mc, 0, none⟩)), (5, .pointer (some ⟨b8, 0, none⟩)), (4, .pointer (some ⟨b2, 0, none⟩)), (0, .pointer (some ⟨mb, 0, none⟩)), (1, .agg #[.int .u16 ((Z.ky s).idx), .int .u32 ((Z.ky s).gen)]), (2, .agg #[.int .u16 ((Z.ky r).idx), .int .u32 ((Z.ky r).gen)]), (6, .pointer (some ⟨(Z.tp s), 0, none⟩)), (7, .pointer (some ⟨(Z.tp r), 0, none⟩)), (8, .int .i64 s1), (9, .int .u8 k1), (10, .int .i64 s2), (11, .int .u8 k2), (98, .bool true), (103, .int .i64 s2), (104, .int .i64 s1)]) rfl
          clear h138 h142a
          refine nd_batch tabOk2 tabZ_ok2 [(14, {}), (15, {})] [5, 4, 0, 1, 2, 6, 7, 8, 9, 10, 11, 107] (T' := [(5, .pointer (some ⟨b8, 0, none⟩)), (4, .pointer (some ⟨b2, 0, none⟩)), (0, .pointer (some ⟨mb, 0, none⟩)), (1, .agg #[.int .u16 ((Z.ky s).idx), .int .u32 ((Z.ky s).gen)]), (2, .agg #[.int .u16 ((Z.ky r).idx), .int .u32 ((Z.ky r).gen)]), (6, .pointer (some ⟨(Z.tp s), 0, none⟩)), (7, .pointer (some ⟨(Z.tp r), 0, none⟩)), (8, .int .i64 s1), (9, .int .u8 k1), (10, .int .i64 s2), (11, .int .u8 k2), (107, .bool (dk == 0))]) (φ := True) (rest := []) h142 (by kernel_rfl) rfl trivial fun a143 h144 => ?_
          clear h142
          refine nd_done ?_
          refine hK131 _ _ ?_
          clear hK131
          refine c_split h144 (b := (dk == 0)) rfl (fun hc145 => ?_) (fun hc145 => ?_)
          ·
            have hc145f : dk = 0 := by simpa using hc145
            refine nd_start (l := [0, 1, 2, 3]) rfl ?_
            refine nd_batch tabOk2 tabZ_ok2 [(0, {}), (1, {}), (2, {})] [5, 4, 0, 1, 2, 6, 7, 8, 9, 10, 11, 110] (T' := [(5, .pointer (some ⟨b8, 0, none⟩)), (4, .pointer (some ⟨b2, 0, none⟩)), (0, .pointer (some ⟨mb, 0, none⟩)), (1, .agg #[.int .u16 ((Z.ky s).idx), .int .u32 ((Z.ky s).gen)]), (2, .agg #[.int .u16 ((Z.ky r).idx), .int .u32 ((Z.ky r).gen)]), (6, .pointer (some ⟨(Z.tp s), 0, none⟩)), (7, .pointer (some ⟨(Z.tp r), 0, none⟩)), (8, .int .i64 s1), (9, .int .u8 k1), (10, .int .i64 s2), (11, .int .u8 k2), (110, .pointer (some ⟨(Z.tp r), 14, none⟩))]) (φ := True) (rest := [3]) h144 (by kernel_rfl) rfl trivial fun a146 h147 => ?_
            clear h144
            refine nd_op ?_
            refine op_mTh (x := r) (off := 14) (v := .int .u8 1) (y := { a.th r with badge := (a.th s).badge, m0 := (a.th s).m0, m1 := (a.th s).m1, m2 := (a.th s).m2, m3 := (a.th s).m3, len := (a.th s).len, got := 1 }) h147 rfl rfl rfl rfl rfl rfl rfl rfl rfl hrm rfl (by rw [ht79]; rfl) (kcons (fun _ => rfl) (kcons (fun hq => by cases hq) (kcons (fun hq => by cases hq) knil))) fun w148 hf149 h150 => ?_
            obtain ⟨a151, ea151⟩ : ∃ z : AK, z = a77.setT r { a.th r with badge := (a.th s).badge, m0 := (a.th s).m0, m1 := (a.th s).m1, m2 := (a.th s).m2, m3 := (a.th s).m3, len := (a.th s).len, got := 1 } := ⟨_, rfl⟩
            rw [← ea151] at h150
            clear h147
            have ht152 : a151.th s = (a.th s) := by rw [ea151]; exact (upd_other _ _ hsr).trans ht78
            have ht153 : a151.th r = { a.th r with badge := (a.th s).badge, m0 := (a.th s).m0, m1 := (a.th s).m1, m2 := (a.th s).m2, m3 := (a.th s).m3, len := (a.th s).len, got := 1 } := by rw [ea151]; exact upd_same _ _ _
            have hP154 : MP Z a151 := by rw [ea151]; exact MP.like hP80 (by rw [ht79] <;> rfl) (by rw [ht79] <;> rfl) (by rw [ht79] <;> rfl)
            refine nd_done ?_
            refine hK81 _ _ ?_
            clear hK81
            refine wp_seq_k fun K155 hK155 => ?_
            refine nd_start (l := [0, 1, 2, 3]) rfl ?_
            refine nd_batch tabOk2 tabZ_ok2 [(0, {}), (1, {}), (2, {})] [5, 4, 0, 1, 2, 6, 7, 8, 9, 10, 11, 113] (T' := [(5, .pointer (some ⟨b8, 0, none⟩)), (4, .pointer (some ⟨b2, 0, none⟩)), (0, .pointer (some ⟨mb, 0, none⟩)), (1, .agg #[.int .u16 ((Z.ky s).idx), .int .u32 ((Z.ky s).gen)]), (2, .agg #[.int .u16 ((Z.ky r).idx), .int .u32 ((Z.ky r).gen)]), (6, .pointer (some ⟨(Z.tp s), 0, none⟩)), (7, .pointer (some ⟨(Z.tp r), 0, none⟩)), (8, .int .i64 s1), (9, .int .u8 k1), (10, .int .i64 s2), (11, .int .u8 k2), (113, .pointer (some ⟨(Z.tp s), 18, none⟩))]) (φ := True) (rest := [3]) h150 (by kernel_rfl) rfl trivial fun a156 h157 => ?_
            clear h150
            refine nd_op ?_
            refine op_read (b := (Z.tp s)) (v := .bool ((a.th s).call)) h157 rfl rfl (rd_th h157 (x := s) (k := 18) (v := .bool ((a.th s).call)) hsm rfl rfl rfl rfl (by rw [ht152]; exact ⟨rfl, trivial⟩)) ?_
            have h158 := h157.put (d := some 114) (v := .bool ((a.th s).call)) (T' := [(114, .bool ((a.th s).call)), (5, .pointer (some ⟨b8, 0, none⟩)), (4, .pointer (some ⟨b2, 0, none⟩)), (0, .pointer (some ⟨mb, 0, none⟩)), (1, .agg #[.int .u16 ((Z.ky s).idx), .int .u32 ((Z.ky s).gen)]), (2, .agg #[.int .u16 ((Z.ky r).idx), .int .u32 ((Z.ky r).gen)]), (6, .pointer (some ⟨(Z.tp s), 0, none⟩)), (7, .pointer (some ⟨(Z.tp r), 0, none⟩)), (8, .int .i64 s1), (9, .int .u8 k1), (10, .int .i64 s2), (11, .int .u8 k2), (113, .pointer (some ⟨(Z.tp s), 18, none⟩))]) rfl
            clear h157
            refine nd_done ?_
            refine hK155 _ _ ?_
            clear hK155
            refine c_split h158 (b := (a.th s).call) rfl (fun hc159 => ?_) (fun hc159 => ?_)
            ·
              have hD : deliverA a C s r = (a151, { C with cel := dc }) := (deliver_yes hsr hb83 (by simpa using hc92) e1 e2 hb132f hb133f edc).trans (by rw [if_pos hc145f]; subst ea151 ea77 ea68 ea59 ea50; simp only [setT_setT, del0A])
              refine wp_seq_k fun K160 hK160 => ?_
              refine nd_start (l := [0, 1, 2]) rfl ?_
              refine nd_batch tabOk2 tabZ_ok2 [(0, {}), (1, {k := 1})] [5, 4, 0, 1, 2, 6, 7, 8, 9, 10, 11, 115, 116] (T' := [(5, .pointer (some ⟨b8, 0, none⟩)), (4, .pointer (some ⟨b2, 0, none⟩)), (0, .pointer (some ⟨mb, 0, none⟩)), (1, .agg #[.int .u16 ((Z.ky s).idx), .int .u32 ((Z.ky s).gen)]), (2, .agg #[.int .u16 ((Z.ky r).idx), .int .u32 ((Z.ky r).gen)]), (6, .pointer (some ⟨(Z.tp s), 0, none⟩)), (7, .pointer (some ⟨(Z.tp r), 0, none⟩)), (8, .int .i64 s1), (9, .int .u8 k1), (10, .int .i64 s2), (11, .int .u8 k2), (115, .pointer (some ⟨mb, 0, none⟩)), (116, .agg #[.int .u16 ((Z.ky s).idx), .int .u32 ((Z.ky s).gen)])]) (φ := (b2 = b2 ∧ Nat.ble (0 + 2) 2 = true) ∧ True) (rest := [2]) h158 (by kernel_rfl) rfl ⟨⟨rfl, rfl⟩, trivial⟩ fun a161 h162 => ?_
              clear h158
              refine nd_op ?_
              refine op_call h162 rfl rfl rfl (callOk Tryd.func87 (by decide) rfl) (args := [.pointer (some ⟨mb, 0, none⟩), .agg #[.int .u16 ((Z.ky s).idx), .int .u32 ((Z.ky s).gen)]]) rfl (idle_ok mb Z _ a151 _ s hsm hP154 _ (mh_of h162 hho (k := 0) rfl)) ?_
              rintro _ w163 ⟨rfl, R164, hg165⟩
              refine ⟨_, rfl, ?_⟩
              have h166a := st_mg h162 hg165 (kcons (fun _ => rfl) (kcons (fun hq => by cases hq) (kcons (fun hq => by cases hq) knil)))
              have h166 := h166a.put (d := some 117) (v := .tuple #[]) (T' := [(117, .tuple #[]), (5, .pointer (some ⟨b8, 0, none⟩)), (4, .pointer (some ⟨b2, 0, none⟩)), (0, .pointer (some ⟨mb, 0, none⟩)), (1, .agg #[.int .u16 ((Z.ky s).idx), .int .u32 ((Z.ky s).gen)]), (2, .agg #[.int .u16 ((Z.ky r).idx), .int .u32 ((Z.ky r).gen)]), (6, .pointer (some ⟨(Z.tp s), 0, none⟩)), (7, .pointer (some ⟨(Z.tp r), 0, none⟩)), (8, .int .i64 s1), (9, .int .u8 k1), (10, .int .i64 s2), (11, .int .u8 k2), (115, .pointer (some ⟨mb, 0, none⟩)), (116, .agg #[.int .u16 ((Z.ky s).idx), .int .u32 ((Z.ky s).gen)])]) rfl
              have hhoh166 := hg165.mh.ho
              obtain ⟨a167, ea167⟩ : ∃ z : AK, z = leaveA a151 s := ⟨_, rfl⟩
              rw [← ea167] at h166
              clear h162 h166a
              have ht168 : a167.th s = { a.th s with st := 0, wait := ⟨0, 0⟩ } := by rw [ea167, leave_th, ht152]
              have ht169 : a167.th r = { a.th r with badge := (a.th s).badge, m0 := (a.th s).m0, m1 := (a.th s).m1, m2 := (a.th s).m2, m3 := (a.th s).m3, len := (a.th s).len, got := 1 } := by rw [ea167]; exact (leave_tho hsr.symm).trans ht153
              have hP170 : MP Z a167 := by rw [ea167]; exact MP.leave hP154 hkk hsm
              refine nd_done ?_
              refine hK160 _ _ ?_
              clear hK160
              refine wp_seq_k fun K171 hK171 => ?_
              refine dr_start (KB := [3, b2, b8]) (Bi := [[0, 1, 2], [0, 1, 2], [0, 1, 2], [0, 1, 2], [0, 1, 2], [2], [0, 1, 2], [0, 1, 2], []]) mixed h166 fun w172 h173 => ?_
              clear h166
              refine dr_batch tabOk2 tabZ_ok2 (by repeat (first | with_reducible exact PF.body | with_reducible apply PF.inB | with_reducible apply PF.next)) [(0, {}), (1, {}), (2, {k := 2, p := 2}), (3, {}), (4, {})] [5, 4, 0, 1, 2, 6, 7, 8, 9, 10, 11, 119, 120, 122] (T' := [(5, .pointer (some ⟨b8, 0, none⟩)), (4, .pointer (some ⟨b2, 0, none⟩)), (0, .pointer (some ⟨mb, 0, none⟩)), (1, .agg #[.int .u16 ((Z.ky s).idx), .int .u32 ((Z.ky s).gen)]), (2, .agg #[.int .u16 ((Z.ky r).idx), .int .u32 ((Z.ky r).gen)]), (6, .pointer (some ⟨(Z.tp s), 0, none⟩)), (7, .pointer (some ⟨(Z.tp r), 0, none⟩)), (8, .int .i64 s1), (9, .int .u8 k1), (10, .int .i64 s2), (11, .int .u8 k2), (119, .pointer (some ⟨(Z.tp s), 0, none⟩)), (120, .agg #[.int .u16 ((Z.ky r).idx), .int .u32 ((Z.ky r).gen)]), (122, .pointer (some ⟨(Z.tp s), 0, none⟩))]) (φ := (b8 = b8 ∧ Nat.ble (0 + 2) 2 = true) ∧ True) (fuel := 4) h173 (by kernel_rfl) rfl (by kernel_rfl) (by kernel_rfl) ⟨trivial, trivial, rfl, trivial, trivial, trivial⟩ ⟨⟨rfl, rfl⟩, trivial⟩ fun a175 h176 => ?_
              clear h173
              refine wpAnyK_one (i := 5) (fuel := 3) (by kernel_rfl) ?_
              refine op_mTh (x := s) (off := 0) (v := .int .u8 6) (y := { a.th s with st := 6, wait := ⟨0, 0⟩ }) h176 rfl rfl rfl rfl rfl rfl rfl rfl rfl hsm rfl (by rw [ht168]; rfl) (kcons (fun _ => rfl) (kcons (fun hq => by cases hq) (kcons (fun hq => by cases hq) knil))) fun w177 hf178 h179 => ?_
              obtain ⟨a180, ea180⟩ : ∃ z : AK, z = a167.setT s { a.th s with st := 6, wait := ⟨0, 0⟩ } := ⟨_, rfl⟩
              rw [← ea180] at h179
              refine ⟨(keepCons (kpL h176 h179 (q := 2) (q' := 2) rfl rfl) keepNil), ?_⟩
              clear h176
              have ht181 : a180.th s = { a.th s with st := 6, wait := ⟨0, 0⟩ } := by rw [ea180]; exact upd_same _ _ _
              have ht182 : a180.th r = { a.th r with badge := (a.th s).badge, m0 := (a.th s).m0, m1 := (a.th s).m1, m2 := (a.th s).m2, m3 := (a.th s).m3, len := (a.th s).len, got := 1 } := by rw [ea180]; exact (upd_other _ _ hsr.symm).trans ht169
              refine dr_batch tabOk2 tabZ_ok2 (by repeat (first | with_reducible exact PF.body | with_reducible apply PF.inB | with_reducible apply PF.next)) [(6, {}), (7, {})] [5, 4, 0, 1, 2, 6, 7, 8, 9, 10, 11, 120, 124] (T' := [(5, .pointer (some ⟨b8, 0, none⟩)), (4, .pointer (some ⟨b2, 0, none⟩)), (0, .pointer (some ⟨mb, 0, none⟩)), (1, .agg #[.int .u16 ((Z.ky s).idx), .int .u32 ((Z.ky s).gen)]), (2, .agg #[.int .u16 ((Z.ky r).idx), .int .u32 ((Z.ky r).gen)]), (6, .pointer (some ⟨(Z.tp s), 0, none⟩)), (7, .pointer (some ⟨(Z.tp r), 0, none⟩)), (8, .int .i64 s1), (9, .int .u8 k1), (10, .int .i64 s2), (11, .int .u8 k2), (120, .agg #[.int .u16 ((Z.ky r).idx), .int .u32 ((Z.ky r).gen)]), (124, .pointer (some ⟨(Z.tp s), 2, none⟩))]) (φ := True) (fuel := 1) h179 (by kernel_rfl) rfl (by kernel_rfl) (by kernel_rfl) ⟨trivial, trivial, trivial⟩ trivial fun a184 h185 => ?_
              clear h179
              refine wpAnyK_one (i := 8) (fuel := 0) (by kernel_rfl) ?_
              refine op_mTh (x := s) (off := 2) (v := .agg #[.int .u16 ((Z.ky r).idx), .int .u32 ((Z.ky r).gen)]) (y := { a.th s with st := 6, wait := ⟨(Z.ky r).idx, (Z.ky r).gen⟩ }) h185 rfl rfl rfl rfl rfl rfl rfl rfl rfl hsm rfl (by rw [ht181]; rfl) (kcons (fun _ => rfl) (kcons (fun hq => by cases hq) (kcons (fun hq => by cases hq) knil))) fun w186 hf187 h188 => ?_
              obtain ⟨a189, ea189⟩ : ∃ z : AK, z = a180.setT s { a.th s with st := 6, wait := ⟨(Z.ky r).idx, (Z.ky r).gen⟩ } := ⟨_, rfl⟩
              rw [← ea189] at h188
              refine ⟨keepNil, ?_⟩
              clear h185
              have ht190 : a189.th s = { a.th s with st := 6, wait := ⟨(Z.ky r).idx, (Z.ky r).gen⟩ } := by rw [ea189]; exact upd_same _ _ _
              have ht191 : a189.th r = { a.th r with badge := (a.th s).badge, m0 := (a.th s).m0, m1 := (a.th s).m1, m2 := (a.th s).m2, m3 := (a.th s).m3, len := (a.th s).len, got := 1 } := by rw [ea189]; exact (upd_other _ _ hsr.symm).trans ht182
              refine wpAnyK_done (by kernel_rfl) ?_ _
              refine hK171 _ _ ?_
              clear hK171
              refine nd_start (l := [0, 1, 2, 3, 4]) rfl ?_
              refine nd_batch tabOk2 tabZ_ok2 [(0, {}), (1, {k := 1}), (2, {}), (3, {})] [5, 4, 0, 1, 2, 6, 7, 8, 9, 10, 11, 126, 128] (T' := [(5, .pointer (some ⟨b8, 0, none⟩)), (4, .pointer (some ⟨b2, 0, none⟩)), (0, .pointer (some ⟨mb, 0, none⟩)), (1, .agg #[.int .u16 ((Z.ky s).idx), .int .u32 ((Z.ky s).gen)]), (2, .agg #[.int .u16 ((Z.ky r).idx), .int .u32 ((Z.ky r).gen)]), (6, .pointer (some ⟨(Z.tp s), 0, none⟩)), (7, .pointer (some ⟨(Z.tp r), 0, none⟩)), (8, .int .i64 s1), (9, .int .u8 k1), (10, .int .i64 s2), (11, .int .u8 k2), (126, .agg #[.int .u16 ((Z.ky s).idx), .int .u32 ((Z.ky s).gen)]), (128, .pointer (some ⟨(Z.tp r), 6, none⟩))]) (φ := (b2 = b2 ∧ Nat.ble (0 + 2) 2 = true) ∧ True) (rest := [4]) h188 (by kernel_rfl) rfl ⟨⟨rfl, rfl⟩, trivial⟩ fun a192 h193 => ?_
              clear h188
              refine nd_op ?_
              refine op_mTh (x := r) (off := 6) (v := .agg #[.int .u16 ((Z.ky s).idx), .int .u32 ((Z.ky s).gen)]) (y := { a.th r with rep := ⟨(Z.ky s).idx, (Z.ky s).gen⟩, badge := (a.th s).badge, m0 := (a.th s).m0, m1 := (a.th s).m1, m2 := (a.th s).m2, m3 := (a.th s).m3, len := (a.th s).len, got := 1 }) h193 rfl rfl rfl rfl rfl rfl rfl rfl rfl hrm rfl (by rw [ht191]; rfl) (kcons (fun _ => rfl) (kcons (fun hq => by cases hq) (kcons (fun hq => by cases hq) knil))) fun w194 hf195 h196 => ?_
              obtain ⟨a197, ea197⟩ : ∃ z : AK, z = a189.setT r { a.th r with rep := ⟨(Z.ky s).idx, (Z.ky s).gen⟩, badge := (a.th s).badge, m0 := (a.th s).m0, m1 := (a.th s).m1, m2 := (a.th s).m2, m3 := (a.th s).m3, len := (a.th s).len, got := 1 } := ⟨_, rfl⟩
              rw [← ea197] at h196
              clear h193
              have ht198 : a197.th s = { a.th s with st := 6, wait := ⟨(Z.ky r).idx, (Z.ky r).gen⟩ } := by rw [ea197]; exact (upd_other _ _ hsr).trans ht190
              have ht199 : a197.th r = { a.th r with rep := ⟨(Z.ky s).idx, (Z.ky s).gen⟩, badge := (a.th s).badge, m0 := (a.th s).m0, m1 := (a.th s).m1, m2 := (a.th s).m2, m3 := (a.th s).m3, len := (a.th s).len, got := 1 } := by rw [ea197]; exact upd_same _ _ _
              refine nd_done ?_
              try simp only [Exit.then, Exit.inBlock]
              try rw [if_pos trivial]
              exact s_end tabOk2 tabZ_ok2 h196 [] (vs := []) (φ := True) rfl (by kernel_rfl) trivial (by have hz : ({ C with cel := dc } : CP) = (deliverA a C s r).2 := (by rw [hD]); rw [← hz]; exact ⟨rfl, _, mg_end hH h196 hhoh166 (by rw [hD]; subst ea197 ea189 ea180 ea167; exact passA_yes ht152 ht153 hsr.symm hc159)⟩)
            ·
              have hD : deliverA a C s r = (a151, { C with cel := dc }) := (deliver_yes hsr hb83 (by simpa using hc92) e1 e2 hb132f hb133f edc).trans (by rw [if_pos hc145f]; subst ea151 ea77 ea68 ea59 ea50; simp only [setT_setT, del0A])
              refine wp_skip ?_
              try simp only [Exit.then, Exit.inBlock]
              try rw [if_pos trivial]
              exact s_end tabOk2 tabZ_ok2 h158 [] (vs := []) (φ := True) rfl (by kernel_rfl) trivial (by have hz : ({ C with cel := dc } : CP) = (deliverA a C s r).2 := (by rw [hD]); rw [← hz]; exact ⟨rfl, _, mg_end hH h158 hho (by rw [hD]; exact (passA_no ht152 hc159).symm)⟩)
          ·
            have hc145f : dk ≠ 0 := by simpa using hc145
            refine wp_skip ?_
            refine hK81 _ _ ?_
            clear hK81
            refine wp_seq_k fun K200 hK200 => ?_
            refine nd_start (l := [0, 1, 2, 3]) rfl ?_
            refine nd_batch tabOk2 tabZ_ok2 [(0, {}), (1, {}), (2, {})] [5, 4, 0, 1, 2, 6, 7, 8, 9, 10, 11, 113] (T' := [(5, .pointer (some ⟨b8, 0, none⟩)), (4, .pointer (some ⟨b2, 0, none⟩)), (0, .pointer (some ⟨mb, 0, none⟩)), (1, .agg #[.int .u16 ((Z.ky s).idx), .int .u32 ((Z.ky s).gen)]), (2, .agg #[.int .u16 ((Z.ky r).idx), .int .u32 ((Z.ky r).gen)]), (6, .pointer (some ⟨(Z.tp s), 0, none⟩)), (7, .pointer (some ⟨(Z.tp r), 0, none⟩)), (8, .int .i64 s1), (9, .int .u8 k1), (10, .int .i64 s2), (11, .int .u8 k2), (113, .pointer (some ⟨(Z.tp s), 18, none⟩))]) (φ := True) (rest := [3]) h144 (by kernel_rfl) rfl trivial fun a201 h202 => ?_
            clear h144
            refine nd_op ?_
            refine op_read (b := (Z.tp s)) (v := .bool ((a.th s).call)) h202 rfl rfl (rd_th h202 (x := s) (k := 18) (v := .bool ((a.th s).call)) hsm rfl rfl rfl rfl (by rw [ht78]; exact ⟨rfl, trivial⟩)) ?_
            have h203 := h202.put (d := some 114) (v := .bool ((a.th s).call)) (T' := [(114, .bool ((a.th s).call)), (5, .pointer (some ⟨b8, 0, none⟩)), (4, .pointer (some ⟨b2, 0, none⟩)), (0, .pointer (some ⟨mb, 0, none⟩)), (1, .agg #[.int .u16 ((Z.ky s).idx), .int .u32 ((Z.ky s).gen)]), (2, .agg #[.int .u16 ((Z.ky r).idx), .int .u32 ((Z.ky r).gen)]), (6, .pointer (some ⟨(Z.tp s), 0, none⟩)), (7, .pointer (some ⟨(Z.tp r), 0, none⟩)), (8, .int .i64 s1), (9, .int .u8 k1), (10, .int .i64 s2), (11, .int .u8 k2), (113, .pointer (some ⟨(Z.tp s), 18, none⟩))]) rfl
            clear h202
            refine nd_done ?_
            refine hK200 _ _ ?_
            clear hK200
            refine c_split h203 (b := (a.th s).call) rfl (fun hc204 => ?_) (fun hc204 => ?_)
            ·
              have hD : deliverA a C s r = (a77, { C with cel := dc }) := (deliver_yes hsr hb83 (by simpa using hc92) e1 e2 hb132f hb133f edc).trans (by rw [if_neg hc145f]; subst ea77 ea68 ea59 ea50; simp only [setT_setT, del0A])
              refine wp_seq_k fun K205 hK205 => ?_
              refine nd_start (l := [0, 1, 2]) rfl ?_
              refine nd_batch tabOk2 tabZ_ok2 [(0, {}), (1, {k := 1})] [5, 4, 0, 1, 2, 6, 7, 8, 9, 10, 11, 115, 116] (T' := [(5, .pointer (some ⟨b8, 0, none⟩)), (4, .pointer (some ⟨b2, 0, none⟩)), (0, .pointer (some ⟨mb, 0, none⟩)), (1, .agg #[.int .u16 ((Z.ky s).idx), .int .u32 ((Z.ky s).gen)]), (2, .agg #[.int .u16 ((Z.ky r).idx), .int .u32 ((Z.ky r).gen)]), (6, .pointer (some ⟨(Z.tp s), 0, none⟩)), (7, .pointer (some ⟨(Z.tp r), 0, none⟩)), (8, .int .i64 s1), (9, .int .u8 k1), (10, .int .i64 s2), (11, .int .u8 k2), (115, .pointer (some ⟨mb, 0, none⟩)), (116, .agg #[.int .u16 ((Z.ky s).idx), .int .u32 ((Z.ky s).gen)])]) (φ := (b2 = b2 ∧ Nat.ble (0 + 2) 2 = true) ∧ True) (rest := [2]) h203 (by kernel_rfl) rfl ⟨⟨rfl, rfl⟩, trivial⟩ fun a206 h207 => ?_
              clear h203
              refine nd_op ?_
              refine op_call h207 rfl rfl rfl (callOk Tryd.func87 (by decide) rfl) (args := [.pointer (some ⟨mb, 0, none⟩), .agg #[.int .u16 ((Z.ky s).idx), .int .u32 ((Z.ky s).gen)]]) rfl (idle_ok mb Z _ a77 _ s hsm hP80 _ (mh_of h207 hho (k := 0) rfl)) ?_
              rintro _ w208 ⟨rfl, R209, hg210⟩
              refine ⟨_, rfl, ?_⟩
              have h211a := st_mg h207 hg210 (kcons (fun _ => rfl) (kcons (fun hq => by cases hq) (kcons (fun hq => by cases hq) knil)))
              have h211 := h211a.put (d := some 117) (v := .tuple #[]) (T' := [(117, .tuple #[]), (5, .pointer (some ⟨b8, 0, none⟩)), (4, .pointer (some ⟨b2, 0, none⟩)), (0, .pointer (some ⟨mb, 0, none⟩)), (1, .agg #[.int .u16 ((Z.ky s).idx), .int .u32 ((Z.ky s).gen)]), (2, .agg #[.int .u16 ((Z.ky r).idx), .int .u32 ((Z.ky r).gen)]), (6, .pointer (some ⟨(Z.tp s), 0, none⟩)), (7, .pointer (some ⟨(Z.tp r), 0, none⟩)), (8, .int .i64 s1), (9, .int .u8 k1), (10, .int .i64 s2), (11, .int .u8 k2), (115, .pointer (some ⟨mb, 0, none⟩)), (116, .agg #[.int .u16 ((Z.ky s).idx), .int .u32 ((Z.ky s).gen)])]) rfl
              have hhoh211 := hg210.mh.ho
              obtain ⟨a212, ea212⟩ : ∃ z : AK, z = leaveA a77 s := ⟨_, rfl⟩
              rw [← ea212] at h211
              clear h207 h211a
              have ht213 : a212.th s = { a.th s with st := 0, wait := ⟨0, 0⟩ } := by rw [ea212, leave_th, ht78]
              have ht214 : a212.th r = { a.th r with badge := (a.th s).badge, m0 := (a.th s).m0, m1 := (a.th s).m1, m2 := (a.th s).m2, m3 := (a.th s).m3, len := (a.th s).len, got := 0 } := by rw [ea212]; exact (leave_tho hsr.symm).trans ht79
              have hP215 : MP Z a212 := by rw [ea212]; exact MP.leave hP80 hkk hsm
              refine nd_done ?_
              refine hK205 _ _ ?_
              clear hK205
              refine wp_seq_k fun K216 hK216 => ?_
              refine dr_start (KB := [3, b2, b8]) (Bi := [[0, 1, 2], [0, 1, 2], [0, 1, 2], [0, 1, 2], [0, 1, 2], [2], [0, 1, 2], [0, 1, 2], []]) mixed h211 fun w217 h218 => ?_
              clear h211
              refine dr_batch tabOk2 tabZ_ok2 (by repeat (first | with_reducible exact PF.body | with_reducible apply PF.inB | with_reducible apply PF.next)) [(0, {}), (1, {}), (2, {k := 2, p := 2}), (3, {}), (4, {})] [5, 4, 0, 1, 2, 6, 7, 8, 9, 10, 11, 119, 120, 122] (T' := [(5, .pointer (some ⟨b8, 0, none⟩)), (4, .pointer (some ⟨b2, 0, none⟩)), (0, .pointer (some ⟨mb, 0, none⟩)), (1, .agg #[.int .u16 ((Z.ky s).idx), .int .u32 ((Z.ky s).gen)]), (2, .agg #[.int .u16 ((Z.ky r).idx), .int .u32 ((Z.ky r).gen)]), (6, .pointer (some ⟨(Z.tp s), 0, none⟩)), (7, .pointer (some ⟨(Z.tp r), 0, none⟩)), (8, .int .i64 s1), (9, .int .u8 k1), (10, .int .i64 s2), (11, .int .u8 k2), (119, .pointer (some ⟨(Z.tp s), 0, none⟩)), (120, .agg #[.int .u16 ((Z.ky r).idx), .int .u32 ((Z.ky r).gen)]), (122, .pointer (some ⟨(Z.tp s), 0, none⟩))]) (φ := (b8 = b8 ∧ Nat.ble (0 + 2) 2 = true) ∧ True) (fuel := 4) h218 (by kernel_rfl) rfl (by kernel_rfl) (by kernel_rfl) ⟨trivial, trivial, rfl, trivial, trivial, trivial⟩ ⟨⟨rfl, rfl⟩, trivial⟩ fun a220 h221 => ?_
              clear h218
              refine wpAnyK_one (i := 5) (fuel := 3) (by kernel_rfl) ?_
              refine op_mTh (x := s) (off := 0) (v := .int .u8 6) (y := { a.th s with st := 6, wait := ⟨0, 0⟩ }) h221 rfl rfl rfl rfl rfl rfl rfl rfl rfl hsm rfl (by rw [ht213]; rfl) (kcons (fun _ => rfl) (kcons (fun hq => by cases hq) (kcons (fun hq => by cases hq) knil))) fun w222 hf223 h224 => ?_
              obtain ⟨a225, ea225⟩ : ∃ z : AK, z = a212.setT s { a.th s with st := 6, wait := ⟨0, 0⟩ } := ⟨_, rfl⟩
              rw [← ea225] at h224
              refine ⟨(keepCons (kpL h221 h224 (q := 2) (q' := 2) rfl rfl) keepNil), ?_⟩
              clear h221
              have ht226 : a225.th s = { a.th s with st := 6, wait := ⟨0, 0⟩ } := by rw [ea225]; exact upd_same _ _ _
              have ht227 : a225.th r = { a.th r with badge := (a.th s).badge, m0 := (a.th s).m0, m1 := (a.th s).m1, m2 := (a.th s).m2, m3 := (a.th s).m3, len := (a.th s).len, got := 0 } := by rw [ea225]; exact (upd_other _ _ hsr.symm).trans ht214
              refine dr_batch tabOk2 tabZ_ok2 (by repeat (first | with_reducible exact PF.body | with_reducible apply PF.inB | with_reducible apply PF.next)) [(6, {}), (7, {})] [5, 4, 0, 1, 2, 6, 7, 8, 9, 10, 11, 120, 124] (T' := [(5, .pointer (some ⟨b8, 0, none⟩)), (4, .pointer (some ⟨b2, 0, none⟩)), (0, .pointer (some ⟨mb, 0, none⟩)), (1, .agg #[.int .u16 ((Z.ky s).idx), .int .u32 ((Z.ky s).gen)]), (2, .agg #[.int .u16 ((Z.ky r).idx), .int .u32 ((Z.ky r).gen)]), (6, .pointer (some ⟨(Z.tp s), 0, none⟩)), (7, .pointer (some ⟨(Z.tp r), 0, none⟩)), (8, .int .i64 s1), (9, .int .u8 k1), (10, .int .i64 s2), (11, .int .u8 k2), (120, .agg #[.int .u16 ((Z.ky r).idx), .int .u32 ((Z.ky r).gen)]), (124, .pointer (some ⟨(Z.tp s), 2, none⟩))]) (φ := True) (fuel := 1) h224 (by kernel_rfl) rfl (by kernel_rfl) (by kernel_rfl) ⟨trivial, trivial, trivial⟩ trivial fun a229 h230 => ?_
              clear h224
              refine wpAnyK_one (i := 8) (fuel := 0) (by kernel_rfl) ?_
              refine op_mTh (x := s) (off := 2) (v := .agg #[.int .u16 ((Z.ky r).idx), .int .u32 ((Z.ky r).gen)]) (y := { a.th s with st := 6, wait := ⟨(Z.ky r).idx, (Z.ky r).gen⟩ }) h230 rfl rfl rfl rfl rfl rfl rfl rfl rfl hsm rfl (by rw [ht226]; rfl) (kcons (fun _ => rfl) (kcons (fun hq => by cases hq) (kcons (fun hq => by cases hq) knil))) fun w231 hf232 h233 => ?_
              obtain ⟨a234, ea234⟩ : ∃ z : AK, z = a225.setT s { a.th s with st := 6, wait := ⟨(Z.ky r).idx, (Z.ky r).gen⟩ } := ⟨_, rfl⟩
              rw [← ea234] at h233
              refine ⟨keepNil, ?_⟩
              clear h230
              have ht235 : a234.th s = { a.th s with st := 6, wait := ⟨(Z.ky r).idx, (Z.ky r).gen⟩ } := by rw [ea234]; exact upd_same _ _ _
              have ht236 : a234.th r = { a.th r with badge := (a.th s).badge, m0 := (a.th s).m0, m1 := (a.th s).m1, m2 := (a.th s).m2, m3 := (a.th s).m3, len := (a.th s).len, got := 0 } := by rw [ea234]; exact (upd_other _ _ hsr.symm).trans ht227
              refine wpAnyK_done (by kernel_rfl) ?_ _
              refine hK216 _ _ ?_
              clear hK216
              refine nd_start (l := [0, 1, 2, 3, 4]) rfl ?_
              refine nd_batch tabOk2 tabZ_ok2 [(0, {}), (1, {k := 1}), (2, {}), (3, {})] [5, 4, 0, 1, 2, 6, 7, 8, 9, 10, 11, 126, 128] (T' := [(5, .pointer (some ⟨b8, 0, none⟩)), (4, .pointer (some ⟨b2, 0, none⟩)), (0, .pointer (some ⟨mb, 0, none⟩)), (1, .agg #[.int .u16 ((Z.ky s).idx), .int .u32 ((Z.ky s).gen)]), (2, .agg #[.int .u16 ((Z.ky r).idx), .int .u32 ((Z.ky r).gen)]), (6, .pointer (some ⟨(Z.tp s), 0, none⟩)), (7, .pointer (some ⟨(Z.tp r), 0, none⟩)), (8, .int .i64 s1), (9, .int .u8 k1), (10, .int .i64 s2), (11, .int .u8 k2), (126, .agg #[.int .u16 ((Z.ky s).idx), .int .u32 ((Z.ky s).gen)]), (128, .pointer (some ⟨(Z.tp r), 6, none⟩))]) (φ := (b2 = b2 ∧ Nat.ble (0 + 2) 2 = true) ∧ True) (rest := [4]) h233 (by kernel_rfl) rfl ⟨⟨rfl, rfl⟩, trivial⟩ fun a237 h238 => ?_
              clear h233
              refine nd_op ?_
              refine op_mTh (x := r) (off := 6) (v := .agg #[.int .u16 ((Z.ky s).idx), .int .u32 ((Z.ky s).gen)]) (y := { a.th r with rep := ⟨(Z.ky s).idx, (Z.ky s).gen⟩, badge := (a.th s).badge, m0 := (a.th s).m0, m1 := (a.th s).m1, m2 := (a.th s).m2, m3 := (a.th s).m3, len := (a.th s).len, got := 0 }) h238 rfl rfl rfl rfl rfl rfl rfl rfl rfl hrm rfl (by rw [ht236]; rfl) (kcons (fun _ => rfl) (kcons (fun hq => by cases hq) (kcons (fun hq => by cases hq) knil))) fun w239 hf240 h241 => ?_
              obtain ⟨a242, ea242⟩ : ∃ z : AK, z = a234.setT r { a.th r with rep := ⟨(Z.ky s).idx, (Z.ky s).gen⟩, badge := (a.th s).badge, m0 := (a.th s).m0, m1 := (a.th s).m1, m2 := (a.th s).m2, m3 := (a.th s).m3, len := (a.th s).len, got := 0 } := ⟨_, rfl⟩
              rw [← ea242] at h241
              clear h238
              have ht243 : a242.th s = { a.th s with st := 6, wait := ⟨(Z.ky r).idx, (Z.ky r).gen⟩ } := by rw [ea242]; exact (upd_other _ _ hsr).trans ht235
              have ht244 : a242.th r = { a.th r with rep := ⟨(Z.ky s).idx, (Z.ky s).gen⟩, badge := (a.th s).badge, m0 := (a.th s).m0, m1 := (a.th s).m1, m2 := (a.th s).m2, m3 := (a.th s).m3, len := (a.th s).len, got := 0 } := by rw [ea242]; exact upd_same _ _ _
              refine nd_done ?_
              try simp only [Exit.then, Exit.inBlock]
              try rw [if_pos trivial]
              exact s_end tabOk2 tabZ_ok2 h241 [] (vs := []) (φ := True) rfl (by kernel_rfl) trivial (by have hz : ({ C with cel := dc } : CP) = (deliverA a C s r).2 := (by rw [hD]); rw [← hz]; exact ⟨rfl, _, mg_end hH h241 hhoh211 (by rw [hD]; subst ea242 ea234 ea225 ea212; exact passA_yes ht78 ht79 hsr.symm hc204)⟩)
            ·
              have hD : deliverA a C s r = (a77, { C with cel := dc }) := (deliver_yes hsr hb83 (by simpa using hc92) e1 e2 hb132f hb133f edc).trans (by rw [if_neg hc145f]; subst ea77 ea68 ea59 ea50; simp only [setT_setT, del0A])
              refine wp_skip ?_
              try simp only [Exit.then, Exit.inBlock]
              try rw [if_pos trivial]
              exact s_end tabOk2 tabZ_ok2 h203 [] (vs := []) (φ := True) rfl (by kernel_rfl) trivial (by have hz : ({ C with cel := dc } : CP) = (deliverA a C s r).2 := (by rw [hD]); rw [← hz]; exact ⟨rfl, _, mg_end hH h203 hho (by rw [hD]; exact (passA_no ht78 hc204).symm)⟩)
        ·
          have hb133f : k2 ≠ 0 := by simpa using hb133
          refine nd_start (l := [0, 1, 2, 3, 4, 5, 6, 7, 8, 9, 10, 11, 12, 13, 14, 15]) rfl ?_
          refine nd_batch tabOk2 tabZ_ok2 [(0, {}), (1, {f := 2}), (2, {}), (3, {}), (4, {f := 1}), (5, {}), (6, {}), (7, {}), (8, {}), (9, {}), (10, {}), (11, {}), (12, {})] [5, 4, 0, 1, 2, 6, 7, 8, 9, 10, 11, 98, 102, 103, 104] (T' := [(5, .pointer (some ⟨b8, 0, none⟩)), (4, .pointer (some ⟨b2, 0, none⟩)), (0, .pointer (some ⟨mb, 0, none⟩)), (1, .agg #[.int .u16 ((Z.ky s).idx), .int .u32 ((Z.ky s).gen)]), (2, .agg #[.int .u16 ((Z.ky r).idx), .int .u32 ((Z.ky r).gen)]), (6, .pointer (some ⟨(Z.tp s), 0, none⟩)), (7, .pointer (some ⟨(Z.tp r), 0, none⟩)), (8, .int .i64 s1), (9, .int .u8 k1), (10, .int .i64 s2), (11, .int .u8 k2), (98, .bool false), (102, .tuple #[]), (103, .tuple #[]), (104, .tuple #[])]) (φ := ((k1 == 0)) = true ∧ ((k2 == 0)) = false ∧ True) (rest := [13, 14, 15]) h130 (by kernel_rfl) rfl ⟨hb132, hb133, trivial⟩ fun a245 h246 => ?_
          clear h130
          refine nd_batch tabOk2 tabZ_ok2 [(13, {})] [5, 4, 0, 1, 2, 6, 7, 8, 9, 10, 11, 98, 105] (T' := [(5, .pointer (some ⟨b8, 0, none⟩)), (4, .pointer (some ⟨b2, 0, none⟩)), (0, .pointer (some ⟨mb, 0, none⟩)), (1, .agg #[.int .u16 ((Z.ky s).idx), .int .u32 ((Z.ky s).gen)]), (2, .agg #[.int .u16 ((Z.ky r).idx), .int .u32 ((Z.ky r).gen)]), (6, .pointer (some ⟨(Z.tp s), 0, none⟩)), (7, .pointer (some ⟨(Z.tp r), 0, none⟩)), (8, .int .i64 s1), (9, .int .u8 k1), (10, .int .i64 s2), (11, .int .u8 k2), (98, .bool false), (105, .tuple #[])]) (φ := True) (rest := [14, 15]) h246 (by kernel_rfl) rfl trivial fun a247 h248 => ?_
          clear h246
          refine nd_batch tabOk2 tabZ_ok2 [(14, {}), (15, {})] [5, 4, 0, 1, 2, 6, 7, 8, 9, 10, 11, 107] (T' := [(5, .pointer (some ⟨b8, 0, none⟩)), (4, .pointer (some ⟨b2, 0, none⟩)), (0, .pointer (some ⟨mb, 0, none⟩)), (1, .agg #[.int .u16 ((Z.ky s).idx), .int .u32 ((Z.ky s).gen)]), (2, .agg #[.int .u16 ((Z.ky r).idx), .int .u32 ((Z.ky r).gen)]), (6, .pointer (some ⟨(Z.tp s), 0, none⟩)), (7, .pointer (some ⟨(Z.tp r), 0, none⟩)), (8, .int .i64 s1), (9, .int .u8 k1), (10, .int .i64 s2), (11, .int .u8 k2), (107, .bool false)]) (φ := True) (rest := []) h248 (by kernel_rfl) rfl trivial fun a249 h250 => ?_
          clear h248
          refine nd_done ?_
          refine hK131 _ _ ?_
          clear hK131
          refine c_false h250 rfl ?_
          refine wp_skip ?_
          refine hK81 _ _ ?_
          clear hK81
          refine wp_seq_k fun K251 hK251 => ?_
          refine nd_start (l := [0, 1, 2, 3]) rfl ?_
          refine nd_batch tabOk2 tabZ_ok2 [(0, {}), (1, {}), (2, {})] [5, 4, 0, 1, 2, 6, 7, 8, 9, 10, 11, 113] (T' := [(5, .pointer (some ⟨b8, 0, none⟩)), (4, .pointer (some ⟨b2, 0, none⟩)), (0, .pointer (some ⟨mb, 0, none⟩)), (1, .agg #[.int .u16 ((Z.ky s).idx), .int .u32 ((Z.ky s).gen)]), (2, .agg #[.int .u16 ((Z.ky r).idx), .int .u32 ((Z.ky r).gen)]), (6, .pointer (some ⟨(Z.tp s), 0, none⟩)), (7, .pointer (some ⟨(Z.tp r), 0, none⟩)), (8, .int .i64 s1), (9, .int .u8 k1), (10, .int .i64 s2), (11, .int .u8 k2), (113, .pointer (some ⟨(Z.tp s), 18, none⟩))]) (φ := True) (rest := [3]) h250 (by kernel_rfl) rfl trivial fun a252 h253 => ?_
          clear h250
          refine nd_op ?_
          refine op_read (b := (Z.tp s)) (v := .bool ((a.th s).call)) h253 rfl rfl (rd_th h253 (x := s) (k := 18) (v := .bool ((a.th s).call)) hsm rfl rfl rfl rfl (by rw [ht78]; exact ⟨rfl, trivial⟩)) ?_
          have h254 := h253.put (d := some 114) (v := .bool ((a.th s).call)) (T' := [(114, .bool ((a.th s).call)), (5, .pointer (some ⟨b8, 0, none⟩)), (4, .pointer (some ⟨b2, 0, none⟩)), (0, .pointer (some ⟨mb, 0, none⟩)), (1, .agg #[.int .u16 ((Z.ky s).idx), .int .u32 ((Z.ky s).gen)]), (2, .agg #[.int .u16 ((Z.ky r).idx), .int .u32 ((Z.ky r).gen)]), (6, .pointer (some ⟨(Z.tp s), 0, none⟩)), (7, .pointer (some ⟨(Z.tp r), 0, none⟩)), (8, .int .i64 s1), (9, .int .u8 k1), (10, .int .i64 s2), (11, .int .u8 k2), (113, .pointer (some ⟨(Z.tp s), 18, none⟩))]) rfl
          clear h253
          refine nd_done ?_
          refine hK251 _ _ ?_
          clear hK251
          refine c_split h254 (b := (a.th s).call) rfl (fun hc255 => ?_) (fun hc255 => ?_)
          ·
            have hD : deliverA a C s r = (a77, C) := (deliver_bad hsr hb83 (by simpa using hc92) e1 e2 (fun q => hb133f q.2)).trans (by subst ea77 ea68 ea59 ea50; simp only [setT_setT, del0A])
            refine wp_seq_k fun K256 hK256 => ?_
            refine nd_start (l := [0, 1, 2]) rfl ?_
            refine nd_batch tabOk2 tabZ_ok2 [(0, {}), (1, {k := 1})] [5, 4, 0, 1, 2, 6, 7, 8, 9, 10, 11, 115, 116] (T' := [(5, .pointer (some ⟨b8, 0, none⟩)), (4, .pointer (some ⟨b2, 0, none⟩)), (0, .pointer (some ⟨mb, 0, none⟩)), (1, .agg #[.int .u16 ((Z.ky s).idx), .int .u32 ((Z.ky s).gen)]), (2, .agg #[.int .u16 ((Z.ky r).idx), .int .u32 ((Z.ky r).gen)]), (6, .pointer (some ⟨(Z.tp s), 0, none⟩)), (7, .pointer (some ⟨(Z.tp r), 0, none⟩)), (8, .int .i64 s1), (9, .int .u8 k1), (10, .int .i64 s2), (11, .int .u8 k2), (115, .pointer (some ⟨mb, 0, none⟩)), (116, .agg #[.int .u16 ((Z.ky s).idx), .int .u32 ((Z.ky s).gen)])]) (φ := (b2 = b2 ∧ Nat.ble (0 + 2) 2 = true) ∧ True) (rest := [2]) h254 (by kernel_rfl) rfl ⟨⟨rfl, rfl⟩, trivial⟩ fun a257 h258 => ?_
            clear h254
            refine nd_op ?_
            refine op_call h258 rfl rfl rfl (callOk Tryd.func87 (by decide) rfl) (args := [.pointer (some ⟨mb, 0, none⟩), .agg #[.int .u16 ((Z.ky s).idx), .int .u32 ((Z.ky s).gen)]]) rfl (idle_ok mb Z _ a77 _ s hsm hP80 _ (mh_of h258 hho (k := 0) rfl)) ?_
            rintro _ w259 ⟨rfl, R260, hg261⟩
            refine ⟨_, rfl, ?_⟩
            have h262a := st_mg h258 hg261 (kcons (fun _ => rfl) (kcons (fun hq => by cases hq) (kcons (fun hq => by cases hq) knil)))
            have h262 := h262a.put (d := some 117) (v := .tuple #[]) (T' := [(117, .tuple #[]), (5, .pointer (some ⟨b8, 0, none⟩)), (4, .pointer (some ⟨b2, 0, none⟩)), (0, .pointer (some ⟨mb, 0, none⟩)), (1, .agg #[.int .u16 ((Z.ky s).idx), .int .u32 ((Z.ky s).gen)]), (2, .agg #[.int .u16 ((Z.ky r).idx), .int .u32 ((Z.ky r).gen)]), (6, .pointer (some ⟨(Z.tp s), 0, none⟩)), (7, .pointer (some ⟨(Z.tp r), 0, none⟩)), (8, .int .i64 s1), (9, .int .u8 k1), (10, .int .i64 s2), (11, .int .u8 k2), (115, .pointer (some ⟨mb, 0, none⟩)), (116, .agg #[.int .u16 ((Z.ky s).idx), .int .u32 ((Z.ky s).gen)])]) rfl
            have hhoh262 := hg261.mh.ho
            obtain ⟨a263, ea263⟩ : ∃ z : AK, z = leaveA a77 s := ⟨_, rfl⟩
            rw [← ea263] at h262
            clear h258 h262a
            have ht264 : a263.th s = { a.th s with st := 0, wait := ⟨0, 0⟩ } := by rw [ea263, leave_th, ht78]
            have ht265 : a263.th r = { a.th r with badge := (a.th s).badge, m0 := (a.th s).m0, m1 := (a.th s).m1, m2 := (a.th s).m2, m3 := (a.th s).m3, len := (a.th s).len, got := 0 } := by rw [ea263]; exact (leave_tho hsr.symm).trans ht79
            have hP266 : MP Z a263 := by rw [ea263]; exact MP.leave hP80 hkk hsm
            refine nd_done ?_
            refine hK256 _ _ ?_
            clear hK256
            refine wp_seq_k fun K267 hK267 => ?_
            refine dr_start (KB := [3, b2, b8]) (Bi := [[0, 1, 2], [0, 1, 2], [0, 1, 2], [0, 1, 2], [0, 1, 2], [2], [0, 1, 2], [0, 1, 2], []]) mixed h262 fun w268 h269 => ?_
            clear h262
            refine dr_batch tabOk2 tabZ_ok2 (by repeat (first | with_reducible exact PF.body | with_reducible apply PF.inB | with_reducible apply PF.next)) [(0, {}), (1, {}), (2, {k := 2, p := 2}), (3, {}), (4, {})] [5, 4, 0, 1, 2, 6, 7, 8, 9, 10, 11, 119, 120, 122] (T' := [(5, .pointer (some ⟨b8, 0, none⟩)), (4, .pointer (some ⟨b2, 0, none⟩)), (0, .pointer (some ⟨mb, 0, none⟩)), (1, .agg #[.int .u16 ((Z.ky s).idx), .int .u32 ((Z.ky s).gen)]), (2, .agg #[.int .u16 ((Z.ky r).idx), .int .u32 ((Z.ky r).gen)]), (6, .pointer (some ⟨(Z.tp s), 0, none⟩)), (7, .pointer (some ⟨(Z.tp r), 0, none⟩)), (8, .int .i64 s1), (9, .int .u8 k1), (10, .int .i64 s2), (11, .int .u8 k2), (119, .pointer (some ⟨(Z.tp s), 0, none⟩)), (120, .agg #[.int .u16 ((Z.ky r).idx), .int .u32 ((Z.ky r).gen)]), (122, .pointer (some ⟨(Z.tp s), 0, none⟩))]) (φ := (b8 = b8 ∧ Nat.ble (0 + 2) 2 = true) ∧ True) (fuel := 4) h269 (by kernel_rfl) rfl (by kernel_rfl) (by kernel_rfl) ⟨trivial, trivial, rfl, trivial, trivial, trivial⟩ ⟨⟨rfl, rfl⟩, trivial⟩ fun a271 h272 => ?_
            clear h269
            refine wpAnyK_one (i := 5) (fuel := 3) (by kernel_rfl) ?_
            refine op_mTh (x := s) (off := 0) (v := .int .u8 6) (y := { a.th s with st := 6, wait := ⟨0, 0⟩ }) h272 rfl rfl rfl rfl rfl rfl rfl rfl rfl hsm rfl (by rw [ht264]; rfl) (kcons (fun _ => rfl) (kcons (fun hq => by cases hq) (kcons (fun hq => by cases hq) knil))) fun w273 hf274 h275 => ?_
            obtain ⟨a276, ea276⟩ : ∃ z : AK, z = a263.setT s { a.th s with st := 6, wait := ⟨0, 0⟩ } := ⟨_, rfl⟩
            rw [← ea276] at h275
            refine ⟨(keepCons (kpL h272 h275 (q := 2) (q' := 2) rfl rfl) keepNil), ?_⟩
            clear h272
            have ht277 : a276.th s = { a.th s with st := 6, wait := ⟨0, 0⟩ } := by rw [ea276]; exact upd_same _ _ _
            have ht278 : a276.th r = { a.th r with badge := (a.th s).badge, m0 := (a.th s).m0, m1 := (a.th s).m1, m2 := (a.th s).m2, m3 := (a.th s).m3, len := (a.th s).len, got := 0 } := by rw [ea276]; exact (upd_other _ _ hsr.symm).trans ht265
            refine dr_batch tabOk2 tabZ_ok2 (by repeat (first | with_reducible exact PF.body | with_reducible apply PF.inB | with_reducible apply PF.next)) [(6, {}), (7, {})] [5, 4, 0, 1, 2, 6, 7, 8, 9, 10, 11, 120, 124] (T' := [(5, .pointer (some ⟨b8, 0, none⟩)), (4, .pointer (some ⟨b2, 0, none⟩)), (0, .pointer (some ⟨mb, 0, none⟩)), (1, .agg #[.int .u16 ((Z.ky s).idx), .int .u32 ((Z.ky s).gen)]), (2, .agg #[.int .u16 ((Z.ky r).idx), .int .u32 ((Z.ky r).gen)]), (6, .pointer (some ⟨(Z.tp s), 0, none⟩)), (7, .pointer (some ⟨(Z.tp r), 0, none⟩)), (8, .int .i64 s1), (9, .int .u8 k1), (10, .int .i64 s2), (11, .int .u8 k2), (120, .agg #[.int .u16 ((Z.ky r).idx), .int .u32 ((Z.ky r).gen)]), (124, .pointer (some ⟨(Z.tp s), 2, none⟩))]) (φ := True) (fuel := 1) h275 (by kernel_rfl) rfl (by kernel_rfl) (by kernel_rfl) ⟨trivial, trivial, trivial⟩ trivial fun a280 h281 => ?_
            clear h275
            refine wpAnyK_one (i := 8) (fuel := 0) (by kernel_rfl) ?_
            refine op_mTh (x := s) (off := 2) (v := .agg #[.int .u16 ((Z.ky r).idx), .int .u32 ((Z.ky r).gen)]) (y := { a.th s with st := 6, wait := ⟨(Z.ky r).idx, (Z.ky r).gen⟩ }) h281 rfl rfl rfl rfl rfl rfl rfl rfl rfl hsm rfl (by rw [ht277]; rfl) (kcons (fun _ => rfl) (kcons (fun hq => by cases hq) (kcons (fun hq => by cases hq) knil))) fun w282 hf283 h284 => ?_
            obtain ⟨a285, ea285⟩ : ∃ z : AK, z = a276.setT s { a.th s with st := 6, wait := ⟨(Z.ky r).idx, (Z.ky r).gen⟩ } := ⟨_, rfl⟩
            rw [← ea285] at h284
            refine ⟨keepNil, ?_⟩
            clear h281
            have ht286 : a285.th s = { a.th s with st := 6, wait := ⟨(Z.ky r).idx, (Z.ky r).gen⟩ } := by rw [ea285]; exact upd_same _ _ _
            have ht287 : a285.th r = { a.th r with badge := (a.th s).badge, m0 := (a.th s).m0, m1 := (a.th s).m1, m2 := (a.th s).m2, m3 := (a.th s).m3, len := (a.th s).len, got := 0 } := by rw [ea285]; exact (upd_other _ _ hsr.symm).trans ht278
            refine wpAnyK_done (by kernel_rfl) ?_ _
            refine hK267 _ _ ?_
            clear hK267
            refine nd_start (l := [0, 1, 2, 3, 4]) rfl ?_
            refine nd_batch tabOk2 tabZ_ok2 [(0, {}), (1, {k := 1}), (2, {}), (3, {})] [5, 4, 0, 1, 2, 6, 7, 8, 9, 10, 11, 126, 128] (T' := [(5, .pointer (some ⟨b8, 0, none⟩)), (4, .pointer (some ⟨b2, 0, none⟩)), (0, .pointer (some ⟨mb, 0, none⟩)), (1, .agg #[.int .u16 ((Z.ky s).idx), .int .u32 ((Z.ky s).gen)]), (2, .agg #[.int .u16 ((Z.ky r).idx), .int .u32 ((Z.ky r).gen)]), (6, .pointer (some ⟨(Z.tp s), 0, none⟩)), (7, .pointer (some ⟨(Z.tp r), 0, none⟩)), (8, .int .i64 s1), (9, .int .u8 k1), (10, .int .i64 s2), (11, .int .u8 k2), (126, .agg #[.int .u16 ((Z.ky s).idx), .int .u32 ((Z.ky s).gen)]), (128, .pointer (some ⟨(Z.tp r), 6, none⟩))]) (φ := (b2 = b2 ∧ Nat.ble (0 + 2) 2 = true) ∧ True) (rest := [4]) h284 (by kernel_rfl) rfl ⟨⟨rfl, rfl⟩, trivial⟩ fun a288 h289 => ?_
            clear h284
            refine nd_op ?_
            refine op_mTh (x := r) (off := 6) (v := .agg #[.int .u16 ((Z.ky s).idx), .int .u32 ((Z.ky s).gen)]) (y := { a.th r with rep := ⟨(Z.ky s).idx, (Z.ky s).gen⟩, badge := (a.th s).badge, m0 := (a.th s).m0, m1 := (a.th s).m1, m2 := (a.th s).m2, m3 := (a.th s).m3, len := (a.th s).len, got := 0 }) h289 rfl rfl rfl rfl rfl rfl rfl rfl rfl hrm rfl (by rw [ht287]; rfl) (kcons (fun _ => rfl) (kcons (fun hq => by cases hq) (kcons (fun hq => by cases hq) knil))) fun w290 hf291 h292 => ?_
            obtain ⟨a293, ea293⟩ : ∃ z : AK, z = a285.setT r { a.th r with rep := ⟨(Z.ky s).idx, (Z.ky s).gen⟩, badge := (a.th s).badge, m0 := (a.th s).m0, m1 := (a.th s).m1, m2 := (a.th s).m2, m3 := (a.th s).m3, len := (a.th s).len, got := 0 } := ⟨_, rfl⟩
            rw [← ea293] at h292
            clear h289
            have ht294 : a293.th s = { a.th s with st := 6, wait := ⟨(Z.ky r).idx, (Z.ky r).gen⟩ } := by rw [ea293]; exact (upd_other _ _ hsr).trans ht286
            have ht295 : a293.th r = { a.th r with rep := ⟨(Z.ky s).idx, (Z.ky s).gen⟩, badge := (a.th s).badge, m0 := (a.th s).m0, m1 := (a.th s).m1, m2 := (a.th s).m2, m3 := (a.th s).m3, len := (a.th s).len, got := 0 } := by rw [ea293]; exact upd_same _ _ _
            refine nd_done ?_
            try simp only [Exit.then, Exit.inBlock]
            try rw [if_pos trivial]
            exact s_end tabOk2 tabZ_ok2 h292 [] (vs := []) (φ := True) rfl (by kernel_rfl) trivial (by have hz : (C : CP) = (deliverA a C s r).2 := (by rw [hD]); rw [← hz]; exact ⟨rfl, _, mg_end hH h292 hhoh262 (by rw [hD]; subst ea293 ea285 ea276 ea263; exact passA_yes ht78 ht79 hsr.symm hc255)⟩)
          ·
            have hD : deliverA a C s r = (a77, C) := (deliver_bad hsr hb83 (by simpa using hc92) e1 e2 (fun q => hb133f q.2)).trans (by subst ea77 ea68 ea59 ea50; simp only [setT_setT, del0A])
            refine wp_skip ?_
            try simp only [Exit.then, Exit.inBlock]
            try rw [if_pos trivial]
            exact s_end tabOk2 tabZ_ok2 h254 [] (vs := []) (φ := True) rfl (by kernel_rfl) trivial (by have hz : (C : CP) = (deliverA a C s r).2 := (by rw [hD]); rw [← hz]; exact ⟨rfl, _, mg_end hH h254 hho (by rw [hD]; exact (passA_no ht78 hc255).symm)⟩)
      ·
        have hb132f : k1 ≠ 0 := by simpa using hb132
        refine nd_start (l := [0, 1, 2, 3, 4, 5, 6, 7, 8, 9, 10, 11, 12, 13, 14, 15]) rfl ?_
        refine nd_batch tabOk2 tabZ_ok2 [(0, {}), (1, {f := 1}), (2, {}), (3, {}), (4, {}), (5, {}), (6, {}), (7, {}), (8, {}), (9, {}), (10, {}), (11, {}), (12, {})] [5, 4, 0, 1, 2, 6, 7, 8, 9, 10, 11, 98, 102, 103, 104] (T' := [(5, .pointer (some ⟨b8, 0, none⟩)), (4, .pointer (some ⟨b2, 0, none⟩)), (0, .pointer (some ⟨mb, 0, none⟩)), (1, .agg #[.int .u16 ((Z.ky s).idx), .int .u32 ((Z.ky s).gen)]), (2, .agg #[.int .u16 ((Z.ky r).idx), .int .u32 ((Z.ky r).gen)]), (6, .pointer (some ⟨(Z.tp s), 0, none⟩)), (7, .pointer (some ⟨(Z.tp r), 0, none⟩)), (8, .int .i64 s1), (9, .int .u8 k1), (10, .int .i64 s2), (11, .int .u8 k2), (98, .bool false), (102, .tuple #[]), (103, .tuple #[]), (104, .tuple #[])]) (φ := ((k1 == 0)) = false ∧ True) (rest := [13, 14, 15]) h130 (by kernel_rfl) rfl ⟨hb132, trivial⟩ fun a296 h297 => ?_
        clear h130
        refine nd_batch tabOk2 tabZ_ok2 [(13, {})] [5, 4, 0, 1, 2, 6, 7, 8, 9, 10, 11, 98, 105] (T' := [(5, .pointer (some ⟨b8, 0, none⟩)), (4, .pointer (some ⟨b2, 0, none⟩)), (0, .pointer (some ⟨mb, 0, none⟩)), (1, .agg #[.int .u16 ((Z.ky s).idx), .int .u32 ((Z.ky s).gen)]), (2, .agg #[.int .u16 ((Z.ky r).idx), .int .u32 ((Z.ky r).gen)]), (6, .pointer (some ⟨(Z.tp s), 0, none⟩)), (7, .pointer (some ⟨(Z.tp r), 0, none⟩)), (8, .int .i64 s1), (9, .int .u8 k1), (10, .int .i64 s2), (11, .int .u8 k2), (98, .bool false), (105, .tuple #[])]) (φ := True) (rest := [14, 15]) h297 (by kernel_rfl) rfl trivial fun a298 h299 => ?_
        clear h297
        refine nd_batch tabOk2 tabZ_ok2 [(14, {}), (15, {})] [5, 4, 0, 1, 2, 6, 7, 8, 9, 10, 11, 107] (T' := [(5, .pointer (some ⟨b8, 0, none⟩)), (4, .pointer (some ⟨b2, 0, none⟩)), (0, .pointer (some ⟨mb, 0, none⟩)), (1, .agg #[.int .u16 ((Z.ky s).idx), .int .u32 ((Z.ky s).gen)]), (2, .agg #[.int .u16 ((Z.ky r).idx), .int .u32 ((Z.ky r).gen)]), (6, .pointer (some ⟨(Z.tp s), 0, none⟩)), (7, .pointer (some ⟨(Z.tp r), 0, none⟩)), (8, .int .i64 s1), (9, .int .u8 k1), (10, .int .i64 s2), (11, .int .u8 k2), (107, .bool false)]) (φ := True) (rest := []) h299 (by kernel_rfl) rfl trivial fun a300 h301 => ?_
        clear h299
        refine nd_done ?_
        refine hK131 _ _ ?_
        clear hK131
        refine c_false h301 rfl ?_
        refine wp_skip ?_
        refine hK81 _ _ ?_
        clear hK81
        refine wp_seq_k fun K302 hK302 => ?_
        refine nd_start (l := [0, 1, 2, 3]) rfl ?_
        refine nd_batch tabOk2 tabZ_ok2 [(0, {}), (1, {}), (2, {})] [5, 4, 0, 1, 2, 6, 7, 8, 9, 10, 11, 113] (T' := [(5, .pointer (some ⟨b8, 0, none⟩)), (4, .pointer (some ⟨b2, 0, none⟩)), (0, .pointer (some ⟨mb, 0, none⟩)), (1, .agg #[.int .u16 ((Z.ky s).idx), .int .u32 ((Z.ky s).gen)]), (2, .agg #[.int .u16 ((Z.ky r).idx), .int .u32 ((Z.ky r).gen)]), (6, .pointer (some ⟨(Z.tp s), 0, none⟩)), (7, .pointer (some ⟨(Z.tp r), 0, none⟩)), (8, .int .i64 s1), (9, .int .u8 k1), (10, .int .i64 s2), (11, .int .u8 k2), (113, .pointer (some ⟨(Z.tp s), 18, none⟩))]) (φ := True) (rest := [3]) h301 (by kernel_rfl) rfl trivial fun a303 h304 => ?_
        clear h301
        refine nd_op ?_
        refine op_read (b := (Z.tp s)) (v := .bool ((a.th s).call)) h304 rfl rfl (rd_th h304 (x := s) (k := 18) (v := .bool ((a.th s).call)) hsm rfl rfl rfl rfl (by rw [ht78]; exact ⟨rfl, trivial⟩)) ?_
        have h305 := h304.put (d := some 114) (v := .bool ((a.th s).call)) (T' := [(114, .bool ((a.th s).call)), (5, .pointer (some ⟨b8, 0, none⟩)), (4, .pointer (some ⟨b2, 0, none⟩)), (0, .pointer (some ⟨mb, 0, none⟩)), (1, .agg #[.int .u16 ((Z.ky s).idx), .int .u32 ((Z.ky s).gen)]), (2, .agg #[.int .u16 ((Z.ky r).idx), .int .u32 ((Z.ky r).gen)]), (6, .pointer (some ⟨(Z.tp s), 0, none⟩)), (7, .pointer (some ⟨(Z.tp r), 0, none⟩)), (8, .int .i64 s1), (9, .int .u8 k1), (10, .int .i64 s2), (11, .int .u8 k2), (113, .pointer (some ⟨(Z.tp s), 18, none⟩))]) rfl
        clear h304
        refine nd_done ?_
        refine hK302 _ _ ?_
        clear hK302
        refine c_split h305 (b := (a.th s).call) rfl (fun hc306 => ?_) (fun hc306 => ?_)
        ·
          have hD : deliverA a C s r = (a77, C) := (deliver_bad hsr hb83 (by simpa using hc92) e1 e2 (fun q => hb132f q.1)).trans (by subst ea77 ea68 ea59 ea50; simp only [setT_setT, del0A])
          refine wp_seq_k fun K307 hK307 => ?_
          refine nd_start (l := [0, 1, 2]) rfl ?_
          refine nd_batch tabOk2 tabZ_ok2 [(0, {}), (1, {k := 1})] [5, 4, 0, 1, 2, 6, 7, 8, 9, 10, 11, 115, 116] (T' := [(5, .pointer (some ⟨b8, 0, none⟩)), (4, .pointer (some ⟨b2, 0, none⟩)), (0, .pointer (some ⟨mb, 0, none⟩)), (1, .agg #[.int .u16 ((Z.ky s).idx), .int .u32 ((Z.ky s).gen)]), (2, .agg #[.int .u16 ((Z.ky r).idx), .int .u32 ((Z.ky r).gen)]), (6, .pointer (some ⟨(Z.tp s), 0, none⟩)), (7, .pointer (some ⟨(Z.tp r), 0, none⟩)), (8, .int .i64 s1), (9, .int .u8 k1), (10, .int .i64 s2), (11, .int .u8 k2), (115, .pointer (some ⟨mb, 0, none⟩)), (116, .agg #[.int .u16 ((Z.ky s).idx), .int .u32 ((Z.ky s).gen)])]) (φ := (b2 = b2 ∧ Nat.ble (0 + 2) 2 = true) ∧ True) (rest := [2]) h305 (by kernel_rfl) rfl ⟨⟨rfl, rfl⟩, trivial⟩ fun a308 h309 => ?_
          clear h305
          refine nd_op ?_
          refine op_call h309 rfl rfl rfl (callOk Tryd.func87 (by decide) rfl) (args := [.pointer (some ⟨mb, 0, none⟩), .agg #[.int .u16 ((Z.ky s).idx), .int .u32 ((Z.ky s).gen)]]) rfl (idle_ok mb Z _ a77 _ s hsm hP80 _ (mh_of h309 hho (k := 0) rfl)) ?_
          rintro _ w310 ⟨rfl, R311, hg312⟩
          refine ⟨_, rfl, ?_⟩
          have h313a := st_mg h309 hg312 (kcons (fun _ => rfl) (kcons (fun hq => by cases hq) (kcons (fun hq => by cases hq) knil)))
          have h313 := h313a.put (d := some 117) (v := .tuple #[]) (T' := [(117, .tuple #[]), (5, .pointer (some ⟨b8, 0, none⟩)), (4, .pointer (some ⟨b2, 0, none⟩)), (0, .pointer (some ⟨mb, 0, none⟩)), (1, .agg #[.int .u16 ((Z.ky s).idx), .int .u32 ((Z.ky s).gen)]), (2, .agg #[.int .u16 ((Z.ky r).idx), .int .u32 ((Z.ky r).gen)]), (6, .pointer (some ⟨(Z.tp s), 0, none⟩)), (7, .pointer (some ⟨(Z.tp r), 0, none⟩)), (8, .int .i64 s1), (9, .int .u8 k1), (10, .int .i64 s2), (11, .int .u8 k2), (115, .pointer (some ⟨mb, 0, none⟩)), (116, .agg #[.int .u16 ((Z.ky s).idx), .int .u32 ((Z.ky s).gen)])]) rfl
          have hhoh313 := hg312.mh.ho
          obtain ⟨a314, ea314⟩ : ∃ z : AK, z = leaveA a77 s := ⟨_, rfl⟩
          rw [← ea314] at h313
          clear h309 h313a
          have ht315 : a314.th s = { a.th s with st := 0, wait := ⟨0, 0⟩ } := by rw [ea314, leave_th, ht78]
          have ht316 : a314.th r = { a.th r with badge := (a.th s).badge, m0 := (a.th s).m0, m1 := (a.th s).m1, m2 := (a.th s).m2, m3 := (a.th s).m3, len := (a.th s).len, got := 0 } := by rw [ea314]; exact (leave_tho hsr.symm).trans ht79
          have hP317 : MP Z a314 := by rw [ea314]; exact MP.leave hP80 hkk hsm
          refine nd_done ?_
          refine hK307 _ _ ?_
          clear hK307
          refine wp_seq_k fun K318 hK318 => ?_
          refine dr_start (KB := [3, b2, b8]) (Bi := [[0, 1, 2], [0, 1, 2], [0, 1, 2], [0, 1, 2], [0, 1, 2], [2], [0, 1, 2], [0, 1, 2], []]) mixed h313 fun w319 h320 => ?_
          clear h313
          refine dr_batch tabOk2 tabZ_ok2 (by repeat (first | with_reducible exact PF.body | with_reducible apply PF.inB | with_reducible apply PF.next)) [(0, {}), (1, {}), (2, {k := 2, p := 2}), (3, {}), (4, {})] [5, 4, 0, 1, 2, 6, 7, 8, 9, 10, 11, 119, 120, 122] (T' := [(5, .pointer (some ⟨b8, 0, none⟩)), (4, .pointer (some ⟨b2, 0, none⟩)), (0, .pointer (some ⟨mb, 0, none⟩)), (1, .agg #[.int .u16 ((Z.ky s).idx), .int .u32 ((Z.ky s).gen)]), (2, .agg #[.int .u16 ((Z.ky r).idx), .int .u32 ((Z.ky r).gen)]), (6, .pointer (some ⟨(Z.tp s), 0, none⟩)), (7, .pointer (some ⟨(Z.tp r), 0, none⟩)), (8, .int .i64 s1), (9, .int .u8 k1), (10, .int .i64 s2), (11, .int .u8 k2), (119, .pointer (some ⟨(Z.tp s), 0, none⟩)), (120, .agg #[.int .u16 ((Z.ky r).idx), .int .u32 ((Z.ky r).gen)]), (122, .pointer (some ⟨(Z.tp s), 0, none⟩))]) (φ := (b8 = b8 ∧ Nat.ble (0 + 2) 2 = true) ∧ True) (fuel := 4) h320 (by kernel_rfl) rfl (by kernel_rfl) (by kernel_rfl) ⟨trivial, trivial, rfl, trivial, trivial, trivial⟩ ⟨⟨rfl, rfl⟩, trivial⟩ fun a322 h323 => ?_
          clear h320
          refine wpAnyK_one (i := 5) (fuel := 3) (by kernel_rfl) ?_
          refine op_mTh (x := s) (off := 0) (v := .int .u8 6) (y := { a.th s with st := 6, wait := ⟨0, 0⟩ }) h323 rfl rfl rfl rfl rfl rfl rfl rfl rfl hsm rfl (by rw [ht315]; rfl) (kcons (fun _ => rfl) (kcons (fun hq => by cases hq) (kcons (fun hq => by cases hq) knil))) fun w324 hf325 h326 => ?_
          obtain ⟨a327, ea327⟩ : ∃ z : AK, z = a314.setT s { a.th s with st := 6, wait := ⟨0, 0⟩ } := ⟨_, rfl⟩
          rw [← ea327] at h326
          refine ⟨(keepCons (kpL h323 h326 (q := 2) (q' := 2) rfl rfl) keepNil), ?_⟩
          clear h323
          have ht328 : a327.th s = { a.th s with st := 6, wait := ⟨0, 0⟩ } := by rw [ea327]; exact upd_same _ _ _
          have ht329 : a327.th r = { a.th r with badge := (a.th s).badge, m0 := (a.th s).m0, m1 := (a.th s).m1, m2 := (a.th s).m2, m3 := (a.th s).m3, len := (a.th s).len, got := 0 } := by rw [ea327]; exact (upd_other _ _ hsr.symm).trans ht316
          refine dr_batch tabOk2 tabZ_ok2 (by repeat (first | with_reducible exact PF.body | with_reducible apply PF.inB | with_reducible apply PF.next)) [(6, {}), (7, {})] [5, 4, 0, 1, 2, 6, 7, 8, 9, 10, 11, 120, 124] (T' := [(5, .pointer (some ⟨b8, 0, none⟩)), (4, .pointer (some ⟨b2, 0, none⟩)), (0, .pointer (some ⟨mb, 0, none⟩)), (1, .agg #[.int .u16 ((Z.ky s).idx), .int .u32 ((Z.ky s).gen)]), (2, .agg #[.int .u16 ((Z.ky r).idx), .int .u32 ((Z.ky r).gen)]), (6, .pointer (some ⟨(Z.tp s), 0, none⟩)), (7, .pointer (some ⟨(Z.tp r), 0, none⟩)), (8, .int .i64 s1), (9, .int .u8 k1), (10, .int .i64 s2), (11, .int .u8 k2), (120, .agg #[.int .u16 ((Z.ky r).idx), .int .u32 ((Z.ky r).gen)]), (124, .pointer (some ⟨(Z.tp s), 2, none⟩))]) (φ := True) (fuel := 1) h326 (by kernel_rfl) rfl (by kernel_rfl) (by kernel_rfl) ⟨trivial, trivial, trivial⟩ trivial fun a331 h332 => ?_
          clear h326
          refine wpAnyK_one (i := 8) (fuel := 0) (by kernel_rfl) ?_
          refine op_mTh (x := s) (off := 2) (v := .agg #[.int .u16 ((Z.ky r).idx), .int .u32 ((Z.ky r).gen)]) (y := { a.th s with st := 6, wait := ⟨(Z.ky r).idx, (Z.ky r).gen⟩ }) h332 rfl rfl rfl rfl rfl rfl rfl rfl rfl hsm rfl (by rw [ht328]; rfl) (kcons (fun _ => rfl) (kcons (fun hq => by cases hq) (kcons (fun hq => by cases hq) knil))) fun w333 hf334 h335 => ?_
          obtain ⟨a336, ea336⟩ : ∃ z : AK, z = a327.setT s { a.th s with st := 6, wait := ⟨(Z.ky r).idx, (Z.ky r).gen⟩ } := ⟨_, rfl⟩
          rw [← ea336] at h335
          refine ⟨keepNil, ?_⟩
          clear h332
          have ht337 : a336.th s = { a.th s with st := 6, wait := ⟨(Z.ky r).idx, (Z.ky r).gen⟩ } := by rw [ea336]; exact upd_same _ _ _
          have ht338 : a336.th r = { a.th r with badge := (a.th s).badge, m0 := (a.th s).m0, m1 := (a.th s).m1, m2 := (a.th s).m2, m3 := (a.th s).m3, len := (a.th s).len, got := 0 } := by rw [ea336]; exact (upd_other _ _ hsr.symm).trans ht329
          refine wpAnyK_done (by kernel_rfl) ?_ _
          refine hK318 _ _ ?_
          clear hK318
          refine nd_start (l := [0, 1, 2, 3, 4]) rfl ?_
          refine nd_batch tabOk2 tabZ_ok2 [(0, {}), (1, {k := 1}), (2, {}), (3, {})] [5, 4, 0, 1, 2, 6, 7, 8, 9, 10, 11, 126, 128] (T' := [(5, .pointer (some ⟨b8, 0, none⟩)), (4, .pointer (some ⟨b2, 0, none⟩)), (0, .pointer (some ⟨mb, 0, none⟩)), (1, .agg #[.int .u16 ((Z.ky s).idx), .int .u32 ((Z.ky s).gen)]), (2, .agg #[.int .u16 ((Z.ky r).idx), .int .u32 ((Z.ky r).gen)]), (6, .pointer (some ⟨(Z.tp s), 0, none⟩)), (7, .pointer (some ⟨(Z.tp r), 0, none⟩)), (8, .int .i64 s1), (9, .int .u8 k1), (10, .int .i64 s2), (11, .int .u8 k2), (126, .agg #[.int .u16 ((Z.ky s).idx), .int .u32 ((Z.ky s).gen)]), (128, .pointer (some ⟨(Z.tp r), 6, none⟩))]) (φ := (b2 = b2 ∧ Nat.ble (0 + 2) 2 = true) ∧ True) (rest := [4]) h335 (by kernel_rfl) rfl ⟨⟨rfl, rfl⟩, trivial⟩ fun a339 h340 => ?_
          clear h335
          refine nd_op ?_
          refine op_mTh (x := r) (off := 6) (v := .agg #[.int .u16 ((Z.ky s).idx), .int .u32 ((Z.ky s).gen)]) (y := { a.th r with rep := ⟨(Z.ky s).idx, (Z.ky s).gen⟩, badge := (a.th s).badge, m0 := (a.th s).m0, m1 := (a.th s).m1, m2 := (a.th s).m2, m3 := (a.th s).m3, len := (a.th s).len, got := 0 }) h340 rfl rfl rfl rfl rfl rfl rfl rfl rfl hrm rfl (by rw [ht338]; rfl) (kcons (fun _ => rfl) (kcons (fun hq => by cases hq) (kcons (fun hq => by cases hq) knil))) fun w341 hf342 h343 => ?_
          obtain ⟨a344, ea344⟩ : ∃ z : AK, z = a336.setT r { a.th r with rep := ⟨(Z.ky s).idx, (Z.ky s).gen⟩, badge := (a.th s).badge, m0 := (a.th s).m0, m1 := (a.th s).m1, m2 := (a.th s).m2, m3 := (a.th s).m3, len := (a.th s).len, got := 0 } := ⟨_, rfl⟩
          rw [← ea344] at h343
          clear h340
          have ht345 : a344.th s = { a.th s with st := 6, wait := ⟨(Z.ky r).idx, (Z.ky r).gen⟩ } := by rw [ea344]; exact (upd_other _ _ hsr).trans ht337
          have ht346 : a344.th r = { a.th r with rep := ⟨(Z.ky s).idx, (Z.ky s).gen⟩, badge := (a.th s).badge, m0 := (a.th s).m0, m1 := (a.th s).m1, m2 := (a.th s).m2, m3 := (a.th s).m3, len := (a.th s).len, got := 0 } := by rw [ea344]; exact upd_same _ _ _
          refine nd_done ?_
          try simp only [Exit.then, Exit.inBlock]
          try rw [if_pos trivial]
          exact s_end tabOk2 tabZ_ok2 h343 [] (vs := []) (φ := True) rfl (by kernel_rfl) trivial (by have hz : (C : CP) = (deliverA a C s r).2 := (by rw [hD]); rw [← hz]; exact ⟨rfl, _, mg_end hH h343 hhoh313 (by rw [hD]; subst ea344 ea336 ea327 ea314; exact passA_yes ht78 ht79 hsr.symm hc306)⟩)
        ·
          have hD : deliverA a C s r = (a77, C) := (deliver_bad hsr hb83 (by simpa using hc92) e1 e2 (fun q => hb132f q.1)).trans (by subst ea77 ea68 ea59 ea50; simp only [setT_setT, del0A])
          refine wp_skip ?_
          try simp only [Exit.then, Exit.inBlock]
          try rw [if_pos trivial]
          exact s_end tabOk2 tabZ_ok2 h305 [] (vs := []) (φ := True) rfl (by kernel_rfl) trivial (by have hz : (C : CP) = (deliverA a C s r).2 := (by rw [hD]); rw [← hz]; exact ⟨rfl, _, mg_end hH h305 hho (by rw [hD]; exact (passA_no ht78 hc306).symm)⟩)
    ·
      have hc92f : (a.th s).xfer = 0 := by simpa using hc92
      refine wp_skip ?_
      refine hK81 _ _ ?_
      clear hK81
      refine wp_seq_k fun K347 hK347 => ?_
      refine nd_start (l := [0, 1, 2, 3]) rfl ?_
      refine nd_batch tabOk2 tabZ_ok2 [(0, {}), (1, {}), (2, {})] [5, 4, 0, 1, 2, 6, 7, 113] (T' := [(5, .pointer (some ⟨b8, 0, none⟩)), (4, .pointer (some ⟨b2, 0, none⟩)), (0, .pointer (some ⟨mb, 0, none⟩)), (1, .agg #[.int .u16 ((Z.ky s).idx), .int .u32 ((Z.ky s).gen)]), (2, .agg #[.int .u16 ((Z.ky r).idx), .int .u32 ((Z.ky r).gen)]), (6, .pointer (some ⟨(Z.tp s), 0, none⟩)), (7, .pointer (some ⟨(Z.tp r), 0, none⟩)), (113, .pointer (some ⟨(Z.tp s), 18, none⟩))]) (φ := True) (rest := [3]) h91 (by kernel_rfl) rfl trivial fun a348 h349 => ?_
      clear h91
      refine nd_op ?_
      refine op_read (b := (Z.tp s)) (v := .bool ((a.th s).call)) h349 rfl rfl (rd_th h349 (x := s) (k := 18) (v := .bool ((a.th s).call)) hsm rfl rfl rfl rfl (by rw [ht78]; exact ⟨rfl, trivial⟩)) ?_
      have h350 := h349.put (d := some 114) (v := .bool ((a.th s).call)) (T' := [(114, .bool ((a.th s).call)), (5, .pointer (some ⟨b8, 0, none⟩)), (4, .pointer (some ⟨b2, 0, none⟩)), (0, .pointer (some ⟨mb, 0, none⟩)), (1, .agg #[.int .u16 ((Z.ky s).idx), .int .u32 ((Z.ky s).gen)]), (2, .agg #[.int .u16 ((Z.ky r).idx), .int .u32 ((Z.ky r).gen)]), (6, .pointer (some ⟨(Z.tp s), 0, none⟩)), (7, .pointer (some ⟨(Z.tp r), 0, none⟩)), (113, .pointer (some ⟨(Z.tp s), 18, none⟩))]) rfl
      clear h349
      refine nd_done ?_
      refine hK347 _ _ ?_
      clear hK347
      refine c_split h350 (b := (a.th s).call) rfl (fun hc351 => ?_) (fun hc351 => ?_)
      ·
        have hD : deliverA a C s r = (a77, C) := (deliver_no hsr (.inr (by simpa using hc92))).trans (by subst ea77 ea68 ea59 ea50; simp only [setT_setT, del0A])
        refine wp_seq_k fun K352 hK352 => ?_
        refine nd_start (l := [0, 1, 2]) rfl ?_
        refine nd_batch tabOk2 tabZ_ok2 [(0, {}), (1, {k := 1})] [5, 4, 0, 1, 2, 6, 7, 115, 116] (T' := [(5, .pointer (some ⟨b8, 0, none⟩)), (4, .pointer (some ⟨b2, 0, none⟩)), (0, .pointer (some ⟨mb, 0, none⟩)), (1, .agg #[.int .u16 ((Z.ky s).idx), .int .u32 ((Z.ky s).gen)]), (2, .agg #[.int .u16 ((Z.ky r).idx), .int .u32 ((Z.ky r).gen)]), (6, .pointer (some ⟨(Z.tp s), 0, none⟩)), (7, .pointer (some ⟨(Z.tp r), 0, none⟩)), (115, .pointer (some ⟨mb, 0, none⟩)), (116, .agg #[.int .u16 ((Z.ky s).idx), .int .u32 ((Z.ky s).gen)])]) (φ := (b2 = b2 ∧ Nat.ble (0 + 2) 2 = true) ∧ True) (rest := [2]) h350 (by kernel_rfl) rfl ⟨⟨rfl, rfl⟩, trivial⟩ fun a353 h354 => ?_
        clear h350
        refine nd_op ?_
        refine op_call h354 rfl rfl rfl (callOk Tryd.func87 (by decide) rfl) (args := [.pointer (some ⟨mb, 0, none⟩), .agg #[.int .u16 ((Z.ky s).idx), .int .u32 ((Z.ky s).gen)]]) rfl (idle_ok mb Z _ a77 _ s hsm hP80 _ (mh_of h354 hho (k := 0) rfl)) ?_
        rintro _ w355 ⟨rfl, R356, hg357⟩
        refine ⟨_, rfl, ?_⟩
        have h358a := st_mg h354 hg357 (kcons (fun _ => rfl) (kcons (fun hq => by cases hq) (kcons (fun hq => by cases hq) knil)))
        have h358 := h358a.put (d := some 117) (v := .tuple #[]) (T' := [(117, .tuple #[]), (5, .pointer (some ⟨b8, 0, none⟩)), (4, .pointer (some ⟨b2, 0, none⟩)), (0, .pointer (some ⟨mb, 0, none⟩)), (1, .agg #[.int .u16 ((Z.ky s).idx), .int .u32 ((Z.ky s).gen)]), (2, .agg #[.int .u16 ((Z.ky r).idx), .int .u32 ((Z.ky r).gen)]), (6, .pointer (some ⟨(Z.tp s), 0, none⟩)), (7, .pointer (some ⟨(Z.tp r), 0, none⟩)), (115, .pointer (some ⟨mb, 0, none⟩)), (116, .agg #[.int .u16 ((Z.ky s).idx), .int .u32 ((Z.ky s).gen)])]) rfl
        have hhoh358 := hg357.mh.ho
        obtain ⟨a359, ea359⟩ : ∃ z : AK, z = leaveA a77 s := ⟨_, rfl⟩
        rw [← ea359] at h358
        clear h354 h358a
        have ht360 : a359.th s = { a.th s with st := 0, wait := ⟨0, 0⟩ } := by rw [ea359, leave_th, ht78]
        have ht361 : a359.th r = { a.th r with badge := (a.th s).badge, m0 := (a.th s).m0, m1 := (a.th s).m1, m2 := (a.th s).m2, m3 := (a.th s).m3, len := (a.th s).len, got := 0 } := by rw [ea359]; exact (leave_tho hsr.symm).trans ht79
        have hP362 : MP Z a359 := by rw [ea359]; exact MP.leave hP80 hkk hsm
        refine nd_done ?_
        refine hK352 _ _ ?_
        clear hK352
        refine wp_seq_k fun K363 hK363 => ?_
        refine dr_start (KB := [3, b2, b8]) (Bi := [[0, 1, 2], [0, 1, 2], [0, 1, 2], [0, 1, 2], [0, 1, 2], [2], [0, 1, 2], [0, 1, 2], []]) mixed h358 fun w364 h365 => ?_
        clear h358
        refine dr_batch tabOk2 tabZ_ok2 (by repeat (first | with_reducible exact PF.body | with_reducible apply PF.inB | with_reducible apply PF.next)) [(0, {}), (1, {}), (2, {k := 2, p := 2}), (3, {}), (4, {})] [5, 4, 0, 1, 2, 6, 7, 119, 120, 122] (T' := [(5, .pointer (some ⟨b8, 0, none⟩)), (4, .pointer (some ⟨b2, 0, none⟩)), (0, .pointer (some ⟨mb, 0, none⟩)), (1, .agg #[.int .u16 ((Z.ky s).idx), .int .u32 ((Z.ky s).gen)]), (2, .agg #[.int .u16 ((Z.ky r).idx), .int .u32 ((Z.ky r).gen)]), (6, .pointer (some ⟨(Z.tp s), 0, none⟩)), (7, .pointer (some ⟨(Z.tp r), 0, none⟩)), (119, .pointer (some ⟨(Z.tp s), 0, none⟩)), (120, .agg #[.int .u16 ((Z.ky r).idx), .int .u32 ((Z.ky r).gen)]), (122, .pointer (some ⟨(Z.tp s), 0, none⟩))]) (φ := (b8 = b8 ∧ Nat.ble (0 + 2) 2 = true) ∧ True) (fuel := 4) h365 (by kernel_rfl) rfl (by kernel_rfl) (by kernel_rfl) ⟨trivial, trivial, rfl, trivial, trivial, trivial⟩ ⟨⟨rfl, rfl⟩, trivial⟩ fun a367 h368 => ?_
        clear h365
        refine wpAnyK_one (i := 5) (fuel := 3) (by kernel_rfl) ?_
        refine op_mTh (x := s) (off := 0) (v := .int .u8 6) (y := { a.th s with st := 6, wait := ⟨0, 0⟩ }) h368 rfl rfl rfl rfl rfl rfl rfl rfl rfl hsm rfl (by rw [ht360]; rfl) (kcons (fun _ => rfl) (kcons (fun hq => by cases hq) (kcons (fun hq => by cases hq) knil))) fun w369 hf370 h371 => ?_
        obtain ⟨a372, ea372⟩ : ∃ z : AK, z = a359.setT s { a.th s with st := 6, wait := ⟨0, 0⟩ } := ⟨_, rfl⟩
        rw [← ea372] at h371
        refine ⟨(keepCons (kpL h368 h371 (q := 2) (q' := 2) rfl rfl) keepNil), ?_⟩
        clear h368
        have ht373 : a372.th s = { a.th s with st := 6, wait := ⟨0, 0⟩ } := by rw [ea372]; exact upd_same _ _ _
        have ht374 : a372.th r = { a.th r with badge := (a.th s).badge, m0 := (a.th s).m0, m1 := (a.th s).m1, m2 := (a.th s).m2, m3 := (a.th s).m3, len := (a.th s).len, got := 0 } := by rw [ea372]; exact (upd_other _ _ hsr.symm).trans ht361
        refine dr_batch tabOk2 tabZ_ok2 (by repeat (first | with_reducible exact PF.body | with_reducible apply PF.inB | with_reducible apply PF.next)) [(6, {}), (7, {})] [5, 4, 0, 1, 2, 6, 7, 120, 124] (T' := [(5, .pointer (some ⟨b8, 0, none⟩)), (4, .pointer (some ⟨b2, 0, none⟩)), (0, .pointer (some ⟨mb, 0, none⟩)), (1, .agg #[.int .u16 ((Z.ky s).idx), .int .u32 ((Z.ky s).gen)]), (2, .agg #[.int .u16 ((Z.ky r).idx), .int .u32 ((Z.ky r).gen)]), (6, .pointer (some ⟨(Z.tp s), 0, none⟩)), (7, .pointer (some ⟨(Z.tp r), 0, none⟩)), (120, .agg #[.int .u16 ((Z.ky r).idx), .int .u32 ((Z.ky r).gen)]), (124, .pointer (some ⟨(Z.tp s), 2, none⟩))]) (φ := True) (fuel := 1) h371 (by kernel_rfl) rfl (by kernel_rfl) (by kernel_rfl) ⟨trivial, trivial, trivial⟩ trivial fun a376 h377 => ?_
        clear h371
        refine wpAnyK_one (i := 8) (fuel := 0) (by kernel_rfl) ?_
        refine op_mTh (x := s) (off := 2) (v := .agg #[.int .u16 ((Z.ky r).idx), .int .u32 ((Z.ky r).gen)]) (y := { a.th s with st := 6, wait := ⟨(Z.ky r).idx, (Z.ky r).gen⟩ }) h377 rfl rfl rfl rfl rfl rfl rfl rfl rfl hsm rfl (by rw [ht373]; rfl) (kcons (fun _ => rfl) (kcons (fun hq => by cases hq) (kcons (fun hq => by cases hq) knil))) fun w378 hf379 h380 => ?_
        obtain ⟨a381, ea381⟩ : ∃ z : AK, z = a372.setT s { a.th s with st := 6, wait := ⟨(Z.ky r).idx, (Z.ky r).gen⟩ } := ⟨_, rfl⟩
        rw [← ea381] at h380
        refine ⟨keepNil, ?_⟩
        clear h377
        have ht382 : a381.th s = { a.th s with st := 6, wait := ⟨(Z.ky r).idx, (Z.ky r).gen⟩ } := by rw [ea381]; exact upd_same _ _ _
        have ht383 : a381.th r = { a.th r with badge := (a.th s).badge, m0 := (a.th s).m0, m1 := (a.th s).m1, m2 := (a.th s).m2, m3 := (a.th s).m3, len := (a.th s).len, got := 0 } := by rw [ea381]; exact (upd_other _ _ hsr.symm).trans ht374
        refine wpAnyK_done (by kernel_rfl) ?_ _
        refine hK363 _ _ ?_
        clear hK363
        refine nd_start (l := [0, 1, 2, 3, 4]) rfl ?_
        refine nd_batch tabOk2 tabZ_ok2 [(0, {}), (1, {k := 1}), (2, {}), (3, {})] [5, 4, 0, 1, 2, 6, 7, 126, 128] (T' := [(5, .pointer (some ⟨b8, 0, none⟩)), (4, .pointer (some ⟨b2, 0, none⟩)), (0, .pointer (some ⟨mb, 0, none⟩)), (1, .agg #[.int .u16 ((Z.ky s).idx), .int .u32 ((Z.ky s).gen)]), (2, .agg #[.int .u16 ((Z.ky r).idx), .int .u32 ((Z.ky r).gen)]), (6, .pointer (some ⟨(Z.tp s), 0, none⟩)), (7, .pointer (some ⟨(Z.tp r), 0, none⟩)), (126, .agg #[.int .u16 ((Z.ky s).idx), .int .u32 ((Z.ky s).gen)]), (128, .pointer (some ⟨(Z.tp r), 6, none⟩))]) (φ := (b2 = b2 ∧ Nat.ble (0 + 2) 2 = true) ∧ True) (rest := [4]) h380 (by kernel_rfl) rfl ⟨⟨rfl, rfl⟩, trivial⟩ fun a384 h385 => ?_
        clear h380
        refine nd_op ?_
        refine op_mTh (x := r) (off := 6) (v := .agg #[.int .u16 ((Z.ky s).idx), .int .u32 ((Z.ky s).gen)]) (y := { a.th r with rep := ⟨(Z.ky s).idx, (Z.ky s).gen⟩, badge := (a.th s).badge, m0 := (a.th s).m0, m1 := (a.th s).m1, m2 := (a.th s).m2, m3 := (a.th s).m3, len := (a.th s).len, got := 0 }) h385 rfl rfl rfl rfl rfl rfl rfl rfl rfl hrm rfl (by rw [ht383]; rfl) (kcons (fun _ => rfl) (kcons (fun hq => by cases hq) (kcons (fun hq => by cases hq) knil))) fun w386 hf387 h388 => ?_
        obtain ⟨a389, ea389⟩ : ∃ z : AK, z = a381.setT r { a.th r with rep := ⟨(Z.ky s).idx, (Z.ky s).gen⟩, badge := (a.th s).badge, m0 := (a.th s).m0, m1 := (a.th s).m1, m2 := (a.th s).m2, m3 := (a.th s).m3, len := (a.th s).len, got := 0 } := ⟨_, rfl⟩
        rw [← ea389] at h388
        clear h385
        have ht390 : a389.th s = { a.th s with st := 6, wait := ⟨(Z.ky r).idx, (Z.ky r).gen⟩ } := by rw [ea389]; exact (upd_other _ _ hsr).trans ht382
        have ht391 : a389.th r = { a.th r with rep := ⟨(Z.ky s).idx, (Z.ky s).gen⟩, badge := (a.th s).badge, m0 := (a.th s).m0, m1 := (a.th s).m1, m2 := (a.th s).m2, m3 := (a.th s).m3, len := (a.th s).len, got := 0 } := by rw [ea389]; exact upd_same _ _ _
        refine nd_done ?_
        try simp only [Exit.then, Exit.inBlock]
        try rw [if_pos trivial]
        exact s_end tabOk2 tabZ_ok2 h388 [] (vs := []) (φ := True) rfl (by kernel_rfl) trivial (by have hz : (C : CP) = (deliverA a C s r).2 := (by rw [hD]); rw [← hz]; exact ⟨rfl, _, mg_end hH h388 hhoh358 (by rw [hD]; subst ea389 ea381 ea372 ea359; exact passA_yes ht78 ht79 hsr.symm hc351)⟩)
      ·
        have hD : deliverA a C s r = (a77, C) := (deliver_no hsr (.inr (by simpa using hc92))).trans (by subst ea77 ea68 ea59 ea50; simp only [setT_setT, del0A])
        refine wp_skip ?_
        try simp only [Exit.then, Exit.inBlock]
        try rw [if_pos trivial]
        exact s_end tabOk2 tabZ_ok2 h350 [] (vs := []) (φ := True) rfl (by kernel_rfl) trivial (by have hz : (C : CP) = (deliverA a C s r).2 := (by rw [hD]); rw [← hz]; exact ⟨rfl, _, mg_end hH h350 hho (by rw [hD]; exact (passA_no ht78 hc351).symm)⟩)
  ·
    refine nd_start (l := [0, 1, 2, 3, 4, 5, 6, 7, 8, 9, 10]) rfl ?_
    refine nd_batch tabOk2 tabZ_ok2 [(0, {}), (1, {}), (2, {})] [5, 4, 0, 1, 2, 6, 7, 50] (T' := [(5, .pointer (some ⟨b8, 0, none⟩)), (4, .pointer (some ⟨b2, 0, none⟩)), (0, .pointer (some ⟨mb, 0, none⟩)), (1, .agg #[.int .u16 ((Z.ky s).idx), .int .u32 ((Z.ky s).gen)]), (2, .agg #[.int .u16 ((Z.ky r).idx), .int .u32 ((Z.ky r).gen)]), (6, .pointer (some ⟨(Z.tp s), 0, none⟩)), (7, .pointer (some ⟨(Z.tp r), 0, none⟩)), (50, .pointer (some ⟨(Z.tp s), 17, none⟩))]) (φ := True) (rest := [3, 4, 5, 6, 7, 8, 9, 10]) h76 (by kernel_rfl) rfl trivial fun a392 h393 => ?_
    clear h76
    refine nd_op ?_
    refine op_read (b := (Z.tp s)) (v := .bool false) h393 rfl rfl (rd_th h393 (x := s) (k := 17) (v := .bool false) hsm rfl rfl rfl rfl (by rw [ht78, ← hb83]; exact ⟨rfl, trivial⟩)) ?_
    have h394 := h393.put (d := some 51) (v := .bool false) (T' := [(51, .bool false), (5, .pointer (some ⟨b8, 0, none⟩)), (4, .pointer (some ⟨b2, 0, none⟩)), (0, .pointer (some ⟨mb, 0, none⟩)), (1, .agg #[.int .u16 ((Z.ky s).idx), .int .u32 ((Z.ky s).gen)]), (2, .agg #[.int .u16 ((Z.ky r).idx), .int .u32 ((Z.ky r).gen)]), (6, .pointer (some ⟨(Z.tp s), 0, none⟩)), (7, .pointer (some ⟨(Z.tp r), 0, none⟩)), (50, .pointer (some ⟨(Z.tp s), 17, none⟩))]) rfl
    clear h393
    refine nd_batch tabOk2 tabZ_ok2 [(4, {}), (5, {}), (6, {}), (7, {}), (8, {}), (9, {}), (10, {})] [5, 4, 0, 1, 2, 6, 7, 58] (T' := [(5, .pointer (some ⟨b8, 0, none⟩)), (4, .pointer (some ⟨b2, 0, none⟩)), (0, .pointer (some ⟨mb, 0, none⟩)), (1, .agg #[.int .u16 ((Z.ky s).idx), .int .u32 ((Z.ky s).gen)]), (2, .agg #[.int .u16 ((Z.ky r).idx), .int .u32 ((Z.ky r).gen)]), (6, .pointer (some ⟨(Z.tp s), 0, none⟩)), (7, .pointer (some ⟨(Z.tp r), 0, none⟩)), (58, .bool false)]) (φ := True) (rest := []) h394 (by kernel_rfl) rfl trivial fun a395 h396 => ?_
    clear h394
    refine nd_done ?_
    refine hK82 _ _ ?_
    clear hK82
    refine c_false h396 rfl ?_
    refine wp_skip ?_
    refine hK81 _ _ ?_
    clear hK81
    refine wp_seq_k fun K397 hK397 => ?_
    refine nd_start (l := [0, 1, 2, 3]) rfl ?_
    refine nd_batch tabOk2 tabZ_ok2 [(0, {}), (1, {}), (2, {})] [5, 4, 0, 1, 2, 6, 7, 113] (T' := [(5, .pointer (some ⟨b8, 0, none⟩)), (4, .pointer (some ⟨b2, 0, none⟩)), (0, .pointer (some ⟨mb, 0, none⟩)), (1, .agg #[.int .u16 ((Z.ky s).idx), .int .u32 ((Z.ky s).gen)]), (2, .agg #[.int .u16 ((Z.ky r).idx), .int .u32 ((Z.ky r).gen)]), (6, .pointer (some ⟨(Z.tp s), 0, none⟩)), (7, .pointer (some ⟨(Z.tp r), 0, none⟩)), (113, .pointer (some ⟨(Z.tp s), 18, none⟩))]) (φ := True) (rest := [3]) h396 (by kernel_rfl) rfl trivial fun a398 h399 => ?_
    clear h396
    refine nd_op ?_
    refine op_read (b := (Z.tp s)) (v := .bool ((a.th s).call)) h399 rfl rfl (rd_th h399 (x := s) (k := 18) (v := .bool ((a.th s).call)) hsm rfl rfl rfl rfl (by rw [ht78]; exact ⟨rfl, trivial⟩)) ?_
    have h400 := h399.put (d := some 114) (v := .bool ((a.th s).call)) (T' := [(114, .bool ((a.th s).call)), (5, .pointer (some ⟨b8, 0, none⟩)), (4, .pointer (some ⟨b2, 0, none⟩)), (0, .pointer (some ⟨mb, 0, none⟩)), (1, .agg #[.int .u16 ((Z.ky s).idx), .int .u32 ((Z.ky s).gen)]), (2, .agg #[.int .u16 ((Z.ky r).idx), .int .u32 ((Z.ky r).gen)]), (6, .pointer (some ⟨(Z.tp s), 0, none⟩)), (7, .pointer (some ⟨(Z.tp r), 0, none⟩)), (113, .pointer (some ⟨(Z.tp s), 18, none⟩))]) rfl
    clear h399
    refine nd_done ?_
    refine hK397 _ _ ?_
    clear hK397
    refine c_split h400 (b := (a.th s).call) rfl (fun hc401 => ?_) (fun hc401 => ?_)
    ·
      have hD : deliverA a C s r = (a77, C) := (deliver_no hsr (.inl hb83)).trans (by subst ea77 ea68 ea59 ea50; simp only [setT_setT, del0A])
      refine wp_seq_k fun K402 hK402 => ?_
      refine nd_start (l := [0, 1, 2]) rfl ?_
      refine nd_batch tabOk2 tabZ_ok2 [(0, {}), (1, {k := 1})] [5, 4, 0, 1, 2, 6, 7, 115, 116] (T' := [(5, .pointer (some ⟨b8, 0, none⟩)), (4, .pointer (some ⟨b2, 0, none⟩)), (0, .pointer (some ⟨mb, 0, none⟩)), (1, .agg #[.int .u16 ((Z.ky s).idx), .int .u32 ((Z.ky s).gen)]), (2, .agg #[.int .u16 ((Z.ky r).idx), .int .u32 ((Z.ky r).gen)]), (6, .pointer (some ⟨(Z.tp s), 0, none⟩)), (7, .pointer (some ⟨(Z.tp r), 0, none⟩)), (115, .pointer (some ⟨mb, 0, none⟩)), (116, .agg #[.int .u16 ((Z.ky s).idx), .int .u32 ((Z.ky s).gen)])]) (φ := (b2 = b2 ∧ Nat.ble (0 + 2) 2 = true) ∧ True) (rest := [2]) h400 (by kernel_rfl) rfl ⟨⟨rfl, rfl⟩, trivial⟩ fun a403 h404 => ?_
      clear h400
      refine nd_op ?_
      refine op_call h404 rfl rfl rfl (callOk Tryd.func87 (by decide) rfl) (args := [.pointer (some ⟨mb, 0, none⟩), .agg #[.int .u16 ((Z.ky s).idx), .int .u32 ((Z.ky s).gen)]]) rfl (idle_ok mb Z _ a77 _ s hsm hP80 _ (mh_of h404 hho (k := 0) rfl)) ?_
      rintro _ w405 ⟨rfl, R406, hg407⟩
      refine ⟨_, rfl, ?_⟩
      have h408a := st_mg h404 hg407 (kcons (fun _ => rfl) (kcons (fun hq => by cases hq) (kcons (fun hq => by cases hq) knil)))
      have h408 := h408a.put (d := some 117) (v := .tuple #[]) (T' := [(117, .tuple #[]), (5, .pointer (some ⟨b8, 0, none⟩)), (4, .pointer (some ⟨b2, 0, none⟩)), (0, .pointer (some ⟨mb, 0, none⟩)), (1, .agg #[.int .u16 ((Z.ky s).idx), .int .u32 ((Z.ky s).gen)]), (2, .agg #[.int .u16 ((Z.ky r).idx), .int .u32 ((Z.ky r).gen)]), (6, .pointer (some ⟨(Z.tp s), 0, none⟩)), (7, .pointer (some ⟨(Z.tp r), 0, none⟩)), (115, .pointer (some ⟨mb, 0, none⟩)), (116, .agg #[.int .u16 ((Z.ky s).idx), .int .u32 ((Z.ky s).gen)])]) rfl
      have hhoh408 := hg407.mh.ho
      obtain ⟨a409, ea409⟩ : ∃ z : AK, z = leaveA a77 s := ⟨_, rfl⟩
      rw [← ea409] at h408
      clear h404 h408a
      have ht410 : a409.th s = { a.th s with st := 0, wait := ⟨0, 0⟩ } := by rw [ea409, leave_th, ht78]
      have ht411 : a409.th r = { a.th r with badge := (a.th s).badge, m0 := (a.th s).m0, m1 := (a.th s).m1, m2 := (a.th s).m2, m3 := (a.th s).m3, len := (a.th s).len, got := 0 } := by rw [ea409]; exact (leave_tho hsr.symm).trans ht79
      have hP412 : MP Z a409 := by rw [ea409]; exact MP.leave hP80 hkk hsm
      refine nd_done ?_
      refine hK402 _ _ ?_
      clear hK402
      refine wp_seq_k fun K413 hK413 => ?_
      refine dr_start (KB := [3, b2, b8]) (Bi := [[0, 1, 2], [0, 1, 2], [0, 1, 2], [0, 1, 2], [0, 1, 2], [2], [0, 1, 2], [0, 1, 2], []]) mixed h408 fun w414 h415 => ?_
      clear h408
      refine dr_batch tabOk2 tabZ_ok2 (by repeat (first | with_reducible exact PF.body | with_reducible apply PF.inB | with_reducible apply PF.next)) [(0, {}), (1, {}), (2, {k := 2, p := 2}), (3, {}), (4, {})] [5, 4, 0, 1, 2, 6, 7, 119, 120, 122] (T' := [(5, .pointer (some ⟨b8, 0, none⟩)), (4, .pointer (some ⟨b2, 0, none⟩)), (0, .pointer (some ⟨mb, 0, none⟩)), (1, .agg #[.int .u16 ((Z.ky s).idx), .int .u32 ((Z.ky s).gen)]), (2, .agg #[.int .u16 ((Z.ky r).idx), .int .u32 ((Z.ky r).gen)]), (6, .pointer (some ⟨(Z.tp s), 0, none⟩)), (7, .pointer (some ⟨(Z.tp r), 0, none⟩)), (119, .pointer (some ⟨(Z.tp s), 0, none⟩)), (120, .agg #[.int .u16 ((Z.ky r).idx), .int .u32 ((Z.ky r).gen)]), (122, .pointer (some ⟨(Z.tp s), 0, none⟩))]) (φ := (b8 = b8 ∧ Nat.ble (0 + 2) 2 = true) ∧ True) (fuel := 4) h415 (by kernel_rfl) rfl (by kernel_rfl) (by kernel_rfl) ⟨trivial, trivial, rfl, trivial, trivial, trivial⟩ ⟨⟨rfl, rfl⟩, trivial⟩ fun a417 h418 => ?_
      clear h415
      refine wpAnyK_one (i := 5) (fuel := 3) (by kernel_rfl) ?_
      refine op_mTh (x := s) (off := 0) (v := .int .u8 6) (y := { a.th s with st := 6, wait := ⟨0, 0⟩ }) h418 rfl rfl rfl rfl rfl rfl rfl rfl rfl hsm rfl (by rw [ht410]; rfl) (kcons (fun _ => rfl) (kcons (fun hq => by cases hq) (kcons (fun hq => by cases hq) knil))) fun w419 hf420 h421 => ?_
      obtain ⟨a422, ea422⟩ : ∃ z : AK, z = a409.setT s { a.th s with st := 6, wait := ⟨0, 0⟩ } := ⟨_, rfl⟩
      rw [← ea422] at h421
      refine ⟨(keepCons (kpL h418 h421 (q := 2) (q' := 2) rfl rfl) keepNil), ?_⟩
      clear h418
      have ht423 : a422.th s = { a.th s with st := 6, wait := ⟨0, 0⟩ } := by rw [ea422]; exact upd_same _ _ _
      have ht424 : a422.th r = { a.th r with badge := (a.th s).badge, m0 := (a.th s).m0, m1 := (a.th s).m1, m2 := (a.th s).m2, m3 := (a.th s).m3, len := (a.th s).len, got := 0 } := by rw [ea422]; exact (upd_other _ _ hsr.symm).trans ht411
      refine dr_batch tabOk2 tabZ_ok2 (by repeat (first | with_reducible exact PF.body | with_reducible apply PF.inB | with_reducible apply PF.next)) [(6, {}), (7, {})] [5, 4, 0, 1, 2, 6, 7, 120, 124] (T' := [(5, .pointer (some ⟨b8, 0, none⟩)), (4, .pointer (some ⟨b2, 0, none⟩)), (0, .pointer (some ⟨mb, 0, none⟩)), (1, .agg #[.int .u16 ((Z.ky s).idx), .int .u32 ((Z.ky s).gen)]), (2, .agg #[.int .u16 ((Z.ky r).idx), .int .u32 ((Z.ky r).gen)]), (6, .pointer (some ⟨(Z.tp s), 0, none⟩)), (7, .pointer (some ⟨(Z.tp r), 0, none⟩)), (120, .agg #[.int .u16 ((Z.ky r).idx), .int .u32 ((Z.ky r).gen)]), (124, .pointer (some ⟨(Z.tp s), 2, none⟩))]) (φ := True) (fuel := 1) h421 (by kernel_rfl) rfl (by kernel_rfl) (by kernel_rfl) ⟨trivial, trivial, trivial⟩ trivial fun a426 h427 => ?_
      clear h421
      refine wpAnyK_one (i := 8) (fuel := 0) (by kernel_rfl) ?_
      refine op_mTh (x := s) (off := 2) (v := .agg #[.int .u16 ((Z.ky r).idx), .int .u32 ((Z.ky r).gen)]) (y := { a.th s with st := 6, wait := ⟨(Z.ky r).idx, (Z.ky r).gen⟩ }) h427 rfl rfl rfl rfl rfl rfl rfl rfl rfl hsm rfl (by rw [ht423]; rfl) (kcons (fun _ => rfl) (kcons (fun hq => by cases hq) (kcons (fun hq => by cases hq) knil))) fun w428 hf429 h430 => ?_
      obtain ⟨a431, ea431⟩ : ∃ z : AK, z = a422.setT s { a.th s with st := 6, wait := ⟨(Z.ky r).idx, (Z.ky r).gen⟩ } := ⟨_, rfl⟩
      rw [← ea431] at h430
      refine ⟨keepNil, ?_⟩
      clear h427
      have ht432 : a431.th s = { a.th s with st := 6, wait := ⟨(Z.ky r).idx, (Z.ky r).gen⟩ } := by rw [ea431]; exact upd_same _ _ _
      have ht433 : a431.th r = { a.th r with badge := (a.th s).badge, m0 := (a.th s).m0, m1 := (a.th s).m1, m2 := (a.th s).m2, m3 := (a.th s).m3, len := (a.th s).len, got := 0 } := by rw [ea431]; exact (upd_other _ _ hsr.symm).trans ht424
      refine wpAnyK_done (by kernel_rfl) ?_ _
      refine hK413 _ _ ?_
      clear hK413
      refine nd_start (l := [0, 1, 2, 3, 4]) rfl ?_
      refine nd_batch tabOk2 tabZ_ok2 [(0, {}), (1, {k := 1}), (2, {}), (3, {})] [5, 4, 0, 1, 2, 6, 7, 126, 128] (T' := [(5, .pointer (some ⟨b8, 0, none⟩)), (4, .pointer (some ⟨b2, 0, none⟩)), (0, .pointer (some ⟨mb, 0, none⟩)), (1, .agg #[.int .u16 ((Z.ky s).idx), .int .u32 ((Z.ky s).gen)]), (2, .agg #[.int .u16 ((Z.ky r).idx), .int .u32 ((Z.ky r).gen)]), (6, .pointer (some ⟨(Z.tp s), 0, none⟩)), (7, .pointer (some ⟨(Z.tp r), 0, none⟩)), (126, .agg #[.int .u16 ((Z.ky s).idx), .int .u32 ((Z.ky s).gen)]), (128, .pointer (some ⟨(Z.tp r), 6, none⟩))]) (φ := (b2 = b2 ∧ Nat.ble (0 + 2) 2 = true) ∧ True) (rest := [4]) h430 (by kernel_rfl) rfl ⟨⟨rfl, rfl⟩, trivial⟩ fun a434 h435 => ?_
      clear h430
      refine nd_op ?_
      refine op_mTh (x := r) (off := 6) (v := .agg #[.int .u16 ((Z.ky s).idx), .int .u32 ((Z.ky s).gen)]) (y := { a.th r with rep := ⟨(Z.ky s).idx, (Z.ky s).gen⟩, badge := (a.th s).badge, m0 := (a.th s).m0, m1 := (a.th s).m1, m2 := (a.th s).m2, m3 := (a.th s).m3, len := (a.th s).len, got := 0 }) h435 rfl rfl rfl rfl rfl rfl rfl rfl rfl hrm rfl (by rw [ht433]; rfl) (kcons (fun _ => rfl) (kcons (fun hq => by cases hq) (kcons (fun hq => by cases hq) knil))) fun w436 hf437 h438 => ?_
      obtain ⟨a439, ea439⟩ : ∃ z : AK, z = a431.setT r { a.th r with rep := ⟨(Z.ky s).idx, (Z.ky s).gen⟩, badge := (a.th s).badge, m0 := (a.th s).m0, m1 := (a.th s).m1, m2 := (a.th s).m2, m3 := (a.th s).m3, len := (a.th s).len, got := 0 } := ⟨_, rfl⟩
      rw [← ea439] at h438
      clear h435
      have ht440 : a439.th s = { a.th s with st := 6, wait := ⟨(Z.ky r).idx, (Z.ky r).gen⟩ } := by rw [ea439]; exact (upd_other _ _ hsr).trans ht432
      have ht441 : a439.th r = { a.th r with rep := ⟨(Z.ky s).idx, (Z.ky s).gen⟩, badge := (a.th s).badge, m0 := (a.th s).m0, m1 := (a.th s).m1, m2 := (a.th s).m2, m3 := (a.th s).m3, len := (a.th s).len, got := 0 } := by rw [ea439]; exact upd_same _ _ _
      refine nd_done ?_
      try simp only [Exit.then, Exit.inBlock]
      try rw [if_pos trivial]
      exact s_end tabOk2 tabZ_ok2 h438 [] (vs := []) (φ := True) rfl (by kernel_rfl) trivial (by have hz : (C : CP) = (deliverA a C s r).2 := (by rw [hD]); rw [← hz]; exact ⟨rfl, _, mg_end hH h438 hhoh408 (by rw [hD]; subst ea439 ea431 ea422 ea409; exact passA_yes ht78 ht79 hsr.symm hc401)⟩)
    ·
      have hD : deliverA a C s r = (a77, C) := (deliver_no hsr (.inl hb83)).trans (by subst ea77 ea68 ea59 ea50; simp only [setT_setT, del0A])
      refine wp_skip ?_
      try simp only [Exit.then, Exit.inBlock]
      try rw [if_pos trivial]
      exact s_end tabOk2 tabZ_ok2 h400 [] (vs := []) (φ := True) rfl (by kernel_rfl) trivial (by have hz : (C : CP) = (deliverA a C s r).2 := (by rw [hD]); rw [← hz]; exact ⟨rfl, _, mg_end hH h400 hho (by rw [hD]; exact (passA_no ht78 hc401).symm)⟩)

end Go.Proofs.Qxb6500918aDoor
