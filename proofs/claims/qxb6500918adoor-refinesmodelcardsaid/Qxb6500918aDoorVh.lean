/-
  Kernel and model agree. (Made by program: a symbolic walk that prints its steps.)
-/
import Derived.Test.Qxb6500918aDoorVg
import Derived.Test.Qxb6500918aDoorUv
import Derived.Test.Qxb6500918aDoorUl
namespace Go.Proofs.Qxb6500918aDoor
open Go.Sx Go.Kn
set_option maxRecDepth 100000
set_option maxHeartbeats 4000000
set_option linter.unusedVariables false
set_option linter.unusedSimpArgs false

theorem now_ok (kb bo bc : Nat) (S : KP) (w : World) (hb : w.heap[kb]? = some (Blk.obj ⟨kC bo bc S, 90, false⟩)) :
    Calls Tryd.prog 46 #[.pointer (some ⟨kb, 0, none⟩)] w fun e w' => e = .returned (.int .u64 S.now) ∧ Fr [] w w' := by
  refine enter0 (n := 7) (K := []) (T := [(0, .pointer (some ⟨kb, 0, none⟩))]) (L := [(kb, ⟨kC bo bc S, 90, true⟩)]) (args := [.pointer (some ⟨kb, 0, none⟩)]) Tryd.func46 rfl rfl rfl rfl (kcons hb knil) (by simp) (kcons (by intro hq; cases hq) knil) ?_
  intro a h
  refine wp_seq_k fun K1 hK1 => ?_
  refine nd_start (l := [0]) rfl ?_
  refine nd_batch tabOk2 tabZ_ok2 [(0, {})] [0, 2] (T' := [(0, .pointer (some ⟨kb, 0, none⟩)), (2, .int .u64 0)]) (φ := True) (rest := []) h (by kernel_rfl) rfl trivial fun a2 h3 => ?_
  clear h
  refine nd_done ?_
  refine hK1 _ _ ?_
  clear hK1
  refine wp_seq_k fun K4 hK4 => ?_
  refine nd_start (l := [0, 1, 2, 3, 4]) rfl ?_
  refine nd_batch tabOk2 tabZ_ok2 [(0, {}), (1, {}), (2, {}), (3, {k := 0, m := 1, vs := [.int .u64 S.now]}), (4, {})] [0, 2] (T' := [(0, .pointer (some ⟨kb, 0, none⟩)), (2, .int .u64 S.now)]) (φ := (kb = kb ∧ cellsAre (kC bo bc S) 6492 [.int .u64 S.now]) ∧ True) (rest := []) h3 (by kernel_rfl) rfl ⟨⟨rfl, k_now⟩, trivial⟩ fun a5 h6 => ?_
  clear h3
  refine nd_done ?_
  refine hK4 _ _ ?_
  clear hK4
  refine wp_ret ?_
  try simp only [Exit.then, Exit.inBlock]
  try rw [if_pos trivial]
  exact s_ret tabOk2 tabZ_ok2 h6 [(.tmp 2, {})] (vs := [.int .u64 S.now]) (φ := True) rfl (by kernel_rfl) trivial ⟨rfl, h6.frame⟩

theorem live_le (E : Nat → Ent) (t : Int) : (liveI E t).length ≤ 256 := by
  have h := List.length_filter_le (fun i => decide ((E i).ty = t)) (List.range 256)
  rw [List.length_range] at h
  exact h

theorem agreesee (kb bo bc : Nat) (nd : Nat → Nat) (S : KP) (n : Int) (mb : Nat) (Z : MZ) (R : MR) (a : AK) (C : CP) (hI : MI Z a C) (hv : Iv S a C n) (X3 X4 X5 : List Nat) (hX3 : liveI C.ent 3 = X3) (hX4 : liveI C.ent 4 = X4) (hX5 : liveI C.ent 5 = X5) (NS NP : List Int) (hNS : [] ++ uvs (storeN C.ent) = NS) (hNP : [] ++ uvs (spaceN C) = NP) (h3e : X3 = []) (h45e : (X4 ++ X5) = []) (w : World) (hker : w.heap[kb]? = some (Blk.obj ⟨kC bo bc S, 90, false⟩)) (hcap : CapAt w bo bc nd C) (hkn : kb ∉ capF bo bc nd C) (hdis : ∀ b ∈ kb :: capF bo bc nd C, b ∉ mdF mb Z R C) (hH : MH mb Z R a C w) :
    Calls Tryd.prog 13 #[.pointer (some ⟨kb, 0, none⟩), .pointer (some ⟨mb, 0, none⟩)] w fun e w' => e = .returned (.bool true) ∧ MG mb Z R C w Z R a C w' := by
  have hrS := hv.ab.ri
  have hQ := hv.ab.li
  have h256 := hv.ci.reg.1
  have hkbo : kb ≠ bo := fun e => hkn (mem_capF.2 (.inl e))
  have hrc := cur_same hI hH.md.k hv
  have hl3 : (kys Z X3).length = Z.tl.length := by rw [← hX3, ← live_kys hI]; exact live_len3 hI hH.md.k
  have hl45 : (kys Z (X4 ++ X5)).length = Z.ql.length := by rw [kys_len, ← hX4, ← hX5]; exact live_len45 hI hH.md.k
  have hle3 : X3.length ≤ 256 := by rw [← hX3]; exact live_le C.ent 3
  have hle4 : X4.length ≤ 256 := by rw [← hX4]; exact live_le C.ent 4
  have hle5 : X5.length ≤ 256 := by rw [← hX5]; exact live_le C.ent 5
  have hk3 := kys_len Z X3
  have hk45 := kys_len Z (X4 ++ X5)
  have ha45 : (X4 ++ X5).length = X4.length + X5.length := List.length_append
  obtain ⟨ty3, hg3⟩ := hH.g3
  have hho := hH.ho
  have hkk := hH.md.k
  refine enter (n := 192) (K := mdF mb Z R C) (A := MD (mdF mb Z R C) w.heap.size mb Z R a C) (F := mdF mb Z R C) (T := [(0, .pointer (some ⟨kb, 0, none⟩)), (1, .pointer (some ⟨mb, 0, none⟩))]) (L := [(3, ⟨[.int .u16 0, .int .u32 0], ty3, true⟩)]) (args := [.pointer (some ⟨kb, 0, none⟩), .pointer (some ⟨mb, 0, none⟩)]) Tryd.func13 rfl rfl rfl rfl (kcons hg3 knil) (by simp) (kcons (by intro hq; cases hq) knil) hH.mD MD.stable hH.md.low (kcons (by intro hq; cases hq) knil) ?_
  intro ac h
  refine wp_seq_k fun K1 hK1 => ?_
  refine nd_start (l := [0]) rfl ?_
  refine nd_batch tabOk2 tabZ_ok2 [(0, {})] [0, 1, 4] (T' := [(0, .pointer (some ⟨kb, 0, none⟩)), (1, .pointer (some ⟨mb, 0, none⟩)), (4, .bool false)]) (φ := True) (rest := []) h (by kernel_rfl) rfl trivial fun a2 h3 => ?_
  clear h
  refine nd_done ?_
  refine hK1 _ _ ?_
  clear hK1
  refine wp_seq_k fun K4 hK4 => ?_
  refine nd_start (l := [0, 1, 2, 3, 4, 5, 6]) rfl ?_
  refine nd_batch tabOk2 tabZ_ok2 [(0, {})] [0, 1, 4, 24] (T' := [(0, .pointer (some ⟨kb, 0, none⟩)), (1, .pointer (some ⟨mb, 0, none⟩)), (4, .bool false), (24, .pointer (some ⟨kb, 0, none⟩))]) (φ := True) (rest := [1, 2, 3, 4, 5, 6]) h3 (by kernel_rfl) rfl trivial fun a5 h6 => ?_
  clear h3
  refine nd_op ?_
  refine op_call h6 rfl rfl rfl (callOk Tryd.func43 (by decide) rfl) (args := [.pointer (some ⟨kb, 0, none⟩)]) rfl (lower_ok kb bo bc S _ (kpK hker h6.frame (hdis _ (List.mem_cons_self ..)))) ?_
  rintro _ w7 ⟨rfl, hf9⟩
  refine ⟨_, rfl, ?_⟩
  have h8 := (h6.grow hf9).put (d := some 25) (v := .tuple #[.pointer (some ⟨bo, 0, none⟩), .pointer (some ⟨bc, 0, none⟩)]) (T' := [(25, .tuple #[.pointer (some ⟨bo, 0, none⟩), .pointer (some ⟨bc, 0, none⟩)]), (0, .pointer (some ⟨kb, 0, none⟩)), (1, .pointer (some ⟨mb, 0, none⟩)), (4, .bool false), (24, .pointer (some ⟨kb, 0, none⟩))]) rfl
  clear h6
  refine nd_batch tabOk2 tabZ_ok2 [(2, {}), (3, {}), (4, {}), (5, {}), (6, {})] [0, 1, 4, 5, 6] (T' := [(0, .pointer (some ⟨kb, 0, none⟩)), (1, .pointer (some ⟨mb, 0, none⟩)), (4, .bool false), (5, .pointer (some ⟨bo, 0, none⟩)), (6, .pointer (some ⟨bc, 0, none⟩))]) (φ := True) (rest := []) h8 (by kernel_rfl) rfl trivial fun a10 h11 => ?_
  clear h8
  refine nd_done ?_
  refine hK4 _ _ ?_
  clear hK4
  refine wp_seq_k fun K12 hK12 => ?_
  refine wp_seq_k fun K13 hK13 => ?_
  refine dr_start (KB := [3, mb]) (Bi := [[0, 1], [1], [0, 1], [0, 1], [0, 1], [0, 1], [], [], [0, 1], [0, 1], [0, 1], [1], [0, 1], [0, 1], [0, 1], [0, 1], [], [], [0, 1], [0, 1]]) mixed h11 fun w14 h15 => ?_
  clear h11
  refine dr_batch tabOk2 tabZ_ok2 (by repeat (first | with_reducible exact PF.body | with_reducible apply PF.inB | with_reducible apply PF.next)) [(0, {}), (2, {}), (3, {}), (4, {})] [0, 1, 4, 5, 6, 28, 32] (T' := [(0, .pointer (some ⟨kb, 0, none⟩)), (1, .pointer (some ⟨mb, 0, none⟩)), (4, .bool false), (5, .pointer (some ⟨bo, 0, none⟩)), (6, .pointer (some ⟨bc, 0, none⟩)), (28, .pointer (some ⟨bo, 0, none⟩)), (32, .pointer (some ⟨mb, 0, none⟩))]) (φ := True) (fuel := 16) h15 (by kernel_rfl) rfl (by kernel_rfl) (by kernel_rfl) ⟨trivial, trivial, trivial, trivial, trivial⟩ trivial fun a17 h18 => ?_
  clear h15
  refine dr_read (i := 5) (b := mb) (p := 1) (v := .pointer (some ⟨Z.mo, 0, none⟩)) (fuel := 15) (by repeat (first | with_reducible exact PF.body | with_reducible apply PF.inB | with_reducible apply PF.next)) h18 rfl rfl rfl (by kernel_rfl) (by kernel_rfl) (by kernel_rfl) rfl (rd_m h18 (k := 0) (v := .pointer (some ⟨Z.mo, 0, none⟩)) rfl rfl rfl rfl (md_p ⟨rfl, trivial⟩)) ?_
  have h19 := h18.put (d := some 33) (v := .pointer (some ⟨Z.mo, 0, none⟩)) (T' := [(33, .pointer (some ⟨Z.mo, 0, none⟩)), (0, .pointer (some ⟨kb, 0, none⟩)), (1, .pointer (some ⟨mb, 0, none⟩)), (4, .bool false), (5, .pointer (some ⟨bo, 0, none⟩)), (6, .pointer (some ⟨bc, 0, none⟩)), (28, .pointer (some ⟨bo, 0, none⟩)), (32, .pointer (some ⟨mb, 0, none⟩))]) rfl
  clear h18
  refine wpAnyK_one (i := 1) (fuel := 14) (by kernel_rfl) ?_
  refine op_call h19 rfl rfl rfl (callOk Tryd.func44 (by decide) rfl) (args := [.pointer (some ⟨bo, 0, none⟩), .slice none 0 0]) rfl (by have h9 := storeBytes_ok bo C.ent hv.uc.e none 0 [] [] _ (cpK hcap h19.frame hdis).st rwsNil (by simp) (by simp); rw [hNS] at h9; exact h9) ?_
  rintro _ w26 ⟨o20, c21, F22, rfl, hr23, hf24, hF25⟩
  refine ⟨_, rfl, ?_⟩
  refine ⟨(keepCons (kpM h19.inv.1 (l := .m) trivial (List.mem_cons_self ..) hf24) keepNil), ?_⟩
  have h27 := (h19.grow hf24).put (d := some 29) (v := .slice o20 NS.length c21) (T' := [(29, .slice o20 NS.length c21), (33, .pointer (some ⟨Z.mo, 0, none⟩)), (0, .pointer (some ⟨kb, 0, none⟩)), (1, .pointer (some ⟨mb, 0, none⟩)), (4, .bool false), (5, .pointer (some ⟨bo, 0, none⟩)), (6, .pointer (some ⟨bc, 0, none⟩)), (28, .pointer (some ⟨bo, 0, none⟩)), (32, .pointer (some ⟨mb, 0, none⟩))]) rfl
  clear h19
  refine wpAnyK_one (i := 6) (fuel := 13) (by kernel_rfl) ?_
  refine op_call h27 rfl rfl rfl (callOk Tryd.func44 (by decide) rfl) (args := [.pointer (some ⟨Z.mo, 0, none⟩), .slice none 0 0]) rfl (by have h9 := storeBytes_ok Z.mo C.ent hv.uc.e none 0 [] [] _ h27.inv.1.cp.st rwsNil (by simp) (by simp); rw [hNS] at h9; exact h9) ?_
  rintro _ w34 ⟨o28, c29, F30, rfl, hr31, hf32, hF33⟩
  refine ⟨_, rfl, ?_⟩
  have hr35 := Row.fr hr23 hf32 (fun _ _ hq => by cases hq)
  refine ⟨keepNil, ?_⟩
  have h36 := (h27.grow hf32).put (d := some 34) (v := .slice o28 NS.length c29) (T' := [(34, .slice o28 NS.length c29), (29, .slice o20 NS.length c21), (33, .pointer (some ⟨Z.mo, 0, none⟩)), (0, .pointer (some ⟨kb, 0, none⟩)), (1, .pointer (some ⟨mb, 0, none⟩)), (4, .bool false), (5, .pointer (some ⟨bo, 0, none⟩)), (6, .pointer (some ⟨bc, 0, none⟩)), (28, .pointer (some ⟨bo, 0, none⟩)), (32, .pointer (some ⟨mb, 0, none⟩))]) rfl
  clear h27
  refine wpAnyK_one (i := 7) (fuel := 12) (by kernel_rfl) ?_
  refine op_call h36 rfl rfl rfl (callOk Tryd.func17 (by decide) rfl) (args := [.slice o20 NS.length c21, .slice o28 NS.length c29]) rfl (equal_ok _ (by rw [← hNS]; exact storeN_pos C.ent) _ _ _ _ _ _ _ hr35 hr31) ?_
  rintro _ w37 ⟨rfl, hf39⟩
  refine ⟨_, rfl, ?_⟩
  have h38 := (h36.grow hf39).put (d := some 35) (v := .bool true) (T' := [(35, .bool true), (34, .slice o28 NS.length c29), (29, .slice o20 NS.length c21), (33, .pointer (some ⟨Z.mo, 0, none⟩)), (0, .pointer (some ⟨kb, 0, none⟩)), (1, .pointer (some ⟨mb, 0, none⟩)), (4, .bool false), (5, .pointer (some ⟨bo, 0, none⟩)), (6, .pointer (some ⟨bc, 0, none⟩)), (28, .pointer (some ⟨bo, 0, none⟩)), (32, .pointer (some ⟨mb, 0, none⟩))]) rfl
  refine ⟨keepNil, ?_⟩
  clear h36
  refine dr_batch tabOk2 tabZ_ok2 (by repeat (first | with_reducible exact PF.body | with_reducible apply PF.inB | with_reducible apply PF.next)) [(8, {}), (9, {}), (10, {}), (12, {}), (13, {}), (14, {})] [0, 1, 4, 5, 6, 37, 38, 42] (T' := [(0, .pointer (some ⟨kb, 0, none⟩)), (1, .pointer (some ⟨mb, 0, none⟩)), (4, .bool false), (5, .pointer (some ⟨bo, 0, none⟩)), (6, .pointer (some ⟨bc, 0, none⟩)), (37, .bool false), (38, .pointer (some ⟨bc, 0, none⟩)), (42, .pointer (some ⟨mb, 1, none⟩))]) (φ := True) (fuel := 6) h38 (by kernel_rfl) rfl (by kernel_rfl) (by kernel_rfl) ⟨trivial, trivial, trivial, trivial, trivial, trivial, trivial⟩ trivial fun a40 h41 => ?_
  clear h38
  refine dr_read (i := 15) (b := mb) (p := 1) (v := .pointer (some ⟨Z.mc, 0, none⟩)) (fuel := 5) (by repeat (first | with_reducible exact PF.body | with_reducible apply PF.inB | with_reducible apply PF.next)) h41 rfl rfl rfl (by kernel_rfl) (by kernel_rfl) (by kernel_rfl) rfl (rd_m h41 (k := 1) (v := .pointer (some ⟨Z.mc, 0, none⟩)) rfl rfl rfl rfl (md_p ⟨rfl, trivial⟩)) ?_
  have h42 := h41.put (d := some 43) (v := .pointer (some ⟨Z.mc, 0, none⟩)) (T' := [(43, .pointer (some ⟨Z.mc, 0, none⟩)), (0, .pointer (some ⟨kb, 0, none⟩)), (1, .pointer (some ⟨mb, 0, none⟩)), (4, .bool false), (5, .pointer (some ⟨bo, 0, none⟩)), (6, .pointer (some ⟨bc, 0, none⟩)), (37, .bool false), (38, .pointer (some ⟨bc, 0, none⟩)), (42, .pointer (some ⟨mb, 1, none⟩))]) rfl
  clear h41
  refine wpAnyK_one (i := 11) (fuel := 4) (by kernel_rfl) ?_
  refine op_call h42 rfl rfl rfl (callOk Tryd.func45 (by decide) rfl) (args := [.pointer (some ⟨bc, 0, none⟩), .slice none 0 0]) rfl (by have h9 := spaceBytes_ok bo bc nd C hv.uc none 0 [] [] _ (cpK hcap h42.frame hdis) rwsNil (by simp) (by simp); rw [hNP] at h9; exact h9) ?_
  rintro _ w49 ⟨o43, c44, F45, rfl, hr46, hf47, hF48⟩
  refine ⟨_, rfl, ?_⟩
  refine ⟨(keepCons (kpM h42.inv.1 (l := .m) trivial (List.mem_cons_self ..) hf47) keepNil), ?_⟩
  have h50 := (h42.grow hf47).put (d := some 39) (v := .slice o43 NP.length c44) (T' := [(39, .slice o43 NP.length c44), (43, .pointer (some ⟨Z.mc, 0, none⟩)), (0, .pointer (some ⟨kb, 0, none⟩)), (1, .pointer (some ⟨mb, 0, none⟩)), (4, .bool false), (5, .pointer (some ⟨bo, 0, none⟩)), (6, .pointer (some ⟨bc, 0, none⟩)), (37, .bool false), (38, .pointer (some ⟨bc, 0, none⟩)), (42, .pointer (some ⟨mb, 1, none⟩))]) rfl
  clear h42
  refine wpAnyK_one (i := 16) (fuel := 3) (by kernel_rfl) ?_
  refine op_call h50 rfl rfl rfl (callOk Tryd.func45 (by decide) rfl) (args := [.pointer (some ⟨Z.mc, 0, none⟩), .slice none 0 0]) rfl (by have h9 := spaceBytes_ok Z.mo Z.mc Z.nd C hv.uc none 0 [] [] _ h50.inv.1.cp rwsNil (by simp) (by simp); rw [hNP] at h9; exact h9) ?_
  rintro _ w57 ⟨o51, c52, F53, rfl, hr54, hf55, hF56⟩
  refine ⟨_, rfl, ?_⟩
  have hr58 := Row.fr hr46 hf55 (fun _ _ hq => by cases hq)
  refine ⟨keepNil, ?_⟩
  have h59 := (h50.grow hf55).put (d := some 44) (v := .slice o51 NP.length c52) (T' := [(44, .slice o51 NP.length c52), (39, .slice o43 NP.length c44), (43, .pointer (some ⟨Z.mc, 0, none⟩)), (0, .pointer (some ⟨kb, 0, none⟩)), (1, .pointer (some ⟨mb, 0, none⟩)), (4, .bool false), (5, .pointer (some ⟨bo, 0, none⟩)), (6, .pointer (some ⟨bc, 0, none⟩)), (37, .bool false), (38, .pointer (some ⟨bc, 0, none⟩)), (42, .pointer (some ⟨mb, 1, none⟩))]) rfl
  clear h50
  refine wpAnyK_one (i := 17) (fuel := 2) (by kernel_rfl) ?_
  refine op_call h59 rfl rfl rfl (callOk Tryd.func17 (by decide) rfl) (args := [.slice o43 NP.length c44, .slice o51 NP.length c52]) rfl (equal_ok _ (by rw [← hNP]; exact spaceN_pos C) _ _ _ _ _ _ _ hr58 hr54) ?_
  rintro _ w60 ⟨rfl, hf62⟩
  refine ⟨_, rfl, ?_⟩
  have h61 := (h59.grow hf62).put (d := some 45) (v := .bool true) (T' := [(45, .bool true), (44, .slice o51 NP.length c52), (39, .slice o43 NP.length c44), (43, .pointer (some ⟨Z.mc, 0, none⟩)), (0, .pointer (some ⟨kb, 0, none⟩)), (1, .pointer (some ⟨mb, 0, none⟩)), (4, .bool false), (5, .pointer (some ⟨bo, 0, none⟩)), (6, .pointer (some ⟨bc, 0, none⟩)), (37, .bool false), (38, .pointer (some ⟨bc, 0, none⟩)), (42, .pointer (some ⟨mb, 1, none⟩))]) rfl
  refine ⟨keepNil, ?_⟩
  clear h59
  refine dr_batch tabOk2 tabZ_ok2 (by repeat (first | with_reducible exact PF.body | with_reducible apply PF.inB | with_reducible apply PF.next)) [(18, {}), (19, {})] [0, 1, 4, 5, 6, 47] (T' := [(0, .pointer (some ⟨kb, 0, none⟩)), (1, .pointer (some ⟨mb, 0, none⟩)), (4, .bool false), (5, .pointer (some ⟨bo, 0, none⟩)), (6, .pointer (some ⟨bc, 0, none⟩)), (47, .bool false)]) (φ := True) (fuel := 0) h61 (by kernel_rfl) rfl (by kernel_rfl) (by kernel_rfl) ⟨trivial, trivial, trivial⟩ trivial fun a63 h64 => ?_
  clear h61
  refine wpAnyK_done (by kernel_rfl) ?_ _
  refine hK13 _ _ ?_
  clear hK13
  refine c_false h64 rfl ?_
  refine wp_skip ?_
  refine hK12 _ _ ?_
  clear hK12
  refine wp_seq_k fun K65 hK65 => ?_
  refine wp_seq_k fun K66 hK66 => ?_
  refine dr_start (KB := [3, mb]) (Bi := [[0, 1], [1], [0, 1], [0, 1], [0, 1], [0, 1], [0, 1], [0, 1], [0, 1], [1], [0, 1], [0, 1], [0, 1], [0, 1], [0, 1], [0, 1]]) mixed h64 fun w67 h68 => ?_
  clear h64
  refine dr_batch tabOk2 tabZ_ok2 (by repeat (first | with_reducible exact PF.body | with_reducible apply PF.inB | with_reducible apply PF.next)) [(0, {}), (2, {}), (3, {}), (4, {})] [0, 1, 4, 5, 6, 48, 52] (T' := [(0, .pointer (some ⟨kb, 0, none⟩)), (1, .pointer (some ⟨mb, 0, none⟩)), (4, .bool false), (5, .pointer (some ⟨bo, 0, none⟩)), (6, .pointer (some ⟨bc, 0, none⟩)), (48, .pointer (some ⟨kb, 0, none⟩)), (52, .pointer (some ⟨mb, 13, none⟩))]) (φ := True) (fuel := 12) h68 (by kernel_rfl) rfl (by kernel_rfl) (by kernel_rfl) ⟨trivial, trivial, trivial, trivial, trivial⟩ trivial fun a70 h71 => ?_
  clear h68
  refine dr_read (i := 5) (b := mb) (p := 1) (v := .agg #[.int .u16 ((curR Z a).idx), .int .u32 ((curR Z a).gen)]) (fuel := 11) (by repeat (first | with_reducible exact PF.body | with_reducible apply PF.inB | with_reducible apply PF.next)) h71 rfl rfl rfl (by kernel_rfl) (by kernel_rfl) (by kernel_rfl) rfl (rd_mA h71 (k := 13) (vs := [.int .u16 ((curR Z a).idx), .int .u32 ((curR Z a).gen)]) rfl rfl rfl rfl rfl md_cur) ?_
  have h72 := h71.put (d := some 53) (v := .agg #[.int .u16 ((curR Z a).idx), .int .u32 ((curR Z a).gen)]) (T' := [(53, .agg #[.int .u16 ((curR Z a).idx), .int .u32 ((curR Z a).gen)]), (0, .pointer (some ⟨kb, 0, none⟩)), (1, .pointer (some ⟨mb, 0, none⟩)), (4, .bool false), (5, .pointer (some ⟨bo, 0, none⟩)), (6, .pointer (some ⟨bc, 0, none⟩)), (48, .pointer (some ⟨kb, 0, none⟩)), (52, .pointer (some ⟨mb, 13, none⟩))]) rfl
  clear h71
  refine wpAnyK_one (i := 1) (fuel := 10) (by kernel_rfl) ?_
  refine op_call h72 rfl rfl rfl (callOk Tryd.func18 (by decide) rfl) (args := [.pointer (some ⟨kb, 0, none⟩)]) rfl (running_ok kb bo bc S hrS C.ent _ (kpK hker h72.frame (hdis _ (List.mem_cons_self ..))) (cpK hcap h72.frame hdis).st hkbo) ?_
  rintro _ w73 ⟨rfl, hf75⟩
  refine ⟨_, rfl, ?_⟩
  have h74 := (h72.grow hf75).put (d := some 49) (v := .agg #[.int .u16 ((refP C.ent S.cur).idx), .int .u32 ((refP C.ent S.cur).gen)]) (T' := [(49, .agg #[.int .u16 ((refP C.ent S.cur).idx), .int .u32 ((refP C.ent S.cur).gen)]), (53, .agg #[.int .u16 ((curR Z a).idx), .int .u32 ((curR Z a).gen)]), (0, .pointer (some ⟨kb, 0, none⟩)), (1, .pointer (some ⟨mb, 0, none⟩)), (4, .bool false), (5, .pointer (some ⟨bo, 0, none⟩)), (6, .pointer (some ⟨bc, 0, none⟩)), (48, .pointer (some ⟨kb, 0, none⟩)), (52, .pointer (some ⟨mb, 13, none⟩))]) rfl
  refine ⟨(keepCons (kpM h72.inv.1 (l := .m) trivial (List.mem_cons_self ..) hf75) keepNil), ?_⟩
  clear h72
  refine dr_batch tabOk2 tabZ_ok2 (by repeat (first | with_reducible exact PF.body | with_reducible apply PF.inB | with_reducible apply PF.next)) [(6, {f := 1}), (7, {}), (8, {}), (10, {}), (11, {}), (12, {})] [0, 1, 4, 5, 6, 55, 56, 60] (T' := [(0, .pointer (some ⟨kb, 0, none⟩)), (1, .pointer (some ⟨mb, 0, none⟩)), (4, .bool false), (5, .pointer (some ⟨bo, 0, none⟩)), (6, .pointer (some ⟨bc, 0, none⟩)), (55, .bool false), (56, .pointer (some ⟨kb, 0, none⟩)), (60, .pointer (some ⟨mb, 79, none⟩))]) (φ := EqRun Tryd.prog 39 (.agg #[.int .u16 ((refP C.ent S.cur).idx), .int .u32 ((refP C.ent S.cur).gen)]) (.agg #[.int .u16 ((curR Z a).idx), .int .u32 ((curR Z a).gen)]) true ∧ True) (fuel := 4) h74 (by kernel_rfl) rfl (by kernel_rfl) (by kernel_rfl) ⟨trivial, trivial, trivial, trivial, trivial, trivial, trivial⟩ ⟨(by have hq := runRf (refP C.ent S.cur) (curR Z a); rw [show decide (refP C.ent S.cur = curR Z a) = true from decide_eq_true hrc] at hq; exact hq), trivial⟩ fun a76 h77 => ?_
  clear h74
  refine dr_read (i := 13) (b := mb) (p := 1) (v := .int .u64 a.now) (fuel := 3) (by repeat (first | with_reducible exact PF.body | with_reducible apply PF.inB | with_reducible apply PF.next)) h77 rfl rfl rfl (by kernel_rfl) (by kernel_rfl) (by kernel_rfl) rfl (rd_m h77 (k := 79) (v := .int .u64 a.now) rfl rfl rfl rfl md_now) ?_
  have h78 := h77.put (d := some 61) (v := .int .u64 a.now) (T' := [(61, .int .u64 a.now), (0, .pointer (some ⟨kb, 0, none⟩)), (1, .pointer (some ⟨mb, 0, none⟩)), (4, .bool false), (5, .pointer (some ⟨bo, 0, none⟩)), (6, .pointer (some ⟨bc, 0, none⟩)), (55, .bool false), (56, .pointer (some ⟨kb, 0, none⟩)), (60, .pointer (some ⟨mb, 79, none⟩))]) rfl
  clear h77
  refine wpAnyK_one (i := 9) (fuel := 2) (by kernel_rfl) ?_
  refine op_call h78 rfl rfl rfl (callOk Tryd.func46 (by decide) rfl) (args := [.pointer (some ⟨kb, 0, none⟩)]) rfl (now_ok kb bo bc S _ (kpK hker h78.frame (hdis _ (List.mem_cons_self ..)))) ?_
  rintro _ w79 ⟨rfl, hf81⟩
  refine ⟨_, rfl, ?_⟩
  have h80 := (h78.grow hf81).put (d := some 57) (v := .int .u64 S.now) (T' := [(57, .int .u64 S.now), (61, .int .u64 a.now), (0, .pointer (some ⟨kb, 0, none⟩)), (1, .pointer (some ⟨mb, 0, none⟩)), (4, .bool false), (5, .pointer (some ⟨bo, 0, none⟩)), (6, .pointer (some ⟨bc, 0, none⟩)), (55, .bool false), (56, .pointer (some ⟨kb, 0, none⟩)), (60, .pointer (some ⟨mb, 79, none⟩))]) rfl
  refine ⟨(keepCons (kpM h78.inv.1 (l := .m) trivial (List.mem_cons_self ..) hf81) keepNil), ?_⟩
  clear h78
  refine dr_batch tabOk2 tabZ_ok2 (by repeat (first | with_reducible exact PF.body | with_reducible apply PF.inB | with_reducible apply PF.next)) [(14, {f := 1}), (15, {})] [0, 1, 4, 5, 6, 63] (T' := [(0, .pointer (some ⟨kb, 0, none⟩)), (1, .pointer (some ⟨mb, 0, none⟩)), (4, .bool false), (5, .pointer (some ⟨bo, 0, none⟩)), (6, .pointer (some ⟨bc, 0, none⟩)), (63, .bool false)]) (φ := ((S.now != a.now)) = false ∧ True) (fuel := 0) h80 (by kernel_rfl) rfl (by kernel_rfl) (by kernel_rfl) ⟨trivial, trivial, trivial⟩ ⟨(by rw [← hv.ab.nw]; simp), trivial⟩ fun a82 h83 => ?_
  clear h80
  refine wpAnyK_done (by kernel_rfl) ?_ _
  refine hK66 _ _ ?_
  clear hK66
  refine c_false h83 rfl ?_
  refine wp_skip ?_
  refine hK65 _ _ ?_
  clear hK65
  refine wp_seq_k fun K84 hK84 => ?_
  refine nd_start (l := [0, 1, 2]) rfl ?_
  refine nd_batch tabOk2 tabZ_ok2 [(0, {})] [0, 1, 4, 5, 6, 64] (T' := [(0, .pointer (some ⟨kb, 0, none⟩)), (1, .pointer (some ⟨mb, 0, none⟩)), (4, .bool false), (5, .pointer (some ⟨bo, 0, none⟩)), (6, .pointer (some ⟨bc, 0, none⟩)), (64, .pointer (some ⟨kb, 0, none⟩))]) (φ := True) (rest := [1, 2]) h83 (by kernel_rfl) rfl trivial fun a85 h86 => ?_
  clear h83
  refine nd_op ?_
  have hlLh94 : ∀ kb ∈ ([(3, ⟨[.int .u16 0, .int .u32 0], ty3, true⟩)] : Mem), kb.1 < _ := fun kb hkb => lt_of_heap (h86.known kb hkb)
  have hlSh94 : w.heap.size ≤ _ := h86.frame.size
  refine op_call h86 rfl rfl rfl (callOk Tryd.func27 (by decide) rfl) (args := [.pointer (some ⟨kb, 0, none⟩), .int .u8 3]) rfl (by have h9 := live_ok kb bo bc S C.ent 3 _ (kpK hker h86.frame (hdis _ (List.mem_cons_self ..))) (cpK hcap h86.frame hdis).st hkbo; rw [live_kys hI, hX3] at h9; exact h9) ?_
  rintro _ w93 ⟨o87, c88, F89, rfl, hr90, hf91, hF92⟩
  refine ⟨_, rfl, ?_⟩
  have h94q := h86.grow hf91
  have h95 := (h94q).put (d := some 65) (v := .slice o87 ((kys Z X3).length) c88) (T' := [(65, .slice o87 ((kys Z X3).length) c88), (0, .pointer (some ⟨kb, 0, none⟩)), (1, .pointer (some ⟨mb, 0, none⟩)), (4, .bool false), (5, .pointer (some ⟨bo, 0, none⟩)), (6, .pointer (some ⟨bc, 0, none⟩)), (64, .pointer (some ⟨kb, 0, none⟩))]) rfl
  clear h86 h94q
  refine nd_batch tabOk2 tabZ_ok2 [(2, {})] [0, 1, 4, 5, 6, 7] (T' := [(0, .pointer (some ⟨kb, 0, none⟩)), (1, .pointer (some ⟨mb, 0, none⟩)), (4, .bool false), (5, .pointer (some ⟨bo, 0, none⟩)), (6, .pointer (some ⟨bc, 0, none⟩)), (7, .slice o87 ((kys Z X3).length) c88)]) (φ := True) (rest := []) h95 (by kernel_rfl) rfl trivial fun a96 h97 => ?_
  clear h95
  refine nd_done ?_
  refine hK84 _ _ ?_
  clear hK84
  refine wp_seq_k fun K98 hK98 => ?_
  refine wp_seq_k fun K99 hK99 => ?_
  refine nd_start (l := [0, 1, 2, 3, 4, 5, 6, 7]) rfl ?_
  refine nd_batch tabOk2 tabZ_ok2 [(0, {}), (1, {}), (2, {}), (3, {}), (4, {})] [0, 1, 4, 5, 6, 7, 67, 70] (T' := [(0, .pointer (some ⟨kb, 0, none⟩)), (1, .pointer (some ⟨mb, 0, none⟩)), (4, .bool false), (5, .pointer (some ⟨bo, 0, none⟩)), (6, .pointer (some ⟨bc, 0, none⟩)), (7, .slice o87 ((kys Z X3).length) c88), (67, .int .i64 (((kys Z X3).length : Nat) : Int)), (70, .pointer (some ⟨mb, 2, none⟩))]) (φ := True) (rest := [5, 6, 7]) h97 (by kernel_rfl) rfl trivial fun a100 h101 => ?_
  clear h97
  refine nd_op ?_
  refine op_read (b := mb) (v := .map (some Z.tb)) h101 rfl rfl (rd_m h101 (k := 2) (v := .map (some Z.tb)) rfl rfl rfl rfl (md_p ⟨rfl, trivial⟩)) ?_
  have h102 := h101.put (d := some 71) (v := .map (some Z.tb)) (T' := [(71, .map (some Z.tb)), (0, .pointer (some ⟨kb, 0, none⟩)), (1, .pointer (some ⟨mb, 0, none⟩)), (4, .bool false), (5, .pointer (some ⟨bo, 0, none⟩)), (6, .pointer (some ⟨bc, 0, none⟩)), (7, .slice o87 ((kys Z X3).length) c88), (67, .int .i64 (((kys Z X3).length : Nat) : Int)), (70, .pointer (some ⟨mb, 2, none⟩))]) rfl
  clear h101
  refine nd_op ?_
  refine op_read (b := Z.tb) (v := .int .i64 ((Z.tl.length : Nat) : Int)) h102 rfl rfl (by rw [show ((Z.tl.length : Nat) : Int) = (((Z.tl.map (tE Z)).length : Nat) : Int) by rw [List.length_map]]; exact rd_len Tryd.underlying99 h102 rfl rfl h102.inv.1.t) ?_
  have h103 := h102.put (d := some 72) (v := .int .i64 ((Z.tl.length : Nat) : Int)) (T' := [(72, .int .i64 ((Z.tl.length : Nat) : Int)), (71, .map (some Z.tb)), (0, .pointer (some ⟨kb, 0, none⟩)), (1, .pointer (some ⟨mb, 0, none⟩)), (4, .bool false), (5, .pointer (some ⟨bo, 0, none⟩)), (6, .pointer (some ⟨bc, 0, none⟩)), (7, .slice o87 ((kys Z X3).length) c88), (67, .int .i64 (((kys Z X3).length : Nat) : Int)), (70, .pointer (some ⟨mb, 2, none⟩))]) rfl
  clear h102
  refine nd_batch tabOk2 tabZ_ok2 [(7, {f := 1})] [0, 1, 4, 5, 6, 7, 73] (T' := [(0, .pointer (some ⟨kb, 0, none⟩)), (1, .pointer (some ⟨mb, 0, none⟩)), (4, .bool false), (5, .pointer (some ⟨bo, 0, none⟩)), (6, .pointer (some ⟨bc, 0, none⟩)), (7, .slice o87 ((kys Z X3).length) c88), (73, .bool false)]) (φ := (((((kys Z X3).length : Nat) : Int) != ((Z.tl.length : Nat) : Int))) = false ∧ True) (rest := []) h103 (by kernel_rfl) rfl ⟨(by rw [hl3]; simp), trivial⟩ fun a104 h105 => ?_
  clear h103
  refine nd_done ?_
  refine hK99 _ _ ?_
  clear hK99
  refine c_false h105 rfl ?_
  refine wp_skip ?_
  refine hK98 _ _ ?_
  clear hK98
  refine wp_seq_k fun K106 hK106 => ?_
  refine wp_seq_k fun K107 hK107 => ?_
  refine nd_start (l := [0, 1, 2]) rfl ?_
  refine nd_batch tabOk2 tabZ_ok2 [(0, {}), (1, {}), (2, {})] [0, 1, 4, 5, 6, 7, 74, 75, 76] (T' := [(0, .pointer (some ⟨kb, 0, none⟩)), (1, .pointer (some ⟨mb, 0, none⟩)), (4, .bool false), (5, .pointer (some ⟨bo, 0, none⟩)), (6, .pointer (some ⟨bc, 0, none⟩)), (7, .slice o87 ((kys Z X3).length) c88), (74, .slice o87 ((kys Z X3).length) c88), (75, .int .i64 (((kys Z X3).length : Nat) : Int)), (76, .int .i64 0)]) (φ := True) (rest := []) h105 (by kernel_rfl) rfl trivial fun a108 h109 => ?_
  clear h105
  refine nd_done ?_
  refine hK107 _ _ ?_
  clear hK107
  refine wp_block ?_
  refine wp_loop_ghost (fun g ga gw => ∃ (m : Nat), (g = (kys Z X3).length - m) ∧ (m ≤ (kys Z X3).length) ∧ St (MCx 192 (mdF mb Z R C) w mb Z R a C) [(0, .pointer (some ⟨kb, 0, none⟩)), (1, .pointer (some ⟨mb, 0, none⟩)), (74, .slice o87 ((kys Z X3).length) c88), (75, .int .i64 (((kys Z X3).length : Nat) : Int)), (76, .int .i64 ((m : Nat) : Int))] [(3, ⟨[.int .u16 0, .int .u32 0], ty3, true⟩)] ga gw) (kys Z X3).length ⟨0, by omega, by omega, (h109.slotsMono (restr_spec (keep := [0, 1, 74, 75, 76]) rfl))⟩ ?_
  clear h109
  rintro g a110 w111 ⟨m, hi113, hi114, h112⟩
  have hig := hi113
  have hmN := hi114
  refine wp_seq_k fun K115 hK115 => ?_
  refine nd_start (l := [0]) rfl ?_
  refine nd_batch tabOk2 tabZ_ok2 [(0, {})] [0, 1, 74, 75, 76, 77] (T' := [(0, .pointer (some ⟨kb, 0, none⟩)), (1, .pointer (some ⟨mb, 0, none⟩)), (74, .slice o87 ((kys Z X3).length) c88), (75, .int .i64 (((kys Z X3).length : Nat) : Int)), (76, .int .i64 ((m : Nat) : Int)), (77, .bool (decide (((m : Nat) : Int) < (((kys Z X3).length : Nat) : Int))))]) (φ := True) (rest := []) h112 (by kernel_rfl) rfl trivial fun a116 h117 => ?_
  clear h112
  refine nd_done ?_
  refine hK115 _ _ ?_
  clear hK115
  refine wp_seq_k fun K118 hK118 => ?_
  refine c_split h117 (b := decide (((m : Nat) : Int) < (((kys Z X3).length : Nat) : Int))) rfl (fun hc119 => ?_) (fun hc119 => ?_)
  ·
    have hc119f : ((m : Nat) : Int) < (((kys Z X3).length : Nat) : Int) := by simpa using hc119
    exact absurd hc119f (by rw [kys_len, h3e]; show ¬ ((m : Nat) : Int) < 0; omega)
  ·
    have hc119f : ¬ ((m : Nat) : Int) < (((kys Z X3).length : Nat) : Int) := by simpa using hc119
    refine wp_exit ?_
    refine hK106 _ _ ?_
    clear hK106
    refine wp_seq_k fun K120 hK120 => ?_
    refine wp_seq_k fun K121 hK121 => ?_
    refine nd_start (l := [0]) rfl ?_
    refine nd_batch tabOk2 tabZ_ok2 [(0, {})] [0, 1, 74, 75, 76, 14] (T' := [(0, .pointer (some ⟨kb, 0, none⟩)), (1, .pointer (some ⟨mb, 0, none⟩)), (74, .slice o87 ((kys Z X3).length) c88), (75, .int .i64 (((kys Z X3).length : Nat) : Int)), (76, .int .i64 ((m : Nat) : Int)), (14, .int .i64 0)]) (φ := True) (rest := []) h117 (by kernel_rfl) rfl trivial fun a122 h123 => ?_
    clear h117
    refine nd_done ?_
    refine hK121 _ _ ?_
    clear hK121
    refine wp_block ?_
    refine wp_loop_ghost (fun g ga gw => ∃ (m : Nat), (g = 8 - m) ∧ (m ≤ 8) ∧ St (MCx 192 (mdF mb Z R C) w mb Z R a C) [(0, .pointer (some ⟨kb, 0, none⟩)), (1, .pointer (some ⟨mb, 0, none⟩)), (14, .int .i64 ((m : Nat) : Int))] [(3, ⟨[.int .u16 0, .int .u32 0], ty3, true⟩)] ga gw) 8 ⟨0, by omega, by omega, (h123.slotsMono (restr_spec (keep := [0, 1, 14]) rfl))⟩ ?_
    clear h123
    rintro g a124 w125 ⟨m, hi127, hi128, h126⟩
    have hig := hi127
    have hmN := hi128
    refine wp_seq_k fun K129 hK129 => ?_
    refine wp_seq_k fun K130 hK130 => ?_
    refine nd_start (l := [0, 1]) rfl ?_
    refine nd_batch tabOk2 tabZ_ok2 [(0, {}), (1, {})] [0, 1, 14, 106] (T' := [(0, .pointer (some ⟨kb, 0, none⟩)), (1, .pointer (some ⟨mb, 0, none⟩)), (14, .int .i64 ((m : Nat) : Int)), (106, .bool (decide (((m : Nat) : Int) < 8)))]) (φ := True) (rest := []) h126 (by kernel_rfl) rfl trivial fun a131 h132 => ?_
    clear h126
    refine nd_done ?_
    refine hK130 _ _ ?_
    clear hK130
    refine c_split h132 (b := decide (((m : Nat) : Int) < 8)) rfl (fun hc133 => ?_) (fun hc133 => ?_)
    ·
      have hc133f : ((m : Nat) : Int) < 8 := by simpa using hc133
      refine wp_skip ?_
      refine hK129 _ _ ?_
      clear hK129
      refine wp_seq_k fun K134 hK134 => ?_
      refine wp_block ?_
      refine wp_seq_k fun K135 hK135 => ?_
      refine dr_start (KB := [3, mb]) (Bi := [[0, 1], [0, 1], [1], [0, 1], [0, 1], [0, 1], [0, 1], [0, 1], [0, 1], [], [0, 1]]) mixed h132 fun w136 h137 => ?_
      clear h132
      refine dr_batch tabOk2 tabZ_ok2 (by repeat (first | with_reducible exact PF.body | with_reducible apply PF.inB | with_reducible apply PF.next)) [(0, {}), (1, {}), (3, {}), (4, {}), (5, {}), (6, {}), (7, {})] [0, 1, 14, 109, 110, 116] (T' := [(0, .pointer (some ⟨kb, 0, none⟩)), (1, .pointer (some ⟨mb, 0, none⟩)), (14, .int .i64 ((m : Nat) : Int)), (109, .pointer (some ⟨kb, 0, none⟩)), (110, .int .i64 ((m : Nat) : Int)), (116, .pointer (some ⟨mb, 5 + (m * 1), none⟩))]) (φ := (0 ≤ ((m : Nat) : Int) ∧ ((m : Nat) : Int) < 8) ∧ True) (fuel := 4) h137 (by kernel_rfl) rfl (by kernel_rfl) (by kernel_rfl) ⟨trivial, trivial, trivial, trivial, trivial, trivial, trivial, trivial⟩ ⟨⟨by omega, by omega⟩, trivial⟩ fun a139 h140 => ?_
      clear h137
      refine dr_read (i := 8) (b := mb) (p := 1) (v := .slice (R.ro m) ((kys Z (a.q (.r m))).length) (R.rk m)) (fuel := 3) (by repeat (first | with_reducible exact PF.body | with_reducible apply PF.inB | with_reducible apply PF.next)) h140 rfl rfl rfl (by kernel_rfl) (by kernel_rfl) (by kernel_rfl) rfl (rd_m h140 (k := 5 + (m * 1)) (v := .slice (R.ro m) ((kys Z (a.q (.r m))).length) (R.rk m)) rfl rfl rfl rfl (md_r (p := m) (by omega) (by omega))) ?_
      have h141 := h140.put (d := some 117) (v := .slice (R.ro m) ((kys Z (a.q (.r m))).length) (R.rk m)) (T' := [(117, .slice (R.ro m) ((kys Z (a.q (.r m))).length) (R.rk m)), (0, .pointer (some ⟨kb, 0, none⟩)), (1, .pointer (some ⟨mb, 0, none⟩)), (14, .int .i64 ((m : Nat) : Int)), (109, .pointer (some ⟨kb, 0, none⟩)), (110, .int .i64 ((m : Nat) : Int)), (116, .pointer (some ⟨mb, 5 + (m * 1), none⟩))]) rfl
      clear h140
      refine wpAnyK_one (i := 2) (fuel := 2) (by kernel_rfl) ?_
      have hszhr145 : w.heap.size ≤ _ := h141.frame.size
      refine op_call h141 rfl rfl rfl (callOk Tryd.func30 (by decide) rfl) (args := [.pointer (some ⟨kb, 0, none⟩), .int .i64 ((m : Nat) : Int)]) rfl (by have h9 := ready_ok kb bo bc S hrS C.ent a.q hQ (m : Int) ⟨by omega, by omega⟩ _ (kpK hker h141.frame (hdis _ (List.mem_cons_self ..))) (cpK hcap h141.frame hdis).st hkbo; rw [Int.toNat_natCast, ready_same hI hkk (by omega)] at h9; exact h9) ?_
      rintro _ w148 ⟨o142, c143, F144, rfl, hr145, hf146, hF147⟩
      refine ⟨_, rfl, ?_⟩
      refine ⟨(keepCons (kpM h141.inv.1 (l := .m) trivial (List.mem_cons_self ..) hf146) keepNil), ?_⟩
      have h149 := (h141.grow hf146).put (d := some 111) (v := .slice o142 ((kys Z (a.q (.r m))).length) c143) (T' := [(111, .slice o142 ((kys Z (a.q (.r m))).length) c143), (117, .slice (R.ro m) ((kys Z (a.q (.r m))).length) (R.rk m)), (0, .pointer (some ⟨kb, 0, none⟩)), (1, .pointer (some ⟨mb, 0, none⟩)), (14, .int .i64 ((m : Nat) : Int)), (109, .pointer (some ⟨kb, 0, none⟩)), (110, .int .i64 ((m : Nat) : Int)), (116, .pointer (some ⟨mb, 5 + (m * 1), none⟩))]) rfl
      clear h141
      refine wpAnyK_one (i := 9) (fuel := 1) (by kernel_rfl) ?_
      refine op_call h149 rfl rfl rfl (callOk Tryd.func23 (by decide) rfl) (args := [.slice o142 ((kys Z (a.q (.r m))).length) c143, .slice (R.ro m) ((kys Z (a.q (.r m))).length) (R.rk m)]) rfl (eqRows (by rw [kys_len]; have := hI.mp.len hkk (L := .r m) (show m < 8 by omega); omega) hr145 (h149.inv.1.rr m (by omega) (by rw [hho]; simp)) (fun b hb hq => by have h1 := hF147 b hb; have h2 := hH.md.low b (mem_mdF.2 ⟨.rr m, (show m < 8 by omega), hq⟩); omega)) ?_
      rintro _ w150 ⟨rfl, hf152⟩
      refine ⟨_, rfl, ?_⟩
      have h151 := (h149.grow hf152).put (d := some 118) (v := .bool true) (T' := [(118, .bool true), (111, .slice o142 ((kys Z (a.q (.r m))).length) c143), (117, .slice (R.ro m) ((kys Z (a.q (.r m))).length) (R.rk m)), (0, .pointer (some ⟨kb, 0, none⟩)), (1, .pointer (some ⟨mb, 0, none⟩)), (14, .int .i64 ((m : Nat) : Int)), (109, .pointer (some ⟨kb, 0, none⟩)), (110, .int .i64 ((m : Nat) : Int)), (116, .pointer (some ⟨mb, 5 + (m * 1), none⟩))]) rfl
      refine ⟨keepNil, ?_⟩
      clear h149
      refine dr_batch tabOk2 tabZ_ok2 (by repeat (first | with_reducible exact PF.body | with_reducible apply PF.inB | with_reducible apply PF.next)) [(10, {})] [0, 1, 14, 119] (T' := [(0, .pointer (some ⟨kb, 0, none⟩)), (1, .pointer (some ⟨mb, 0, none⟩)), (14, .int .i64 ((m : Nat) : Int)), (119, .bool false)]) (φ := True) (fuel := 0) h151 (by kernel_rfl) rfl (by kernel_rfl) (by kernel_rfl) ⟨trivial, trivial⟩ trivial fun a153 h154 => ?_
      clear h151
      refine wpAnyK_done (by kernel_rfl) ?_ _
      refine hK135 _ _ ?_
      clear hK135
      refine c_false h154 rfl ?_
      refine wp_skip ?_
      refine hK134 _ _ ?_
      clear hK134
      refine nd_start (l := [0, 1, 2]) rfl ?_
      refine nd_batch tabOk2 tabZ_ok2 [(0, {}), (1, {}), (2, {})] [0, 1, 14] (T' := [(0, .pointer (some ⟨kb, 0, none⟩)), (1, .pointer (some ⟨mb, 0, none⟩)), (14, .int .i64 (((m : Nat) : Int) + 1))]) (φ := inR .i64 (((m : Nat) : Int) + 1) ∧ True) (rest := []) h154 (by kernel_rfl) rfl ⟨⟨by omega, by omega⟩, trivial⟩ fun a155 h156 => ?_
      clear h154
      refine nd_done ?_
      exact ⟨(g - 1), by omega, (m + 1), by omega, by omega, (h156.slotsMono (restr_spec (keep := [0, 1, 14]) rfl))⟩
    ·
      have hc133f : ¬ ((m : Nat) : Int) < 8 := by simpa using hc133
      refine wp_exit ?_
      refine hK120 _ _ ?_
      clear hK120
      refine wp_seq_k fun K157 hK157 => ?_
      refine nd_start (l := [0, 1, 2, 3, 4, 5]) rfl ?_
      refine nd_batch tabOk2 tabZ_ok2 [(0, {})] [0, 1, 14, 120] (T' := [(0, .pointer (some ⟨kb, 0, none⟩)), (1, .pointer (some ⟨mb, 0, none⟩)), (14, .int .i64 ((m : Nat) : Int)), (120, .pointer (some ⟨kb, 0, none⟩))]) (φ := True) (rest := [1, 2, 3, 4, 5]) h132 (by kernel_rfl) rfl trivial fun a158 h159 => ?_
      clear h132
      refine nd_op ?_
      have hlLh167 : ∀ kb ∈ ([(3, ⟨[.int .u16 0, .int .u32 0], ty3, true⟩)] : Mem), kb.1 < _ := fun kb hkb => lt_of_heap (h159.known kb hkb)
      have hlSh167 : w.heap.size ≤ _ := h159.frame.size
      refine op_call h159 rfl rfl rfl (callOk Tryd.func27 (by decide) rfl) (args := [.pointer (some ⟨kb, 0, none⟩), .int .u8 4]) rfl (by have h9 := live_ok kb bo bc S C.ent 4 _ (kpK hker h159.frame (hdis _ (List.mem_cons_self ..))) (cpK hcap h159.frame hdis).st hkbo; rw [live_kys hI, hX4] at h9; exact h9) ?_
      rintro _ w166 ⟨o160, c161, F162, rfl, hr163, hf164, hF165⟩
      refine ⟨_, rfl, ?_⟩
      have h167q := h159.grow hf164
      have h168 := (h167q).put (d := some 121) (v := .slice o160 ((kys Z X4).length) c161) (T' := [(121, .slice o160 ((kys Z X4).length) c161), (0, .pointer (some ⟨kb, 0, none⟩)), (1, .pointer (some ⟨mb, 0, none⟩)), (14, .int .i64 ((m : Nat) : Int)), (120, .pointer (some ⟨kb, 0, none⟩))]) rfl
      clear h159 h167q
      refine nd_batch tabOk2 tabZ_ok2 [(2, {})] [121, 0, 1, 14, 122] (T' := [(121, .slice o160 ((kys Z X4).length) c161), (0, .pointer (some ⟨kb, 0, none⟩)), (1, .pointer (some ⟨mb, 0, none⟩)), (14, .int .i64 ((m : Nat) : Int)), (122, .pointer (some ⟨kb, 0, none⟩))]) (φ := True) (rest := [3, 4, 5]) h168 (by kernel_rfl) rfl trivial fun a169 h170 => ?_
      clear h168
      refine nd_op ?_
      have hlLh178 : ∀ kb ∈ ([(3, ⟨[.int .u16 0, .int .u32 0], ty3, true⟩)] : Mem), kb.1 < _ := fun kb hkb => lt_of_heap (h170.known kb hkb)
      have hlSh178 : w.heap.size ≤ _ := h170.frame.size
      refine op_call h170 rfl rfl rfl (callOk Tryd.func27 (by decide) rfl) (args := [.pointer (some ⟨kb, 0, none⟩), .int .u8 5]) rfl (by have h9 := live_ok kb bo bc S C.ent 5 _ (kpK hker h170.frame (hdis _ (List.mem_cons_self ..))) (cpK hcap h170.frame hdis).st hkbo; rw [live_kys hI, hX5] at h9; exact h9) ?_
      rintro _ w177 ⟨o171, c172, F173, rfl, hr174, hf175, hF176⟩
      refine ⟨_, rfl, ?_⟩
      have h178q := h170.grow hf175
      have hr179 := Row.fr hr163 hf175 (fun _ _ hq => by cases hq)
      have h180 := (h178q).put (d := some 123) (v := .slice o171 ((kys Z X5).length) c172) (T' := [(123, .slice o171 ((kys Z X5).length) c172), (121, .slice o160 ((kys Z X4).length) c161), (0, .pointer (some ⟨kb, 0, none⟩)), (1, .pointer (some ⟨mb, 0, none⟩)), (14, .int .i64 ((m : Nat) : Int)), (122, .pointer (some ⟨kb, 0, none⟩))]) rfl
      clear h170 h178q
      refine nd_op ?_
      refine op_append tabOk2 (e := 39) (so := o160) (n := (kys Z X4).length) (c := c161) (xo := o171) (m := (kys Z X5).length) (cx := c172) (vals := (kys Z X4).flatMap rfC) (vs := (kys Z X5).flatMap rfC) (F := F162) h180 rfl rfl rfl rfl rfl rfl rfl rfl rfl rfl rfl rfl hr179 (src_row hr174) (by rw [kys_len, kys_len]; omega) (allOne_rf _) ?_
      intro o181 c182 F183 w184 hr185 hf186 hF187
      have hr1852 := rl_app (enc := rfC) (xs := (kys Z X4)) (ys := (kys Z X5)) hr185
      have hr185e : (kys Z X4) ++ (kys Z X5) = kys Z (X4 ++ X5) := by simp [kys]
      rw [hr185e] at hr1852
      rw [show (kys Z X4).length + (kys Z X5).length = (kys Z (X4 ++ X5)).length by rw [← hr185e, List.length_append]]
      have h188q := st_new h180 hf186 (fun kb hkb hq => by have h1 := hlLh167 kb hkb; have h2 := hF165 _ hq; omega) (fun b hb hq => by have h1 := hH.md.low b hb; have h2 := hF165 _ hq; omega) (fun b hb => by have h2 := hF165 _ hb; omega)
      have h189 := (h188q).put (d := some 124) (v := .slice o181 ((kys Z (X4 ++ X5)).length) c182) (T' := [(124, .slice o181 ((kys Z (X4 ++ X5)).length) c182), (123, .slice o171 ((kys Z X5).length) c172), (121, .slice o160 ((kys Z X4).length) c161), (0, .pointer (some ⟨kb, 0, none⟩)), (1, .pointer (some ⟨mb, 0, none⟩)), (14, .int .i64 ((m : Nat) : Int)), (122, .pointer (some ⟨kb, 0, none⟩))]) rfl
      clear h180 h188q
      refine nd_batch tabOk2 tabZ_ok2 [(5, {})] [0, 1, 14, 15] (T' := [(0, .pointer (some ⟨kb, 0, none⟩)), (1, .pointer (some ⟨mb, 0, none⟩)), (14, .int .i64 ((m : Nat) : Int)), (15, .slice o181 ((kys Z (X4 ++ X5)).length) c182)]) (φ := True) (rest := []) h189 (by kernel_rfl) rfl trivial fun a190 h191 => ?_
      clear h189
      refine nd_done ?_
      refine hK157 _ _ ?_
      clear hK157
      refine wp_seq_k fun K192 hK192 => ?_
      refine wp_seq_k fun K193 hK193 => ?_
      refine nd_start (l := [0, 1, 2, 3, 4, 5, 6, 7]) rfl ?_
      refine nd_batch tabOk2 tabZ_ok2 [(0, {}), (1, {}), (2, {}), (3, {}), (4, {})] [0, 1, 14, 15, 126, 129] (T' := [(0, .pointer (some ⟨kb, 0, none⟩)), (1, .pointer (some ⟨mb, 0, none⟩)), (14, .int .i64 ((m : Nat) : Int)), (15, .slice o181 ((kys Z (X4 ++ X5)).length) c182), (126, .int .i64 (((kys Z (X4 ++ X5)).length : Nat) : Int)), (129, .pointer (some ⟨mb, 3, none⟩))]) (φ := True) (rest := [5, 6, 7]) h191 (by kernel_rfl) rfl trivial fun a194 h195 => ?_
      clear h191
      refine nd_op ?_
      refine op_read (b := mb) (v := .map (some Z.qb)) h195 rfl rfl (rd_m h195 (k := 3) (v := .map (some Z.qb)) rfl rfl rfl rfl (md_p ⟨rfl, trivial⟩)) ?_
      have h196 := h195.put (d := some 130) (v := .map (some Z.qb)) (T' := [(130, .map (some Z.qb)), (0, .pointer (some ⟨kb, 0, none⟩)), (1, .pointer (some ⟨mb, 0, none⟩)), (14, .int .i64 ((m : Nat) : Int)), (15, .slice o181 ((kys Z (X4 ++ X5)).length) c182), (126, .int .i64 (((kys Z (X4 ++ X5)).length : Nat) : Int)), (129, .pointer (some ⟨mb, 3, none⟩))]) rfl
      clear h195
      refine nd_op ?_
      refine op_read (b := Z.qb) (v := .int .i64 ((Z.ql.length : Nat) : Int)) h196 rfl rfl (by rw [show ((Z.ql.length : Nat) : Int) = (((Z.ql.map (qE Z R a)).length : Nat) : Int) by rw [List.length_map]]; exact rd_len Tryd.underlying100 h196 rfl rfl h196.inv.1.q) ?_
      have h197 := h196.put (d := some 131) (v := .int .i64 ((Z.ql.length : Nat) : Int)) (T' := [(131, .int .i64 ((Z.ql.length : Nat) : Int)), (130, .map (some Z.qb)), (0, .pointer (some ⟨kb, 0, none⟩)), (1, .pointer (some ⟨mb, 0, none⟩)), (14, .int .i64 ((m : Nat) : Int)), (15, .slice o181 ((kys Z (X4 ++ X5)).length) c182), (126, .int .i64 (((kys Z (X4 ++ X5)).length : Nat) : Int)), (129, .pointer (some ⟨mb, 3, none⟩))]) rfl
      clear h196
      refine nd_batch tabOk2 tabZ_ok2 [(7, {f := 1})] [0, 1, 14, 15, 132] (T' := [(0, .pointer (some ⟨kb, 0, none⟩)), (1, .pointer (some ⟨mb, 0, none⟩)), (14, .int .i64 ((m : Nat) : Int)), (15, .slice o181 ((kys Z (X4 ++ X5)).length) c182), (132, .bool false)]) (φ := (((((kys Z (X4 ++ X5)).length : Nat) : Int) != ((Z.ql.length : Nat) : Int))) = false ∧ True) (rest := []) h197 (by kernel_rfl) rfl ⟨(by rw [hl45]; simp), trivial⟩ fun a198 h199 => ?_
      clear h197
      refine nd_done ?_
      refine hK193 _ _ ?_
      clear hK193
      refine c_false h199 rfl ?_
      refine wp_skip ?_
      refine hK192 _ _ ?_
      clear hK192
      refine wp_seq_k fun K200 hK200 => ?_
      refine wp_seq_k fun K201 hK201 => ?_
      refine nd_start (l := [0, 1, 2]) rfl ?_
      refine nd_batch tabOk2 tabZ_ok2 [(0, {}), (1, {}), (2, {})] [0, 1, 14, 15, 133, 134, 135] (T' := [(0, .pointer (some ⟨kb, 0, none⟩)), (1, .pointer (some ⟨mb, 0, none⟩)), (14, .int .i64 ((m : Nat) : Int)), (15, .slice o181 ((kys Z (X4 ++ X5)).length) c182), (133, .slice o181 ((kys Z (X4 ++ X5)).length) c182), (134, .int .i64 (((kys Z (X4 ++ X5)).length : Nat) : Int)), (135, .int .i64 0)]) (φ := True) (rest := []) h199 (by kernel_rfl) rfl trivial fun a202 h203 => ?_
      clear h199
      refine nd_done ?_
      refine hK201 _ _ ?_
      clear hK201
      refine wp_block ?_
      refine wp_loop_ghost (fun g ga gw => ∃ (m : Nat), (g = (kys Z (X4 ++ X5)).length - m) ∧ (m ≤ (kys Z (X4 ++ X5)).length) ∧ St (MCx 192 (mdF mb Z R C) w mb Z R a C) [(0, .pointer (some ⟨kb, 0, none⟩)), (1, .pointer (some ⟨mb, 0, none⟩)), (133, .slice o181 ((kys Z (X4 ++ X5)).length) c182), (134, .int .i64 (((kys Z (X4 ++ X5)).length : Nat) : Int)), (135, .int .i64 ((m : Nat) : Int))] [(3, ⟨[.int .u16 0, .int .u32 0], ty3, true⟩)] ga gw) (kys Z (X4 ++ X5)).length ⟨0, by omega, by omega, (h203.slotsMono (restr_spec (keep := [0, 1, 133, 134, 135]) rfl))⟩ ?_
      clear h203
      rintro g a204 w205 ⟨m, hi207, hi208, h206⟩
      have hig := hi207
      have hmN := hi208
      refine wp_seq_k fun K209 hK209 => ?_
      refine nd_start (l := [0]) rfl ?_
      refine nd_batch tabOk2 tabZ_ok2 [(0, {})] [0, 1, 133, 134, 135, 136] (T' := [(0, .pointer (some ⟨kb, 0, none⟩)), (1, .pointer (some ⟨mb, 0, none⟩)), (133, .slice o181 ((kys Z (X4 ++ X5)).length) c182), (134, .int .i64 (((kys Z (X4 ++ X5)).length : Nat) : Int)), (135, .int .i64 ((m : Nat) : Int)), (136, .bool (decide (((m : Nat) : Int) < (((kys Z (X4 ++ X5)).length : Nat) : Int))))]) (φ := True) (rest := []) h206 (by kernel_rfl) rfl trivial fun a210 h211 => ?_
      clear h206
      refine nd_done ?_
      refine hK209 _ _ ?_
      clear hK209
      refine wp_seq_k fun K212 hK212 => ?_
      refine c_split h211 (b := decide (((m : Nat) : Int) < (((kys Z (X4 ++ X5)).length : Nat) : Int))) rfl (fun hc213 => ?_) (fun hc213 => ?_)
      ·
        have hc213f : ((m : Nat) : Int) < (((kys Z (X4 ++ X5)).length : Nat) : Int) := by simpa using hc213
        exact absurd hc213f (by rw [kys_len, h45e]; show ¬ ((m : Nat) : Int) < 0; omega)
      ·
        have hc213f : ¬ ((m : Nat) : Int) < (((kys Z (X4 ++ X5)).length : Nat) : Int) := by simpa using hc213
        refine wp_exit ?_
        refine hK200 _ _ ?_
        clear hK200
        refine wp_seq_k fun K214 hK214 => ?_
        refine wp_seq_k fun K215 hK215 => ?_
        refine nd_start (l := [0]) rfl ?_
        refine nd_batch tabOk2 tabZ_ok2 [(0, {})] [0, 1, 133, 134, 135, 22] (T' := [(0, .pointer (some ⟨kb, 0, none⟩)), (1, .pointer (some ⟨mb, 0, none⟩)), (133, .slice o181 ((kys Z (X4 ++ X5)).length) c182), (134, .int .i64 (((kys Z (X4 ++ X5)).length : Nat) : Int)), (135, .int .i64 ((m : Nat) : Int)), (22, .int .i64 0)]) (φ := True) (rest := []) h211 (by kernel_rfl) rfl trivial fun a216 h217 => ?_
        clear h211
        refine nd_done ?_
        refine hK215 _ _ ?_
        clear hK215
        refine wp_block ?_
        refine wp_loop_ghost (fun g ga gw => ∃ (m : Nat), (g = 16 - m) ∧ (m ≤ 16) ∧ St (MCx 192 (mdF mb Z R C) w mb Z R a C) [(0, .pointer (some ⟨kb, 0, none⟩)), (1, .pointer (some ⟨mb, 0, none⟩)), (22, .int .i64 ((m : Nat) : Int))] [(3, ⟨[.int .u16 0, .int .u32 0], ty3, true⟩)] ga gw) 16 ⟨0, by omega, by omega, (h217.slotsMono (restr_spec (keep := [0, 1, 22]) rfl))⟩ ?_
        clear h217
        rintro g a218 w219 ⟨m, hi221, hi222, h220⟩
        have hig := hi221
        have hmN := hi222
        refine wp_seq_k fun K223 hK223 => ?_
        refine wp_seq_k fun K224 hK224 => ?_
        refine nd_start (l := [0, 1]) rfl ?_
        refine nd_batch tabOk2 tabZ_ok2 [(0, {}), (1, {})] [0, 1, 22, 179] (T' := [(0, .pointer (some ⟨kb, 0, none⟩)), (1, .pointer (some ⟨mb, 0, none⟩)), (22, .int .i64 ((m : Nat) : Int)), (179, .bool (decide (((m : Nat) : Int) < 16)))]) (φ := True) (rest := []) h220 (by kernel_rfl) rfl trivial fun a225 h226 => ?_
        clear h220
        refine nd_done ?_
        refine hK224 _ _ ?_
        clear hK224
        refine c_split h226 (b := decide (((m : Nat) : Int) < 16)) rfl (fun hc227 => ?_) (fun hc227 => ?_)
        ·
          have hc227f : ((m : Nat) : Int) < 16 := by simpa using hc227
          refine wp_skip ?_
          refine hK223 _ _ ?_
          clear hK223
          refine wp_seq_k fun K228 hK228 => ?_
          refine wp_block ?_
          refine wp_seq_k fun K229 hK229 => ?_
          refine dr_start (KB := [3, mb]) (Bi := [[0, 1], [0, 1], [1], [0, 1], [0, 1], [0, 1], [0, 1], [0, 1], [0, 1], [0, 1]]) mixed h226 fun w230 h231 => ?_
          clear h226
          refine dr_batch tabOk2 tabZ_ok2 (by repeat (first | with_reducible exact PF.body | with_reducible apply PF.inB | with_reducible apply PF.next)) [(0, {}), (1, {}), (3, {}), (4, {}), (5, {}), (6, {}), (7, {})] [0, 1, 22, 182, 183, 189] (T' := [(0, .pointer (some ⟨kb, 0, none⟩)), (1, .pointer (some ⟨mb, 0, none⟩)), (22, .int .i64 ((m : Nat) : Int)), (182, .pointer (some ⟨kb, 0, none⟩)), (183, .int .i64 ((m : Nat) : Int)), (189, .pointer (some ⟨mb, 15 + (m * 4), none⟩))]) (φ := (0 ≤ ((m : Nat) : Int) ∧ ((m : Nat) : Int) < 16) ∧ True) (fuel := 3) h231 (by kernel_rfl) rfl (by kernel_rfl) (by kernel_rfl) ⟨trivial, trivial, trivial, trivial, trivial, trivial, trivial, trivial⟩ ⟨⟨by omega, by omega⟩, trivial⟩ fun a233 h234 => ?_
          clear h231
          refine dr_read (i := 8) (b := mb) (p := 1) (v := .agg #[.int .u16 ((a.irq m).ntfn.idx), .int .u32 ((a.irq m).ntfn.gen), .int .u64 ((a.irq m).badge), .bool ((a.irq m).masked)]) (fuel := 2) (by repeat (first | with_reducible exact PF.body | with_reducible apply PF.inB | with_reducible apply PF.next)) h234 rfl rfl rfl (by kernel_rfl) (by kernel_rfl) (by kernel_rfl) rfl (rd_mA h234 (k := 15 + (m * 4)) (vs := [.int .u16 ((a.irq m).ntfn.idx), .int .u32 ((a.irq m).ntfn.gen), .int .u64 ((a.irq m).badge), .bool ((a.irq m).masked)]) rfl rfl rfl rfl rfl (md_irq (i := m) (k := 0) (by omega) (by omega) ⟨rfl, rfl, rfl, rfl, trivial⟩)) ?_
          have h235 := h234.put (d := some 190) (v := .agg #[.int .u16 ((a.irq m).ntfn.idx), .int .u32 ((a.irq m).ntfn.gen), .int .u64 ((a.irq m).badge), .bool ((a.irq m).masked)]) (T' := [(190, .agg #[.int .u16 ((a.irq m).ntfn.idx), .int .u32 ((a.irq m).ntfn.gen), .int .u64 ((a.irq m).badge), .bool ((a.irq m).masked)]), (0, .pointer (some ⟨kb, 0, none⟩)), (1, .pointer (some ⟨mb, 0, none⟩)), (22, .int .i64 ((m : Nat) : Int)), (182, .pointer (some ⟨kb, 0, none⟩)), (183, .int .i64 ((m : Nat) : Int)), (189, .pointer (some ⟨mb, 15 + (m * 4), none⟩))]) rfl
          clear h234
          refine wpAnyK_one (i := 2) (fuel := 1) (by kernel_rfl) ?_
          refine op_call h235 rfl rfl rfl (callOk Tryd.func33 (by decide) rfl) (args := [.pointer (some ⟨kb, 0, none⟩), .int .i64 ((m : Nat) : Int)]) rfl (by have h9 := irq_ok kb bo bc S (m : Int) ⟨by omega, by omega⟩ _ (kpK hker h235.frame (hdis _ (List.mem_cons_self ..))); rw [Int.toNat_natCast, ← hv.ab.ir m (by omega)] at h9; exact h9) ?_
          rintro _ w236 ⟨rfl, hf238⟩
          refine ⟨_, rfl, ?_⟩
          have h237 := (h235.grow hf238).put (d := some 184) (v := .agg #[.int .u16 ((a.irq m).ntfn.idx), .int .u32 ((a.irq m).ntfn.gen), .int .u64 ((a.irq m).badge), .bool ((a.irq m).masked)]) (T' := [(184, .agg #[.int .u16 ((a.irq m).ntfn.idx), .int .u32 ((a.irq m).ntfn.gen), .int .u64 ((a.irq m).badge), .bool ((a.irq m).masked)]), (190, .agg #[.int .u16 ((a.irq m).ntfn.idx), .int .u32 ((a.irq m).ntfn.gen), .int .u64 ((a.irq m).badge), .bool ((a.irq m).masked)]), (0, .pointer (some ⟨kb, 0, none⟩)), (1, .pointer (some ⟨mb, 0, none⟩)), (22, .int .i64 ((m : Nat) : Int)), (182, .pointer (some ⟨kb, 0, none⟩)), (183, .int .i64 ((m : Nat) : Int)), (189, .pointer (some ⟨mb, 15 + (m * 4), none⟩))]) rfl
          refine ⟨(keepCons (kpM h235.inv.1 (l := .m) trivial (List.mem_cons_self ..) hf238) keepNil), ?_⟩
          clear h235
          refine dr_batch tabOk2 tabZ_ok2 (by repeat (first | with_reducible exact PF.body | with_reducible apply PF.inB | with_reducible apply PF.next)) [(9, {f := 1})] [0, 1, 22, 191] (T' := [(0, .pointer (some ⟨kb, 0, none⟩)), (1, .pointer (some ⟨mb, 0, none⟩)), (22, .int .i64 ((m : Nat) : Int)), (191, .bool false)]) (φ := EqRun Tryd.prog 71 (.agg #[.int .u16 ((a.irq m).ntfn.idx), .int .u32 ((a.irq m).ntfn.gen), .int .u64 ((a.irq m).badge), .bool ((a.irq m).masked)]) (.agg #[.int .u16 ((a.irq m).ntfn.idx), .int .u32 ((a.irq m).ntfn.gen), .int .u64 ((a.irq m).badge), .bool ((a.irq m).masked)]) true ∧ True) (fuel := 0) h237 (by kernel_rfl) rfl (by kernel_rfl) (by kernel_rfl) ⟨trivial, trivial⟩ ⟨(runIrqS (a.irq m)), trivial⟩ fun a239 h240 => ?_
          clear h237
          refine wpAnyK_done (by kernel_rfl) ?_ _
          refine hK229 _ _ ?_
          clear hK229
          refine c_false h240 rfl ?_
          refine wp_skip ?_
          refine hK228 _ _ ?_
          clear hK228
          refine nd_start (l := [0, 1, 2]) rfl ?_
          refine nd_batch tabOk2 tabZ_ok2 [(0, {}), (1, {}), (2, {})] [0, 1, 22] (T' := [(0, .pointer (some ⟨kb, 0, none⟩)), (1, .pointer (some ⟨mb, 0, none⟩)), (22, .int .i64 (((m : Nat) : Int) + 1))]) (φ := inR .i64 (((m : Nat) : Int) + 1) ∧ True) (rest := []) h240 (by kernel_rfl) rfl ⟨⟨by omega, by omega⟩, trivial⟩ fun a241 h242 => ?_
          clear h240
          refine nd_done ?_
          exact ⟨(g - 1), by omega, (m + 1), by omega, by omega, (h242.slotsMono (restr_spec (keep := [0, 1, 22]) rfl))⟩
        ·
          have hc227f : ¬ ((m : Nat) : Int) < 16 := by simpa using hc227
          refine wp_exit ?_
          refine hK214 _ _ ?_
          clear hK214
          refine wp_seq_k fun K243 hK243 => ?_
          refine nd_start (l := [0]) rfl ?_
          refine nd_batch tabOk2 tabZ_ok2 [(0, {})] [0, 1, 22, 4] (T' := [(0, .pointer (some ⟨kb, 0, none⟩)), (1, .pointer (some ⟨mb, 0, none⟩)), (22, .int .i64 ((m : Nat) : Int)), (4, .bool true)]) (φ := True) (rest := []) h226 (by kernel_rfl) rfl trivial fun a244 h245 => ?_
          clear h226
          refine nd_done ?_
          refine hK243 _ _ ?_
          clear hK243
          refine wp_ret ?_
          try simp only [Exit.then, Exit.inBlock]
          try rw [if_pos trivial]
          exact s_ret tabOk2 tabZ_ok2 h245 [(.tmp 4, {})] (vs := [.bool true]) (φ := True) rfl (by kernel_rfl) trivial ⟨rfl, mg_end hH h245 hho rfl⟩

theorem agreesen (kb bo bc : Nat) (nd : Nat → Nat) (S : KP) (n : Int) (mb : Nat) (Z : MZ) (R : MR) (a : AK) (C : CP) (hI : MI Z a C) (hv : Iv S a C n) (X3 X4 X5 : List Nat) (hX3 : liveI C.ent 3 = X3) (hX4 : liveI C.ent 4 = X4) (hX5 : liveI C.ent 5 = X5) (NS NP : List Int) (hNS : [] ++ uvs (storeN C.ent) = NS) (hNP : [] ++ uvs (spaceN C) = NP) (h3e : X3 = []) (h45l : 0 < (X4 ++ X5).length) (w : World) (hker : w.heap[kb]? = some (Blk.obj ⟨kC bo bc S, 90, false⟩)) (hcap : CapAt w bo bc nd C) (hkn : kb ∉ capF bo bc nd C) (hdis : ∀ b ∈ kb :: capF bo bc nd C, b ∉ mdF mb Z R C) (hH : MH mb Z R a C w) :
    Calls Tryd.prog 13 #[.pointer (some ⟨kb, 0, none⟩), .pointer (some ⟨mb, 0, none⟩)] w fun e w' => e = .returned (.bool true) ∧ MG mb Z R C w Z R a C w' := by
  have hrS := hv.ab.ri
  have hQ := hv.ab.li
  have h256 := hv.ci.reg.1
  have hkbo : kb ≠ bo := fun e => hkn (mem_capF.2 (.inl e))
  have hrc := cur_same hI hH.md.k hv
  have hl3 : (kys Z X3).length = Z.tl.length := by rw [← hX3, ← live_kys hI]; exact live_len3 hI hH.md.k
  have hl45 : (kys Z (X4 ++ X5)).length = Z.ql.length := by rw [kys_len, ← hX4, ← hX5]; exact live_len45 hI hH.md.k
  have hle3 : X3.length ≤ 256 := by rw [← hX3]; exact live_le C.ent 3
  have hle4 : X4.length ≤ 256 := by rw [← hX4]; exact live_le C.ent 4
  have hle5 : X5.length ≤ 256 := by rw [← hX5]; exact live_le C.ent 5
  have hk3 := kys_len Z X3
  have hk45 := kys_len Z (X4 ++ X5)
  have ha45 : (X4 ++ X5).length = X4.length + X5.length := List.length_append
  obtain ⟨ty3, hg3⟩ := hH.g3
  have hho := hH.ho
  have hkk := hH.md.k
  refine enter (n := 192) (K := mdF mb Z R C) (A := MD (mdF mb Z R C) w.heap.size mb Z R a C) (F := mdF mb Z R C) (T := [(0, .pointer (some ⟨kb, 0, none⟩)), (1, .pointer (some ⟨mb, 0, none⟩))]) (L := [(3, ⟨[.int .u16 0, .int .u32 0], ty3, true⟩)]) (args := [.pointer (some ⟨kb, 0, none⟩), .pointer (some ⟨mb, 0, none⟩)]) Tryd.func13 rfl rfl rfl rfl (kcons hg3 knil) (by simp) (kcons (by intro hq; cases hq) knil) hH.mD MD.stable hH.md.low (kcons (by intro hq; cases hq) knil) ?_
  intro ac h
  refine wp_seq_k fun K1 hK1 => ?_
  refine nd_start (l := [0]) rfl ?_
  refine nd_batch tabOk2 tabZ_ok2 [(0, {})] [0, 1, 4] (T' := [(0, .pointer (some ⟨kb, 0, none⟩)), (1, .pointer (some ⟨mb, 0, none⟩)), (4, .bool false)]) (φ := True) (rest := []) h (by kernel_rfl) rfl trivial fun a2 h3 => ?_
  clear h
  refine nd_done ?_
  refine hK1 _ _ ?_
  clear hK1
  refine wp_seq_k fun K4 hK4 => ?_
  refine nd_start (l := [0, 1, 2, 3, 4, 5, 6]) rfl ?_
  refine nd_batch tabOk2 tabZ_ok2 [(0, {})] [0, 1, 4, 24] (T' := [(0, .pointer (some ⟨kb, 0, none⟩)), (1, .pointer (some ⟨mb, 0, none⟩)), (4, .bool false), (24, .pointer (some ⟨kb, 0, none⟩))]) (φ := True) (rest := [1, 2, 3, 4, 5, 6]) h3 (by kernel_rfl) rfl trivial fun a5 h6 => ?_
  clear h3
  refine nd_op ?_
  refine op_call h6 rfl rfl rfl (callOk Tryd.func43 (by decide) rfl) (args := [.pointer (some ⟨kb, 0, none⟩)]) rfl (lower_ok kb bo bc S _ (kpK hker h6.frame (hdis _ (List.mem_cons_self ..)))) ?_
  rintro _ w7 ⟨rfl, hf9⟩
  refine ⟨_, rfl, ?_⟩
  have h8 := (h6.grow hf9).put (d := some 25) (v := .tuple #[.pointer (some ⟨bo, 0, none⟩), .pointer (some ⟨bc, 0, none⟩)]) (T' := [(25, .tuple #[.pointer (some ⟨bo, 0, none⟩), .pointer (some ⟨bc, 0, none⟩)]), (0, .pointer (some ⟨kb, 0, none⟩)), (1, .pointer (some ⟨mb, 0, none⟩)), (4, .bool false), (24, .pointer (some ⟨kb, 0, none⟩))]) rfl
  clear h6
  refine nd_batch tabOk2 tabZ_ok2 [(2, {}), (3, {}), (4, {}), (5, {}), (6, {})] [0, 1, 4, 5, 6] (T' := [(0, .pointer (some ⟨kb, 0, none⟩)), (1, .pointer (some ⟨mb, 0, none⟩)), (4, .bool false), (5, .pointer (some ⟨bo, 0, none⟩)), (6, .pointer (some ⟨bc, 0, none⟩))]) (φ := True) (rest := []) h8 (by kernel_rfl) rfl trivial fun a10 h11 => ?_
  clear h8
  refine nd_done ?_
  refine hK4 _ _ ?_
  clear hK4
  refine wp_seq_k fun K12 hK12 => ?_
  refine wp_seq_k fun K13 hK13 => ?_
  refine dr_start (KB := [3, mb]) (Bi := [[0, 1], [1], [0, 1], [0, 1], [0, 1], [0, 1], [], [], [0, 1], [0, 1], [0, 1], [1], [0, 1], [0, 1], [0, 1], [0, 1], [], [], [0, 1], [0, 1]]) mixed h11 fun w14 h15 => ?_
  clear h11
  refine dr_batch tabOk2 tabZ_ok2 (by repeat (first | with_reducible exact PF.body | with_reducible apply PF.inB | with_reducible apply PF.next)) [(0, {}), (2, {}), (3, {}), (4, {})] [0, 1, 4, 5, 6, 28, 32] (T' := [(0, .pointer (some ⟨kb, 0, none⟩)), (1, .pointer (some ⟨mb, 0, none⟩)), (4, .bool false), (5, .pointer (some ⟨bo, 0, none⟩)), (6, .pointer (some ⟨bc, 0, none⟩)), (28, .pointer (some ⟨bo, 0, none⟩)), (32, .pointer (some ⟨mb, 0, none⟩))]) (φ := True) (fuel := 16) h15 (by kernel_rfl) rfl (by kernel_rfl) (by kernel_rfl) ⟨trivial, trivial, trivial, trivial, trivial⟩ trivial fun a17 h18 => ?_
  clear h15
  refine dr_read (i := 5) (b := mb) (p := 1) (v := .pointer (some ⟨Z.mo, 0, none⟩)) (fuel := 15) (by repeat (first | with_reducible exact PF.body | with_reducible apply PF.inB | with_reducible apply PF.next)) h18 rfl rfl rfl (by kernel_rfl) (by kernel_rfl) (by kernel_rfl) rfl (rd_m h18 (k := 0) (v := .pointer (some ⟨Z.mo, 0, none⟩)) rfl rfl rfl rfl (md_p ⟨rfl, trivial⟩)) ?_
  have h19 := h18.put (d := some 33) (v := .pointer (some ⟨Z.mo, 0, none⟩)) (T' := [(33, .pointer (some ⟨Z.mo, 0, none⟩)), (0, .pointer (some ⟨kb, 0, none⟩)), (1, .pointer (some ⟨mb, 0, none⟩)), (4, .bool false), (5, .pointer (some ⟨bo, 0, none⟩)), (6, .pointer (some ⟨bc, 0, none⟩)), (28, .pointer (some ⟨bo, 0, none⟩)), (32, .pointer (some ⟨mb, 0, none⟩))]) rfl
  clear h18
  refine wpAnyK_one (i := 1) (fuel := 14) (by kernel_rfl) ?_
  refine op_call h19 rfl rfl rfl (callOk Tryd.func44 (by decide) rfl) (args := [.pointer (some ⟨bo, 0, none⟩), .slice none 0 0]) rfl (by have h9 := storeBytes_ok bo C.ent hv.uc.e none 0 [] [] _ (cpK hcap h19.frame hdis).st rwsNil (by simp) (by simp); rw [hNS] at h9; exact h9) ?_
  rintro _ w26 ⟨o20, c21, F22, rfl, hr23, hf24, hF25⟩
  refine ⟨_, rfl, ?_⟩
  refine ⟨(keepCons (kpM h19.inv.1 (l := .m) trivial (List.mem_cons_self ..) hf24) keepNil), ?_⟩
  have h27 := (h19.grow hf24).put (d := some 29) (v := .slice o20 NS.length c21) (T' := [(29, .slice o20 NS.length c21), (33, .pointer (some ⟨Z.mo, 0, none⟩)), (0, .pointer (some ⟨kb, 0, none⟩)), (1, .pointer (some ⟨mb, 0, none⟩)), (4, .bool false), (5, .pointer (some ⟨bo, 0, none⟩)), (6, .pointer (some ⟨bc, 0, none⟩)), (28, .pointer (some ⟨bo, 0, none⟩)), (32, .pointer (some ⟨mb, 0, none⟩))]) rfl
  clear h19
  refine wpAnyK_one (i := 6) (fuel := 13) (by kernel_rfl) ?_
  refine op_call h27 rfl rfl rfl (callOk Tryd.func44 (by decide) rfl) (args := [.pointer (some ⟨Z.mo, 0, none⟩), .slice none 0 0]) rfl (by have h9 := storeBytes_ok Z.mo C.ent hv.uc.e none 0 [] [] _ h27.inv.1.cp.st rwsNil (by simp) (by simp); rw [hNS] at h9; exact h9) ?_
  rintro _ w34 ⟨o28, c29, F30, rfl, hr31, hf32, hF33⟩
  refine ⟨_, rfl, ?_⟩
  have hr35 := Row.fr hr23 hf32 (fun _ _ hq => by cases hq)
  refine ⟨keepNil, ?_⟩
  have h36 := (h27.grow hf32).put (d := some 34) (v := .slice o28 NS.length c29) (T' := [(34, .slice o28 NS.length c29), (29, .slice o20 NS.length c21), (33, .pointer (some ⟨Z.mo, 0, none⟩)), (0, .pointer (some ⟨kb, 0, none⟩)), (1, .pointer (some ⟨mb, 0, none⟩)), (4, .bool false), (5, .pointer (some ⟨bo, 0, none⟩)), (6, .pointer (some ⟨bc, 0, none⟩)), (28, .pointer (some ⟨bo, 0, none⟩)), (32, .pointer (some ⟨mb, 0, none⟩))]) rfl
  clear h27
  refine wpAnyK_one (i := 7) (fuel := 12) (by kernel_rfl) ?_
  refine op_call h36 rfl rfl rfl (callOk Tryd.func17 (by decide) rfl) (args := [.slice o20 NS.length c21, .slice o28 NS.length c29]) rfl (equal_ok _ (by rw [← hNS]; exact storeN_pos C.ent) _ _ _ _ _ _ _ hr35 hr31) ?_
  rintro _ w37 ⟨rfl, hf39⟩
  refine ⟨_, rfl, ?_⟩
  have h38 := (h36.grow hf39).put (d := some 35) (v := .bool true) (T' := [(35, .bool true), (34, .slice o28 NS.length c29), (29, .slice o20 NS.length c21), (33, .pointer (some ⟨Z.mo, 0, none⟩)), (0, .pointer (some ⟨kb, 0, none⟩)), (1, .pointer (some ⟨mb, 0, none⟩)), (4, .bool false), (5, .pointer (some ⟨bo, 0, none⟩)), (6, .pointer (some ⟨bc, 0, none⟩)), (28, .pointer (some ⟨bo, 0, none⟩)), (32, .pointer (some ⟨mb, 0, none⟩))]) rfl
  refine ⟨keepNil, ?_⟩
  clear h36
  refine dr_batch tabOk2 tabZ_ok2 (by repeat (first | with_reducible exact PF.body | with_reducible apply PF.inB | with_reducible apply PF.next)) [(8, {}), (9, {}), (10, {}), (12, {}), (13, {}), (14, {})] [0, 1, 4, 5, 6, 37, 38, 42] (T' := [(0, .pointer (some ⟨kb, 0, none⟩)), (1, .pointer (some ⟨mb, 0, none⟩)), (4, .bool false), (5, .pointer (some ⟨bo, 0, none⟩)), (6, .pointer (some ⟨bc, 0, none⟩)), (37, .bool false), (38, .pointer (some ⟨bc, 0, none⟩)), (42, .pointer (some ⟨mb, 1, none⟩))]) (φ := True) (fuel := 6) h38 (by kernel_rfl) rfl (by kernel_rfl) (by kernel_rfl) ⟨trivial, trivial, trivial, trivial, trivial, trivial, trivial⟩ trivial fun a40 h41 => ?_
  clear h38
  refine dr_read (i := 15) (b := mb) (p := 1) (v := .pointer (some ⟨Z.mc, 0, none⟩)) (fuel := 5) (by repeat (first | with_reducible exact PF.body | with_reducible apply PF.inB | with_reducible apply PF.next)) h41 rfl rfl rfl (by kernel_rfl) (by kernel_rfl) (by kernel_rfl) rfl (rd_m h41 (k := 1) (v := .pointer (some ⟨Z.mc, 0, none⟩)) rfl rfl rfl rfl (md_p ⟨rfl, trivial⟩)) ?_
  have h42 := h41.put (d := some 43) (v := .pointer (some ⟨Z.mc, 0, none⟩)) (T' := [(43, .pointer (some ⟨Z.mc, 0, none⟩)), (0, .pointer (some ⟨kb, 0, none⟩)), (1, .pointer (some ⟨mb, 0, none⟩)), (4, .bool false), (5, .pointer (some ⟨bo, 0, none⟩)), (6, .pointer (some ⟨bc, 0, none⟩)), (37, .bool false), (38, .pointer (some ⟨bc, 0, none⟩)), (42, .pointer (some ⟨mb, 1, none⟩))]) rfl
  clear h41
  refine wpAnyK_one (i := 11) (fuel := 4) (by kernel_rfl) ?_
  refine op_call h42 rfl rfl rfl (callOk Tryd.func45 (by decide) rfl) (args := [.pointer (some ⟨bc, 0, none⟩), .slice none 0 0]) rfl (by have h9 := spaceBytes_ok bo bc nd C hv.uc none 0 [] [] _ (cpK hcap h42.frame hdis) rwsNil (by simp) (by simp); rw [hNP] at h9; exact h9) ?_
  rintro _ w49 ⟨o43, c44, F45, rfl, hr46, hf47, hF48⟩
  refine ⟨_, rfl, ?_⟩
  refine ⟨(keepCons (kpM h42.inv.1 (l := .m) trivial (List.mem_cons_self ..) hf47) keepNil), ?_⟩
  have h50 := (h42.grow hf47).put (d := some 39) (v := .slice o43 NP.length c44) (T' := [(39, .slice o43 NP.length c44), (43, .pointer (some ⟨Z.mc, 0, none⟩)), (0, .pointer (some ⟨kb, 0, none⟩)), (1, .pointer (some ⟨mb, 0, none⟩)), (4, .bool false), (5, .pointer (some ⟨bo, 0, none⟩)), (6, .pointer (some ⟨bc, 0, none⟩)), (37, .bool false), (38, .pointer (some ⟨bc, 0, none⟩)), (42, .pointer (some ⟨mb, 1, none⟩))]) rfl
  clear h42
  refine wpAnyK_one (i := 16) (fuel := 3) (by kernel_rfl) ?_
  refine op_call h50 rfl rfl rfl (callOk Tryd.func45 (by decide) rfl) (args := [.pointer (some ⟨Z.mc, 0, none⟩), .slice none 0 0]) rfl (by have h9 := spaceBytes_ok Z.mo Z.mc Z.nd C hv.uc none 0 [] [] _ h50.inv.1.cp rwsNil (by simp) (by simp); rw [hNP] at h9; exact h9) ?_
  rintro _ w57 ⟨o51, c52, F53, rfl, hr54, hf55, hF56⟩
  refine ⟨_, rfl, ?_⟩
  have hr58 := Row.fr hr46 hf55 (fun _ _ hq => by cases hq)
  refine ⟨keepNil, ?_⟩
  have h59 := (h50.grow hf55).put (d := some 44) (v := .slice o51 NP.length c52) (T' := [(44, .slice o51 NP.length c52), (39, .slice o43 NP.length c44), (43, .pointer (some ⟨Z.mc, 0, none⟩)), (0, .pointer (some ⟨kb, 0, none⟩)), (1, .pointer (some ⟨mb, 0, none⟩)), (4, .bool false), (5, .pointer (some ⟨bo, 0, none⟩)), (6, .pointer (some ⟨bc, 0, none⟩)), (37, .bool false), (38, .pointer (some ⟨bc, 0, none⟩)), (42, .pointer (some ⟨mb, 1, none⟩))]) rfl
  clear h50
  refine wpAnyK_one (i := 17) (fuel := 2) (by kernel_rfl) ?_
  refine op_call h59 rfl rfl rfl (callOk Tryd.func17 (by decide) rfl) (args := [.slice o43 NP.length c44, .slice o51 NP.length c52]) rfl (equal_ok _ (by rw [← hNP]; exact spaceN_pos C) _ _ _ _ _ _ _ hr58 hr54) ?_
  rintro _ w60 ⟨rfl, hf62⟩
  refine ⟨_, rfl, ?_⟩
  have h61 := (h59.grow hf62).put (d := some 45) (v := .bool true) (T' := [(45, .bool true), (44, .slice o51 NP.length c52), (39, .slice o43 NP.length c44), (43, .pointer (some ⟨Z.mc, 0, none⟩)), (0, .pointer (some ⟨kb, 0, none⟩)), (1, .pointer (some ⟨mb, 0, none⟩)), (4, .bool false), (5, .pointer (some ⟨bo, 0, none⟩)), (6, .pointer (some ⟨bc, 0, none⟩)), (37, .bool false), (38, .pointer (some ⟨bc, 0, none⟩)), (42, .pointer (some ⟨mb, 1, none⟩))]) rfl
  refine ⟨keepNil, ?_⟩
  clear h59
  refine dr_batch tabOk2 tabZ_ok2 (by repeat (first | with_reducible exact PF.body | with_reducible apply PF.inB | with_reducible apply PF.next)) [(18, {}), (19, {})] [0, 1, 4, 5, 6, 47] (T' := [(0, .pointer (some ⟨kb, 0, none⟩)), (1, .pointer (some ⟨mb, 0, none⟩)), (4, .bool false), (5, .pointer (some ⟨bo, 0, none⟩)), (6, .pointer (some ⟨bc, 0, none⟩)), (47, .bool false)]) (φ := True) (fuel := 0) h61 (by kernel_rfl) rfl (by kernel_rfl) (by kernel_rfl) ⟨trivial, trivial, trivial⟩ trivial fun a63 h64 => ?_
  clear h61
  refine wpAnyK_done (by kernel_rfl) ?_ _
  refine hK13 _ _ ?_
  clear hK13
  refine c_false h64 rfl ?_
  refine wp_skip ?_
  refine hK12 _ _ ?_
  clear hK12
  refine wp_seq_k fun K65 hK65 => ?_
  refine wp_seq_k fun K66 hK66 => ?_
  refine dr_start (KB := [3, mb]) (Bi := [[0, 1], [1], [0, 1], [0, 1], [0, 1], [0, 1], [0, 1], [0, 1], [0, 1], [1], [0, 1], [0, 1], [0, 1], [0, 1], [0, 1], [0, 1]]) mixed h64 fun w67 h68 => ?_
  clear h64
  refine dr_batch tabOk2 tabZ_ok2 (by repeat (first | with_reducible exact PF.body | with_reducible apply PF.inB | with_reducible apply PF.next)) [(0, {}), (2, {}), (3, {}), (4, {})] [0, 1, 4, 5, 6, 48, 52] (T' := [(0, .pointer (some ⟨kb, 0, none⟩)), (1, .pointer (some ⟨mb, 0, none⟩)), (4, .bool false), (5, .pointer (some ⟨bo, 0, none⟩)), (6, .pointer (some ⟨bc, 0, none⟩)), (48, .pointer (some ⟨kb, 0, none⟩)), (52, .pointer (some ⟨mb, 13, none⟩))]) (φ := True) (fuel := 12) h68 (by kernel_rfl) rfl (by kernel_rfl) (by kernel_rfl) ⟨trivial, trivial, trivial, trivial, trivial⟩ trivial fun a70 h71 => ?_
  clear h68
  refine dr_read (i := 5) (b := mb) (p := 1) (v := .agg #[.int .u16 ((curR Z a).idx), .int .u32 ((curR Z a).gen)]) (fuel := 11) (by repeat (first | with_reducible exact PF.body | with_reducible apply PF.inB | with_reducible apply PF.next)) h71 rfl rfl rfl (by kernel_rfl) (by kernel_rfl) (by kernel_rfl) rfl (rd_mA h71 (k := 13) (vs := [.int .u16 ((curR Z a).idx), .int .u32 ((curR Z a).gen)]) rfl rfl rfl rfl rfl md_cur) ?_
  have h72 := h71.put (d := some 53) (v := .agg #[.int .u16 ((curR Z a).idx), .int .u32 ((curR Z a).gen)]) (T' := [(53, .agg #[.int .u16 ((curR Z a).idx), .int .u32 ((curR Z a).gen)]), (0, .pointer (some ⟨kb, 0, none⟩)), (1, .pointer (some ⟨mb, 0, none⟩)), (4, .bool false), (5, .pointer (some ⟨bo, 0, none⟩)), (6, .pointer (some ⟨bc, 0, none⟩)), (48, .pointer (some ⟨kb, 0, none⟩)), (52, .pointer (some ⟨mb, 13, none⟩))]) rfl
  clear h71
  refine wpAnyK_one (i := 1) (fuel := 10) (by kernel_rfl) ?_
  refine op_call h72 rfl rfl rfl (callOk Tryd.func18 (by decide) rfl) (args := [.pointer (some ⟨kb, 0, none⟩)]) rfl (running_ok kb bo bc S hrS C.ent _ (kpK hker h72.frame (hdis _ (List.mem_cons_self ..))) (cpK hcap h72.frame hdis).st hkbo) ?_
  rintro _ w73 ⟨rfl, hf75⟩
  refine ⟨_, rfl, ?_⟩
  have h74 := (h72.grow hf75).put (d := some 49) (v := .agg #[.int .u16 ((refP C.ent S.cur).idx), .int .u32 ((refP C.ent S.cur).gen)]) (T' := [(49, .agg #[.int .u16 ((refP C.ent S.cur).idx), .int .u32 ((refP C.ent S.cur).gen)]), (53, .agg #[.int .u16 ((curR Z a).idx), .int .u32 ((curR Z a).gen)]), (0, .pointer (some ⟨kb, 0, none⟩)), (1, .pointer (some ⟨mb, 0, none⟩)), (4, .bool false), (5, .pointer (some ⟨bo, 0, none⟩)), (6, .pointer (some ⟨bc, 0, none⟩)), (48, .pointer (some ⟨kb, 0, none⟩)), (52, .pointer (some ⟨mb, 13, none⟩))]) rfl
  refine ⟨(keepCons (kpM h72.inv.1 (l := .m) trivial (List.mem_cons_self ..) hf75) keepNil), ?_⟩
  clear h72
  refine dr_batch tabOk2 tabZ_ok2 (by repeat (first | with_reducible exact PF.body | with_reducible apply PF.inB | with_reducible apply PF.next)) [(6, {f := 1}), (7, {}), (8, {}), (10, {}), (11, {}), (12, {})] [0, 1, 4, 5, 6, 55, 56, 60] (T' := [(0, .pointer (some ⟨kb, 0, none⟩)), (1, .pointer (some ⟨mb, 0, none⟩)), (4, .bool false), (5, .pointer (some ⟨bo, 0, none⟩)), (6, .pointer (some ⟨bc, 0, none⟩)), (55, .bool false), (56, .pointer (some ⟨kb, 0, none⟩)), (60, .pointer (some ⟨mb, 79, none⟩))]) (φ := EqRun Tryd.prog 39 (.agg #[.int .u16 ((refP C.ent S.cur).idx), .int .u32 ((refP C.ent S.cur).gen)]) (.agg #[.int .u16 ((curR Z a).idx), .int .u32 ((curR Z a).gen)]) true ∧ True) (fuel := 4) h74 (by kernel_rfl) rfl (by kernel_rfl) (by kernel_rfl) ⟨trivial, trivial, trivial, trivial, trivial, trivial, trivial⟩ ⟨(by have hq := runRf (refP C.ent S.cur) (curR Z a); rw [show decide (refP C.ent S.cur = curR Z a) = true from decide_eq_true hrc] at hq; exact hq), trivial⟩ fun a76 h77 => ?_
  clear h74
  refine dr_read (i := 13) (b := mb) (p := 1) (v := .int .u64 a.now) (fuel := 3) (by repeat (first | with_reducible exact PF.body | with_reducible apply PF.inB | with_reducible apply PF.next)) h77 rfl rfl rfl (by kernel_rfl) (by kernel_rfl) (by kernel_rfl) rfl (rd_m h77 (k := 79) (v := .int .u64 a.now) rfl rfl rfl rfl md_now) ?_
  have h78 := h77.put (d := some 61) (v := .int .u64 a.now) (T' := [(61, .int .u64 a.now), (0, .pointer (some ⟨kb, 0, none⟩)), (1, .pointer (some ⟨mb, 0, none⟩)), (4, .bool false), (5, .pointer (some ⟨bo, 0, none⟩)), (6, .pointer (some ⟨bc, 0, none⟩)), (55, .bool false), (56, .pointer (some ⟨kb, 0, none⟩)), (60, .pointer (some ⟨mb, 79, none⟩))]) rfl
  clear h77
  refine wpAnyK_one (i := 9) (fuel := 2) (by kernel_rfl) ?_
  refine op_call h78 rfl rfl rfl (callOk Tryd.func46 (by decide) rfl) (args := [.pointer (some ⟨kb, 0, none⟩)]) rfl (now_ok kb bo bc S _ (kpK hker h78.frame (hdis _ (List.mem_cons_self ..)))) ?_
  rintro _ w79 ⟨rfl, hf81⟩
  refine ⟨_, rfl, ?_⟩
  have h80 := (h78.grow hf81).put (d := some 57) (v := .int .u64 S.now) (T' := [(57, .int .u64 S.now), (61, .int .u64 a.now), (0, .pointer (some ⟨kb, 0, none⟩)), (1, .pointer (some ⟨mb, 0, none⟩)), (4, .bool false), (5, .pointer (some ⟨bo, 0, none⟩)), (6, .pointer (some ⟨bc, 0, none⟩)), (55, .bool false), (56, .pointer (some ⟨kb, 0, none⟩)), (60, .pointer (some ⟨mb, 79, none⟩))]) rfl
  refine ⟨(keepCons (kpM h78.inv.1 (l := .m) trivial (List.mem_cons_self ..) hf81) keepNil), ?_⟩
  clear h78
  refine dr_batch tabOk2 tabZ_ok2 (by repeat (first | with_reducible exact PF.body | with_reducible apply PF.inB | with_reducible apply PF.next)) [(14, {f := 1}), (15, {})] [0, 1, 4, 5, 6, 63] (T' := [(0, .pointer (some ⟨kb, 0, none⟩)), (1, .pointer (some ⟨mb, 0, none⟩)), (4, .bool false), (5, .pointer (some ⟨bo, 0, none⟩)), (6, .pointer (some ⟨bc, 0, none⟩)), (63, .bool false)]) (φ := ((S.now != a.now)) = false ∧ True) (fuel := 0) h80 (by kernel_rfl) rfl (by kernel_rfl) (by kernel_rfl) ⟨trivial, trivial, trivial⟩ ⟨(by rw [← hv.ab.nw]; simp), trivial⟩ fun a82 h83 => ?_
  clear h80
  refine wpAnyK_done (by kernel_rfl) ?_ _
  refine hK66 _ _ ?_
  clear hK66
  refine c_false h83 rfl ?_
  refine wp_skip ?_
  refine hK65 _ _ ?_
  clear hK65
  refine wp_seq_k fun K84 hK84 => ?_
  refine nd_start (l := [0, 1, 2]) rfl ?_
  refine nd_batch tabOk2 tabZ_ok2 [(0, {})] [0, 1, 4, 5, 6, 64] (T' := [(0, .pointer (some ⟨kb, 0, none⟩)), (1, .pointer (some ⟨mb, 0, none⟩)), (4, .bool false), (5, .pointer (some ⟨bo, 0, none⟩)), (6, .pointer (some ⟨bc, 0, none⟩)), (64, .pointer (some ⟨kb, 0, none⟩))]) (φ := True) (rest := [1, 2]) h83 (by kernel_rfl) rfl trivial fun a85 h86 => ?_
  clear h83
  refine nd_op ?_
  have hlLh94 : ∀ kb ∈ ([(3, ⟨[.int .u16 0, .int .u32 0], ty3, true⟩)] : Mem), kb.1 < _ := fun kb hkb => lt_of_heap (h86.known kb hkb)
  have hlSh94 : w.heap.size ≤ _ := h86.frame.size
  refine op_call h86 rfl rfl rfl (callOk Tryd.func27 (by decide) rfl) (args := [.pointer (some ⟨kb, 0, none⟩), .int .u8 3]) rfl (by have h9 := live_ok kb bo bc S C.ent 3 _ (kpK hker h86.frame (hdis _ (List.mem_cons_self ..))) (cpK hcap h86.frame hdis).st hkbo; rw [live_kys hI, hX3] at h9; exact h9) ?_
  rintro _ w93 ⟨o87, c88, F89, rfl, hr90, hf91, hF92⟩
  refine ⟨_, rfl, ?_⟩
  have h94q := h86.grow hf91
  have h95 := (h94q).put (d := some 65) (v := .slice o87 ((kys Z X3).length) c88) (T' := [(65, .slice o87 ((kys Z X3).length) c88), (0, .pointer (some ⟨kb, 0, none⟩)), (1, .pointer (some ⟨mb, 0, none⟩)), (4, .bool false), (5, .pointer (some ⟨bo, 0, none⟩)), (6, .pointer (some ⟨bc, 0, none⟩)), (64, .pointer (some ⟨kb, 0, none⟩))]) rfl
  clear h86 h94q
  refine nd_batch tabOk2 tabZ_ok2 [(2, {})] [0, 1, 4, 5, 6, 7] (T' := [(0, .pointer (some ⟨kb, 0, none⟩)), (1, .pointer (some ⟨mb, 0, none⟩)), (4, .bool false), (5, .pointer (some ⟨bo, 0, none⟩)), (6, .pointer (some ⟨bc, 0, none⟩)), (7, .slice o87 ((kys Z X3).length) c88)]) (φ := True) (rest := []) h95 (by kernel_rfl) rfl trivial fun a96 h97 => ?_
  clear h95
  refine nd_done ?_
  refine hK84 _ _ ?_
  clear hK84
  refine wp_seq_k fun K98 hK98 => ?_
  refine wp_seq_k fun K99 hK99 => ?_
  refine nd_start (l := [0, 1, 2, 3, 4, 5, 6, 7]) rfl ?_
  refine nd_batch tabOk2 tabZ_ok2 [(0, {}), (1, {}), (2, {}), (3, {}), (4, {})] [0, 1, 4, 5, 6, 7, 67, 70] (T' := [(0, .pointer (some ⟨kb, 0, none⟩)), (1, .pointer (some ⟨mb, 0, none⟩)), (4, .bool false), (5, .pointer (some ⟨bo, 0, none⟩)), (6, .pointer (some ⟨bc, 0, none⟩)), (7, .slice o87 ((kys Z X3).length) c88), (67, .int .i64 (((kys Z X3).length : Nat) : Int)), (70, .pointer (some ⟨mb, 2, none⟩))]) (φ := True) (rest := [5, 6, 7]) h97 (by kernel_rfl) rfl trivial fun a100 h101 => ?_
  clear h97
  refine nd_op ?_
  refine op_read (b := mb) (v := .map (some Z.tb)) h101 rfl rfl (rd_m h101 (k := 2) (v := .map (some Z.tb)) rfl rfl rfl rfl (md_p ⟨rfl, trivial⟩)) ?_
  have h102 := h101.put (d := some 71) (v := .map (some Z.tb)) (T' := [(71, .map (some Z.tb)), (0, .pointer (some ⟨kb, 0, none⟩)), (1, .pointer (some ⟨mb, 0, none⟩)), (4, .bool false), (5, .pointer (some ⟨bo, 0, none⟩)), (6, .pointer (some ⟨bc, 0, none⟩)), (7, .slice o87 ((kys Z X3).length) c88), (67, .int .i64 (((kys Z X3).length : Nat) : Int)), (70, .pointer (some ⟨mb, 2, none⟩))]) rfl
  clear h101
  refine nd_op ?_
  refine op_read (b := Z.tb) (v := .int .i64 ((Z.tl.length : Nat) : Int)) h102 rfl rfl (by rw [show ((Z.tl.length : Nat) : Int) = (((Z.tl.map (tE Z)).length : Nat) : Int) by rw [List.length_map]]; exact rd_len Tryd.underlying99 h102 rfl rfl h102.inv.1.t) ?_
  have h103 := h102.put (d := some 72) (v := .int .i64 ((Z.tl.length : Nat) : Int)) (T' := [(72, .int .i64 ((Z.tl.length : Nat) : Int)), (71, .map (some Z.tb)), (0, .pointer (some ⟨kb, 0, none⟩)), (1, .pointer (some ⟨mb, 0, none⟩)), (4, .bool false), (5, .pointer (some ⟨bo, 0, none⟩)), (6, .pointer (some ⟨bc, 0, none⟩)), (7, .slice o87 ((kys Z X3).length) c88), (67, .int .i64 (((kys Z X3).length : Nat) : Int)), (70, .pointer (some ⟨mb, 2, none⟩))]) rfl
  clear h102
  refine nd_batch tabOk2 tabZ_ok2 [(7, {f := 1})] [0, 1, 4, 5, 6, 7, 73] (T' := [(0, .pointer (some ⟨kb, 0, none⟩)), (1, .pointer (some ⟨mb, 0, none⟩)), (4, .bool false), (5, .pointer (some ⟨bo, 0, none⟩)), (6, .pointer (some ⟨bc, 0, none⟩)), (7, .slice o87 ((kys Z X3).length) c88), (73, .bool false)]) (φ := (((((kys Z X3).length : Nat) : Int) != ((Z.tl.length : Nat) : Int))) = false ∧ True) (rest := []) h103 (by kernel_rfl) rfl ⟨(by rw [hl3]; simp), trivial⟩ fun a104 h105 => ?_
  clear h103
  refine nd_done ?_
  refine hK99 _ _ ?_
  clear hK99
  refine c_false h105 rfl ?_
  refine wp_skip ?_
  refine hK98 _ _ ?_
  clear hK98
  refine wp_seq_k fun K106 hK106 => ?_
  refine wp_seq_k fun K107 hK107 => ?_
  refine nd_start (l := [0, 1, 2]) rfl ?_
  refine nd_batch tabOk2 tabZ_ok2 [(0, {}), (1, {}), (2, {})] [0, 1, 4, 5, 6, 7, 74, 75, 76] (T' := [(0, .pointer (some ⟨kb, 0, none⟩)), (1, .pointer (some ⟨mb, 0, none⟩)), (4, .bool false), (5, .pointer (some ⟨bo, 0, none⟩)), (6, .pointer (some ⟨bc, 0, none⟩)), (7, .slice o87 ((kys Z X3).length) c88), (74, .slice o87 ((kys Z X3).length) c88), (75, .int .i64 (((kys Z X3).length : Nat) : Int)), (76, .int .i64 0)]) (φ := True) (rest := []) h105 (by kernel_rfl) rfl trivial fun a108 h109 => ?_
  clear h105
  refine nd_done ?_
  refine hK107 _ _ ?_
  clear hK107
  refine wp_block ?_
  refine wp_loop_ghost (fun g ga gw => ∃ (m : Nat), (g = (kys Z X3).length - m) ∧ (m ≤ (kys Z X3).length) ∧ St (MCx 192 (mdF mb Z R C) w mb Z R a C) [(0, .pointer (some ⟨kb, 0, none⟩)), (1, .pointer (some ⟨mb, 0, none⟩)), (74, .slice o87 ((kys Z X3).length) c88), (75, .int .i64 (((kys Z X3).length : Nat) : Int)), (76, .int .i64 ((m : Nat) : Int))] [(3, ⟨[.int .u16 0, .int .u32 0], ty3, true⟩)] ga gw) (kys Z X3).length ⟨0, by omega, by omega, (h109.slotsMono (restr_spec (keep := [0, 1, 74, 75, 76]) rfl))⟩ ?_
  clear h109
  rintro g a110 w111 ⟨m, hi113, hi114, h112⟩
  have hig := hi113
  have hmN := hi114
  refine wp_seq_k fun K115 hK115 => ?_
  refine nd_start (l := [0]) rfl ?_
  refine nd_batch tabOk2 tabZ_ok2 [(0, {})] [0, 1, 74, 75, 76, 77] (T' := [(0, .pointer (some ⟨kb, 0, none⟩)), (1, .pointer (some ⟨mb, 0, none⟩)), (74, .slice o87 ((kys Z X3).length) c88), (75, .int .i64 (((kys Z X3).length : Nat) : Int)), (76, .int .i64 ((m : Nat) : Int)), (77, .bool (decide (((m : Nat) : Int) < (((kys Z X3).length : Nat) : Int))))]) (φ := True) (rest := []) h112 (by kernel_rfl) rfl trivial fun a116 h117 => ?_
  clear h112
  refine nd_done ?_
  refine hK115 _ _ ?_
  clear hK115
  refine wp_seq_k fun K118 hK118 => ?_
  refine c_split h117 (b := decide (((m : Nat) : Int) < (((kys Z X3).length : Nat) : Int))) rfl (fun hc119 => ?_) (fun hc119 => ?_)
  ·
    have hc119f : ((m : Nat) : Int) < (((kys Z X3).length : Nat) : Int) := by simpa using hc119
    exact absurd hc119f (by rw [kys_len, h3e]; show ¬ ((m : Nat) : Int) < 0; omega)
  ·
    have hc119f : ¬ ((m : Nat) : Int) < (((kys Z X3).length : Nat) : Int) := by simpa using hc119
    refine wp_exit ?_
    refine hK106 _ _ ?_
    clear hK106
    refine wp_seq_k fun K120 hK120 => ?_
    refine wp_seq_k fun K121 hK121 => ?_
    refine nd_start (l := [0]) rfl ?_
    refine nd_batch tabOk2 tabZ_ok2 [(0, {})] [0, 1, 74, 75, 76, 14] (T' := [(0, .pointer (some ⟨kb, 0, none⟩)), (1, .pointer (some ⟨mb, 0, none⟩)), (74, .slice o87 ((kys Z X3).length) c88), (75, .int .i64 (((kys Z X3).length : Nat) : Int)), (76, .int .i64 ((m : Nat) : Int)), (14, .int .i64 0)]) (φ := True) (rest := []) h117 (by kernel_rfl) rfl trivial fun a122 h123 => ?_
    clear h117
    refine nd_done ?_
    refine hK121 _ _ ?_
    clear hK121
    refine wp_block ?_
    refine wp_loop_ghost (fun g ga gw => ∃ (m : Nat), (g = 8 - m) ∧ (m ≤ 8) ∧ St (MCx 192 (mdF mb Z R C) w mb Z R a C) [(0, .pointer (some ⟨kb, 0, none⟩)), (1, .pointer (some ⟨mb, 0, none⟩)), (14, .int .i64 ((m : Nat) : Int))] [(3, ⟨[.int .u16 0, .int .u32 0], ty3, true⟩)] ga gw) 8 ⟨0, by omega, by omega, (h123.slotsMono (restr_spec (keep := [0, 1, 14]) rfl))⟩ ?_
    clear h123
    rintro g a124 w125 ⟨m, hi127, hi128, h126⟩
    have hig := hi127
    have hmN := hi128
    refine wp_seq_k fun K129 hK129 => ?_
    refine wp_seq_k fun K130 hK130 => ?_
    refine nd_start (l := [0, 1]) rfl ?_
    refine nd_batch tabOk2 tabZ_ok2 [(0, {}), (1, {})] [0, 1, 14, 106] (T' := [(0, .pointer (some ⟨kb, 0, none⟩)), (1, .pointer (some ⟨mb, 0, none⟩)), (14, .int .i64 ((m : Nat) : Int)), (106, .bool (decide (((m : Nat) : Int) < 8)))]) (φ := True) (rest := []) h126 (by kernel_rfl) rfl trivial fun a131 h132 => ?_
    clear h126
    refine nd_done ?_
    refine hK130 _ _ ?_
    clear hK130
    refine c_split h132 (b := decide (((m : Nat) : Int) < 8)) rfl (fun hc133 => ?_) (fun hc133 => ?_)
    ·
      have hc133f : ((m : Nat) : Int) < 8 := by simpa using hc133
      refine wp_skip ?_
      refine hK129 _ _ ?_
      clear hK129
      refine wp_seq_k fun K134 hK134 => ?_
      refine wp_block ?_
      refine wp_seq_k fun K135 hK135 => ?_
      refine dr_start (KB := [3, mb]) (Bi := [[0, 1], [0, 1], [1], [0, 1], [0, 1], [0, 1], [0, 1], [0, 1], [0, 1], [], [0, 1]]) mixed h132 fun w136 h137 => ?_
      clear h132
      refine dr_batch tabOk2 tabZ_ok2 (by repeat (first | with_reducible exact PF.body | with_reducible apply PF.inB | with_reducible apply PF.next)) [(0, {}), (1, {}), (3, {}), (4, {}), (5, {}), (6, {}), (7, {})] [0, 1, 14, 109, 110, 116] (T' := [(0, .pointer (some ⟨kb, 0, none⟩)), (1, .pointer (some ⟨mb, 0, none⟩)), (14, .int .i64 ((m : Nat) : Int)), (109, .pointer (some ⟨kb, 0, none⟩)), (110, .int .i64 ((m : Nat) : Int)), (116, .pointer (some ⟨mb, 5 + (m * 1), none⟩))]) (φ := (0 ≤ ((m : Nat) : Int) ∧ ((m : Nat) : Int) < 8) ∧ True) (fuel := 4) h137 (by kernel_rfl) rfl (by kernel_rfl) (by kernel_rfl) ⟨trivial, trivial, trivial, trivial, trivial, trivial, trivial, trivial⟩ ⟨⟨by omega, by omega⟩, trivial⟩ fun a139 h140 => ?_
      clear h137
      refine dr_read (i := 8) (b := mb) (p := 1) (v := .slice (R.ro m) ((kys Z (a.q (.r m))).length) (R.rk m)) (fuel := 3) (by repeat (first | with_reducible exact PF.body | with_reducible apply PF.inB | with_reducible apply PF.next)) h140 rfl rfl rfl (by kernel_rfl) (by kernel_rfl) (by kernel_rfl) rfl (rd_m h140 (k := 5 + (m * 1)) (v := .slice (R.ro m) ((kys Z (a.q (.r m))).length) (R.rk m)) rfl rfl rfl rfl (md_r (p := m) (by omega) (by omega))) ?_
      have h141 := h140.put (d := some 117) (v := .slice (R.ro m) ((kys Z (a.q (.r m))).length) (R.rk m)) (T' := [(117, .slice (R.ro m) ((kys Z (a.q (.r m))).length) (R.rk m)), (0, .pointer (some ⟨kb, 0, none⟩)), (1, .pointer (some ⟨mb, 0, none⟩)), (14, .int .i64 ((m : Nat) : Int)), (109, .pointer (some ⟨kb, 0, none⟩)), (110, .int .i64 ((m : Nat) : Int)), (116, .pointer (some ⟨mb, 5 + (m * 1), none⟩))]) rfl
      clear h140
      refine wpAnyK_one (i := 2) (fuel := 2) (by kernel_rfl) ?_
      have hszhr145 : w.heap.size ≤ _ := h141.frame.size
      refine op_call h141 rfl rfl rfl (callOk Tryd.func30 (by decide) rfl) (args := [.pointer (some ⟨kb, 0, none⟩), .int .i64 ((m : Nat) : Int)]) rfl (by have h9 := ready_ok kb bo bc S hrS C.ent a.q hQ (m : Int) ⟨by omega, by omega⟩ _ (kpK hker h141.frame (hdis _ (List.mem_cons_self ..))) (cpK hcap h141.frame hdis).st hkbo; rw [Int.toNat_natCast, ready_same hI hkk (by omega)] at h9; exact h9) ?_
      rintro _ w148 ⟨o142, c143, F144, rfl, hr145, hf146, hF147⟩
      refine ⟨_, rfl, ?_⟩
      refine ⟨(keepCons (kpM h141.inv.1 (l := .m) trivial (List.mem_cons_self ..) hf146) keepNil), ?_⟩
      have h149 := (h141.grow hf146).put (d := some 111) (v := .slice o142 ((kys Z (a.q (.r m))).length) c143) (T' := [(111, .slice o142 ((kys Z (a.q (.r m))).length) c143), (117, .slice (R.ro m) ((kys Z (a.q (.r m))).length) (R.rk m)), (0, .pointer (some ⟨kb, 0, none⟩)), (1, .pointer (some ⟨mb, 0, none⟩)), (14, .int .i64 ((m : Nat) : Int)), (109, .pointer (some ⟨kb, 0, none⟩)), (110, .int .i64 ((m : Nat) : Int)), (116, .pointer (some ⟨mb, 5 + (m * 1), none⟩))]) rfl
      clear h141
      refine wpAnyK_one (i := 9) (fuel := 1) (by kernel_rfl) ?_
      refine op_call h149 rfl rfl rfl (callOk Tryd.func23 (by decide) rfl) (args := [.slice o142 ((kys Z (a.q (.r m))).length) c143, .slice (R.ro m) ((kys Z (a.q (.r m))).length) (R.rk m)]) rfl (eqRows (by rw [kys_len]; have := hI.mp.len hkk (L := .r m) (show m < 8 by omega); omega) hr145 (h149.inv.1.rr m (by omega) (by rw [hho]; simp)) (fun b hb hq => by have h1 := hF147 b hb; have h2 := hH.md.low b (mem_mdF.2 ⟨.rr m, (show m < 8 by omega), hq⟩); omega)) ?_
      rintro _ w150 ⟨rfl, hf152⟩
      refine ⟨_, rfl, ?_⟩
      have h151 := (h149.grow hf152).put (d := some 118) (v := .bool true) (T' := [(118, .bool true), (111, .slice o142 ((kys Z (a.q (.r m))).length) c143), (117, .slice (R.ro m) ((kys Z (a.q (.r m))).length) (R.rk m)), (0, .pointer (some ⟨kb, 0, none⟩)), (1, .pointer (some ⟨mb, 0, none⟩)), (14, .int .i64 ((m : Nat) : Int)), (109, .pointer (some ⟨kb, 0, none⟩)), (110, .int .i64 ((m : Nat) : Int)), (116, .pointer (some ⟨mb, 5 + (m * 1), none⟩))]) rfl
      refine ⟨keepNil, ?_⟩
      clear h149
      refine dr_batch tabOk2 tabZ_ok2 (by repeat (first | with_reducible exact PF.body | with_reducible apply PF.inB | with_reducible apply PF.next)) [(10, {})] [0, 1, 14, 119] (T' := [(0, .pointer (some ⟨kb, 0, none⟩)), (1, .pointer (some ⟨mb, 0, none⟩)), (14, .int .i64 ((m : Nat) : Int)), (119, .bool false)]) (φ := True) (fuel := 0) h151 (by kernel_rfl) rfl (by kernel_rfl) (by kernel_rfl) ⟨trivial, trivial⟩ trivial fun a153 h154 => ?_
      clear h151
      refine wpAnyK_done (by kernel_rfl) ?_ _
      refine hK135 _ _ ?_
      clear hK135
      refine c_false h154 rfl ?_
      refine wp_skip ?_
      refine hK134 _ _ ?_
      clear hK134
      refine nd_start (l := [0, 1, 2]) rfl ?_
      refine nd_batch tabOk2 tabZ_ok2 [(0, {}), (1, {}), (2, {})] [0, 1, 14] (T' := [(0, .pointer (some ⟨kb, 0, none⟩)), (1, .pointer (some ⟨mb, 0, none⟩)), (14, .int .i64 (((m : Nat) : Int) + 1))]) (φ := inR .i64 (((m : Nat) : Int) + 1) ∧ True) (rest := []) h154 (by kernel_rfl) rfl ⟨⟨by omega, by omega⟩, trivial⟩ fun a155 h156 => ?_
      clear h154
      refine nd_done ?_
      exact ⟨(g - 1), by omega, (m + 1), by omega, by omega, (h156.slotsMono (restr_spec (keep := [0, 1, 14]) rfl))⟩
    ·
      have hc133f : ¬ ((m : Nat) : Int) < 8 := by simpa using hc133
      refine wp_exit ?_
      refine hK120 _ _ ?_
      clear hK120
      refine wp_seq_k fun K157 hK157 => ?_
      refine nd_start (l := [0, 1, 2, 3, 4, 5]) rfl ?_
      refine nd_batch tabOk2 tabZ_ok2 [(0, {})] [0, 1, 14, 120] (T' := [(0, .pointer (some ⟨kb, 0, none⟩)), (1, .pointer (some ⟨mb, 0, none⟩)), (14, .int .i64 ((m : Nat) : Int)), (120, .pointer (some ⟨kb, 0, none⟩))]) (φ := True) (rest := [1, 2, 3, 4, 5]) h132 (by kernel_rfl) rfl trivial fun a158 h159 => ?_
      clear h132
      refine nd_op ?_
      have hlLh167 : ∀ kb ∈ ([(3, ⟨[.int .u16 0, .int .u32 0], ty3, true⟩)] : Mem), kb.1 < _ := fun kb hkb => lt_of_heap (h159.known kb hkb)
      have hlSh167 : w.heap.size ≤ _ := h159.frame.size
      refine op_call h159 rfl rfl rfl (callOk Tryd.func27 (by decide) rfl) (args := [.pointer (some ⟨kb, 0, none⟩), .int .u8 4]) rfl (by have h9 := live_ok kb bo bc S C.ent 4 _ (kpK hker h159.frame (hdis _ (List.mem_cons_self ..))) (cpK hcap h159.frame hdis).st hkbo; rw [live_kys hI, hX4] at h9; exact h9) ?_
      rintro _ w166 ⟨o160, c161, F162, rfl, hr163, hf164, hF165⟩
      refine ⟨_, rfl, ?_⟩
      have h167q := h159.grow hf164
      have h168 := (h167q).put (d := some 121) (v := .slice o160 ((kys Z X4).length) c161) (T' := [(121, .slice o160 ((kys Z X4).length) c161), (0, .pointer (some ⟨kb, 0, none⟩)), (1, .pointer (some ⟨mb, 0, none⟩)), (14, .int .i64 ((m : Nat) : Int)), (120, .pointer (some ⟨kb, 0, none⟩))]) rfl
      clear h159 h167q
      refine nd_batch tabOk2 tabZ_ok2 [(2, {})] [121, 0, 1, 14, 122] (T' := [(121, .slice o160 ((kys Z X4).length) c161), (0, .pointer (some ⟨kb, 0, none⟩)), (1, .pointer (some ⟨mb, 0, none⟩)), (14, .int .i64 ((m : Nat) : Int)), (122, .pointer (some ⟨kb, 0, none⟩))]) (φ := True) (rest := [3, 4, 5]) h168 (by kernel_rfl) rfl trivial fun a169 h170 => ?_
      clear h168
      refine nd_op ?_
      have hlLh178 : ∀ kb ∈ ([(3, ⟨[.int .u16 0, .int .u32 0], ty3, true⟩)] : Mem), kb.1 < _ := fun kb hkb => lt_of_heap (h170.known kb hkb)
      have hlSh178 : w.heap.size ≤ _ := h170.frame.size
      refine op_call h170 rfl rfl rfl (callOk Tryd.func27 (by decide) rfl) (args := [.pointer (some ⟨kb, 0, none⟩), .int .u8 5]) rfl (by have h9 := live_ok kb bo bc S C.ent 5 _ (kpK hker h170.frame (hdis _ (List.mem_cons_self ..))) (cpK hcap h170.frame hdis).st hkbo; rw [live_kys hI, hX5] at h9; exact h9) ?_
      rintro _ w177 ⟨o171, c172, F173, rfl, hr174, hf175, hF176⟩
      refine ⟨_, rfl, ?_⟩
      have h178q := h170.grow hf175
      have hr179 := Row.fr hr163 hf175 (fun _ _ hq => by cases hq)
      have h180 := (h178q).put (d := some 123) (v := .slice o171 ((kys Z X5).length) c172) (T' := [(123, .slice o171 ((kys Z X5).length) c172), (121, .slice o160 ((kys Z X4).length) c161), (0, .pointer (some ⟨kb, 0, none⟩)), (1, .pointer (some ⟨mb, 0, none⟩)), (14, .int .i64 ((m : Nat) : Int)), (122, .pointer (some ⟨kb, 0, none⟩))]) rfl
      clear h170 h178q
      refine nd_op ?_
      refine op_append tabOk2 (e := 39) (so := o160) (n := (kys Z X4).length) (c := c161) (xo := o171) (m := (kys Z X5).length) (cx := c172) (vals := (kys Z X4).flatMap rfC) (vs := (kys Z X5).flatMap rfC) (F := F162) h180 rfl rfl rfl rfl rfl rfl rfl rfl rfl rfl rfl rfl hr179 (src_row hr174) (by rw [kys_len, kys_len]; omega) (allOne_rf _) ?_
      intro o181 c182 F183 w184 hr185 hf186 hF187
      have hr1852 := rl_app (enc := rfC) (xs := (kys Z X4)) (ys := (kys Z X5)) hr185
      have hr185e : (kys Z X4) ++ (kys Z X5) = kys Z (X4 ++ X5) := by simp [kys]
      rw [hr185e] at hr1852
      rw [show (kys Z X4).length + (kys Z X5).length = (kys Z (X4 ++ X5)).length by rw [← hr185e, List.length_append]]
      have h188q := st_new h180 hf186 (fun kb hkb hq => by have h1 := hlLh167 kb hkb; have h2 := hF165 _ hq; omega) (fun b hb hq => by have h1 := hH.md.low b hb; have h2 := hF165 _ hq; omega) (fun b hb => by have h2 := hF165 _ hb; omega)
      obtain ⟨r4, r4cs, hro4, hrb4, hrF4, r4all⟩ := row_all hr1852 (by rw [kys_len]; exact h45l)
      subst hro4 hrF4
      have hge4 : w.heap.size ≤ r4 := (hF187 r4 (by simp)).elim (fun h9 => Nat.le_trans hlSh167 (hF165 _ h9)) (fun h9 => Nat.le_trans h180.frame.size h9)
      have hgl4 : ∀ kb ∈ ([(3, ⟨[.int .u16 0, .int .u32 0], ty3, true⟩)] : Mem), kb.1 ≠ r4 := fun kb hkb e => (hF187 r4 (by simp)).elim (fun h9 => by have h1 := hlLh167 kb hkb; have h2 := hF165 _ h9; omega) (fun h9 => by have h1 := lt_of_heap (h180.known kb hkb); omega)
      have h188r : St _ _ [(3, ⟨[.int .u16 0, .int .u32 0], ty3, true⟩), (r4, ⟨r4cs, 39, false⟩)] _ _ := st_addL h188q hrb4 hgl4 hge4 (fun hq => by have h1 := hH.md.low _ hq; omega)
      clear h188q
      have h189 := (h188r).put (d := some 124) (v := .slice (some ⟨r4, 0, none⟩) ((kys Z (X4 ++ X5)).length) c182) (T' := [(124, .slice (some ⟨r4, 0, none⟩) ((kys Z (X4 ++ X5)).length) c182), (123, .slice o171 ((kys Z X5).length) c172), (121, .slice o160 ((kys Z X4).length) c161), (0, .pointer (some ⟨kb, 0, none⟩)), (1, .pointer (some ⟨mb, 0, none⟩)), (14, .int .i64 ((m : Nat) : Int)), (122, .pointer (some ⟨kb, 0, none⟩))]) rfl
      clear h180 h188r
      refine nd_batch tabOk2 tabZ_ok2 [(5, {})] [0, 1, 14, 15] (T' := [(0, .pointer (some ⟨kb, 0, none⟩)), (1, .pointer (some ⟨mb, 0, none⟩)), (14, .int .i64 ((m : Nat) : Int)), (15, .slice (some ⟨r4, 0, none⟩) ((kys Z (X4 ++ X5)).length) c182)]) (φ := True) (rest := []) h189 (by kernel_rfl) rfl trivial fun a190 h191 => ?_
      clear h189
      refine nd_done ?_
      refine hK157 _ _ ?_
      clear hK157
      refine wp_seq_k fun K192 hK192 => ?_
      refine wp_seq_k fun K193 hK193 => ?_
      refine nd_start (l := [0, 1, 2, 3, 4, 5, 6, 7]) rfl ?_
      refine nd_batch tabOk2 tabZ_ok2 [(0, {}), (1, {}), (2, {}), (3, {}), (4, {})] [0, 1, 14, 15, 126, 129] (T' := [(0, .pointer (some ⟨kb, 0, none⟩)), (1, .pointer (some ⟨mb, 0, none⟩)), (14, .int .i64 ((m : Nat) : Int)), (15, .slice (some ⟨r4, 0, none⟩) ((kys Z (X4 ++ X5)).length) c182), (126, .int .i64 (((kys Z (X4 ++ X5)).length : Nat) : Int)), (129, .pointer (some ⟨mb, 3, none⟩))]) (φ := True) (rest := [5, 6, 7]) h191 (by kernel_rfl) rfl trivial fun a194 h195 => ?_
      clear h191
      refine nd_op ?_
      refine op_read (b := mb) (v := .map (some Z.qb)) h195 rfl rfl (rd_m h195 (k := 3) (v := .map (some Z.qb)) rfl rfl rfl rfl (md_p ⟨rfl, trivial⟩)) ?_
      have h196 := h195.put (d := some 130) (v := .map (some Z.qb)) (T' := [(130, .map (some Z.qb)), (0, .pointer (some ⟨kb, 0, none⟩)), (1, .pointer (some ⟨mb, 0, none⟩)), (14, .int .i64 ((m : Nat) : Int)), (15, .slice (some ⟨r4, 0, none⟩) ((kys Z (X4 ++ X5)).length) c182), (126, .int .i64 (((kys Z (X4 ++ X5)).length : Nat) : Int)), (129, .pointer (some ⟨mb, 3, none⟩))]) rfl
      clear h195
      refine nd_op ?_
      refine op_read (b := Z.qb) (v := .int .i64 ((Z.ql.length : Nat) : Int)) h196 rfl rfl (by rw [show ((Z.ql.length : Nat) : Int) = (((Z.ql.map (qE Z R a)).length : Nat) : Int) by rw [List.length_map]]; exact rd_len Tryd.underlying100 h196 rfl rfl h196.inv.1.q) ?_
      have h197 := h196.put (d := some 131) (v := .int .i64 ((Z.ql.length : Nat) : Int)) (T' := [(131, .int .i64 ((Z.ql.length : Nat) : Int)), (130, .map (some Z.qb)), (0, .pointer (some ⟨kb, 0, none⟩)), (1, .pointer (some ⟨mb, 0, none⟩)), (14, .int .i64 ((m : Nat) : Int)), (15, .slice (some ⟨r4, 0, none⟩) ((kys Z (X4 ++ X5)).length) c182), (126, .int .i64 (((kys Z (X4 ++ X5)).length : Nat) : Int)), (129, .pointer (some ⟨mb, 3, none⟩))]) rfl
      clear h196
      refine nd_batch tabOk2 tabZ_ok2 [(7, {f := 1})] [0, 1, 14, 15, 132] (T' := [(0, .pointer (some ⟨kb, 0, none⟩)), (1, .pointer (some ⟨mb, 0, none⟩)), (14, .int .i64 ((m : Nat) : Int)), (15, .slice (some ⟨r4, 0, none⟩) ((kys Z (X4 ++ X5)).length) c182), (132, .bool false)]) (φ := (((((kys Z (X4 ++ X5)).length : Nat) : Int) != ((Z.ql.length : Nat) : Int))) = false ∧ True) (rest := []) h197 (by kernel_rfl) rfl ⟨(by rw [hl45]; simp), trivial⟩ fun a198 h199 => ?_
      clear h197
      refine nd_done ?_
      refine hK193 _ _ ?_
      clear hK193
      refine c_false h199 rfl ?_
      refine wp_skip ?_
      refine hK192 _ _ ?_
      clear hK192
      refine wp_seq_k fun K200 hK200 => ?_
      refine wp_seq_k fun K201 hK201 => ?_
      refine nd_start (l := [0, 1, 2]) rfl ?_
      refine nd_batch tabOk2 tabZ_ok2 [(0, {}), (1, {}), (2, {})] [0, 1, 14, 15, 133, 134, 135] (T' := [(0, .pointer (some ⟨kb, 0, none⟩)), (1, .pointer (some ⟨mb, 0, none⟩)), (14, .int .i64 ((m : Nat) : Int)), (15, .slice (some ⟨r4, 0, none⟩) ((kys Z (X4 ++ X5)).length) c182), (133, .slice (some ⟨r4, 0, none⟩) ((kys Z (X4 ++ X5)).length) c182), (134, .int .i64 (((kys Z (X4 ++ X5)).length : Nat) : Int)), (135, .int .i64 0)]) (φ := True) (rest := []) h199 (by kernel_rfl) rfl trivial fun a202 h203 => ?_
      clear h199
      refine nd_done ?_
      refine hK201 _ _ ?_
      clear hK201
      refine wp_block ?_
      refine wp_loop_ghost (fun g ga gw => ∃ (m : Nat), (g = (kys Z (X4 ++ X5)).length - m) ∧ (m ≤ (kys Z (X4 ++ X5)).length) ∧ St (MCx 192 (mdF mb Z R C) w mb Z R a C) [(0, .pointer (some ⟨kb, 0, none⟩)), (1, .pointer (some ⟨mb, 0, none⟩)), (133, .slice (some ⟨r4, 0, none⟩) ((kys Z (X4 ++ X5)).length) c182), (134, .int .i64 (((kys Z (X4 ++ X5)).length : Nat) : Int)), (135, .int .i64 ((m : Nat) : Int))] [(3, ⟨[.int .u16 0, .int .u32 0], ty3, true⟩), (r4, ⟨r4cs, 39, false⟩)] ga gw) (kys Z (X4 ++ X5)).length ⟨0, by omega, by omega, (h203.slotsMono (restr_spec (keep := [0, 1, 133, 134, 135]) rfl))⟩ ?_
      clear h203
      rintro g a204 w205 ⟨m, hi207, hi208, h206⟩
      have hig := hi207
      have hmN := hi208
      refine wp_seq_k fun K209 hK209 => ?_
      refine nd_start (l := [0]) rfl ?_
      refine nd_batch tabOk2 tabZ_ok2 [(0, {})] [0, 1, 133, 134, 135, 136] (T' := [(0, .pointer (some ⟨kb, 0, none⟩)), (1, .pointer (some ⟨mb, 0, none⟩)), (133, .slice (some ⟨r4, 0, none⟩) ((kys Z (X4 ++ X5)).length) c182), (134, .int .i64 (((kys Z (X4 ++ X5)).length : Nat) : Int)), (135, .int .i64 ((m : Nat) : Int)), (136, .bool (decide (((m : Nat) : Int) < (((kys Z (X4 ++ X5)).length : Nat) : Int))))]) (φ := True) (rest := []) h206 (by kernel_rfl) rfl trivial fun a210 h211 => ?_
      clear h206
      refine nd_done ?_
      refine hK209 _ _ ?_
      clear hK209
      refine wp_seq_k fun K212 hK212 => ?_
      refine c_split h211 (b := decide (((m : Nat) : Int) < (((kys Z (X4 ++ X5)).length : Nat) : Int))) rfl (fun hc213 => ?_) (fun hc213 => ?_)
      ·
        have hc213f : ((m : Nat) : Int) < (((kys Z (X4 ++ X5)).length : Nat) : Int) := by simpa using hc213
        have hmq : m < (X4 ++ X5).length := by rw [kys_len] at hc213f; omega
        obtain ⟨i, hiq⟩ : ∃ i, (X4 ++ X5)[m]? = some i := ⟨(X4 ++ X5)[m]'(by omega), by simp⟩
        have hi : i ∈ sl Z.ql := (List.mem_append.1 (List.mem_of_getElem? hiq)).elim (fun h8 => by have h9 : i ∈ liveI C.ent 4 := (by rw [hX4]; exact h8); exact (hI.qd i (liveI_mem.1 h9).1).1 (.inl (liveI_mem.1 h9).2)) (fun h8 => by have h9 : i ∈ liveI C.ent 5 := (by rw [hX5]; exact h8); exact (hI.qd i (liveI_mem.1 h9).1).1 (.inr (liveI_mem.1 h9).2))
        have hky : (kys Z (X4 ++ X5))[m]? = some (Z.ky i) := by unfold kys; rw [List.getElem?_map, hiq]; rfl
        refine wp_skip ?_
        refine hK212 _ _ ?_
        clear hK212
        refine wp_seq_k fun K214 hK214 => ?_
        refine wp_block ?_
        refine wp_seq_k fun K215 hK215 => ?_
        refine nd_start (l := [0, 1, 2, 3]) rfl ?_
        refine nd_batch tabOk2 tabZ_ok2 [(0, {}), (1, {k := 1, m := 1, vs := [.int .u16 ((Z.ky i).idx), .int .u32 ((Z.ky i).gen)]})] [0, 1, 133, 134, 135, 138] (T' := [(0, .pointer (some ⟨kb, 0, none⟩)), (1, .pointer (some ⟨mb, 0, none⟩)), (133, .slice (some ⟨r4, 0, none⟩) ((kys Z (X4 ++ X5)).length) c182), (134, .int .i64 (((kys Z (X4 ++ X5)).length : Nat) : Int)), (135, .int .i64 ((m : Nat) : Int)), (138, .agg #[.int .u16 ((Z.ky i).idx), .int .u32 ((Z.ky i).gen)])]) (φ := (0 ≤ ((m : Nat) : Int) ∧ ((m : Nat) : Int) < (((kys Z (X4 ++ X5)).length : Nat) : Int)) ∧ (r4 = r4 ∧ cellsAre r4cs (0 + (m * 2)) [.int .u16 ((Z.ky i).idx), .int .u32 ((Z.ky i).gen)]) ∧ True) (rest := [2, 3]) h211 (by kernel_rfl) rfl ⟨⟨by omega, by omega⟩, ⟨rfl, (by rw [Nat.zero_add]; exact r4all m _ hky)⟩, trivial⟩ fun a216 h217 => ?_
        clear h211
        refine nd_op ?_
        refine op_new tabOk2 (cells := [.int .u16 0, .int .u32 0]) (ty := 39) (ln := none) (L1 := fun b218 => [(3, ⟨[.int .u16 0, .int .u32 0], ty3, true⟩), (r4, ⟨r4cs, 39, false⟩), (b218, ⟨[.int .u16 0, .int .u32 0], 39, false⟩)]) h217 rfl rfl rfl rfl (by kernel_rfl) (fun _ => rfl) fun b218 w219 a220 h221 hf222 hn223 => ?_
        clear h217
        refine nd_op ?_
        refine op_store tabOk2 {k := 2} (L' := [(3, ⟨[.int .u16 0, .int .u32 0], ty3, true⟩), (r4, ⟨r4cs, 39, false⟩), (b218, ⟨[.int .u16 ((Z.ky i).idx), .int .u32 ((Z.ky i).gen)], 39, false⟩)]) (φ := b218 = b218 ∧ Nat.ble (0 + 2) 2 = true) h221 rfl rfl rfl (by kernel_rfl) ⟨rfl, rfl⟩ fun w224 h225 => ?_
        clear h221
        refine nd_done ?_
        refine hK215 _ _ ?_
        clear hK215
        refine wp_seq_k fun K226 hK226 => ?_
        rcases Bool.eq_false_or_eq_true ((decide (0 < (a.q (.w i)).length))) with hb227 | hb227
        ·
          have hqn := of_decide_eq_true hb227
          refine nd_start (l := [0, 1, 2, 3, 4, 5, 6, 7]) rfl ?_
          refine nd_batch tabOk2 tabZ_ok2 [(0, {}), (1, {k := 2})] [17, 0, 1, 133, 134, 135, 140, 141] (T' := [(17, .pointer (some ⟨b218, 0, none⟩)), (0, .pointer (some ⟨kb, 0, none⟩)), (1, .pointer (some ⟨mb, 0, none⟩)), (133, .slice (some ⟨r4, 0, none⟩) ((kys Z (X4 ++ X5)).length) c182), (134, .int .i64 (((kys Z (X4 ++ X5)).length : Nat) : Int)), (135, .int .i64 ((m : Nat) : Int)), (140, .pointer (some ⟨kb, 0, none⟩)), (141, .agg #[.int .u16 ((Z.ky i).idx), .int .u32 ((Z.ky i).gen)])]) (φ := (b218 = b218 ∧ Nat.ble (0 + 2) 2 = true) ∧ True) (rest := [2, 3, 4, 5, 6, 7]) h225 (by kernel_rfl) rfl ⟨⟨rfl, rfl⟩, trivial⟩ fun a228 h229 => ?_
          clear h225
          refine nd_op ?_
          refine op_call h229 rfl rfl rfl (callOk Tryd.func20 (by decide) rfl) (args := [.pointer (some ⟨kb, 0, none⟩), .agg #[.int .u16 ((Z.ky i).idx), .int .u32 ((Z.ky i).gen)]]) rfl (waitersE kb bo bc S hrS h256 hQ (Z.ky i) (by have := hkk.kx i (hkk.qx i hi); have := hkk.qx i hi; omega) _ (kpK hker h229.frame (hdis _ (List.mem_cons_self ..))) (cpK hcap h229.frame hdis).st hkbo (waiters_same hI hkk hv hi)) ?_
          rintro _ w236 ⟨o230, c231, F232, rfl, hr233, hf234, hF235⟩
          refine ⟨_, rfl, ?_⟩
          have hwp : 0 < (kys Z (a.q (.w i))).length := by rw [kys_len]; exact hqn
          have hr1 := hr233.1
          obtain ⟨r5, r5cs, hro5, hrb5, r5l, r5c, r5t, r5F⟩ := Row.open_ hr233 hwp
          have hrF5 : F232 = [r5] := r5F
          have hro6 : o230 = some ⟨r5, 0, none⟩ := hro5
          subst hro6 hrF5
          have hge5 : w.heap.size ≤ r5 := Nat.le_trans h229.frame.size (hF235 r5 (by simp))
          have h237q : St _ _ [(3, ⟨[.int .u16 0, .int .u32 0], ty3, true⟩), (r4, ⟨r4cs, 39, false⟩), (b218, ⟨[.int .u16 ((Z.ky i).idx), .int .u32 ((Z.ky i).gen)], 39, false⟩), (r5, ⟨r5cs, 39, false⟩)] _ _ := h229.fresh hf234 (hF235 r5 (by simp)) hrb5
          have h238 := (h237q).put (d := some 142) (v := .tuple #[.slice (some ⟨r5, 0, none⟩) ((kys Z (a.q (.w i))).length) c231, .int .u64 (a.word i)]) (T' := [(142, .tuple #[.slice (some ⟨r5, 0, none⟩) ((kys Z (a.q (.w i))).length) c231, .int .u64 (a.word i)]), (17, .pointer (some ⟨b218, 0, none⟩)), (0, .pointer (some ⟨kb, 0, none⟩)), (1, .pointer (some ⟨mb, 0, none⟩)), (133, .slice (some ⟨r4, 0, none⟩) ((kys Z (X4 ++ X5)).length) c182), (134, .int .i64 (((kys Z (X4 ++ X5)).length : Nat) : Int)), (135, .int .i64 ((m : Nat) : Int)), (140, .pointer (some ⟨kb, 0, none⟩)), (141, .agg #[.int .u16 ((Z.ky i).idx), .int .u32 ((Z.ky i).gen)])]) rfl
          clear h229 h237q
          refine nd_batch tabOk2 tabZ_ok2 [(3, {}), (4, {}), (5, {}), (6, {}), (7, {})] [17, 0, 1, 133, 134, 135, 18, 19] (T' := [(17, .pointer (some ⟨b218, 0, none⟩)), (0, .pointer (some ⟨kb, 0, none⟩)), (1, .pointer (some ⟨mb, 0, none⟩)), (133, .slice (some ⟨r4, 0, none⟩) ((kys Z (X4 ++ X5)).length) c182), (134, .int .i64 (((kys Z (X4 ++ X5)).length : Nat) : Int)), (135, .int .i64 ((m : Nat) : Int)), (18, .slice (some ⟨r5, 0, none⟩) ((kys Z (a.q (.w i))).length) c231), (19, .int .u64 (a.word i))]) (φ := True) (rest := []) h238 (by kernel_rfl) rfl trivial fun a239 h240 => ?_
          clear h238
          refine nd_done ?_
          refine hK226 _ _ ?_
          clear hK226
          refine wp_seq_k fun K241 hK241 => ?_
          refine dr_start (KB := [3, r4, b218, r5, mb, Z.qb]) (Bi := [[0, 1, 2, 3, 4, 5], [0, 1, 2, 3, 4, 5], [0, 1, 2, 3, 4, 5], [0, 1, 2, 3, 4, 5], [0, 1, 2, 3, 4, 5], [0, 1, 2, 3, 4, 5], [0, 1, 2, 3, 4, 5], [0, 1, 2, 3, 4, 5], [0, 1, 2, 3, 4, 5], [0, 1, 2, 3, 4, 5], [0, 1, 2, 3, 4, 5]]) mixed h240 fun w242 h243 => ?_
          clear h240
          refine dr_batch tabOk2 tabZ_ok2 (by repeat (first | with_reducible exact PF.body | with_reducible apply PF.inB | with_reducible apply PF.next)) [(0, {}), (1, {}), (2, {})] [17, 0, 1, 133, 134, 135, 18, 19, 148] (T' := [(17, .pointer (some ⟨b218, 0, none⟩)), (0, .pointer (some ⟨kb, 0, none⟩)), (1, .pointer (some ⟨mb, 0, none⟩)), (133, .slice (some ⟨r4, 0, none⟩) ((kys Z (X4 ++ X5)).length) c182), (134, .int .i64 (((kys Z (X4 ++ X5)).length : Nat) : Int)), (135, .int .i64 ((m : Nat) : Int)), (18, .slice (some ⟨r5, 0, none⟩) ((kys Z (a.q (.w i))).length) c231), (19, .int .u64 (a.word i)), (148, .pointer (some ⟨mb, 3, none⟩))]) (φ := True) (fuel := 8) h243 (by kernel_rfl) rfl (by kernel_rfl) (by kernel_rfl) ⟨trivial, trivial, trivial, trivial⟩ trivial fun a245 h246 => ?_
          clear h243
          refine dr_read (i := 3) (b := mb) (p := 4) (v := .map (some Z.qb)) (fuel := 7) (by repeat (first | with_reducible exact PF.body | with_reducible apply PF.inB | with_reducible apply PF.next)) h246 rfl rfl rfl (by kernel_rfl) (by kernel_rfl) (by kernel_rfl) rfl (rd_m h246 (k := 3) (v := .map (some Z.qb)) rfl rfl rfl rfl (md_p ⟨rfl, trivial⟩)) ?_
          have h247 := h246.put (d := some 149) (v := .map (some Z.qb)) (T' := [(149, .map (some Z.qb)), (17, .pointer (some ⟨b218, 0, none⟩)), (0, .pointer (some ⟨kb, 0, none⟩)), (1, .pointer (some ⟨mb, 0, none⟩)), (133, .slice (some ⟨r4, 0, none⟩) ((kys Z (X4 ++ X5)).length) c182), (134, .int .i64 (((kys Z (X4 ++ X5)).length : Nat) : Int)), (135, .int .i64 ((m : Nat) : Int)), (18, .slice (some ⟨r5, 0, none⟩) ((kys Z (a.q (.w i))).length) c231), (19, .int .u64 (a.word i)), (148, .pointer (some ⟨mb, 3, none⟩))]) rfl
          clear h246
          refine dr_batch tabOk2 tabZ_ok2 (by repeat (first | with_reducible exact PF.body | with_reducible apply PF.inB | with_reducible apply PF.next)) [(4, {k := 2, p := 2})] [149, 17, 0, 1, 133, 134, 135, 18, 19, 150] (T' := [(149, .map (some Z.qb)), (17, .pointer (some ⟨b218, 0, none⟩)), (0, .pointer (some ⟨kb, 0, none⟩)), (1, .pointer (some ⟨mb, 0, none⟩)), (133, .slice (some ⟨r4, 0, none⟩) ((kys Z (X4 ++ X5)).length) c182), (134, .int .i64 (((kys Z (X4 ++ X5)).length : Nat) : Int)), (135, .int .i64 ((m : Nat) : Int)), (18, .slice (some ⟨r5, 0, none⟩) ((kys Z (a.q (.w i))).length) c231), (19, .int .u64 (a.word i)), (150, .agg #[.int .u16 ((Z.ky i).idx), .int .u32 ((Z.ky i).gen)])]) (φ := (b218 = b218 ∧ Nat.ble (0 + 2) 2 = true) ∧ True) (fuel := 6) h247 (by kernel_rfl) rfl (by kernel_rfl) (by kernel_rfl) ⟨rfl, trivial⟩ ⟨⟨rfl, rfl⟩, trivial⟩ fun a248 h249 => ?_
          clear h247
          refine dr_read (i := 5) (b := Z.qb) (p := 5) (v := .tuple #[.slice (R.qo i) ((kys Z (a.q (.w i))).length) (R.qk i), .bool true]) (fuel := 5) (by repeat (first | with_reducible exact PF.body | with_reducible apply PF.inB | with_reducible apply PF.next)) h249 rfl rfl rfl (by kernel_rfl) (by kernel_rfl) (by kernel_rfl) rfl (rd_QB h249 (x := i) hi rfl rfl rfl) ?_
          have h250 := h249.put (d := some 151) (v := .tuple #[.slice (R.qo i) ((kys Z (a.q (.w i))).length) (R.qk i), .bool true]) (T' := [(151, .tuple #[.slice (R.qo i) ((kys Z (a.q (.w i))).length) (R.qk i), .bool true]), (149, .map (some Z.qb)), (17, .pointer (some ⟨b218, 0, none⟩)), (0, .pointer (some ⟨kb, 0, none⟩)), (1, .pointer (some ⟨mb, 0, none⟩)), (133, .slice (some ⟨r4, 0, none⟩) ((kys Z (X4 ++ X5)).length) c182), (134, .int .i64 (((kys Z (X4 ++ X5)).length : Nat) : Int)), (135, .int .i64 ((m : Nat) : Int)), (18, .slice (some ⟨r5, 0, none⟩) ((kys Z (a.q (.w i))).length) c231), (19, .int .u64 (a.word i)), (150, .agg #[.int .u16 ((Z.ky i).idx), .int .u32 ((Z.ky i).gen)])]) rfl
          clear h249
          refine dr_batch tabOk2 tabZ_ok2 (by repeat (first | with_reducible exact PF.body | with_reducible apply PF.inB | with_reducible apply PF.next)) [(6, {}), (7, {}), (8, {}), (9, {}), (10, {})] [17, 0, 1, 133, 134, 135, 18, 19, 21] (T' := [(17, .pointer (some ⟨b218, 0, none⟩)), (0, .pointer (some ⟨kb, 0, none⟩)), (1, .pointer (some ⟨mb, 0, none⟩)), (133, .slice (some ⟨r4, 0, none⟩) ((kys Z (X4 ++ X5)).length) c182), (134, .int .i64 (((kys Z (X4 ++ X5)).length : Nat) : Int)), (135, .int .i64 ((m : Nat) : Int)), (18, .slice (some ⟨r5, 0, none⟩) ((kys Z (a.q (.w i))).length) c231), (19, .int .u64 (a.word i)), (21, .bool true)]) (φ := True) (fuel := 0) h250 (by kernel_rfl) rfl (by kernel_rfl) (by kernel_rfl) ⟨trivial, trivial, trivial, trivial, trivial, trivial⟩ trivial fun a251 h252 => ?_
          clear h250
          refine wpAnyK_done (by kernel_rfl) ?_ _
          refine hK241 _ _ ?_
          clear hK241
          refine wp_seq_k fun K253 hK253 => ?_
          refine dr_start (KB := [3, r4, b218, r5, mb, Z.qb, Z.wb]) (Bi := [[0, 1, 2, 3, 4, 5, 6], [0, 1, 2, 3, 4, 5, 6], [0, 1, 2, 3, 4, 5, 6], [0, 1, 2, 3, 4, 5, 6], [0, 1, 2, 3, 4, 5, 6], [0, 1, 2, 3, 4, 5, 6], [0, 1, 2, 3, 4, 5, 6], [0, 1, 2, 3, 4, 5, 6], [0, 1, 2, 3, 4, 5, 6], [0, 1, 2, 3, 4, 5, 6], [], [0, 1, 2, 3, 4, 5, 6], [0, 1, 2, 3, 4, 5, 6], [0, 1, 2, 3, 4, 5, 6], [0, 1, 2, 3, 4, 5, 6], [0, 1, 2, 3, 4, 5, 6], [0, 1, 2, 3, 4, 5, 6], [0, 1, 2, 3, 4, 5, 6], [0, 1, 2, 3, 4, 5, 6], [0, 1, 2, 3, 4, 5, 6], [0, 1, 2, 3, 4, 5, 6], [0, 1, 2, 3, 4, 5, 6], [0, 1, 2, 3, 4, 5, 6]]) mixed h252 fun w254 h255 => ?_
          clear h252
          refine dr_batch tabOk2 tabZ_ok2 (by repeat (first | with_reducible exact PF.body | with_reducible apply PF.inB | with_reducible apply PF.next)) [(0, {}), (1, {}), (2, {}), (3, {}), (4, {}), (5, {}), (6, {})] [17, 0, 1, 133, 134, 135, 18, 19, 21, 156, 157, 160] (T' := [(17, .pointer (some ⟨b218, 0, none⟩)), (0, .pointer (some ⟨kb, 0, none⟩)), (1, .pointer (some ⟨mb, 0, none⟩)), (133, .slice (some ⟨r4, 0, none⟩) ((kys Z (X4 ++ X5)).length) c182), (134, .int .i64 (((kys Z (X4 ++ X5)).length : Nat) : Int)), (135, .int .i64 ((m : Nat) : Int)), (18, .slice (some ⟨r5, 0, none⟩) ((kys Z (a.q (.w i))).length) c231), (19, .int .u64 (a.word i)), (21, .bool true), (156, .bool false), (157, .slice (some ⟨r5, 0, none⟩) ((kys Z (a.q (.w i))).length) c231), (160, .pointer (some ⟨mb, 3, none⟩))]) (φ := True) (fuel := 16) h255 (by kernel_rfl) rfl (by kernel_rfl) (by kernel_rfl) ⟨trivial, trivial, trivial, trivial, trivial, trivial, trivial, trivial⟩ trivial fun a257 h258 => ?_
          clear h255
          refine dr_read (i := 7) (b := mb) (p := 4) (v := .map (some Z.qb)) (fuel := 15) (by repeat (first | with_reducible exact PF.body | with_reducible apply PF.inB | with_reducible apply PF.next)) h258 rfl rfl rfl (by kernel_rfl) (by kernel_rfl) (by kernel_rfl) rfl (rd_m h258 (k := 3) (v := .map (some Z.qb)) rfl rfl rfl rfl (md_p ⟨rfl, trivial⟩)) ?_
          have h259 := h258.put (d := some 161) (v := .map (some Z.qb)) (T' := [(161, .map (some Z.qb)), (17, .pointer (some ⟨b218, 0, none⟩)), (0, .pointer (some ⟨kb, 0, none⟩)), (1, .pointer (some ⟨mb, 0, none⟩)), (133, .slice (some ⟨r4, 0, none⟩) ((kys Z (X4 ++ X5)).length) c182), (134, .int .i64 (((kys Z (X4 ++ X5)).length : Nat) : Int)), (135, .int .i64 ((m : Nat) : Int)), (18, .slice (some ⟨r5, 0, none⟩) ((kys Z (a.q (.w i))).length) c231), (19, .int .u64 (a.word i)), (21, .bool true), (156, .bool false), (157, .slice (some ⟨r5, 0, none⟩) ((kys Z (a.q (.w i))).length) c231), (160, .pointer (some ⟨mb, 3, none⟩))]) rfl
          clear h258
          refine dr_batch tabOk2 tabZ_ok2 (by repeat (first | with_reducible exact PF.body | with_reducible apply PF.inB | with_reducible apply PF.next)) [(8, {k := 2, p := 2})] [161, 17, 0, 1, 133, 134, 135, 18, 19, 21, 156, 157, 162] (T' := [(161, .map (some Z.qb)), (17, .pointer (some ⟨b218, 0, none⟩)), (0, .pointer (some ⟨kb, 0, none⟩)), (1, .pointer (some ⟨mb, 0, none⟩)), (133, .slice (some ⟨r4, 0, none⟩) ((kys Z (X4 ++ X5)).length) c182), (134, .int .i64 (((kys Z (X4 ++ X5)).length : Nat) : Int)), (135, .int .i64 ((m : Nat) : Int)), (18, .slice (some ⟨r5, 0, none⟩) ((kys Z (a.q (.w i))).length) c231), (19, .int .u64 (a.word i)), (21, .bool true), (156, .bool false), (157, .slice (some ⟨r5, 0, none⟩) ((kys Z (a.q (.w i))).length) c231), (162, .agg #[.int .u16 ((Z.ky i).idx), .int .u32 ((Z.ky i).gen)])]) (φ := (b218 = b218 ∧ Nat.ble (0 + 2) 2 = true) ∧ True) (fuel := 14) h259 (by kernel_rfl) rfl (by kernel_rfl) (by kernel_rfl) ⟨rfl, trivial⟩ ⟨⟨rfl, rfl⟩, trivial⟩ fun a260 h261 => ?_
          clear h259
          refine dr_read (i := 9) (b := Z.qb) (p := 5) (v := .slice (R.qo i) ((kys Z (a.q (.w i))).length) (R.qk i)) (fuel := 13) (by repeat (first | with_reducible exact PF.body | with_reducible apply PF.inB | with_reducible apply PF.next)) h261 rfl rfl rfl (by kernel_rfl) (by kernel_rfl) (by kernel_rfl) rfl (rd_Q h261 (x := i) hi rfl rfl rfl) ?_
          have h262 := h261.put (d := some 163) (v := .slice (R.qo i) ((kys Z (a.q (.w i))).length) (R.qk i)) (T' := [(163, .slice (R.qo i) ((kys Z (a.q (.w i))).length) (R.qk i)), (161, .map (some Z.qb)), (17, .pointer (some ⟨b218, 0, none⟩)), (0, .pointer (some ⟨kb, 0, none⟩)), (1, .pointer (some ⟨mb, 0, none⟩)), (133, .slice (some ⟨r4, 0, none⟩) ((kys Z (X4 ++ X5)).length) c182), (134, .int .i64 (((kys Z (X4 ++ X5)).length : Nat) : Int)), (135, .int .i64 ((m : Nat) : Int)), (18, .slice (some ⟨r5, 0, none⟩) ((kys Z (a.q (.w i))).length) c231), (19, .int .u64 (a.word i)), (21, .bool true), (156, .bool false), (157, .slice (some ⟨r5, 0, none⟩) ((kys Z (a.q (.w i))).length) c231), (162, .agg #[.int .u16 ((Z.ky i).idx), .int .u32 ((Z.ky i).gen)])]) rfl
          clear h261
          refine wpAnyK_one (i := 10) (fuel := 12) (by kernel_rfl) ?_
          refine op_call h262 rfl rfl rfl (callOk Tryd.func23 (by decide) rfl) (args := [.slice (some ⟨r5, 0, none⟩) ((kys Z (a.q (.w i))).length) c231, .slice (R.qo i) ((kys Z (a.q (.w i))).length) (R.qk i)]) rfl (eqRows (xs := kys Z (a.q (.w i))) (c1 := c231) (F1 := [r5]) (by rw [kys_len]; have := hI.mp.len hkk (L := .w i) (hkk.qx i hi); omega) ⟨hr1, .inr ⟨r5, r5cs, rfl, h262.kn (k := 3) (blk := ⟨r5cs, 39, false⟩) rfl, r5l, r5c, r5t, rfl⟩⟩ (h262.inv.1.qr i hi (by rw [hho]; simp)) (fun b hb hq => by have h1 : b = r5 := (by simpa using hb); have h2 := hH.md.low b (mem_mdF.2 ⟨.qr i, hi, hq⟩); omega)) ?_
          rintro _ w263 ⟨rfl, hf265⟩
          refine ⟨_, rfl, ?_⟩
          have h264 := (h262.grow hf265).put (d := some 164) (v := .bool true) (T' := [(164, .bool true), (163, .slice (R.qo i) ((kys Z (a.q (.w i))).length) (R.qk i)), (161, .map (some Z.qb)), (17, .pointer (some ⟨b218, 0, none⟩)), (0, .pointer (some ⟨kb, 0, none⟩)), (1, .pointer (some ⟨mb, 0, none⟩)), (133, .slice (some ⟨r4, 0, none⟩) ((kys Z (X4 ++ X5)).length) c182), (134, .int .i64 (((kys Z (X4 ++ X5)).length : Nat) : Int)), (135, .int .i64 ((m : Nat) : Int)), (18, .slice (some ⟨r5, 0, none⟩) ((kys Z (a.q (.w i))).length) c231), (19, .int .u64 (a.word i)), (21, .bool true), (156, .bool false), (157, .slice (some ⟨r5, 0, none⟩) ((kys Z (a.q (.w i))).length) c231), (162, .agg #[.int .u16 ((Z.ky i).idx), .int .u32 ((Z.ky i).gen)])]) rfl
          refine ⟨keepNil, ?_⟩
          clear h262
          refine dr_batch tabOk2 tabZ_ok2 (by repeat (first | with_reducible exact PF.body | with_reducible apply PF.inB | with_reducible apply PF.next)) [(11, {}), (12, {}), (13, {}), (14, {}), (15, {}), (16, {}), (17, {})] [17, 0, 1, 133, 134, 135, 18, 19, 21, 167, 168, 171] (T' := [(17, .pointer (some ⟨b218, 0, none⟩)), (0, .pointer (some ⟨kb, 0, none⟩)), (1, .pointer (some ⟨mb, 0, none⟩)), (133, .slice (some ⟨r4, 0, none⟩) ((kys Z (X4 ++ X5)).length) c182), (134, .int .i64 (((kys Z (X4 ++ X5)).length : Nat) : Int)), (135, .int .i64 ((m : Nat) : Int)), (18, .slice (some ⟨r5, 0, none⟩) ((kys Z (a.q (.w i))).length) c231), (19, .int .u64 (a.word i)), (21, .bool true), (167, .bool false), (168, .int .u64 (a.word i)), (171, .pointer (some ⟨mb, 4, none⟩))]) (φ := True) (fuel := 5) h264 (by kernel_rfl) rfl (by kernel_rfl) (by kernel_rfl) ⟨trivial, trivial, trivial, trivial, trivial, trivial, trivial, trivial⟩ trivial fun a266 h267 => ?_
          clear h264
          refine dr_read (i := 18) (b := mb) (p := 4) (v := .map (some Z.wb)) (fuel := 4) (by repeat (first | with_reducible exact PF.body | with_reducible apply PF.inB | with_reducible apply PF.next)) h267 rfl rfl rfl (by kernel_rfl) (by kernel_rfl) (by kernel_rfl) rfl (rd_m h267 (k := 4) (v := .map (some Z.wb)) rfl rfl rfl rfl (md_p ⟨rfl, trivial⟩)) ?_
          have h268 := h267.put (d := some 172) (v := .map (some Z.wb)) (T' := [(172, .map (some Z.wb)), (17, .pointer (some ⟨b218, 0, none⟩)), (0, .pointer (some ⟨kb, 0, none⟩)), (1, .pointer (some ⟨mb, 0, none⟩)), (133, .slice (some ⟨r4, 0, none⟩) ((kys Z (X4 ++ X5)).length) c182), (134, .int .i64 (((kys Z (X4 ++ X5)).length : Nat) : Int)), (135, .int .i64 ((m : Nat) : Int)), (18, .slice (some ⟨r5, 0, none⟩) ((kys Z (a.q (.w i))).length) c231), (19, .int .u64 (a.word i)), (21, .bool true), (167, .bool false), (168, .int .u64 (a.word i)), (171, .pointer (some ⟨mb, 4, none⟩))]) rfl
          clear h267
          refine dr_batch tabOk2 tabZ_ok2 (by repeat (first | with_reducible exact PF.body | with_reducible apply PF.inB | with_reducible apply PF.next)) [(19, {k := 2, p := 2})] [172, 17, 0, 1, 133, 134, 135, 18, 19, 21, 167, 168, 173] (T' := [(172, .map (some Z.wb)), (17, .pointer (some ⟨b218, 0, none⟩)), (0, .pointer (some ⟨kb, 0, none⟩)), (1, .pointer (some ⟨mb, 0, none⟩)), (133, .slice (some ⟨r4, 0, none⟩) ((kys Z (X4 ++ X5)).length) c182), (134, .int .i64 (((kys Z (X4 ++ X5)).length : Nat) : Int)), (135, .int .i64 ((m : Nat) : Int)), (18, .slice (some ⟨r5, 0, none⟩) ((kys Z (a.q (.w i))).length) c231), (19, .int .u64 (a.word i)), (21, .bool true), (167, .bool false), (168, .int .u64 (a.word i)), (173, .agg #[.int .u16 ((Z.ky i).idx), .int .u32 ((Z.ky i).gen)])]) (φ := (b218 = b218 ∧ Nat.ble (0 + 2) 2 = true) ∧ True) (fuel := 3) h268 (by kernel_rfl) rfl (by kernel_rfl) (by kernel_rfl) ⟨rfl, trivial⟩ ⟨⟨rfl, rfl⟩, trivial⟩ fun a269 h270 => ?_
          clear h268
          refine dr_read (i := 20) (b := Z.wb) (p := 6) (v := .int .u64 (a.word i)) (fuel := 2) (by repeat (first | with_reducible exact PF.body | with_reducible apply PF.inB | with_reducible apply PF.next)) h270 rfl rfl rfl (by kernel_rfl) (by kernel_rfl) (by kernel_rfl) rfl (rd_W h270 (x := i) hi rfl rfl rfl) ?_
          have h271 := h270.put (d := some 174) (v := .int .u64 (a.word i)) (T' := [(174, .int .u64 (a.word i)), (172, .map (some Z.wb)), (17, .pointer (some ⟨b218, 0, none⟩)), (0, .pointer (some ⟨kb, 0, none⟩)), (1, .pointer (some ⟨mb, 0, none⟩)), (133, .slice (some ⟨r4, 0, none⟩) ((kys Z (X4 ++ X5)).length) c182), (134, .int .i64 (((kys Z (X4 ++ X5)).length : Nat) : Int)), (135, .int .i64 ((m : Nat) : Int)), (18, .slice (some ⟨r5, 0, none⟩) ((kys Z (a.q (.w i))).length) c231), (19, .int .u64 (a.word i)), (21, .bool true), (167, .bool false), (168, .int .u64 (a.word i)), (173, .agg #[.int .u16 ((Z.ky i).idx), .int .u32 ((Z.ky i).gen)])]) rfl
          clear h270
          refine dr_batch tabOk2 tabZ_ok2 (by repeat (first | with_reducible exact PF.body | with_reducible apply PF.inB | with_reducible apply PF.next)) [(21, {f := 1}), (22, {})] [17, 0, 1, 133, 134, 135, 18, 19, 21, 176] (T' := [(17, .pointer (some ⟨b218, 0, none⟩)), (0, .pointer (some ⟨kb, 0, none⟩)), (1, .pointer (some ⟨mb, 0, none⟩)), (133, .slice (some ⟨r4, 0, none⟩) ((kys Z (X4 ++ X5)).length) c182), (134, .int .i64 (((kys Z (X4 ++ X5)).length : Nat) : Int)), (135, .int .i64 ((m : Nat) : Int)), (18, .slice (some ⟨r5, 0, none⟩) ((kys Z (a.q (.w i))).length) c231), (19, .int .u64 (a.word i)), (21, .bool true), (176, .bool false)]) (φ := (((a.word i) != (a.word i))) = false ∧ True) (fuel := 0) h271 (by kernel_rfl) rfl (by kernel_rfl) (by kernel_rfl) ⟨trivial, trivial, trivial⟩ ⟨(by simp), trivial⟩ fun a272 h273 => ?_
          clear h271
          refine wpAnyK_done (by kernel_rfl) ?_ _
          refine hK253 _ _ ?_
          clear hK253
          refine c_false h273 rfl ?_
          refine wp_skip ?_
          refine hK214 _ _ ?_
          clear hK214
          refine nd_start (l := [0, 1]) rfl ?_
          refine nd_batch tabOk2 tabZ_ok2 [(0, {}), (1, {})] [17, 0, 1, 133, 134, 18, 19, 21, 135] (T' := [(17, .pointer (some ⟨b218, 0, none⟩)), (0, .pointer (some ⟨kb, 0, none⟩)), (1, .pointer (some ⟨mb, 0, none⟩)), (133, .slice (some ⟨r4, 0, none⟩) ((kys Z (X4 ++ X5)).length) c182), (134, .int .i64 (((kys Z (X4 ++ X5)).length : Nat) : Int)), (18, .slice (some ⟨r5, 0, none⟩) ((kys Z (a.q (.w i))).length) c231), (19, .int .u64 (a.word i)), (21, .bool true), (135, .int .i64 (((m : Nat) : Int) + 1))]) (φ := inR .i64 (((m : Nat) : Int) + 1) ∧ True) (rest := []) h273 (by kernel_rfl) rfl ⟨⟨by omega, by omega⟩, trivial⟩ fun a274 h275 => ?_
          clear h273
          refine nd_done ?_
          have h276 := h275.memMono (L' := [(3, ⟨[.int .u16 0, .int .u32 0], ty3, true⟩), (r4, ⟨r4cs, 39, false⟩)]) (List.Sublist.cons_cons _ (List.Sublist.cons_cons _ (List.Sublist.cons _ (List.Sublist.cons _ List.Sublist.slnil))))
          clear h275
          exact ⟨(g - 1), by omega, (m + 1), by omega, by omega, (h276.slotsMono (restr_spec (keep := [0, 1, 133, 134, 135]) rfl))⟩
        ·
          have hqn := of_decide_eq_false hb227
          refine nd_start (l := [0, 1, 2, 3, 4, 5, 6, 7]) rfl ?_
          refine nd_batch tabOk2 tabZ_ok2 [(0, {}), (1, {k := 2})] [17, 0, 1, 133, 134, 135, 140, 141] (T' := [(17, .pointer (some ⟨b218, 0, none⟩)), (0, .pointer (some ⟨kb, 0, none⟩)), (1, .pointer (some ⟨mb, 0, none⟩)), (133, .slice (some ⟨r4, 0, none⟩) ((kys Z (X4 ++ X5)).length) c182), (134, .int .i64 (((kys Z (X4 ++ X5)).length : Nat) : Int)), (135, .int .i64 ((m : Nat) : Int)), (140, .pointer (some ⟨kb, 0, none⟩)), (141, .agg #[.int .u16 ((Z.ky i).idx), .int .u32 ((Z.ky i).gen)])]) (φ := (b218 = b218 ∧ Nat.ble (0 + 2) 2 = true) ∧ True) (rest := [2, 3, 4, 5, 6, 7]) h225 (by kernel_rfl) rfl ⟨⟨rfl, rfl⟩, trivial⟩ fun a277 h278 => ?_
          clear h225
          refine nd_op ?_
          refine op_call h278 rfl rfl rfl (callOk Tryd.func20 (by decide) rfl) (args := [.pointer (some ⟨kb, 0, none⟩), .agg #[.int .u16 ((Z.ky i).idx), .int .u32 ((Z.ky i).gen)]]) rfl (waitersE kb bo bc S hrS h256 hQ (Z.ky i) (by have := hkk.kx i (hkk.qx i hi); have := hkk.qx i hi; omega) _ (kpK hker h278.frame (hdis _ (List.mem_cons_self ..))) (cpK hcap h278.frame hdis).st hkbo (waiters_same hI hkk hv hi)) ?_
          rintro _ w285 ⟨o279, c280, F281, rfl, hr282, hf283, hF284⟩
          refine ⟨_, rfl, ?_⟩
          have h286q := h278.grow hf283
          have h287 := (h286q).put (d := some 142) (v := .tuple #[.slice o279 ((kys Z (a.q (.w i))).length) c280, .int .u64 (a.word i)]) (T' := [(142, .tuple #[.slice o279 ((kys Z (a.q (.w i))).length) c280, .int .u64 (a.word i)]), (17, .pointer (some ⟨b218, 0, none⟩)), (0, .pointer (some ⟨kb, 0, none⟩)), (1, .pointer (some ⟨mb, 0, none⟩)), (133, .slice (some ⟨r4, 0, none⟩) ((kys Z (X4 ++ X5)).length) c182), (134, .int .i64 (((kys Z (X4 ++ X5)).length : Nat) : Int)), (135, .int .i64 ((m : Nat) : Int)), (140, .pointer (some ⟨kb, 0, none⟩)), (141, .agg #[.int .u16 ((Z.ky i).idx), .int .u32 ((Z.ky i).gen)])]) rfl
          clear h278 h286q
          refine nd_batch tabOk2 tabZ_ok2 [(3, {}), (4, {}), (5, {}), (6, {}), (7, {})] [17, 0, 1, 133, 134, 135, 18, 19] (T' := [(17, .pointer (some ⟨b218, 0, none⟩)), (0, .pointer (some ⟨kb, 0, none⟩)), (1, .pointer (some ⟨mb, 0, none⟩)), (133, .slice (some ⟨r4, 0, none⟩) ((kys Z (X4 ++ X5)).length) c182), (134, .int .i64 (((kys Z (X4 ++ X5)).length : Nat) : Int)), (135, .int .i64 ((m : Nat) : Int)), (18, .slice o279 ((kys Z (a.q (.w i))).length) c280), (19, .int .u64 (a.word i))]) (φ := True) (rest := []) h287 (by kernel_rfl) rfl trivial fun a288 h289 => ?_
          clear h287
          refine nd_done ?_
          refine hK226 _ _ ?_
          clear hK226
          refine wp_seq_k fun K290 hK290 => ?_
          refine dr_start (KB := [3, r4, b218, mb, Z.qb]) (Bi := [[0, 1, 2, 3, 4], [0, 1, 2, 3, 4], [0, 1, 2, 3, 4], [0, 1, 2, 3, 4], [0, 1, 2, 3, 4], [0, 1, 2, 3, 4], [0, 1, 2, 3, 4], [0, 1, 2, 3, 4], [0, 1, 2, 3, 4], [0, 1, 2, 3, 4], [0, 1, 2, 3, 4]]) mixed h289 fun w291 h292 => ?_
          clear h289
          refine dr_batch tabOk2 tabZ_ok2 (by repeat (first | with_reducible exact PF.body | with_reducible apply PF.inB | with_reducible apply PF.next)) [(0, {}), (1, {}), (2, {})] [17, 0, 1, 133, 134, 135, 18, 19, 148] (T' := [(17, .pointer (some ⟨b218, 0, none⟩)), (0, .pointer (some ⟨kb, 0, none⟩)), (1, .pointer (some ⟨mb, 0, none⟩)), (133, .slice (some ⟨r4, 0, none⟩) ((kys Z (X4 ++ X5)).length) c182), (134, .int .i64 (((kys Z (X4 ++ X5)).length : Nat) : Int)), (135, .int .i64 ((m : Nat) : Int)), (18, .slice o279 ((kys Z (a.q (.w i))).length) c280), (19, .int .u64 (a.word i)), (148, .pointer (some ⟨mb, 3, none⟩))]) (φ := True) (fuel := 8) h292 (by kernel_rfl) rfl (by kernel_rfl) (by kernel_rfl) ⟨trivial, trivial, trivial, trivial⟩ trivial fun a294 h295 => ?_
          clear h292
          refine dr_read (i := 3) (b := mb) (p := 3) (v := .map (some Z.qb)) (fuel := 7) (by repeat (first | with_reducible exact PF.body | with_reducible apply PF.inB | with_reducible apply PF.next)) h295 rfl rfl rfl (by kernel_rfl) (by kernel_rfl) (by kernel_rfl) rfl (rd_m h295 (k := 3) (v := .map (some Z.qb)) rfl rfl rfl rfl (md_p ⟨rfl, trivial⟩)) ?_
          have h296 := h295.put (d := some 149) (v := .map (some Z.qb)) (T' := [(149, .map (some Z.qb)), (17, .pointer (some ⟨b218, 0, none⟩)), (0, .pointer (some ⟨kb, 0, none⟩)), (1, .pointer (some ⟨mb, 0, none⟩)), (133, .slice (some ⟨r4, 0, none⟩) ((kys Z (X4 ++ X5)).length) c182), (134, .int .i64 (((kys Z (X4 ++ X5)).length : Nat) : Int)), (135, .int .i64 ((m : Nat) : Int)), (18, .slice o279 ((kys Z (a.q (.w i))).length) c280), (19, .int .u64 (a.word i)), (148, .pointer (some ⟨mb, 3, none⟩))]) rfl
          clear h295
          refine dr_batch tabOk2 tabZ_ok2 (by repeat (first | with_reducible exact PF.body | with_reducible apply PF.inB | with_reducible apply PF.next)) [(4, {k := 2, p := 2})] [149, 17, 0, 1, 133, 134, 135, 18, 19, 150] (T' := [(149, .map (some Z.qb)), (17, .pointer (some ⟨b218, 0, none⟩)), (0, .pointer (some ⟨kb, 0, none⟩)), (1, .pointer (some ⟨mb, 0, none⟩)), (133, .slice (some ⟨r4, 0, none⟩) ((kys Z (X4 ++ X5)).length) c182), (134, .int .i64 (((kys Z (X4 ++ X5)).length : Nat) : Int)), (135, .int .i64 ((m : Nat) : Int)), (18, .slice o279 ((kys Z (a.q (.w i))).length) c280), (19, .int .u64 (a.word i)), (150, .agg #[.int .u16 ((Z.ky i).idx), .int .u32 ((Z.ky i).gen)])]) (φ := (b218 = b218 ∧ Nat.ble (0 + 2) 2 = true) ∧ True) (fuel := 6) h296 (by kernel_rfl) rfl (by kernel_rfl) (by kernel_rfl) ⟨rfl, trivial⟩ ⟨⟨rfl, rfl⟩, trivial⟩ fun a297 h298 => ?_
          clear h296
          refine dr_read (i := 5) (b := Z.qb) (p := 4) (v := .tuple #[.slice (R.qo i) ((kys Z (a.q (.w i))).length) (R.qk i), .bool true]) (fuel := 5) (by repeat (first | with_reducible exact PF.body | with_reducible apply PF.inB | with_reducible apply PF.next)) h298 rfl rfl rfl (by kernel_rfl) (by kernel_rfl) (by kernel_rfl) rfl (rd_QB h298 (x := i) hi rfl rfl rfl) ?_
          have h299 := h298.put (d := some 151) (v := .tuple #[.slice (R.qo i) ((kys Z (a.q (.w i))).length) (R.qk i), .bool true]) (T' := [(151, .tuple #[.slice (R.qo i) ((kys Z (a.q (.w i))).length) (R.qk i), .bool true]), (149, .map (some Z.qb)), (17, .pointer (some ⟨b218, 0, none⟩)), (0, .pointer (some ⟨kb, 0, none⟩)), (1, .pointer (some ⟨mb, 0, none⟩)), (133, .slice (some ⟨r4, 0, none⟩) ((kys Z (X4 ++ X5)).length) c182), (134, .int .i64 (((kys Z (X4 ++ X5)).length : Nat) : Int)), (135, .int .i64 ((m : Nat) : Int)), (18, .slice o279 ((kys Z (a.q (.w i))).length) c280), (19, .int .u64 (a.word i)), (150, .agg #[.int .u16 ((Z.ky i).idx), .int .u32 ((Z.ky i).gen)])]) rfl
          clear h298
          refine dr_batch tabOk2 tabZ_ok2 (by repeat (first | with_reducible exact PF.body | with_reducible apply PF.inB | with_reducible apply PF.next)) [(6, {}), (7, {}), (8, {}), (9, {}), (10, {})] [17, 0, 1, 133, 134, 135, 18, 19, 21] (T' := [(17, .pointer (some ⟨b218, 0, none⟩)), (0, .pointer (some ⟨kb, 0, none⟩)), (1, .pointer (some ⟨mb, 0, none⟩)), (133, .slice (some ⟨r4, 0, none⟩) ((kys Z (X4 ++ X5)).length) c182), (134, .int .i64 (((kys Z (X4 ++ X5)).length : Nat) : Int)), (135, .int .i64 ((m : Nat) : Int)), (18, .slice o279 ((kys Z (a.q (.w i))).length) c280), (19, .int .u64 (a.word i)), (21, .bool true)]) (φ := True) (fuel := 0) h299 (by kernel_rfl) rfl (by kernel_rfl) (by kernel_rfl) ⟨trivial, trivial, trivial, trivial, trivial, trivial⟩ trivial fun a300 h301 => ?_
          clear h299
          refine wpAnyK_done (by kernel_rfl) ?_ _
          refine hK290 _ _ ?_
          clear hK290
          refine wp_seq_k fun K302 hK302 => ?_
          refine dr_start (KB := [3, r4, b218, mb, Z.qb, Z.wb]) (Bi := [[0, 1, 2, 3, 4, 5], [0, 1, 2, 3, 4, 5], [0, 1, 2, 3, 4, 5], [0, 1, 2, 3, 4, 5], [0, 1, 2, 3, 4, 5], [0, 1, 2, 3, 4, 5], [0, 1, 2, 3, 4, 5], [0, 1, 2, 3, 4, 5], [0, 1, 2, 3, 4, 5], [0, 1, 2, 3, 4, 5], [], [0, 1, 2, 3, 4, 5], [0, 1, 2, 3, 4, 5], [0, 1, 2, 3, 4, 5], [0, 1, 2, 3, 4, 5], [0, 1, 2, 3, 4, 5], [0, 1, 2, 3, 4, 5], [0, 1, 2, 3, 4, 5], [0, 1, 2, 3, 4, 5], [0, 1, 2, 3, 4, 5], [0, 1, 2, 3, 4, 5], [0, 1, 2, 3, 4, 5], [0, 1, 2, 3, 4, 5]]) mixed h301 fun w303 h304 => ?_
          clear h301
          refine dr_batch tabOk2 tabZ_ok2 (by repeat (first | with_reducible exact PF.body | with_reducible apply PF.inB | with_reducible apply PF.next)) [(0, {}), (1, {}), (2, {}), (3, {}), (4, {}), (5, {}), (6, {})] [17, 0, 1, 133, 134, 135, 18, 19, 21, 156, 157, 160] (T' := [(17, .pointer (some ⟨b218, 0, none⟩)), (0, .pointer (some ⟨kb, 0, none⟩)), (1, .pointer (some ⟨mb, 0, none⟩)), (133, .slice (some ⟨r4, 0, none⟩) ((kys Z (X4 ++ X5)).length) c182), (134, .int .i64 (((kys Z (X4 ++ X5)).length : Nat) : Int)), (135, .int .i64 ((m : Nat) : Int)), (18, .slice o279 ((kys Z (a.q (.w i))).length) c280), (19, .int .u64 (a.word i)), (21, .bool true), (156, .bool false), (157, .slice o279 ((kys Z (a.q (.w i))).length) c280), (160, .pointer (some ⟨mb, 3, none⟩))]) (φ := True) (fuel := 16) h304 (by kernel_rfl) rfl (by kernel_rfl) (by kernel_rfl) ⟨trivial, trivial, trivial, trivial, trivial, trivial, trivial, trivial⟩ trivial fun a306 h307 => ?_
          clear h304
          refine dr_read (i := 7) (b := mb) (p := 3) (v := .map (some Z.qb)) (fuel := 15) (by repeat (first | with_reducible exact PF.body | with_reducible apply PF.inB | with_reducible apply PF.next)) h307 rfl rfl rfl (by kernel_rfl) (by kernel_rfl) (by kernel_rfl) rfl (rd_m h307 (k := 3) (v := .map (some Z.qb)) rfl rfl rfl rfl (md_p ⟨rfl, trivial⟩)) ?_
          have h308 := h307.put (d := some 161) (v := .map (some Z.qb)) (T' := [(161, .map (some Z.qb)), (17, .pointer (some ⟨b218, 0, none⟩)), (0, .pointer (some ⟨kb, 0, none⟩)), (1, .pointer (some ⟨mb, 0, none⟩)), (133, .slice (some ⟨r4, 0, none⟩) ((kys Z (X4 ++ X5)).length) c182), (134, .int .i64 (((kys Z (X4 ++ X5)).length : Nat) : Int)), (135, .int .i64 ((m : Nat) : Int)), (18, .slice o279 ((kys Z (a.q (.w i))).length) c280), (19, .int .u64 (a.word i)), (21, .bool true), (156, .bool false), (157, .slice o279 ((kys Z (a.q (.w i))).length) c280), (160, .pointer (some ⟨mb, 3, none⟩))]) rfl
          clear h307
          refine dr_batch tabOk2 tabZ_ok2 (by repeat (first | with_reducible exact PF.body | with_reducible apply PF.inB | with_reducible apply PF.next)) [(8, {k := 2, p := 2})] [161, 17, 0, 1, 133, 134, 135, 18, 19, 21, 156, 157, 162] (T' := [(161, .map (some Z.qb)), (17, .pointer (some ⟨b218, 0, none⟩)), (0, .pointer (some ⟨kb, 0, none⟩)), (1, .pointer (some ⟨mb, 0, none⟩)), (133, .slice (some ⟨r4, 0, none⟩) ((kys Z (X4 ++ X5)).length) c182), (134, .int .i64 (((kys Z (X4 ++ X5)).length : Nat) : Int)), (135, .int .i64 ((m : Nat) : Int)), (18, .slice o279 ((kys Z (a.q (.w i))).length) c280), (19, .int .u64 (a.word i)), (21, .bool true), (156, .bool false), (157, .slice o279 ((kys Z (a.q (.w i))).length) c280), (162, .agg #[.int .u16 ((Z.ky i).idx), .int .u32 ((Z.ky i).gen)])]) (φ := (b218 = b218 ∧ Nat.ble (0 + 2) 2 = true) ∧ True) (fuel := 14) h308 (by kernel_rfl) rfl (by kernel_rfl) (by kernel_rfl) ⟨rfl, trivial⟩ ⟨⟨rfl, rfl⟩, trivial⟩ fun a309 h310 => ?_
          clear h308
          refine dr_read (i := 9) (b := Z.qb) (p := 4) (v := .slice (R.qo i) ((kys Z (a.q (.w i))).length) (R.qk i)) (fuel := 13) (by repeat (first | with_reducible exact PF.body | with_reducible apply PF.inB | with_reducible apply PF.next)) h310 rfl rfl rfl (by kernel_rfl) (by kernel_rfl) (by kernel_rfl) rfl (rd_Q h310 (x := i) hi rfl rfl rfl) ?_
          have h311 := h310.put (d := some 163) (v := .slice (R.qo i) ((kys Z (a.q (.w i))).length) (R.qk i)) (T' := [(163, .slice (R.qo i) ((kys Z (a.q (.w i))).length) (R.qk i)), (161, .map (some Z.qb)), (17, .pointer (some ⟨b218, 0, none⟩)), (0, .pointer (some ⟨kb, 0, none⟩)), (1, .pointer (some ⟨mb, 0, none⟩)), (133, .slice (some ⟨r4, 0, none⟩) ((kys Z (X4 ++ X5)).length) c182), (134, .int .i64 (((kys Z (X4 ++ X5)).length : Nat) : Int)), (135, .int .i64 ((m : Nat) : Int)), (18, .slice o279 ((kys Z (a.q (.w i))).length) c280), (19, .int .u64 (a.word i)), (21, .bool true), (156, .bool false), (157, .slice o279 ((kys Z (a.q (.w i))).length) c280), (162, .agg #[.int .u16 ((Z.ky i).idx), .int .u32 ((Z.ky i).gen)])]) rfl
          clear h310
          refine wpAnyK_one (i := 10) (fuel := 12) (by kernel_rfl) ?_
          refine op_call h311 rfl rfl rfl (callOk Tryd.func23 (by decide) rfl) (args := [.slice o279 ((kys Z (a.q (.w i))).length) c280, .slice (R.qo i) ((kys Z (a.q (.w i))).length) (R.qk i)]) rfl (by rw [show (kys Z (a.q (.w i))).length = 0 by rw [kys_len]; omega]; exact equalR_none _ _ _ _ _) ?_
          rintro _ w312 ⟨rfl, hf314⟩
          refine ⟨_, rfl, ?_⟩
          have h313 := (h311.grow hf314).put (d := some 164) (v := .bool true) (T' := [(164, .bool true), (163, .slice (R.qo i) ((kys Z (a.q (.w i))).length) (R.qk i)), (161, .map (some Z.qb)), (17, .pointer (some ⟨b218, 0, none⟩)), (0, .pointer (some ⟨kb, 0, none⟩)), (1, .pointer (some ⟨mb, 0, none⟩)), (133, .slice (some ⟨r4, 0, none⟩) ((kys Z (X4 ++ X5)).length) c182), (134, .int .i64 (((kys Z (X4 ++ X5)).length : Nat) : Int)), (135, .int .i64 ((m : Nat) : Int)), (18, .slice o279 ((kys Z (a.q (.w i))).length) c280), (19, .int .u64 (a.word i)), (21, .bool true), (156, .bool false), (157, .slice o279 ((kys Z (a.q (.w i))).length) c280), (162, .agg #[.int .u16 ((Z.ky i).idx), .int .u32 ((Z.ky i).gen)])]) rfl
          refine ⟨keepNil, ?_⟩
          clear h311
          refine dr_batch tabOk2 tabZ_ok2 (by repeat (first | with_reducible exact PF.body | with_reducible apply PF.inB | with_reducible apply PF.next)) [(11, {}), (12, {}), (13, {}), (14, {}), (15, {}), (16, {}), (17, {})] [17, 0, 1, 133, 134, 135, 18, 19, 21, 167, 168, 171] (T' := [(17, .pointer (some ⟨b218, 0, none⟩)), (0, .pointer (some ⟨kb, 0, none⟩)), (1, .pointer (some ⟨mb, 0, none⟩)), (133, .slice (some ⟨r4, 0, none⟩) ((kys Z (X4 ++ X5)).length) c182), (134, .int .i64 (((kys Z (X4 ++ X5)).length : Nat) : Int)), (135, .int .i64 ((m : Nat) : Int)), (18, .slice o279 ((kys Z (a.q (.w i))).length) c280), (19, .int .u64 (a.word i)), (21, .bool true), (167, .bool false), (168, .int .u64 (a.word i)), (171, .pointer (some ⟨mb, 4, none⟩))]) (φ := True) (fuel := 5) h313 (by kernel_rfl) rfl (by kernel_rfl) (by kernel_rfl) ⟨trivial, trivial, trivial, trivial, trivial, trivial, trivial, trivial⟩ trivial fun a315 h316 => ?_
          clear h313
          refine dr_read (i := 18) (b := mb) (p := 3) (v := .map (some Z.wb)) (fuel := 4) (by repeat (first | with_reducible exact PF.body | with_reducible apply PF.inB | with_reducible apply PF.next)) h316 rfl rfl rfl (by kernel_rfl) (by kernel_rfl) (by kernel_rfl) rfl (rd_m h316 (k := 4) (v := .map (some Z.wb)) rfl rfl rfl rfl (md_p ⟨rfl, trivial⟩)) ?_
          have h317 := h316.put (d := some 172) (v := .map (some Z.wb)) (T' := [(172, .map (some Z.wb)), (17, .pointer (some ⟨b218, 0, none⟩)), (0, .pointer (some ⟨kb, 0, none⟩)), (1, .pointer (some ⟨mb, 0, none⟩)), (133, .slice (some ⟨r4, 0, none⟩) ((kys Z (X4 ++ X5)).length) c182), (134, .int .i64 (((kys Z (X4 ++ X5)).length : Nat) : Int)), (135, .int .i64 ((m : Nat) : Int)), (18, .slice o279 ((kys Z (a.q (.w i))).length) c280), (19, .int .u64 (a.word i)), (21, .bool true), (167, .bool false), (168, .int .u64 (a.word i)), (171, .pointer (some ⟨mb, 4, none⟩))]) rfl
          clear h316
          refine dr_batch tabOk2 tabZ_ok2 (by repeat (first | with_reducible exact PF.body | with_reducible apply PF.inB | with_reducible apply PF.next)) [(19, {k := 2, p := 2})] [172, 17, 0, 1, 133, 134, 135, 18, 19, 21, 167, 168, 173] (T' := [(172, .map (some Z.wb)), (17, .pointer (some ⟨b218, 0, none⟩)), (0, .pointer (some ⟨kb, 0, none⟩)), (1, .pointer (some ⟨mb, 0, none⟩)), (133, .slice (some ⟨r4, 0, none⟩) ((kys Z (X4 ++ X5)).length) c182), (134, .int .i64 (((kys Z (X4 ++ X5)).length : Nat) : Int)), (135, .int .i64 ((m : Nat) : Int)), (18, .slice o279 ((kys Z (a.q (.w i))).length) c280), (19, .int .u64 (a.word i)), (21, .bool true), (167, .bool false), (168, .int .u64 (a.word i)), (173, .agg #[.int .u16 ((Z.ky i).idx), .int .u32 ((Z.ky i).gen)])]) (φ := (b218 = b218 ∧ Nat.ble (0 + 2) 2 = true) ∧ True) (fuel := 3) h317 (by kernel_rfl) rfl (by kernel_rfl) (by kernel_rfl) ⟨rfl, trivial⟩ ⟨⟨rfl, rfl⟩, trivial⟩ fun a318 h319 => ?_
          clear h317
          refine dr_read (i := 20) (b := Z.wb) (p := 5) (v := .int .u64 (a.word i)) (fuel := 2) (by repeat (first | with_reducible exact PF.body | with_reducible apply PF.inB | with_reducible apply PF.next)) h319 rfl rfl rfl (by kernel_rfl) (by kernel_rfl) (by kernel_rfl) rfl (rd_W h319 (x := i) hi rfl rfl rfl) ?_
          have h320 := h319.put (d := some 174) (v := .int .u64 (a.word i)) (T' := [(174, .int .u64 (a.word i)), (172, .map (some Z.wb)), (17, .pointer (some ⟨b218, 0, none⟩)), (0, .pointer (some ⟨kb, 0, none⟩)), (1, .pointer (some ⟨mb, 0, none⟩)), (133, .slice (some ⟨r4, 0, none⟩) ((kys Z (X4 ++ X5)).length) c182), (134, .int .i64 (((kys Z (X4 ++ X5)).length : Nat) : Int)), (135, .int .i64 ((m : Nat) : Int)), (18, .slice o279 ((kys Z (a.q (.w i))).length) c280), (19, .int .u64 (a.word i)), (21, .bool true), (167, .bool false), (168, .int .u64 (a.word i)), (173, .agg #[.int .u16 ((Z.ky i).idx), .int .u32 ((Z.ky i).gen)])]) rfl
          clear h319
          refine dr_batch tabOk2 tabZ_ok2 (by repeat (first | with_reducible exact PF.body | with_reducible apply PF.inB | with_reducible apply PF.next)) [(21, {f := 1}), (22, {})] [17, 0, 1, 133, 134, 135, 18, 19, 21, 176] (T' := [(17, .pointer (some ⟨b218, 0, none⟩)), (0, .pointer (some ⟨kb, 0, none⟩)), (1, .pointer (some ⟨mb, 0, none⟩)), (133, .slice (some ⟨r4, 0, none⟩) ((kys Z (X4 ++ X5)).length) c182), (134, .int .i64 (((kys Z (X4 ++ X5)).length : Nat) : Int)), (135, .int .i64 ((m : Nat) : Int)), (18, .slice o279 ((kys Z (a.q (.w i))).length) c280), (19, .int .u64 (a.word i)), (21, .bool true), (176, .bool false)]) (φ := (((a.word i) != (a.word i))) = false ∧ True) (fuel := 0) h320 (by kernel_rfl) rfl (by kernel_rfl) (by kernel_rfl) ⟨trivial, trivial, trivial⟩ ⟨(by simp), trivial⟩ fun a321 h322 => ?_
          clear h320
          refine wpAnyK_done (by kernel_rfl) ?_ _
          refine hK302 _ _ ?_
          clear hK302
          refine c_false h322 rfl ?_
          refine wp_skip ?_
          refine hK214 _ _ ?_
          clear hK214
          refine nd_start (l := [0, 1]) rfl ?_
          refine nd_batch tabOk2 tabZ_ok2 [(0, {}), (1, {})] [17, 0, 1, 133, 134, 18, 19, 21, 135] (T' := [(17, .pointer (some ⟨b218, 0, none⟩)), (0, .pointer (some ⟨kb, 0, none⟩)), (1, .pointer (some ⟨mb, 0, none⟩)), (133, .slice (some ⟨r4, 0, none⟩) ((kys Z (X4 ++ X5)).length) c182), (134, .int .i64 (((kys Z (X4 ++ X5)).length : Nat) : Int)), (18, .slice o279 ((kys Z (a.q (.w i))).length) c280), (19, .int .u64 (a.word i)), (21, .bool true), (135, .int .i64 (((m : Nat) : Int) + 1))]) (φ := inR .i64 (((m : Nat) : Int) + 1) ∧ True) (rest := []) h322 (by kernel_rfl) rfl ⟨⟨by omega, by omega⟩, trivial⟩ fun a323 h324 => ?_
          clear h322
          refine nd_done ?_
          have h325 := h324.memMono (L' := [(3, ⟨[.int .u16 0, .int .u32 0], ty3, true⟩), (r4, ⟨r4cs, 39, false⟩)]) (List.Sublist.cons_cons _ (List.Sublist.cons_cons _ (List.Sublist.cons _ List.Sublist.slnil)))
          clear h324
          exact ⟨(g - 1), by omega, (m + 1), by omega, by omega, (h325.slotsMono (restr_spec (keep := [0, 1, 133, 134, 135]) rfl))⟩
      ·
        have hc213f : ¬ ((m : Nat) : Int) < (((kys Z (X4 ++ X5)).length : Nat) : Int) := by simpa using hc213
        refine wp_exit ?_
        refine hK200 _ _ ?_
        clear hK200
        refine wp_seq_k fun K326 hK326 => ?_
        refine wp_seq_k fun K327 hK327 => ?_
        refine nd_start (l := [0]) rfl ?_
        refine nd_batch tabOk2 tabZ_ok2 [(0, {})] [0, 1, 133, 134, 135, 22] (T' := [(0, .pointer (some ⟨kb, 0, none⟩)), (1, .pointer (some ⟨mb, 0, none⟩)), (133, .slice (some ⟨r4, 0, none⟩) ((kys Z (X4 ++ X5)).length) c182), (134, .int .i64 (((kys Z (X4 ++ X5)).length : Nat) : Int)), (135, .int .i64 ((m : Nat) : Int)), (22, .int .i64 0)]) (φ := True) (rest := []) h211 (by kernel_rfl) rfl trivial fun a328 h329 => ?_
        clear h211
        refine nd_done ?_
        refine hK327 _ _ ?_
        clear hK327
        refine wp_block ?_
        have h330 := h329.memMono (L' := [(3, ⟨[.int .u16 0, .int .u32 0], ty3, true⟩)]) (List.Sublist.cons_cons _ (List.Sublist.cons _ List.Sublist.slnil))
        clear h329
        refine wp_loop_ghost (fun g ga gw => ∃ (m : Nat), (g = 16 - m) ∧ (m ≤ 16) ∧ St (MCx 192 (mdF mb Z R C) w mb Z R a C) [(0, .pointer (some ⟨kb, 0, none⟩)), (1, .pointer (some ⟨mb, 0, none⟩)), (22, .int .i64 ((m : Nat) : Int))] [(3, ⟨[.int .u16 0, .int .u32 0], ty3, true⟩)] ga gw) 16 ⟨0, by omega, by omega, (h330.slotsMono (restr_spec (keep := [0, 1, 22]) rfl))⟩ ?_
        clear h330
        rintro g a331 w332 ⟨m, hi334, hi335, h333⟩
        have hig := hi334
        have hmN := hi335
        refine wp_seq_k fun K336 hK336 => ?_
        refine wp_seq_k fun K337 hK337 => ?_
        refine nd_start (l := [0, 1]) rfl ?_
        refine nd_batch tabOk2 tabZ_ok2 [(0, {}), (1, {})] [0, 1, 22, 179] (T' := [(0, .pointer (some ⟨kb, 0, none⟩)), (1, .pointer (some ⟨mb, 0, none⟩)), (22, .int .i64 ((m : Nat) : Int)), (179, .bool (decide (((m : Nat) : Int) < 16)))]) (φ := True) (rest := []) h333 (by kernel_rfl) rfl trivial fun a338 h339 => ?_
        clear h333
        refine nd_done ?_
        refine hK337 _ _ ?_
        clear hK337
        refine c_split h339 (b := decide (((m : Nat) : Int) < 16)) rfl (fun hc340 => ?_) (fun hc340 => ?_)
        ·
          have hc340f : ((m : Nat) : Int) < 16 := by simpa using hc340
          refine wp_skip ?_
          refine hK336 _ _ ?_
          clear hK336
          refine wp_seq_k fun K341 hK341 => ?_
          refine wp_block ?_
          refine wp_seq_k fun K342 hK342 => ?_
          refine dr_start (KB := [3, mb]) (Bi := [[0, 1], [0, 1], [1], [0, 1], [0, 1], [0, 1], [0, 1], [0, 1], [0, 1], [0, 1]]) mixed h339 fun w343 h344 => ?_
          clear h339
          refine dr_batch tabOk2 tabZ_ok2 (by repeat (first | with_reducible exact PF.body | with_reducible apply PF.inB | with_reducible apply PF.next)) [(0, {}), (1, {}), (3, {}), (4, {}), (5, {}), (6, {}), (7, {})] [0, 1, 22, 182, 183, 189] (T' := [(0, .pointer (some ⟨kb, 0, none⟩)), (1, .pointer (some ⟨mb, 0, none⟩)), (22, .int .i64 ((m : Nat) : Int)), (182, .pointer (some ⟨kb, 0, none⟩)), (183, .int .i64 ((m : Nat) : Int)), (189, .pointer (some ⟨mb, 15 + (m * 4), none⟩))]) (φ := (0 ≤ ((m : Nat) : Int) ∧ ((m : Nat) : Int) < 16) ∧ True) (fuel := 3) h344 (by kernel_rfl) rfl (by kernel_rfl) (by kernel_rfl) ⟨trivial, trivial, trivial, trivial, trivial, trivial, trivial, trivial⟩ ⟨⟨by omega, by omega⟩, trivial⟩ fun a346 h347 => ?_
          clear h344
          refine dr_read (i := 8) (b := mb) (p := 1) (v := .agg #[.int .u16 ((a.irq m).ntfn.idx), .int .u32 ((a.irq m).ntfn.gen), .int .u64 ((a.irq m).badge), .bool ((a.irq m).masked)]) (fuel := 2) (by repeat (first | with_reducible exact PF.body | with_reducible apply PF.inB | with_reducible apply PF.next)) h347 rfl rfl rfl (by kernel_rfl) (by kernel_rfl) (by kernel_rfl) rfl (rd_mA h347 (k := 15 + (m * 4)) (vs := [.int .u16 ((a.irq m).ntfn.idx), .int .u32 ((a.irq m).ntfn.gen), .int .u64 ((a.irq m).badge), .bool ((a.irq m).masked)]) rfl rfl rfl rfl rfl (md_irq (i := m) (k := 0) (by omega) (by omega) ⟨rfl, rfl, rfl, rfl, trivial⟩)) ?_
          have h348 := h347.put (d := some 190) (v := .agg #[.int .u16 ((a.irq m).ntfn.idx), .int .u32 ((a.irq m).ntfn.gen), .int .u64 ((a.irq m).badge), .bool ((a.irq m).masked)]) (T' := [(190, .agg #[.int .u16 ((a.irq m).ntfn.idx), .int .u32 ((a.irq m).ntfn.gen), .int .u64 ((a.irq m).badge), .bool ((a.irq m).masked)]), (0, .pointer (some ⟨kb, 0, none⟩)), (1, .pointer (some ⟨mb, 0, none⟩)), (22, .int .i64 ((m : Nat) : Int)), (182, .pointer (some ⟨kb, 0, none⟩)), (183, .int .i64 ((m : Nat) : Int)), (189, .pointer (some ⟨mb, 15 + (m * 4), none⟩))]) rfl
          clear h347
          refine wpAnyK_one (i := 2) (fuel := 1) (by kernel_rfl) ?_
          refine op_call h348 rfl rfl rfl (callOk Tryd.func33 (by decide) rfl) (args := [.pointer (some ⟨kb, 0, none⟩), .int .i64 ((m : Nat) : Int)]) rfl (by have h9 := irq_ok kb bo bc S (m : Int) ⟨by omega, by omega⟩ _ (kpK hker h348.frame (hdis _ (List.mem_cons_self ..))); rw [Int.toNat_natCast, ← hv.ab.ir m (by omega)] at h9; exact h9) ?_
          rintro _ w349 ⟨rfl, hf351⟩
          refine ⟨_, rfl, ?_⟩
          have h350 := (h348.grow hf351).put (d := some 184) (v := .agg #[.int .u16 ((a.irq m).ntfn.idx), .int .u32 ((a.irq m).ntfn.gen), .int .u64 ((a.irq m).badge), .bool ((a.irq m).masked)]) (T' := [(184, .agg #[.int .u16 ((a.irq m).ntfn.idx), .int .u32 ((a.irq m).ntfn.gen), .int .u64 ((a.irq m).badge), .bool ((a.irq m).masked)]), (190, .agg #[.int .u16 ((a.irq m).ntfn.idx), .int .u32 ((a.irq m).ntfn.gen), .int .u64 ((a.irq m).badge), .bool ((a.irq m).masked)]), (0, .pointer (some ⟨kb, 0, none⟩)), (1, .pointer (some ⟨mb, 0, none⟩)), (22, .int .i64 ((m : Nat) : Int)), (182, .pointer (some ⟨kb, 0, none⟩)), (183, .int .i64 ((m : Nat) : Int)), (189, .pointer (some ⟨mb, 15 + (m * 4), none⟩))]) rfl
          refine ⟨(keepCons (kpM h348.inv.1 (l := .m) trivial (List.mem_cons_self ..) hf351) keepNil), ?_⟩
          clear h348
          refine dr_batch tabOk2 tabZ_ok2 (by repeat (first | with_reducible exact PF.body | with_reducible apply PF.inB | with_reducible apply PF.next)) [(9, {f := 1})] [0, 1, 22, 191] (T' := [(0, .pointer (some ⟨kb, 0, none⟩)), (1, .pointer (some ⟨mb, 0, none⟩)), (22, .int .i64 ((m : Nat) : Int)), (191, .bool false)]) (φ := EqRun Tryd.prog 71 (.agg #[.int .u16 ((a.irq m).ntfn.idx), .int .u32 ((a.irq m).ntfn.gen), .int .u64 ((a.irq m).badge), .bool ((a.irq m).masked)]) (.agg #[.int .u16 ((a.irq m).ntfn.idx), .int .u32 ((a.irq m).ntfn.gen), .int .u64 ((a.irq m).badge), .bool ((a.irq m).masked)]) true ∧ True) (fuel := 0) h350 (by kernel_rfl) rfl (by kernel_rfl) (by kernel_rfl) ⟨trivial, trivial⟩ ⟨(runIrqS (a.irq m)), trivial⟩ fun a352 h353 => ?_
          clear h350
          refine wpAnyK_done (by kernel_rfl) ?_ _
          refine hK342 _ _ ?_
          clear hK342
          refine c_false h353 rfl ?_
          refine wp_skip ?_
          refine hK341 _ _ ?_
          clear hK341
          refine nd_start (l := [0, 1, 2]) rfl ?_
          refine nd_batch tabOk2 tabZ_ok2 [(0, {}), (1, {}), (2, {})] [0, 1, 22] (T' := [(0, .pointer (some ⟨kb, 0, none⟩)), (1, .pointer (some ⟨mb, 0, none⟩)), (22, .int .i64 (((m : Nat) : Int) + 1))]) (φ := inR .i64 (((m : Nat) : Int) + 1) ∧ True) (rest := []) h353 (by kernel_rfl) rfl ⟨⟨by omega, by omega⟩, trivial⟩ fun a354 h355 => ?_
          clear h353
          refine nd_done ?_
          exact ⟨(g - 1), by omega, (m + 1), by omega, by omega, (h355.slotsMono (restr_spec (keep := [0, 1, 22]) rfl))⟩
        ·
          have hc340f : ¬ ((m : Nat) : Int) < 16 := by simpa using hc340
          refine wp_exit ?_
          refine hK326 _ _ ?_
          clear hK326
          refine wp_seq_k fun K356 hK356 => ?_
          refine nd_start (l := [0]) rfl ?_
          refine nd_batch tabOk2 tabZ_ok2 [(0, {})] [0, 1, 22, 4] (T' := [(0, .pointer (some ⟨kb, 0, none⟩)), (1, .pointer (some ⟨mb, 0, none⟩)), (22, .int .i64 ((m : Nat) : Int)), (4, .bool true)]) (φ := True) (rest := []) h339 (by kernel_rfl) rfl trivial fun a357 h358 => ?_
          clear h339
          refine nd_done ?_
          refine hK356 _ _ ?_
          clear hK356
          refine wp_ret ?_
          try simp only [Exit.then, Exit.inBlock]
          try rw [if_pos trivial]
          exact s_ret tabOk2 tabZ_ok2 h358 [(.tmp 4, {})] (vs := [.bool true]) (φ := True) rfl (by kernel_rfl) trivial ⟨rfl, mg_end hH h358 hho rfl⟩

theorem agreesne (kb bo bc : Nat) (nd : Nat → Nat) (S : KP) (n : Int) (mb : Nat) (Z : MZ) (R : MR) (a : AK) (C : CP) (hI : MI Z a C) (hv : Iv S a C n) (X3 X4 X5 : List Nat) (hX3 : liveI C.ent 3 = X3) (hX4 : liveI C.ent 4 = X4) (hX5 : liveI C.ent 5 = X5) (NS NP : List Int) (hNS : [] ++ uvs (storeN C.ent) = NS) (hNP : [] ++ uvs (spaceN C) = NP) (h3l : 0 < X3.length) (h45e : (X4 ++ X5) = []) (w : World) (hker : w.heap[kb]? = some (Blk.obj ⟨kC bo bc S, 90, false⟩)) (hcap : CapAt w bo bc nd C) (hkn : kb ∉ capF bo bc nd C) (hdis : ∀ b ∈ kb :: capF bo bc nd C, b ∉ mdF mb Z R C) (hH : MH mb Z R a C w) :
    Calls Tryd.prog 13 #[.pointer (some ⟨kb, 0, none⟩), .pointer (some ⟨mb, 0, none⟩)] w fun e w' => e = .returned (.bool true) ∧ MG mb Z R C w Z R a C w' := by
  have hrS := hv.ab.ri
  have hQ := hv.ab.li
  have h256 := hv.ci.reg.1
  have hkbo : kb ≠ bo := fun e => hkn (mem_capF.2 (.inl e))
  have hrc := cur_same hI hH.md.k hv
  have hl3 : (kys Z X3).length = Z.tl.length := by rw [← hX3, ← live_kys hI]; exact live_len3 hI hH.md.k
  have hl45 : (kys Z (X4 ++ X5)).length = Z.ql.length := by rw [kys_len, ← hX4, ← hX5]; exact live_len45 hI hH.md.k
  have hle3 : X3.length ≤ 256 := by rw [← hX3]; exact live_le C.ent 3
  have hle4 : X4.length ≤ 256 := by rw [← hX4]; exact live_le C.ent 4
  have hle5 : X5.length ≤ 256 := by rw [← hX5]; exact live_le C.ent 5
  have hk3 := kys_len Z X3
  have hk45 := kys_len Z (X4 ++ X5)
  have ha45 : (X4 ++ X5).length = X4.length + X5.length := List.length_append
  obtain ⟨ty3, hg3⟩ := hH.g3
  have hho := hH.ho
  have hkk := hH.md.k
  refine enter (n := 192) (K := mdF mb Z R C) (A := MD (mdF mb Z R C) w.heap.size mb Z R a C) (F := mdF mb Z R C) (T := [(0, .pointer (some ⟨kb, 0, none⟩)), (1, .pointer (some ⟨mb, 0, none⟩))]) (L := [(3, ⟨[.int .u16 0, .int .u32 0], ty3, true⟩)]) (args := [.pointer (some ⟨kb, 0, none⟩), .pointer (some ⟨mb, 0, none⟩)]) Tryd.func13 rfl rfl rfl rfl (kcons hg3 knil) (by simp) (kcons (by intro hq; cases hq) knil) hH.mD MD.stable hH.md.low (kcons (by intro hq; cases hq) knil) ?_
  intro ac h
  refine wp_seq_k fun K1 hK1 => ?_
  refine nd_start (l := [0]) rfl ?_
  refine nd_batch tabOk2 tabZ_ok2 [(0, {})] [0, 1, 4] (T' := [(0, .pointer (some ⟨kb, 0, none⟩)), (1, .pointer (some ⟨mb, 0, none⟩)), (4, .bool false)]) (φ := True) (rest := []) h (by kernel_rfl) rfl trivial fun a2 h3 => ?_
  clear h
  refine nd_done ?_
  refine hK1 _ _ ?_
  clear hK1
  refine wp_seq_k fun K4 hK4 => ?_
  refine nd_start (l := [0, 1, 2, 3, 4, 5, 6]) rfl ?_
  refine nd_batch tabOk2 tabZ_ok2 [(0, {})] [0, 1, 4, 24] (T' := [(0, .pointer (some ⟨kb, 0, none⟩)), (1, .pointer (some ⟨mb, 0, none⟩)), (4, .bool false), (24, .pointer (some ⟨kb, 0, none⟩))]) (φ := True) (rest := [1, 2, 3, 4, 5, 6]) h3 (by kernel_rfl) rfl trivial fun a5 h6 => ?_
  clear h3
  refine nd_op ?_
  refine op_call h6 rfl rfl rfl (callOk Tryd.func43 (by decide) rfl) (args := [.pointer (some ⟨kb, 0, none⟩)]) rfl (lower_ok kb bo bc S _ (kpK hker h6.frame (hdis _ (List.mem_cons_self ..)))) ?_
  rintro _ w7 ⟨rfl, hf9⟩
  refine ⟨_, rfl, ?_⟩
  have h8 := (h6.grow hf9).put (d := some 25) (v := .tuple #[.pointer (some ⟨bo, 0, none⟩), .pointer (some ⟨bc, 0, none⟩)]) (T' := [(25, .tuple #[.pointer (some ⟨bo, 0, none⟩), .pointer (some ⟨bc, 0, none⟩)]), (0, .pointer (some ⟨kb, 0, none⟩)), (1, .pointer (some ⟨mb, 0, none⟩)), (4, .bool false), (24, .pointer (some ⟨kb, 0, none⟩))]) rfl
  clear h6
  refine nd_batch tabOk2 tabZ_ok2 [(2, {}), (3, {}), (4, {}), (5, {}), (6, {})] [0, 1, 4, 5, 6] (T' := [(0, .pointer (some ⟨kb, 0, none⟩)), (1, .pointer (some ⟨mb, 0, none⟩)), (4, .bool false), (5, .pointer (some ⟨bo, 0, none⟩)), (6, .pointer (some ⟨bc, 0, none⟩))]) (φ := True) (rest := []) h8 (by kernel_rfl) rfl trivial fun a10 h11 => ?_
  clear h8
  refine nd_done ?_
  refine hK4 _ _ ?_
  clear hK4
  refine wp_seq_k fun K12 hK12 => ?_
  refine wp_seq_k fun K13 hK13 => ?_
  refine dr_start (KB := [3, mb]) (Bi := [[0, 1], [1], [0, 1], [0, 1], [0, 1], [0, 1], [], [], [0, 1], [0, 1], [0, 1], [1], [0, 1], [0, 1], [0, 1], [0, 1], [], [], [0, 1], [0, 1]]) mixed h11 fun w14 h15 => ?_
  clear h11
  refine dr_batch tabOk2 tabZ_ok2 (by repeat (first | with_reducible exact PF.body | with_reducible apply PF.inB | with_reducible apply PF.next)) [(0, {}), (2, {}), (3, {}), (4, {})] [0, 1, 4, 5, 6, 28, 32] (T' := [(0, .pointer (some ⟨kb, 0, none⟩)), (1, .pointer (some ⟨mb, 0, none⟩)), (4, .bool false), (5, .pointer (some ⟨bo, 0, none⟩)), (6, .pointer (some ⟨bc, 0, none⟩)), (28, .pointer (some ⟨bo, 0, none⟩)), (32, .pointer (some ⟨mb, 0, none⟩))]) (φ := True) (fuel := 16) h15 (by kernel_rfl) rfl (by kernel_rfl) (by kernel_rfl) ⟨trivial, trivial, trivial, trivial, trivial⟩ trivial fun a17 h18 => ?_
  clear h15
  refine dr_read (i := 5) (b := mb) (p := 1) (v := .pointer (some ⟨Z.mo, 0, none⟩)) (fuel := 15) (by repeat (first | with_reducible exact PF.body | with_reducible apply PF.inB | with_reducible apply PF.next)) h18 rfl rfl rfl (by kernel_rfl) (by kernel_rfl) (by kernel_rfl) rfl (rd_m h18 (k := 0) (v := .pointer (some ⟨Z.mo, 0, none⟩)) rfl rfl rfl rfl (md_p ⟨rfl, trivial⟩)) ?_
  have h19 := h18.put (d := some 33) (v := .pointer (some ⟨Z.mo, 0, none⟩)) (T' := [(33, .pointer (some ⟨Z.mo, 0, none⟩)), (0, .pointer (some ⟨kb, 0, none⟩)), (1, .pointer (some ⟨mb, 0, none⟩)), (4, .bool false), (5, .pointer (some ⟨bo, 0, none⟩)), (6, .pointer (some ⟨bc, 0, none⟩)), (28, .pointer (some ⟨bo, 0, none⟩)), (32, .pointer (some ⟨mb, 0, none⟩))]) rfl
  clear h18
  refine wpAnyK_one (i := 1) (fuel := 14) (by kernel_rfl) ?_
  refine op_call h19 rfl rfl rfl (callOk Tryd.func44 (by decide) rfl) (args := [.pointer (some ⟨bo, 0, none⟩), .slice none 0 0]) rfl (by have h9 := storeBytes_ok bo C.ent hv.uc.e none 0 [] [] _ (cpK hcap h19.frame hdis).st rwsNil (by simp) (by simp); rw [hNS] at h9; exact h9) ?_
  rintro _ w26 ⟨o20, c21, F22, rfl, hr23, hf24, hF25⟩
  refine ⟨_, rfl, ?_⟩
  refine ⟨(keepCons (kpM h19.inv.1 (l := .m) trivial (List.mem_cons_self ..) hf24) keepNil), ?_⟩
  have h27 := (h19.grow hf24).put (d := some 29) (v := .slice o20 NS.length c21) (T' := [(29, .slice o20 NS.length c21), (33, .pointer (some ⟨Z.mo, 0, none⟩)), (0, .pointer (some ⟨kb, 0, none⟩)), (1, .pointer (some ⟨mb, 0, none⟩)), (4, .bool false), (5, .pointer (some ⟨bo, 0, none⟩)), (6, .pointer (some ⟨bc, 0, none⟩)), (28, .pointer (some ⟨bo, 0, none⟩)), (32, .pointer (some ⟨mb, 0, none⟩))]) rfl
  clear h19
  refine wpAnyK_one (i := 6) (fuel := 13) (by kernel_rfl) ?_
  refine op_call h27 rfl rfl rfl (callOk Tryd.func44 (by decide) rfl) (args := [.pointer (some ⟨Z.mo, 0, none⟩), .slice none 0 0]) rfl (by have h9 := storeBytes_ok Z.mo C.ent hv.uc.e none 0 [] [] _ h27.inv.1.cp.st rwsNil (by simp) (by simp); rw [hNS] at h9; exact h9) ?_
  rintro _ w34 ⟨o28, c29, F30, rfl, hr31, hf32, hF33⟩
  refine ⟨_, rfl, ?_⟩
  have hr35 := Row.fr hr23 hf32 (fun _ _ hq => by cases hq)
  refine ⟨keepNil, ?_⟩
  have h36 := (h27.grow hf32).put (d := some 34) (v := .slice o28 NS.length c29) (T' := [(34, .slice o28 NS.length c29), (29, .slice o20 NS.length c21), (33, .pointer (some ⟨Z.mo, 0, none⟩)), (0, .pointer (some ⟨kb, 0, none⟩)), (1, .pointer (some ⟨mb, 0, none⟩)), (4, .bool false), (5, .pointer (some ⟨bo, 0, none⟩)), (6, .pointer (some ⟨bc, 0, none⟩)), (28, .pointer (some ⟨bo, 0, none⟩)), (32, .pointer (some ⟨mb, 0, none⟩))]) rfl
  clear h27
  refine wpAnyK_one (i := 7) (fuel := 12) (by kernel_rfl) ?_
  refine op_call h36 rfl rfl rfl (callOk Tryd.func17 (by decide) rfl) (args := [.slice o20 NS.length c21, .slice o28 NS.length c29]) rfl (equal_ok _ (by rw [← hNS]; exact storeN_pos C.ent) _ _ _ _ _ _ _ hr35 hr31) ?_
  rintro _ w37 ⟨rfl, hf39⟩
  refine ⟨_, rfl, ?_⟩
  have h38 := (h36.grow hf39).put (d := some 35) (v := .bool true) (T' := [(35, .bool true), (34, .slice o28 NS.length c29), (29, .slice o20 NS.length c21), (33, .pointer (some ⟨Z.mo, 0, none⟩)), (0, .pointer (some ⟨kb, 0, none⟩)), (1, .pointer (some ⟨mb, 0, none⟩)), (4, .bool false), (5, .pointer (some ⟨bo, 0, none⟩)), (6, .pointer (some ⟨bc, 0, none⟩)), (28, .pointer (some ⟨bo, 0, none⟩)), (32, .pointer (some ⟨mb, 0, none⟩))]) rfl
  refine ⟨keepNil, ?_⟩
  clear h36
  refine dr_batch tabOk2 tabZ_ok2 (by repeat (first | with_reducible exact PF.body | with_reducible apply PF.inB | with_reducible apply PF.next)) [(8, {}), (9, {}), (10, {}), (12, {}), (13, {}), (14, {})] [0, 1, 4, 5, 6, 37, 38, 42] (T' := [(0, .pointer (some ⟨kb, 0, none⟩)), (1, .pointer (some ⟨mb, 0, none⟩)), (4, .bool false), (5, .pointer (some ⟨bo, 0, none⟩)), (6, .pointer (some ⟨bc, 0, none⟩)), (37, .bool false), (38, .pointer (some ⟨bc, 0, none⟩)), (42, .pointer (some ⟨mb, 1, none⟩))]) (φ := True) (fuel := 6) h38 (by kernel_rfl) rfl (by kernel_rfl) (by kernel_rfl) ⟨trivial, trivial, trivial, trivial, trivial, trivial, trivial⟩ trivial fun a40 h41 => ?_
  clear h38
  refine dr_read (i := 15) (b := mb) (p := 1) (v := .pointer (some ⟨Z.mc, 0, none⟩)) (fuel := 5) (by repeat (first | with_reducible exact PF.body | with_reducible apply PF.inB | with_reducible apply PF.next)) h41 rfl rfl rfl (by kernel_rfl) (by kernel_rfl) (by kernel_rfl) rfl (rd_m h41 (k := 1) (v := .pointer (some ⟨Z.mc, 0, none⟩)) rfl rfl rfl rfl (md_p ⟨rfl, trivial⟩)) ?_
  have h42 := h41.put (d := some 43) (v := .pointer (some ⟨Z.mc, 0, none⟩)) (T' := [(43, .pointer (some ⟨Z.mc, 0, none⟩)), (0, .pointer (some ⟨kb, 0, none⟩)), (1, .pointer (some ⟨mb, 0, none⟩)), (4, .bool false), (5, .pointer (some ⟨bo, 0, none⟩)), (6, .pointer (some ⟨bc, 0, none⟩)), (37, .bool false), (38, .pointer (some ⟨bc, 0, none⟩)), (42, .pointer (some ⟨mb, 1, none⟩))]) rfl
  clear h41
  refine wpAnyK_one (i := 11) (fuel := 4) (by kernel_rfl) ?_
  refine op_call h42 rfl rfl rfl (callOk Tryd.func45 (by decide) rfl) (args := [.pointer (some ⟨bc, 0, none⟩), .slice none 0 0]) rfl (by have h9 := spaceBytes_ok bo bc nd C hv.uc none 0 [] [] _ (cpK hcap h42.frame hdis) rwsNil (by simp) (by simp); rw [hNP] at h9; exact h9) ?_
  rintro _ w49 ⟨o43, c44, F45, rfl, hr46, hf47, hF48⟩
  refine ⟨_, rfl, ?_⟩
  refine ⟨(keepCons (kpM h42.inv.1 (l := .m) trivial (List.mem_cons_self ..) hf47) keepNil), ?_⟩
  have h50 := (h42.grow hf47).put (d := some 39) (v := .slice o43 NP.length c44) (T' := [(39, .slice o43 NP.length c44), (43, .pointer (some ⟨Z.mc, 0, none⟩)), (0, .pointer (some ⟨kb, 0, none⟩)), (1, .pointer (some ⟨mb, 0, none⟩)), (4, .bool false), (5, .pointer (some ⟨bo, 0, none⟩)), (6, .pointer (some ⟨bc, 0, none⟩)), (37, .bool false), (38, .pointer (some ⟨bc, 0, none⟩)), (42, .pointer (some ⟨mb, 1, none⟩))]) rfl
  clear h42
  refine wpAnyK_one (i := 16) (fuel := 3) (by kernel_rfl) ?_
  refine op_call h50 rfl rfl rfl (callOk Tryd.func45 (by decide) rfl) (args := [.pointer (some ⟨Z.mc, 0, none⟩), .slice none 0 0]) rfl (by have h9 := spaceBytes_ok Z.mo Z.mc Z.nd C hv.uc none 0 [] [] _ h50.inv.1.cp rwsNil (by simp) (by simp); rw [hNP] at h9; exact h9) ?_
  rintro _ w57 ⟨o51, c52, F53, rfl, hr54, hf55, hF56⟩
  refine ⟨_, rfl, ?_⟩
  have hr58 := Row.fr hr46 hf55 (fun _ _ hq => by cases hq)
  refine ⟨keepNil, ?_⟩
  have h59 := (h50.grow hf55).put (d := some 44) (v := .slice o51 NP.length c52) (T' := [(44, .slice o51 NP.length c52), (39, .slice o43 NP.length c44), (43, .pointer (some ⟨Z.mc, 0, none⟩)), (0, .pointer (some ⟨kb, 0, none⟩)), (1, .pointer (some ⟨mb, 0, none⟩)), (4, .bool false), (5, .pointer (some ⟨bo, 0, none⟩)), (6, .pointer (some ⟨bc, 0, none⟩)), (37, .bool false), (38, .pointer (some ⟨bc, 0, none⟩)), (42, .pointer (some ⟨mb, 1, none⟩))]) rfl
  clear h50
  refine wpAnyK_one (i := 17) (fuel := 2) (by kernel_rfl) ?_
  refine op_call h59 rfl rfl rfl (callOk Tryd.func17 (by decide) rfl) (args := [.slice o43 NP.length c44, .slice o51 NP.length c52]) rfl (equal_ok _ (by rw [← hNP]; exact spaceN_pos C) _ _ _ _ _ _ _ hr58 hr54) ?_
  rintro _ w60 ⟨rfl, hf62⟩
  refine ⟨_, rfl, ?_⟩
  have h61 := (h59.grow hf62).put (d := some 45) (v := .bool true) (T' := [(45, .bool true), (44, .slice o51 NP.length c52), (39, .slice o43 NP.length c44), (43, .pointer (some ⟨Z.mc, 0, none⟩)), (0, .pointer (some ⟨kb, 0, none⟩)), (1, .pointer (some ⟨mb, 0, none⟩)), (4, .bool false), (5, .pointer (some ⟨bo, 0, none⟩)), (6, .pointer (some ⟨bc, 0, none⟩)), (37, .bool false), (38, .pointer (some ⟨bc, 0, none⟩)), (42, .pointer (some ⟨mb, 1, none⟩))]) rfl
  refine ⟨keepNil, ?_⟩
  clear h59
  refine dr_batch tabOk2 tabZ_ok2 (by repeat (first | with_reducible exact PF.body | with_reducible apply PF.inB | with_reducible apply PF.next)) [(18, {}), (19, {})] [0, 1, 4, 5, 6, 47] (T' := [(0, .pointer (some ⟨kb, 0, none⟩)), (1, .pointer (some ⟨mb, 0, none⟩)), (4, .bool false), (5, .pointer (some ⟨bo, 0, none⟩)), (6, .pointer (some ⟨bc, 0, none⟩)), (47, .bool false)]) (φ := True) (fuel := 0) h61 (by kernel_rfl) rfl (by kernel_rfl) (by kernel_rfl) ⟨trivial, trivial, trivial⟩ trivial fun a63 h64 => ?_
  clear h61
  refine wpAnyK_done (by kernel_rfl) ?_ _
  refine hK13 _ _ ?_
  clear hK13
  refine c_false h64 rfl ?_
  refine wp_skip ?_
  refine hK12 _ _ ?_
  clear hK12
  refine wp_seq_k fun K65 hK65 => ?_
  refine wp_seq_k fun K66 hK66 => ?_
  refine dr_start (KB := [3, mb]) (Bi := [[0, 1], [1], [0, 1], [0, 1], [0, 1], [0, 1], [0, 1], [0, 1], [0, 1], [1], [0, 1], [0, 1], [0, 1], [0, 1], [0, 1], [0, 1]]) mixed h64 fun w67 h68 => ?_
  clear h64
  refine dr_batch tabOk2 tabZ_ok2 (by repeat (first | with_reducible exact PF.body | with_reducible apply PF.inB | with_reducible apply PF.next)) [(0, {}), (2, {}), (3, {}), (4, {})] [0, 1, 4, 5, 6, 48, 52] (T' := [(0, .pointer (some ⟨kb, 0, none⟩)), (1, .pointer (some ⟨mb, 0, none⟩)), (4, .bool false), (5, .pointer (some ⟨bo, 0, none⟩)), (6, .pointer (some ⟨bc, 0, none⟩)), (48, .pointer (some ⟨kb, 0, none⟩)), (52, .pointer (some ⟨mb, 13, none⟩))]) (φ := True) (fuel := 12) h68 (by kernel_rfl) rfl (by kernel_rfl) (by kernel_rfl) ⟨trivial, trivial, trivial, trivial, trivial⟩ trivial fun a70 h71 => ?_
  clear h68
  refine dr_read (i := 5) (b := mb) (p := 1) (v := .agg #[.int .u16 ((curR Z a).idx), .int .u32 ((curR Z a).gen)]) (fuel := 11) (by repeat (first | with_reducible exact PF.body | with_reducible apply PF.inB | with_reducible apply PF.next)) h71 rfl rfl rfl (by kernel_rfl) (by kernel_rfl) (by kernel_rfl) rfl (rd_mA h71 (k := 13) (vs := [.int .u16 ((curR Z a).idx), .int .u32 ((curR Z a).gen)]) rfl rfl rfl rfl rfl md_cur) ?_
  have h72 := h71.put (d := some 53) (v := .agg #[.int .u16 ((curR Z a).idx), .int .u32 ((curR Z a).gen)]) (T' := [(53, .agg #[.int .u16 ((curR Z a).idx), .int .u32 ((curR Z a).gen)]), (0, .pointer (some ⟨kb, 0, none⟩)), (1, .pointer (some ⟨mb, 0, none⟩)), (4, .bool false), (5, .pointer (some ⟨bo, 0, none⟩)), (6, .pointer (some ⟨bc, 0, none⟩)), (48, .pointer (some ⟨kb, 0, none⟩)), (52, .pointer (some ⟨mb, 13, none⟩))]) rfl
  clear h71
  refine wpAnyK_one (i := 1) (fuel := 10) (by kernel_rfl) ?_
  refine op_call h72 rfl rfl rfl (callOk Tryd.func18 (by decide) rfl) (args := [.pointer (some ⟨kb, 0, none⟩)]) rfl (running_ok kb bo bc S hrS C.ent _ (kpK hker h72.frame (hdis _ (List.mem_cons_self ..))) (cpK hcap h72.frame hdis).st hkbo) ?_
  rintro _ w73 ⟨rfl, hf75⟩
  refine ⟨_, rfl, ?_⟩
  have h74 := (h72.grow hf75).put (d := some 49) (v := .agg #[.int .u16 ((refP C.ent S.cur).idx), .int .u32 ((refP C.ent S.cur).gen)]) (T' := [(49, .agg #[.int .u16 ((refP C.ent S.cur).idx), .int .u32 ((refP C.ent S.cur).gen)]), (53, .agg #[.int .u16 ((curR Z a).idx), .int .u32 ((curR Z a).gen)]), (0, .pointer (some ⟨kb, 0, none⟩)), (1, .pointer (some ⟨mb, 0, none⟩)), (4, .bool false), (5, .pointer (some ⟨bo, 0, none⟩)), (6, .pointer (some ⟨bc, 0, none⟩)), (48, .pointer (some ⟨kb, 0, none⟩)), (52, .pointer (some ⟨mb, 13, none⟩))]) rfl
  refine ⟨(keepCons (kpM h72.inv.1 (l := .m) trivial (List.mem_cons_self ..) hf75) keepNil), ?_⟩
  clear h72
  refine dr_batch tabOk2 tabZ_ok2 (by repeat (first | with_reducible exact PF.body | with_reducible apply PF.inB | with_reducible apply PF.next)) [(6, {f := 1}), (7, {}), (8, {}), (10, {}), (11, {}), (12, {})] [0, 1, 4, 5, 6, 55, 56, 60] (T' := [(0, .pointer (some ⟨kb, 0, none⟩)), (1, .pointer (some ⟨mb, 0, none⟩)), (4, .bool false), (5, .pointer (some ⟨bo, 0, none⟩)), (6, .pointer (some ⟨bc, 0, none⟩)), (55, .bool false), (56, .pointer (some ⟨kb, 0, none⟩)), (60, .pointer (some ⟨mb, 79, none⟩))]) (φ := EqRun Tryd.prog 39 (.agg #[.int .u16 ((refP C.ent S.cur).idx), .int .u32 ((refP C.ent S.cur).gen)]) (.agg #[.int .u16 ((curR Z a).idx), .int .u32 ((curR Z a).gen)]) true ∧ True) (fuel := 4) h74 (by kernel_rfl) rfl (by kernel_rfl) (by kernel_rfl) ⟨trivial, trivial, trivial, trivial, trivial, trivial, trivial⟩ ⟨(by have hq := runRf (refP C.ent S.cur) (curR Z a); rw [show decide (refP C.ent S.cur = curR Z a) = true from decide_eq_true hrc] at hq; exact hq), trivial⟩ fun a76 h77 => ?_
  clear h74
  refine dr_read (i := 13) (b := mb) (p := 1) (v := .int .u64 a.now) (fuel := 3) (by repeat (first | with_reducible exact PF.body | with_reducible apply PF.inB | with_reducible apply PF.next)) h77 rfl rfl rfl (by kernel_rfl) (by kernel_rfl) (by kernel_rfl) rfl (rd_m h77 (k := 79) (v := .int .u64 a.now) rfl rfl rfl rfl md_now) ?_
  have h78 := h77.put (d := some 61) (v := .int .u64 a.now) (T' := [(61, .int .u64 a.now), (0, .pointer (some ⟨kb, 0, none⟩)), (1, .pointer (some ⟨mb, 0, none⟩)), (4, .bool false), (5, .pointer (some ⟨bo, 0, none⟩)), (6, .pointer (some ⟨bc, 0, none⟩)), (55, .bool false), (56, .pointer (some ⟨kb, 0, none⟩)), (60, .pointer (some ⟨mb, 79, none⟩))]) rfl
  clear h77
  refine wpAnyK_one (i := 9) (fuel := 2) (by kernel_rfl) ?_
  refine op_call h78 rfl rfl rfl (callOk Tryd.func46 (by decide) rfl) (args := [.pointer (some ⟨kb, 0, none⟩)]) rfl (now_ok kb bo bc S _ (kpK hker h78.frame (hdis _ (List.mem_cons_self ..)))) ?_
  rintro _ w79 ⟨rfl, hf81⟩
  refine ⟨_, rfl, ?_⟩
  have h80 := (h78.grow hf81).put (d := some 57) (v := .int .u64 S.now) (T' := [(57, .int .u64 S.now), (61, .int .u64 a.now), (0, .pointer (some ⟨kb, 0, none⟩)), (1, .pointer (some ⟨mb, 0, none⟩)), (4, .bool false), (5, .pointer (some ⟨bo, 0, none⟩)), (6, .pointer (some ⟨bc, 0, none⟩)), (55, .bool false), (56, .pointer (some ⟨kb, 0, none⟩)), (60, .pointer (some ⟨mb, 79, none⟩))]) rfl
  refine ⟨(keepCons (kpM h78.inv.1 (l := .m) trivial (List.mem_cons_self ..) hf81) keepNil), ?_⟩
  clear h78
  refine dr_batch tabOk2 tabZ_ok2 (by repeat (first | with_reducible exact PF.body | with_reducible apply PF.inB | with_reducible apply PF.next)) [(14, {f := 1}), (15, {})] [0, 1, 4, 5, 6, 63] (T' := [(0, .pointer (some ⟨kb, 0, none⟩)), (1, .pointer (some ⟨mb, 0, none⟩)), (4, .bool false), (5, .pointer (some ⟨bo, 0, none⟩)), (6, .pointer (some ⟨bc, 0, none⟩)), (63, .bool false)]) (φ := ((S.now != a.now)) = false ∧ True) (fuel := 0) h80 (by kernel_rfl) rfl (by kernel_rfl) (by kernel_rfl) ⟨trivial, trivial, trivial⟩ ⟨(by rw [← hv.ab.nw]; simp), trivial⟩ fun a82 h83 => ?_
  clear h80
  refine wpAnyK_done (by kernel_rfl) ?_ _
  refine hK66 _ _ ?_
  clear hK66
  refine c_false h83 rfl ?_
  refine wp_skip ?_
  refine hK65 _ _ ?_
  clear hK65
  refine wp_seq_k fun K84 hK84 => ?_
  refine nd_start (l := [0, 1, 2]) rfl ?_
  refine nd_batch tabOk2 tabZ_ok2 [(0, {})] [0, 1, 4, 5, 6, 64] (T' := [(0, .pointer (some ⟨kb, 0, none⟩)), (1, .pointer (some ⟨mb, 0, none⟩)), (4, .bool false), (5, .pointer (some ⟨bo, 0, none⟩)), (6, .pointer (some ⟨bc, 0, none⟩)), (64, .pointer (some ⟨kb, 0, none⟩))]) (φ := True) (rest := [1, 2]) h83 (by kernel_rfl) rfl trivial fun a85 h86 => ?_
  clear h83
  refine nd_op ?_
  have hlLh94 : ∀ kb ∈ ([(3, ⟨[.int .u16 0, .int .u32 0], ty3, true⟩)] : Mem), kb.1 < _ := fun kb hkb => lt_of_heap (h86.known kb hkb)
  have hlSh94 : w.heap.size ≤ _ := h86.frame.size
  refine op_call h86 rfl rfl rfl (callOk Tryd.func27 (by decide) rfl) (args := [.pointer (some ⟨kb, 0, none⟩), .int .u8 3]) rfl (by have h9 := live_ok kb bo bc S C.ent 3 _ (kpK hker h86.frame (hdis _ (List.mem_cons_self ..))) (cpK hcap h86.frame hdis).st hkbo; rw [live_kys hI, hX3] at h9; exact h9) ?_
  rintro _ w93 ⟨o87, c88, F89, rfl, hr90, hf91, hF92⟩
  refine ⟨_, rfl, ?_⟩
  obtain ⟨r3, r3cs, hro, hrb, hrF, r3all⟩ := row_all hr90 (by rw [kys_len]; exact h3l)
  subst hro hrF
  have h94q : St _ _ [(3, ⟨[.int .u16 0, .int .u32 0], ty3, true⟩), (r3, ⟨r3cs, 39, false⟩)] _ _ := h86.fresh hf91 (hF92 r3 (by simp)) hrb
  have h95 := (h94q).put (d := some 65) (v := .slice (some ⟨r3, 0, none⟩) ((kys Z X3).length) c88) (T' := [(65, .slice (some ⟨r3, 0, none⟩) ((kys Z X3).length) c88), (0, .pointer (some ⟨kb, 0, none⟩)), (1, .pointer (some ⟨mb, 0, none⟩)), (4, .bool false), (5, .pointer (some ⟨bo, 0, none⟩)), (6, .pointer (some ⟨bc, 0, none⟩)), (64, .pointer (some ⟨kb, 0, none⟩))]) rfl
  clear h86 h94q
  refine nd_batch tabOk2 tabZ_ok2 [(2, {})] [0, 1, 4, 5, 6, 7] (T' := [(0, .pointer (some ⟨kb, 0, none⟩)), (1, .pointer (some ⟨mb, 0, none⟩)), (4, .bool false), (5, .pointer (some ⟨bo, 0, none⟩)), (6, .pointer (some ⟨bc, 0, none⟩)), (7, .slice (some ⟨r3, 0, none⟩) ((kys Z X3).length) c88)]) (φ := True) (rest := []) h95 (by kernel_rfl) rfl trivial fun a96 h97 => ?_
  clear h95
  refine nd_done ?_
  refine hK84 _ _ ?_
  clear hK84
  refine wp_seq_k fun K98 hK98 => ?_
  refine wp_seq_k fun K99 hK99 => ?_
  refine nd_start (l := [0, 1, 2, 3, 4, 5, 6, 7]) rfl ?_
  refine nd_batch tabOk2 tabZ_ok2 [(0, {}), (1, {}), (2, {}), (3, {}), (4, {})] [0, 1, 4, 5, 6, 7, 67, 70] (T' := [(0, .pointer (some ⟨kb, 0, none⟩)), (1, .pointer (some ⟨mb, 0, none⟩)), (4, .bool false), (5, .pointer (some ⟨bo, 0, none⟩)), (6, .pointer (some ⟨bc, 0, none⟩)), (7, .slice (some ⟨r3, 0, none⟩) ((kys Z X3).length) c88), (67, .int .i64 (((kys Z X3).length : Nat) : Int)), (70, .pointer (some ⟨mb, 2, none⟩))]) (φ := True) (rest := [5, 6, 7]) h97 (by kernel_rfl) rfl trivial fun a100 h101 => ?_
  clear h97
  refine nd_op ?_
  refine op_read (b := mb) (v := .map (some Z.tb)) h101 rfl rfl (rd_m h101 (k := 2) (v := .map (some Z.tb)) rfl rfl rfl rfl (md_p ⟨rfl, trivial⟩)) ?_
  have h102 := h101.put (d := some 71) (v := .map (some Z.tb)) (T' := [(71, .map (some Z.tb)), (0, .pointer (some ⟨kb, 0, none⟩)), (1, .pointer (some ⟨mb, 0, none⟩)), (4, .bool false), (5, .pointer (some ⟨bo, 0, none⟩)), (6, .pointer (some ⟨bc, 0, none⟩)), (7, .slice (some ⟨r3, 0, none⟩) ((kys Z X3).length) c88), (67, .int .i64 (((kys Z X3).length : Nat) : Int)), (70, .pointer (some ⟨mb, 2, none⟩))]) rfl
  clear h101
  refine nd_op ?_
  refine op_read (b := Z.tb) (v := .int .i64 ((Z.tl.length : Nat) : Int)) h102 rfl rfl (by rw [show ((Z.tl.length : Nat) : Int) = (((Z.tl.map (tE Z)).length : Nat) : Int) by rw [List.length_map]]; exact rd_len Tryd.underlying99 h102 rfl rfl h102.inv.1.t) ?_
  have h103 := h102.put (d := some 72) (v := .int .i64 ((Z.tl.length : Nat) : Int)) (T' := [(72, .int .i64 ((Z.tl.length : Nat) : Int)), (71, .map (some Z.tb)), (0, .pointer (some ⟨kb, 0, none⟩)), (1, .pointer (some ⟨mb, 0, none⟩)), (4, .bool false), (5, .pointer (some ⟨bo, 0, none⟩)), (6, .pointer (some ⟨bc, 0, none⟩)), (7, .slice (some ⟨r3, 0, none⟩) ((kys Z X3).length) c88), (67, .int .i64 (((kys Z X3).length : Nat) : Int)), (70, .pointer (some ⟨mb, 2, none⟩))]) rfl
  clear h102
  refine nd_batch tabOk2 tabZ_ok2 [(7, {f := 1})] [0, 1, 4, 5, 6, 7, 73] (T' := [(0, .pointer (some ⟨kb, 0, none⟩)), (1, .pointer (some ⟨mb, 0, none⟩)), (4, .bool false), (5, .pointer (some ⟨bo, 0, none⟩)), (6, .pointer (some ⟨bc, 0, none⟩)), (7, .slice (some ⟨r3, 0, none⟩) ((kys Z X3).length) c88), (73, .bool false)]) (φ := (((((kys Z X3).length : Nat) : Int) != ((Z.tl.length : Nat) : Int))) = false ∧ True) (rest := []) h103 (by kernel_rfl) rfl ⟨(by rw [hl3]; simp), trivial⟩ fun a104 h105 => ?_
  clear h103
  refine nd_done ?_
  refine hK99 _ _ ?_
  clear hK99
  refine c_false h105 rfl ?_
  refine wp_skip ?_
  refine hK98 _ _ ?_
  clear hK98
  refine wp_seq_k fun K106 hK106 => ?_
  refine wp_seq_k fun K107 hK107 => ?_
  refine nd_start (l := [0, 1, 2]) rfl ?_
  refine nd_batch tabOk2 tabZ_ok2 [(0, {}), (1, {}), (2, {})] [0, 1, 4, 5, 6, 7, 74, 75, 76] (T' := [(0, .pointer (some ⟨kb, 0, none⟩)), (1, .pointer (some ⟨mb, 0, none⟩)), (4, .bool false), (5, .pointer (some ⟨bo, 0, none⟩)), (6, .pointer (some ⟨bc, 0, none⟩)), (7, .slice (some ⟨r3, 0, none⟩) ((kys Z X3).length) c88), (74, .slice (some ⟨r3, 0, none⟩) ((kys Z X3).length) c88), (75, .int .i64 (((kys Z X3).length : Nat) : Int)), (76, .int .i64 0)]) (φ := True) (rest := []) h105 (by kernel_rfl) rfl trivial fun a108 h109 => ?_
  clear h105
  refine nd_done ?_
  refine hK107 _ _ ?_
  clear hK107
  refine wp_block ?_
  refine wp_loop_ghost (fun g ga gw => ∃ (m : Nat), (g = (kys Z X3).length - m) ∧ (m ≤ (kys Z X3).length) ∧ St (MCx 192 (mdF mb Z R C) w mb Z R a C) [(0, .pointer (some ⟨kb, 0, none⟩)), (1, .pointer (some ⟨mb, 0, none⟩)), (74, .slice (some ⟨r3, 0, none⟩) ((kys Z X3).length) c88), (75, .int .i64 (((kys Z X3).length : Nat) : Int)), (76, .int .i64 ((m : Nat) : Int))] [(3, ⟨[.int .u16 0, .int .u32 0], ty3, true⟩), (r3, ⟨r3cs, 39, false⟩)] ga gw) (kys Z X3).length ⟨0, by omega, by omega, (h109.slotsMono (restr_spec (keep := [0, 1, 74, 75, 76]) rfl))⟩ ?_
  clear h109
  rintro g a110 w111 ⟨m, hi113, hi114, h112⟩
  have hig := hi113
  have hmN := hi114
  refine wp_seq_k fun K115 hK115 => ?_
  refine nd_start (l := [0]) rfl ?_
  refine nd_batch tabOk2 tabZ_ok2 [(0, {})] [0, 1, 74, 75, 76, 77] (T' := [(0, .pointer (some ⟨kb, 0, none⟩)), (1, .pointer (some ⟨mb, 0, none⟩)), (74, .slice (some ⟨r3, 0, none⟩) ((kys Z X3).length) c88), (75, .int .i64 (((kys Z X3).length : Nat) : Int)), (76, .int .i64 ((m : Nat) : Int)), (77, .bool (decide (((m : Nat) : Int) < (((kys Z X3).length : Nat) : Int))))]) (φ := True) (rest := []) h112 (by kernel_rfl) rfl trivial fun a116 h117 => ?_
  clear h112
  refine nd_done ?_
  refine hK115 _ _ ?_
  clear hK115
  refine wp_seq_k fun K118 hK118 => ?_
  refine c_split h117 (b := decide (((m : Nat) : Int) < (((kys Z X3).length : Nat) : Int))) rfl (fun hc119 => ?_) (fun hc119 => ?_)
  ·
    have hc119f : ((m : Nat) : Int) < (((kys Z X3).length : Nat) : Int) := by simpa using hc119
    have hmq : m < X3.length := by rw [kys_len] at hc119f; omega
    obtain ⟨i, hiq⟩ : ∃ i, X3[m]? = some i := ⟨X3[m]'(by omega), by simp⟩
    have hi : i ∈ sl Z.tl := by have h8 : i ∈ liveI C.ent 3 := (by rw [hX3]; exact List.mem_of_getElem? hiq); have h9 := liveI_mem.1 h8; exact (hI.td i h9.1).1 h9.2
    have hky : (kys Z X3)[m]? = some (Z.ky i) := by unfold kys; rw [List.getElem?_map, hiq]; rfl
    refine wp_skip ?_
    refine hK118 _ _ ?_
    clear hK118
    refine wp_seq_k fun K120 hK120 => ?_
    refine wp_block ?_
    refine wp_seq_k fun K121 hK121 => ?_
    refine nd_start (l := [0, 1, 2, 3]) rfl ?_
    refine nd_batch tabOk2 tabZ_ok2 [(0, {}), (1, {k := 1, m := 1, vs := [.int .u16 ((Z.ky i).idx), .int .u32 ((Z.ky i).gen)]})] [0, 1, 74, 75, 76, 79] (T' := [(0, .pointer (some ⟨kb, 0, none⟩)), (1, .pointer (some ⟨mb, 0, none⟩)), (74, .slice (some ⟨r3, 0, none⟩) ((kys Z X3).length) c88), (75, .int .i64 (((kys Z X3).length : Nat) : Int)), (76, .int .i64 ((m : Nat) : Int)), (79, .agg #[.int .u16 ((Z.ky i).idx), .int .u32 ((Z.ky i).gen)])]) (φ := (0 ≤ ((m : Nat) : Int) ∧ ((m : Nat) : Int) < (((kys Z X3).length : Nat) : Int)) ∧ (r3 = r3 ∧ cellsAre r3cs (0 + (m * 2)) [.int .u16 ((Z.ky i).idx), .int .u32 ((Z.ky i).gen)]) ∧ True) (rest := [2, 3]) h117 (by kernel_rfl) rfl ⟨⟨by omega, by omega⟩, ⟨rfl, (by rw [Nat.zero_add]; exact r3all m _ hky)⟩, trivial⟩ fun a122 h123 => ?_
    clear h117
    refine nd_op ?_
    refine op_new tabOk2 (cells := [.int .u16 0, .int .u32 0]) (ty := 39) (ln := none) (L1 := fun b124 => [(3, ⟨[.int .u16 0, .int .u32 0], ty3, true⟩), (r3, ⟨r3cs, 39, false⟩), (b124, ⟨[.int .u16 0, .int .u32 0], 39, false⟩)]) h123 rfl rfl rfl rfl (by kernel_rfl) (fun _ => rfl) fun b124 w125 a126 h127 hf128 hn129 => ?_
    clear h123
    refine nd_op ?_
    refine op_store tabOk2 {k := 2} (L' := [(3, ⟨[.int .u16 0, .int .u32 0], ty3, true⟩), (r3, ⟨r3cs, 39, false⟩), (b124, ⟨[.int .u16 ((Z.ky i).idx), .int .u32 ((Z.ky i).gen)], 39, false⟩)]) (φ := b124 = b124 ∧ Nat.ble (0 + 2) 2 = true) h127 rfl rfl rfl (by kernel_rfl) ⟨rfl, rfl⟩ fun w130 h131 => ?_
    clear h127
    refine nd_done ?_
    refine hK121 _ _ ?_
    clear hK121
    refine wp_seq_k fun K132 hK132 => ?_
    refine nd_start (l := [0, 1, 2, 3, 4, 5, 6, 7, 8]) rfl ?_
    refine nd_batch tabOk2 tabZ_ok2 [(0, {}), (1, {k := 2})] [9, 0, 1, 74, 75, 76, 81, 82] (T' := [(9, .pointer (some ⟨b124, 0, none⟩)), (0, .pointer (some ⟨kb, 0, none⟩)), (1, .pointer (some ⟨mb, 0, none⟩)), (74, .slice (some ⟨r3, 0, none⟩) ((kys Z X3).length) c88), (75, .int .i64 (((kys Z X3).length : Nat) : Int)), (76, .int .i64 ((m : Nat) : Int)), (81, .pointer (some ⟨kb, 0, none⟩)), (82, .agg #[.int .u16 ((Z.ky i).idx), .int .u32 ((Z.ky i).gen)])]) (φ := (b124 = b124 ∧ Nat.ble (0 + 2) 2 = true) ∧ True) (rest := [2, 3, 4, 5, 6, 7, 8]) h131 (by kernel_rfl) rfl ⟨⟨rfl, rfl⟩, trivial⟩ fun a133 h134 => ?_
    clear h131
    refine nd_op ?_
    refine op_call h134 rfl rfl rfl (callOk Tryd.func25 (by decide) rfl) (args := [.pointer (some ⟨kb, 0, none⟩), .agg #[.int .u16 ((Z.ky i).idx), .int .u32 ((Z.ky i).gen)]]) rfl (by have h9 := thread_ok kb bo bc S hrS C.ent h256 (Z.ky i) (by have := hkk.kx i (hkk.tx i hi); have := hkk.tx i hi; omega) _ (kpK hker h134.frame (hdis _ (List.mem_cons_self ..))) (cpK hcap h134.frame hdis).st hkbo; rw [(thread_same hI hkk hv hi).2, (thread_same hI hkk hv hi).1] at h9; exact h9) ?_
    rintro _ w135 ⟨rfl, hf137⟩
    refine ⟨_, rfl, ?_⟩
    have h136 := (h134.grow hf137).put (d := some 83) (v := .tuple #[.agg #[.int .u8 ((a.th i).st), .int .u8 ((a.th i).prio), .int .u16 ((a.th i).wait.idx), .int .u32 ((a.th i).wait.gen), .int .u16 ((a.th i).cs.idx), .int .u32 ((a.th i).cs.gen), .int .u16 ((a.th i).rep.idx), .int .u32 ((a.th i).rep.gen), .int .u64 ((a.th i).badge), .int .u64 ((a.th i).m0), .int .u64 ((a.th i).m1), .int .u64 ((a.th i).m2), .int .u64 ((a.th i).m3), .int .u8 ((a.th i).len), .int .u8 ((a.th i).got), .int .u32 ((a.th i).xfer), .int .u32 ((a.th i).dst), .bool ((a.th i).grant), .bool ((a.th i).call)], .bool true]) (T' := [(83, .tuple #[.agg #[.int .u8 ((a.th i).st), .int .u8 ((a.th i).prio), .int .u16 ((a.th i).wait.idx), .int .u32 ((a.th i).wait.gen), .int .u16 ((a.th i).cs.idx), .int .u32 ((a.th i).cs.gen), .int .u16 ((a.th i).rep.idx), .int .u32 ((a.th i).rep.gen), .int .u64 ((a.th i).badge), .int .u64 ((a.th i).m0), .int .u64 ((a.th i).m1), .int .u64 ((a.th i).m2), .int .u64 ((a.th i).m3), .int .u8 ((a.th i).len), .int .u8 ((a.th i).got), .int .u32 ((a.th i).xfer), .int .u32 ((a.th i).dst), .bool ((a.th i).grant), .bool ((a.th i).call)], .bool true]), (9, .pointer (some ⟨b124, 0, none⟩)), (0, .pointer (some ⟨kb, 0, none⟩)), (1, .pointer (some ⟨mb, 0, none⟩)), (74, .slice (some ⟨r3, 0, none⟩) ((kys Z X3).length) c88), (75, .int .i64 (((kys Z X3).length : Nat) : Int)), (76, .int .i64 ((m : Nat) : Int)), (81, .pointer (some ⟨kb, 0, none⟩)), (82, .agg #[.int .u16 ((Z.ky i).idx), .int .u32 ((Z.ky i).gen)])]) rfl
    clear h134
    refine nd_batch tabOk2 tabZ_ok2 [(3, {}), (4, {}), (5, {})] [9, 0, 1, 74, 75, 76, 84, 85] (T' := [(9, .pointer (some ⟨b124, 0, none⟩)), (0, .pointer (some ⟨kb, 0, none⟩)), (1, .pointer (some ⟨mb, 0, none⟩)), (74, .slice (some ⟨r3, 0, none⟩) ((kys Z X3).length) c88), (75, .int .i64 (((kys Z X3).length : Nat) : Int)), (76, .int .i64 ((m : Nat) : Int)), (84, .agg #[.int .u8 ((a.th i).st), .int .u8 ((a.th i).prio), .int .u16 ((a.th i).wait.idx), .int .u32 ((a.th i).wait.gen), .int .u16 ((a.th i).cs.idx), .int .u32 ((a.th i).cs.gen), .int .u16 ((a.th i).rep.idx), .int .u32 ((a.th i).rep.gen), .int .u64 ((a.th i).badge), .int .u64 ((a.th i).m0), .int .u64 ((a.th i).m1), .int .u64 ((a.th i).m2), .int .u64 ((a.th i).m3), .int .u8 ((a.th i).len), .int .u8 ((a.th i).got), .int .u32 ((a.th i).xfer), .int .u32 ((a.th i).dst), .bool ((a.th i).grant), .bool ((a.th i).call)]), (85, .bool true)]) (φ := True) (rest := [6, 7, 8]) h136 (by kernel_rfl) rfl trivial fun a138 h139 => ?_
    clear h136
    refine nd_op ?_
    refine op_new tabOk2 (cells := [.int .u8 0, .int .u8 0, .int .u16 0, .int .u32 0, .int .u16 0, .int .u32 0, .int .u16 0, .int .u32 0, .int .u64 0, .int .u64 0, .int .u64 0, .int .u64 0, .int .u64 0, .int .u8 0, .int .u8 0, .int .u32 0, .int .u32 0, .bool false, .bool false]) (ty := 59) (ln := none) (L1 := fun b140 => [(3, ⟨[.int .u16 0, .int .u32 0], ty3, true⟩), (r3, ⟨r3cs, 39, false⟩), (b124, ⟨[.int .u16 ((Z.ky i).idx), .int .u32 ((Z.ky i).gen)], 39, false⟩), (b140, ⟨[.int .u8 0, .int .u8 0, .int .u16 0, .int .u32 0, .int .u16 0, .int .u32 0, .int .u16 0, .int .u32 0, .int .u64 0, .int .u64 0, .int .u64 0, .int .u64 0, .int .u64 0, .int .u8 0, .int .u8 0, .int .u32 0, .int .u32 0, .bool false, .bool false], 59, false⟩)]) h139 rfl rfl rfl rfl (by kernel_rfl) (fun _ => rfl) fun b140 w141 a142 h143 hf144 hn145 => ?_
    clear h139
    refine nd_op ?_
    refine op_store tabOk2 {k := 3} (L' := [(3, ⟨[.int .u16 0, .int .u32 0], ty3, true⟩), (r3, ⟨r3cs, 39, false⟩), (b124, ⟨[.int .u16 ((Z.ky i).idx), .int .u32 ((Z.ky i).gen)], 39, false⟩), (b140, ⟨[.int .u8 ((a.th i).st), .int .u8 ((a.th i).prio), .int .u16 ((a.th i).wait.idx), .int .u32 ((a.th i).wait.gen), .int .u16 ((a.th i).cs.idx), .int .u32 ((a.th i).cs.gen), .int .u16 ((a.th i).rep.idx), .int .u32 ((a.th i).rep.gen), .int .u64 ((a.th i).badge), .int .u64 ((a.th i).m0), .int .u64 ((a.th i).m1), .int .u64 ((a.th i).m2), .int .u64 ((a.th i).m3), .int .u8 ((a.th i).len), .int .u8 ((a.th i).got), .int .u32 ((a.th i).xfer), .int .u32 ((a.th i).dst), .bool ((a.th i).grant), .bool ((a.th i).call)], 59, false⟩)]) (φ := b140 = b140 ∧ Nat.ble (0 + 19) 19 = true) h143 rfl rfl rfl (by kernel_rfl) ⟨rfl, rfl⟩ fun w146 h147 => ?_
    clear h143
    refine nd_batch tabOk2 tabZ_ok2 [(8, {})] [10, 9, 0, 1, 74, 75, 76] (T' := [(10, .pointer (some ⟨b140, 0, none⟩)), (9, .pointer (some ⟨b124, 0, none⟩)), (0, .pointer (some ⟨kb, 0, none⟩)), (1, .pointer (some ⟨mb, 0, none⟩)), (74, .slice (some ⟨r3, 0, none⟩) ((kys Z X3).length) c88), (75, .int .i64 (((kys Z X3).length : Nat) : Int)), (76, .int .i64 ((m : Nat) : Int))]) (φ := True) (rest := []) h147 (by kernel_rfl) rfl trivial fun a148 h149 => ?_
    clear h147
    refine nd_done ?_
    refine hK132 _ _ ?_
    clear hK132
    refine wp_seq_k fun K150 hK150 => ?_
    refine dr_start (KB := [3, r3, b124, b140, mb, Z.tb]) (Bi := [[0, 1, 2, 3, 4, 5], [0, 1, 2, 3, 4, 5], [0, 1, 2, 3, 4, 5], [0, 1, 2, 3, 4, 5], [0, 1, 2, 3, 4, 5], [0, 1, 2, 3, 4, 5], [0, 1, 2, 3, 4, 5], [0, 1, 2, 3, 4, 5], [0, 1, 2, 3, 4, 5], [0, 1, 2, 3, 4, 5], [0, 1, 2, 3, 4, 5]]) mixed h149 fun w151 h152 => ?_
    clear h149
    refine dr_batch tabOk2 tabZ_ok2 (by repeat (first | with_reducible exact PF.body | with_reducible apply PF.inB | with_reducible apply PF.next)) [(0, {}), (1, {}), (2, {})] [10, 9, 0, 1, 74, 75, 76, 89] (T' := [(10, .pointer (some ⟨b140, 0, none⟩)), (9, .pointer (some ⟨b124, 0, none⟩)), (0, .pointer (some ⟨kb, 0, none⟩)), (1, .pointer (some ⟨mb, 0, none⟩)), (74, .slice (some ⟨r3, 0, none⟩) ((kys Z X3).length) c88), (75, .int .i64 (((kys Z X3).length : Nat) : Int)), (76, .int .i64 ((m : Nat) : Int)), (89, .pointer (some ⟨mb, 2, none⟩))]) (φ := True) (fuel := 8) h152 (by kernel_rfl) rfl (by kernel_rfl) (by kernel_rfl) ⟨trivial, trivial, trivial, trivial⟩ trivial fun a154 h155 => ?_
    clear h152
    refine dr_read (i := 3) (b := mb) (p := 4) (v := .map (some Z.tb)) (fuel := 7) (by repeat (first | with_reducible exact PF.body | with_reducible apply PF.inB | with_reducible apply PF.next)) h155 rfl rfl rfl (by kernel_rfl) (by kernel_rfl) (by kernel_rfl) rfl (rd_m h155 (k := 2) (v := .map (some Z.tb)) rfl rfl rfl rfl (md_p ⟨rfl, trivial⟩)) ?_
    have h156 := h155.put (d := some 90) (v := .map (some Z.tb)) (T' := [(90, .map (some Z.tb)), (10, .pointer (some ⟨b140, 0, none⟩)), (9, .pointer (some ⟨b124, 0, none⟩)), (0, .pointer (some ⟨kb, 0, none⟩)), (1, .pointer (some ⟨mb, 0, none⟩)), (74, .slice (some ⟨r3, 0, none⟩) ((kys Z X3).length) c88), (75, .int .i64 (((kys Z X3).length : Nat) : Int)), (76, .int .i64 ((m : Nat) : Int)), (89, .pointer (some ⟨mb, 2, none⟩))]) rfl
    clear h155
    refine dr_batch tabOk2 tabZ_ok2 (by repeat (first | with_reducible exact PF.body | with_reducible apply PF.inB | with_reducible apply PF.next)) [(4, {k := 2, p := 2})] [90, 10, 9, 0, 1, 74, 75, 76, 91] (T' := [(90, .map (some Z.tb)), (10, .pointer (some ⟨b140, 0, none⟩)), (9, .pointer (some ⟨b124, 0, none⟩)), (0, .pointer (some ⟨kb, 0, none⟩)), (1, .pointer (some ⟨mb, 0, none⟩)), (74, .slice (some ⟨r3, 0, none⟩) ((kys Z X3).length) c88), (75, .int .i64 (((kys Z X3).length : Nat) : Int)), (76, .int .i64 ((m : Nat) : Int)), (91, .agg #[.int .u16 ((Z.ky i).idx), .int .u32 ((Z.ky i).gen)])]) (φ := (b124 = b124 ∧ Nat.ble (0 + 2) 2 = true) ∧ True) (fuel := 6) h156 (by kernel_rfl) rfl (by kernel_rfl) (by kernel_rfl) ⟨rfl, trivial⟩ ⟨⟨rfl, rfl⟩, trivial⟩ fun a157 h158 => ?_
    clear h156
    refine dr_read (i := 5) (b := Z.tb) (p := 5) (v := .tuple #[.pointer (some ⟨(Z.tp i), 0, none⟩), .bool true]) (fuel := 5) (by repeat (first | with_reducible exact PF.body | with_reducible apply PF.inB | with_reducible apply PF.next)) h158 rfl rfl rfl (by kernel_rfl) (by kernel_rfl) (by kernel_rfl) rfl (rd_TB h158 (x := i) hi rfl rfl rfl) ?_
    have h159 := h158.put (d := some 92) (v := .tuple #[.pointer (some ⟨(Z.tp i), 0, none⟩), .bool true]) (T' := [(92, .tuple #[.pointer (some ⟨(Z.tp i), 0, none⟩), .bool true]), (90, .map (some Z.tb)), (10, .pointer (some ⟨b140, 0, none⟩)), (9, .pointer (some ⟨b124, 0, none⟩)), (0, .pointer (some ⟨kb, 0, none⟩)), (1, .pointer (some ⟨mb, 0, none⟩)), (74, .slice (some ⟨r3, 0, none⟩) ((kys Z X3).length) c88), (75, .int .i64 (((kys Z X3).length : Nat) : Int)), (76, .int .i64 ((m : Nat) : Int)), (91, .agg #[.int .u16 ((Z.ky i).idx), .int .u32 ((Z.ky i).gen)])]) rfl
    clear h158
    refine dr_batch tabOk2 tabZ_ok2 (by repeat (first | with_reducible exact PF.body | with_reducible apply PF.inB | with_reducible apply PF.next)) [(6, {}), (7, {}), (8, {}), (9, {}), (10, {})] [10, 9, 0, 1, 74, 75, 76, 12, 13] (T' := [(10, .pointer (some ⟨b140, 0, none⟩)), (9, .pointer (some ⟨b124, 0, none⟩)), (0, .pointer (some ⟨kb, 0, none⟩)), (1, .pointer (some ⟨mb, 0, none⟩)), (74, .slice (some ⟨r3, 0, none⟩) ((kys Z X3).length) c88), (75, .int .i64 (((kys Z X3).length : Nat) : Int)), (76, .int .i64 ((m : Nat) : Int)), (12, .pointer (some ⟨(Z.tp i), 0, none⟩)), (13, .bool true)]) (φ := True) (fuel := 0) h159 (by kernel_rfl) rfl (by kernel_rfl) (by kernel_rfl) ⟨trivial, trivial, trivial, trivial, trivial, trivial⟩ trivial fun a160 h161 => ?_
    clear h159
    refine wpAnyK_done (by kernel_rfl) ?_ _
    refine hK150 _ _ ?_
    clear hK150
    refine wp_seq_k fun K162 hK162 => ?_
    refine dr_start (KB := [3, r3, b124, b140, (Z.tp i)]) (Bi := [[0, 1, 2, 3, 4], [0, 1, 2, 3, 4], [0, 1, 2, 3, 4], [0, 1, 2, 3, 4], [0, 1, 2, 3, 4], [0, 1, 2, 3, 4], [0, 1, 2, 3, 4], [0, 1, 2, 3, 4], [0, 1, 2, 3, 4]]) mixed h161 fun w163 h164 => ?_
    clear h161
    refine dr_batch tabOk2 tabZ_ok2 (by repeat (first | with_reducible exact PF.body | with_reducible apply PF.inB | with_reducible apply PF.next)) [(0, {}), (1, {}), (2, {}), (3, {k := 3, p := 3}), (4, {}), (5, {})] [10, 9, 0, 1, 74, 75, 76, 12, 13, 97, 98, 100] (T' := [(10, .pointer (some ⟨b140, 0, none⟩)), (9, .pointer (some ⟨b124, 0, none⟩)), (0, .pointer (some ⟨kb, 0, none⟩)), (1, .pointer (some ⟨mb, 0, none⟩)), (74, .slice (some ⟨r3, 0, none⟩) ((kys Z X3).length) c88), (75, .int .i64 (((kys Z X3).length : Nat) : Int)), (76, .int .i64 ((m : Nat) : Int)), (12, .pointer (some ⟨(Z.tp i), 0, none⟩)), (13, .bool true), (97, .bool false), (98, .agg #[.int .u8 ((a.th i).st), .int .u8 ((a.th i).prio), .int .u16 ((a.th i).wait.idx), .int .u32 ((a.th i).wait.gen), .int .u16 ((a.th i).cs.idx), .int .u32 ((a.th i).cs.gen), .int .u16 ((a.th i).rep.idx), .int .u32 ((a.th i).rep.gen), .int .u64 ((a.th i).badge), .int .u64 ((a.th i).m0), .int .u64 ((a.th i).m1), .int .u64 ((a.th i).m2), .int .u64 ((a.th i).m3), .int .u8 ((a.th i).len), .int .u8 ((a.th i).got), .int .u32 ((a.th i).xfer), .int .u32 ((a.th i).dst), .bool ((a.th i).grant), .bool ((a.th i).call)]), (100, .pointer (some ⟨(Z.tp i), 0, none⟩))]) (φ := (b140 = b140 ∧ Nat.ble (0 + 19) 19 = true) ∧ True) (fuel := 3) h164 (by kernel_rfl) rfl (by kernel_rfl) (by kernel_rfl) ⟨trivial, trivial, trivial, rfl, trivial, trivial, trivial⟩ ⟨⟨rfl, rfl⟩, trivial⟩ fun a166 h167 => ?_
    clear h164
    refine dr_read (i := 6) (b := (Z.tp i)) (p := 4) (v := .agg #[.int .u8 ((a.th i).st), .int .u8 ((a.th i).prio), .int .u16 ((a.th i).wait.idx), .int .u32 ((a.th i).wait.gen), .int .u16 ((a.th i).cs.idx), .int .u32 ((a.th i).cs.gen), .int .u16 ((a.th i).rep.idx), .int .u32 ((a.th i).rep.gen), .int .u64 ((a.th i).badge), .int .u64 ((a.th i).m0), .int .u64 ((a.th i).m1), .int .u64 ((a.th i).m2), .int .u64 ((a.th i).m3), .int .u8 ((a.th i).len), .int .u8 ((a.th i).got), .int .u32 ((a.th i).xfer), .int .u32 ((a.th i).dst), .bool ((a.th i).grant), .bool ((a.th i).call)]) (fuel := 2) (by repeat (first | with_reducible exact PF.body | with_reducible apply PF.inB | with_reducible apply PF.next)) h167 rfl rfl rfl (by kernel_rfl) (by kernel_rfl) (by kernel_rfl) rfl (rd_thA h167 (x := i) (k := 0) (vs := [.int .u8 ((a.th i).st), .int .u8 ((a.th i).prio), .int .u16 ((a.th i).wait.idx), .int .u32 ((a.th i).wait.gen), .int .u16 ((a.th i).cs.idx), .int .u32 ((a.th i).cs.gen), .int .u16 ((a.th i).rep.idx), .int .u32 ((a.th i).rep.gen), .int .u64 ((a.th i).badge), .int .u64 ((a.th i).m0), .int .u64 ((a.th i).m1), .int .u64 ((a.th i).m2), .int .u64 ((a.th i).m3), .int .u8 ((a.th i).len), .int .u8 ((a.th i).got), .int .u32 ((a.th i).xfer), .int .u32 ((a.th i).dst), .bool ((a.th i).grant), .bool ((a.th i).call)]) hi rfl rfl rfl rfl rfl ⟨rfl, rfl, rfl, rfl, rfl, rfl, rfl, rfl, rfl, rfl, rfl, rfl, rfl, rfl, rfl, rfl, rfl, rfl, rfl, trivial⟩) ?_
    have h168 := h167.put (d := some 101) (v := .agg #[.int .u8 ((a.th i).st), .int .u8 ((a.th i).prio), .int .u16 ((a.th i).wait.idx), .int .u32 ((a.th i).wait.gen), .int .u16 ((a.th i).cs.idx), .int .u32 ((a.th i).cs.gen), .int .u16 ((a.th i).rep.idx), .int .u32 ((a.th i).rep.gen), .int .u64 ((a.th i).badge), .int .u64 ((a.th i).m0), .int .u64 ((a.th i).m1), .int .u64 ((a.th i).m2), .int .u64 ((a.th i).m3), .int .u8 ((a.th i).len), .int .u8 ((a.th i).got), .int .u32 ((a.th i).xfer), .int .u32 ((a.th i).dst), .bool ((a.th i).grant), .bool ((a.th i).call)]) (T' := [(101, .agg #[.int .u8 ((a.th i).st), .int .u8 ((a.th i).prio), .int .u16 ((a.th i).wait.idx), .int .u32 ((a.th i).wait.gen), .int .u16 ((a.th i).cs.idx), .int .u32 ((a.th i).cs.gen), .int .u16 ((a.th i).rep.idx), .int .u32 ((a.th i).rep.gen), .int .u64 ((a.th i).badge), .int .u64 ((a.th i).m0), .int .u64 ((a.th i).m1), .int .u64 ((a.th i).m2), .int .u64 ((a.th i).m3), .int .u8 ((a.th i).len), .int .u8 ((a.th i).got), .int .u32 ((a.th i).xfer), .int .u32 ((a.th i).dst), .bool ((a.th i).grant), .bool ((a.th i).call)]), (10, .pointer (some ⟨b140, 0, none⟩)), (9, .pointer (some ⟨b124, 0, none⟩)), (0, .pointer (some ⟨kb, 0, none⟩)), (1, .pointer (some ⟨mb, 0, none⟩)), (74, .slice (some ⟨r3, 0, none⟩) ((kys Z X3).length) c88), (75, .int .i64 (((kys Z X3).length : Nat) : Int)), (76, .int .i64 ((m : Nat) : Int)), (12, .pointer (some ⟨(Z.tp i), 0, none⟩)), (13, .bool true), (97, .bool false), (98, .agg #[.int .u8 ((a.th i).st), .int .u8 ((a.th i).prio), .int .u16 ((a.th i).wait.idx), .int .u32 ((a.th i).wait.gen), .int .u16 ((a.th i).cs.idx), .int .u32 ((a.th i).cs.gen), .int .u16 ((a.th i).rep.idx), .int .u32 ((a.th i).rep.gen), .int .u64 ((a.th i).badge), .int .u64 ((a.th i).m0), .int .u64 ((a.th i).m1), .int .u64 ((a.th i).m2), .int .u64 ((a.th i).m3), .int .u8 ((a.th i).len), .int .u8 ((a.th i).got), .int .u32 ((a.th i).xfer), .int .u32 ((a.th i).dst), .bool ((a.th i).grant), .bool ((a.th i).call)]), (100, .pointer (some ⟨(Z.tp i), 0, none⟩))]) rfl
    clear h167
    refine dr_batch tabOk2 tabZ_ok2 (by repeat (first | with_reducible exact PF.body | with_reducible apply PF.inB | with_reducible apply PF.next)) [(7, {f := 1}), (8, {})] [10, 9, 0, 1, 74, 75, 76, 12, 13, 103] (T' := [(10, .pointer (some ⟨b140, 0, none⟩)), (9, .pointer (some ⟨b124, 0, none⟩)), (0, .pointer (some ⟨kb, 0, none⟩)), (1, .pointer (some ⟨mb, 0, none⟩)), (74, .slice (some ⟨r3, 0, none⟩) ((kys Z X3).length) c88), (75, .int .i64 (((kys Z X3).length : Nat) : Int)), (76, .int .i64 ((m : Nat) : Int)), (12, .pointer (some ⟨(Z.tp i), 0, none⟩)), (13, .bool true), (103, .bool false)]) (φ := EqRun Tryd.prog 59 (.agg #[.int .u8 ((a.th i).st), .int .u8 ((a.th i).prio), .int .u16 ((a.th i).wait.idx), .int .u32 ((a.th i).wait.gen), .int .u16 ((a.th i).cs.idx), .int .u32 ((a.th i).cs.gen), .int .u16 ((a.th i).rep.idx), .int .u32 ((a.th i).rep.gen), .int .u64 ((a.th i).badge), .int .u64 ((a.th i).m0), .int .u64 ((a.th i).m1), .int .u64 ((a.th i).m2), .int .u64 ((a.th i).m3), .int .u8 ((a.th i).len), .int .u8 ((a.th i).got), .int .u32 ((a.th i).xfer), .int .u32 ((a.th i).dst), .bool ((a.th i).grant), .bool ((a.th i).call)]) (.agg #[.int .u8 ((a.th i).st), .int .u8 ((a.th i).prio), .int .u16 ((a.th i).wait.idx), .int .u32 ((a.th i).wait.gen), .int .u16 ((a.th i).cs.idx), .int .u32 ((a.th i).cs.gen), .int .u16 ((a.th i).rep.idx), .int .u32 ((a.th i).rep.gen), .int .u64 ((a.th i).badge), .int .u64 ((a.th i).m0), .int .u64 ((a.th i).m1), .int .u64 ((a.th i).m2), .int .u64 ((a.th i).m3), .int .u8 ((a.th i).len), .int .u8 ((a.th i).got), .int .u32 ((a.th i).xfer), .int .u32 ((a.th i).dst), .bool ((a.th i).grant), .bool ((a.th i).call)]) true ∧ True) (fuel := 0) h168 (by kernel_rfl) rfl (by kernel_rfl) (by kernel_rfl) ⟨trivial, trivial, trivial⟩ ⟨(runThS (a.th i)), trivial⟩ fun a169 h170 => ?_
    clear h168
    refine wpAnyK_done (by kernel_rfl) ?_ _
    refine hK162 _ _ ?_
    clear hK162
    refine c_false h170 rfl ?_
    refine wp_skip ?_
    refine hK120 _ _ ?_
    clear hK120
    refine nd_start (l := [0, 1]) rfl ?_
    refine nd_batch tabOk2 tabZ_ok2 [(0, {}), (1, {})] [10, 9, 0, 1, 74, 75, 12, 13, 76] (T' := [(10, .pointer (some ⟨b140, 0, none⟩)), (9, .pointer (some ⟨b124, 0, none⟩)), (0, .pointer (some ⟨kb, 0, none⟩)), (1, .pointer (some ⟨mb, 0, none⟩)), (74, .slice (some ⟨r3, 0, none⟩) ((kys Z X3).length) c88), (75, .int .i64 (((kys Z X3).length : Nat) : Int)), (12, .pointer (some ⟨(Z.tp i), 0, none⟩)), (13, .bool true), (76, .int .i64 (((m : Nat) : Int) + 1))]) (φ := inR .i64 (((m : Nat) : Int) + 1) ∧ True) (rest := []) h170 (by kernel_rfl) rfl ⟨⟨by omega, by omega⟩, trivial⟩ fun a171 h172 => ?_
    clear h170
    refine nd_done ?_
    have h173 := h172.memMono (L' := [(3, ⟨[.int .u16 0, .int .u32 0], ty3, true⟩), (r3, ⟨r3cs, 39, false⟩)]) (List.Sublist.cons_cons _ (List.Sublist.cons_cons _ (List.Sublist.cons _ (List.Sublist.cons _ List.Sublist.slnil))))
    clear h172
    exact ⟨(g - 1), by omega, (m + 1), by omega, by omega, (h173.slotsMono (restr_spec (keep := [0, 1, 74, 75, 76]) rfl))⟩
  ·
    have hc119f : ¬ ((m : Nat) : Int) < (((kys Z X3).length : Nat) : Int) := by simpa using hc119
    refine wp_exit ?_
    refine hK106 _ _ ?_
    clear hK106
    refine wp_seq_k fun K174 hK174 => ?_
    refine wp_seq_k fun K175 hK175 => ?_
    refine nd_start (l := [0]) rfl ?_
    refine nd_batch tabOk2 tabZ_ok2 [(0, {})] [0, 1, 74, 75, 76, 14] (T' := [(0, .pointer (some ⟨kb, 0, none⟩)), (1, .pointer (some ⟨mb, 0, none⟩)), (74, .slice (some ⟨r3, 0, none⟩) ((kys Z X3).length) c88), (75, .int .i64 (((kys Z X3).length : Nat) : Int)), (76, .int .i64 ((m : Nat) : Int)), (14, .int .i64 0)]) (φ := True) (rest := []) h117 (by kernel_rfl) rfl trivial fun a176 h177 => ?_
    clear h117
    refine nd_done ?_
    refine hK175 _ _ ?_
    clear hK175
    refine wp_block ?_
    have h178 := h177.memMono (L' := [(3, ⟨[.int .u16 0, .int .u32 0], ty3, true⟩)]) (List.Sublist.cons_cons _ (List.Sublist.cons _ List.Sublist.slnil))
    clear h177
    refine wp_loop_ghost (fun g ga gw => ∃ (m : Nat), (g = 8 - m) ∧ (m ≤ 8) ∧ St (MCx 192 (mdF mb Z R C) w mb Z R a C) [(0, .pointer (some ⟨kb, 0, none⟩)), (1, .pointer (some ⟨mb, 0, none⟩)), (14, .int .i64 ((m : Nat) : Int))] [(3, ⟨[.int .u16 0, .int .u32 0], ty3, true⟩)] ga gw) 8 ⟨0, by omega, by omega, (h178.slotsMono (restr_spec (keep := [0, 1, 14]) rfl))⟩ ?_
    clear h178
    rintro g a179 w180 ⟨m, hi182, hi183, h181⟩
    have hig := hi182
    have hmN := hi183
    refine wp_seq_k fun K184 hK184 => ?_
    refine wp_seq_k fun K185 hK185 => ?_
    refine nd_start (l := [0, 1]) rfl ?_
    refine nd_batch tabOk2 tabZ_ok2 [(0, {}), (1, {})] [0, 1, 14, 106] (T' := [(0, .pointer (some ⟨kb, 0, none⟩)), (1, .pointer (some ⟨mb, 0, none⟩)), (14, .int .i64 ((m : Nat) : Int)), (106, .bool (decide (((m : Nat) : Int) < 8)))]) (φ := True) (rest := []) h181 (by kernel_rfl) rfl trivial fun a186 h187 => ?_
    clear h181
    refine nd_done ?_
    refine hK185 _ _ ?_
    clear hK185
    refine c_split h187 (b := decide (((m : Nat) : Int) < 8)) rfl (fun hc188 => ?_) (fun hc188 => ?_)
    ·
      have hc188f : ((m : Nat) : Int) < 8 := by simpa using hc188
      refine wp_skip ?_
      refine hK184 _ _ ?_
      clear hK184
      refine wp_seq_k fun K189 hK189 => ?_
      refine wp_block ?_
      refine wp_seq_k fun K190 hK190 => ?_
      refine dr_start (KB := [3, mb]) (Bi := [[0, 1], [0, 1], [1], [0, 1], [0, 1], [0, 1], [0, 1], [0, 1], [0, 1], [], [0, 1]]) mixed h187 fun w191 h192 => ?_
      clear h187
      refine dr_batch tabOk2 tabZ_ok2 (by repeat (first | with_reducible exact PF.body | with_reducible apply PF.inB | with_reducible apply PF.next)) [(0, {}), (1, {}), (3, {}), (4, {}), (5, {}), (6, {}), (7, {})] [0, 1, 14, 109, 110, 116] (T' := [(0, .pointer (some ⟨kb, 0, none⟩)), (1, .pointer (some ⟨mb, 0, none⟩)), (14, .int .i64 ((m : Nat) : Int)), (109, .pointer (some ⟨kb, 0, none⟩)), (110, .int .i64 ((m : Nat) : Int)), (116, .pointer (some ⟨mb, 5 + (m * 1), none⟩))]) (φ := (0 ≤ ((m : Nat) : Int) ∧ ((m : Nat) : Int) < 8) ∧ True) (fuel := 4) h192 (by kernel_rfl) rfl (by kernel_rfl) (by kernel_rfl) ⟨trivial, trivial, trivial, trivial, trivial, trivial, trivial, trivial⟩ ⟨⟨by omega, by omega⟩, trivial⟩ fun a194 h195 => ?_
      clear h192
      refine dr_read (i := 8) (b := mb) (p := 1) (v := .slice (R.ro m) ((kys Z (a.q (.r m))).length) (R.rk m)) (fuel := 3) (by repeat (first | with_reducible exact PF.body | with_reducible apply PF.inB | with_reducible apply PF.next)) h195 rfl rfl rfl (by kernel_rfl) (by kernel_rfl) (by kernel_rfl) rfl (rd_m h195 (k := 5 + (m * 1)) (v := .slice (R.ro m) ((kys Z (a.q (.r m))).length) (R.rk m)) rfl rfl rfl rfl (md_r (p := m) (by omega) (by omega))) ?_
      have h196 := h195.put (d := some 117) (v := .slice (R.ro m) ((kys Z (a.q (.r m))).length) (R.rk m)) (T' := [(117, .slice (R.ro m) ((kys Z (a.q (.r m))).length) (R.rk m)), (0, .pointer (some ⟨kb, 0, none⟩)), (1, .pointer (some ⟨mb, 0, none⟩)), (14, .int .i64 ((m : Nat) : Int)), (109, .pointer (some ⟨kb, 0, none⟩)), (110, .int .i64 ((m : Nat) : Int)), (116, .pointer (some ⟨mb, 5 + (m * 1), none⟩))]) rfl
      clear h195
      refine wpAnyK_one (i := 2) (fuel := 2) (by kernel_rfl) ?_
      have hszhr200 : w.heap.size ≤ _ := h196.frame.size
      refine op_call h196 rfl rfl rfl (callOk Tryd.func30 (by decide) rfl) (args := [.pointer (some ⟨kb, 0, none⟩), .int .i64 ((m : Nat) : Int)]) rfl (by have h9 := ready_ok kb bo bc S hrS C.ent a.q hQ (m : Int) ⟨by omega, by omega⟩ _ (kpK hker h196.frame (hdis _ (List.mem_cons_self ..))) (cpK hcap h196.frame hdis).st hkbo; rw [Int.toNat_natCast, ready_same hI hkk (by omega)] at h9; exact h9) ?_
      rintro _ w203 ⟨o197, c198, F199, rfl, hr200, hf201, hF202⟩
      refine ⟨_, rfl, ?_⟩
      refine ⟨(keepCons (kpM h196.inv.1 (l := .m) trivial (List.mem_cons_self ..) hf201) keepNil), ?_⟩
      have h204 := (h196.grow hf201).put (d := some 111) (v := .slice o197 ((kys Z (a.q (.r m))).length) c198) (T' := [(111, .slice o197 ((kys Z (a.q (.r m))).length) c198), (117, .slice (R.ro m) ((kys Z (a.q (.r m))).length) (R.rk m)), (0, .pointer (some ⟨kb, 0, none⟩)), (1, .pointer (some ⟨mb, 0, none⟩)), (14, .int .i64 ((m : Nat) : Int)), (109, .pointer (some ⟨kb, 0, none⟩)), (110, .int .i64 ((m : Nat) : Int)), (116, .pointer (some ⟨mb, 5 + (m * 1), none⟩))]) rfl
      clear h196
      refine wpAnyK_one (i := 9) (fuel := 1) (by kernel_rfl) ?_
      refine op_call h204 rfl rfl rfl (callOk Tryd.func23 (by decide) rfl) (args := [.slice o197 ((kys Z (a.q (.r m))).length) c198, .slice (R.ro m) ((kys Z (a.q (.r m))).length) (R.rk m)]) rfl (eqRows (by rw [kys_len]; have := hI.mp.len hkk (L := .r m) (show m < 8 by omega); omega) hr200 (h204.inv.1.rr m (by omega) (by rw [hho]; simp)) (fun b hb hq => by have h1 := hF202 b hb; have h2 := hH.md.low b (mem_mdF.2 ⟨.rr m, (show m < 8 by omega), hq⟩); omega)) ?_
      rintro _ w205 ⟨rfl, hf207⟩
      refine ⟨_, rfl, ?_⟩
      have h206 := (h204.grow hf207).put (d := some 118) (v := .bool true) (T' := [(118, .bool true), (111, .slice o197 ((kys Z (a.q (.r m))).length) c198), (117, .slice (R.ro m) ((kys Z (a.q (.r m))).length) (R.rk m)), (0, .pointer (some ⟨kb, 0, none⟩)), (1, .pointer (some ⟨mb, 0, none⟩)), (14, .int .i64 ((m : Nat) : Int)), (109, .pointer (some ⟨kb, 0, none⟩)), (110, .int .i64 ((m : Nat) : Int)), (116, .pointer (some ⟨mb, 5 + (m * 1), none⟩))]) rfl
      refine ⟨keepNil, ?_⟩
      clear h204
      refine dr_batch tabOk2 tabZ_ok2 (by repeat (first | with_reducible exact PF.body | with_reducible apply PF.inB | with_reducible apply PF.next)) [(10, {})] [0, 1, 14, 119] (T' := [(0, .pointer (some ⟨kb, 0, none⟩)), (1, .pointer (some ⟨mb, 0, none⟩)), (14, .int .i64 ((m : Nat) : Int)), (119, .bool false)]) (φ := True) (fuel := 0) h206 (by kernel_rfl) rfl (by kernel_rfl) (by kernel_rfl) ⟨trivial, trivial⟩ trivial fun a208 h209 => ?_
      clear h206
      refine wpAnyK_done (by kernel_rfl) ?_ _
      refine hK190 _ _ ?_
      clear hK190
      refine c_false h209 rfl ?_
      refine wp_skip ?_
      refine hK189 _ _ ?_
      clear hK189
      refine nd_start (l := [0, 1, 2]) rfl ?_
      refine nd_batch tabOk2 tabZ_ok2 [(0, {}), (1, {}), (2, {})] [0, 1, 14] (T' := [(0, .pointer (some ⟨kb, 0, none⟩)), (1, .pointer (some ⟨mb, 0, none⟩)), (14, .int .i64 (((m : Nat) : Int) + 1))]) (φ := inR .i64 (((m : Nat) : Int) + 1) ∧ True) (rest := []) h209 (by kernel_rfl) rfl ⟨⟨by omega, by omega⟩, trivial⟩ fun a210 h211 => ?_
      clear h209
      refine nd_done ?_
      exact ⟨(g - 1), by omega, (m + 1), by omega, by omega, (h211.slotsMono (restr_spec (keep := [0, 1, 14]) rfl))⟩
    ·
      have hc188f : ¬ ((m : Nat) : Int) < 8 := by simpa using hc188
      refine wp_exit ?_
      refine hK174 _ _ ?_
      clear hK174
      refine wp_seq_k fun K212 hK212 => ?_
      refine nd_start (l := [0, 1, 2, 3, 4, 5]) rfl ?_
      refine nd_batch tabOk2 tabZ_ok2 [(0, {})] [0, 1, 14, 120] (T' := [(0, .pointer (some ⟨kb, 0, none⟩)), (1, .pointer (some ⟨mb, 0, none⟩)), (14, .int .i64 ((m : Nat) : Int)), (120, .pointer (some ⟨kb, 0, none⟩))]) (φ := True) (rest := [1, 2, 3, 4, 5]) h187 (by kernel_rfl) rfl trivial fun a213 h214 => ?_
      clear h187
      refine nd_op ?_
      have hlLh222 : ∀ kb ∈ ([(3, ⟨[.int .u16 0, .int .u32 0], ty3, true⟩)] : Mem), kb.1 < _ := fun kb hkb => lt_of_heap (h214.known kb hkb)
      have hlSh222 : w.heap.size ≤ _ := h214.frame.size
      refine op_call h214 rfl rfl rfl (callOk Tryd.func27 (by decide) rfl) (args := [.pointer (some ⟨kb, 0, none⟩), .int .u8 4]) rfl (by have h9 := live_ok kb bo bc S C.ent 4 _ (kpK hker h214.frame (hdis _ (List.mem_cons_self ..))) (cpK hcap h214.frame hdis).st hkbo; rw [live_kys hI, hX4] at h9; exact h9) ?_
      rintro _ w221 ⟨o215, c216, F217, rfl, hr218, hf219, hF220⟩
      refine ⟨_, rfl, ?_⟩
      have h222q := h214.grow hf219
      have h223 := (h222q).put (d := some 121) (v := .slice o215 ((kys Z X4).length) c216) (T' := [(121, .slice o215 ((kys Z X4).length) c216), (0, .pointer (some ⟨kb, 0, none⟩)), (1, .pointer (some ⟨mb, 0, none⟩)), (14, .int .i64 ((m : Nat) : Int)), (120, .pointer (some ⟨kb, 0, none⟩))]) rfl
      clear h214 h222q
      refine nd_batch tabOk2 tabZ_ok2 [(2, {})] [121, 0, 1, 14, 122] (T' := [(121, .slice o215 ((kys Z X4).length) c216), (0, .pointer (some ⟨kb, 0, none⟩)), (1, .pointer (some ⟨mb, 0, none⟩)), (14, .int .i64 ((m : Nat) : Int)), (122, .pointer (some ⟨kb, 0, none⟩))]) (φ := True) (rest := [3, 4, 5]) h223 (by kernel_rfl) rfl trivial fun a224 h225 => ?_
      clear h223
      refine nd_op ?_
      have hlLh233 : ∀ kb ∈ ([(3, ⟨[.int .u16 0, .int .u32 0], ty3, true⟩)] : Mem), kb.1 < _ := fun kb hkb => lt_of_heap (h225.known kb hkb)
      have hlSh233 : w.heap.size ≤ _ := h225.frame.size
      refine op_call h225 rfl rfl rfl (callOk Tryd.func27 (by decide) rfl) (args := [.pointer (some ⟨kb, 0, none⟩), .int .u8 5]) rfl (by have h9 := live_ok kb bo bc S C.ent 5 _ (kpK hker h225.frame (hdis _ (List.mem_cons_self ..))) (cpK hcap h225.frame hdis).st hkbo; rw [live_kys hI, hX5] at h9; exact h9) ?_
      rintro _ w232 ⟨o226, c227, F228, rfl, hr229, hf230, hF231⟩
      refine ⟨_, rfl, ?_⟩
      have h233q := h225.grow hf230
      have hr234 := Row.fr hr218 hf230 (fun _ _ hq => by cases hq)
      have h235 := (h233q).put (d := some 123) (v := .slice o226 ((kys Z X5).length) c227) (T' := [(123, .slice o226 ((kys Z X5).length) c227), (121, .slice o215 ((kys Z X4).length) c216), (0, .pointer (some ⟨kb, 0, none⟩)), (1, .pointer (some ⟨mb, 0, none⟩)), (14, .int .i64 ((m : Nat) : Int)), (122, .pointer (some ⟨kb, 0, none⟩))]) rfl
      clear h225 h233q
      refine nd_op ?_
      refine op_append tabOk2 (e := 39) (so := o215) (n := (kys Z X4).length) (c := c216) (xo := o226) (m := (kys Z X5).length) (cx := c227) (vals := (kys Z X4).flatMap rfC) (vs := (kys Z X5).flatMap rfC) (F := F217) h235 rfl rfl rfl rfl rfl rfl rfl rfl rfl rfl rfl rfl hr234 (src_row hr229) (by rw [kys_len, kys_len]; omega) (allOne_rf _) ?_
      intro o236 c237 F238 w239 hr240 hf241 hF242
      have hr2402 := rl_app (enc := rfC) (xs := (kys Z X4)) (ys := (kys Z X5)) hr240
      have hr240e : (kys Z X4) ++ (kys Z X5) = kys Z (X4 ++ X5) := by simp [kys]
      rw [hr240e] at hr2402
      rw [show (kys Z X4).length + (kys Z X5).length = (kys Z (X4 ++ X5)).length by rw [← hr240e, List.length_append]]
      have h243q := st_new h235 hf241 (fun kb hkb hq => by have h1 := hlLh222 kb hkb; have h2 := hF220 _ hq; omega) (fun b hb hq => by have h1 := hH.md.low b hb; have h2 := hF220 _ hq; omega) (fun b hb => by have h2 := hF220 _ hb; omega)
      have h244 := (h243q).put (d := some 124) (v := .slice o236 ((kys Z (X4 ++ X5)).length) c237) (T' := [(124, .slice o236 ((kys Z (X4 ++ X5)).length) c237), (123, .slice o226 ((kys Z X5).length) c227), (121, .slice o215 ((kys Z X4).length) c216), (0, .pointer (some ⟨kb, 0, none⟩)), (1, .pointer (some ⟨mb, 0, none⟩)), (14, .int .i64 ((m : Nat) : Int)), (122, .pointer (some ⟨kb, 0, none⟩))]) rfl
      clear h235 h243q
      refine nd_batch tabOk2 tabZ_ok2 [(5, {})] [0, 1, 14, 15] (T' := [(0, .pointer (some ⟨kb, 0, none⟩)), (1, .pointer (some ⟨mb, 0, none⟩)), (14, .int .i64 ((m : Nat) : Int)), (15, .slice o236 ((kys Z (X4 ++ X5)).length) c237)]) (φ := True) (rest := []) h244 (by kernel_rfl) rfl trivial fun a245 h246 => ?_
      clear h244
      refine nd_done ?_
      refine hK212 _ _ ?_
      clear hK212
      refine wp_seq_k fun K247 hK247 => ?_
      refine wp_seq_k fun K248 hK248 => ?_
      refine nd_start (l := [0, 1, 2, 3, 4, 5, 6, 7]) rfl ?_
      refine nd_batch tabOk2 tabZ_ok2 [(0, {}), (1, {}), (2, {}), (3, {}), (4, {})] [0, 1, 14, 15, 126, 129] (T' := [(0, .pointer (some ⟨kb, 0, none⟩)), (1, .pointer (some ⟨mb, 0, none⟩)), (14, .int .i64 ((m : Nat) : Int)), (15, .slice o236 ((kys Z (X4 ++ X5)).length) c237), (126, .int .i64 (((kys Z (X4 ++ X5)).length : Nat) : Int)), (129, .pointer (some ⟨mb, 3, none⟩))]) (φ := True) (rest := [5, 6, 7]) h246 (by kernel_rfl) rfl trivial fun a249 h250 => ?_
      clear h246
      refine nd_op ?_
      refine op_read (b := mb) (v := .map (some Z.qb)) h250 rfl rfl (rd_m h250 (k := 3) (v := .map (some Z.qb)) rfl rfl rfl rfl (md_p ⟨rfl, trivial⟩)) ?_
      have h251 := h250.put (d := some 130) (v := .map (some Z.qb)) (T' := [(130, .map (some Z.qb)), (0, .pointer (some ⟨kb, 0, none⟩)), (1, .pointer (some ⟨mb, 0, none⟩)), (14, .int .i64 ((m : Nat) : Int)), (15, .slice o236 ((kys Z (X4 ++ X5)).length) c237), (126, .int .i64 (((kys Z (X4 ++ X5)).length : Nat) : Int)), (129, .pointer (some ⟨mb, 3, none⟩))]) rfl
      clear h250
      refine nd_op ?_
      refine op_read (b := Z.qb) (v := .int .i64 ((Z.ql.length : Nat) : Int)) h251 rfl rfl (by rw [show ((Z.ql.length : Nat) : Int) = (((Z.ql.map (qE Z R a)).length : Nat) : Int) by rw [List.length_map]]; exact rd_len Tryd.underlying100 h251 rfl rfl h251.inv.1.q) ?_
      have h252 := h251.put (d := some 131) (v := .int .i64 ((Z.ql.length : Nat) : Int)) (T' := [(131, .int .i64 ((Z.ql.length : Nat) : Int)), (130, .map (some Z.qb)), (0, .pointer (some ⟨kb, 0, none⟩)), (1, .pointer (some ⟨mb, 0, none⟩)), (14, .int .i64 ((m : Nat) : Int)), (15, .slice o236 ((kys Z (X4 ++ X5)).length) c237), (126, .int .i64 (((kys Z (X4 ++ X5)).length : Nat) : Int)), (129, .pointer (some ⟨mb, 3, none⟩))]) rfl
      clear h251
      refine nd_batch tabOk2 tabZ_ok2 [(7, {f := 1})] [0, 1, 14, 15, 132] (T' := [(0, .pointer (some ⟨kb, 0, none⟩)), (1, .pointer (some ⟨mb, 0, none⟩)), (14, .int .i64 ((m : Nat) : Int)), (15, .slice o236 ((kys Z (X4 ++ X5)).length) c237), (132, .bool false)]) (φ := (((((kys Z (X4 ++ X5)).length : Nat) : Int) != ((Z.ql.length : Nat) : Int))) = false ∧ True) (rest := []) h252 (by kernel_rfl) rfl ⟨(by rw [hl45]; simp), trivial⟩ fun a253 h254 => ?_
      clear h252
      refine nd_done ?_
      refine hK248 _ _ ?_
      clear hK248
      refine c_false h254 rfl ?_
      refine wp_skip ?_
      refine hK247 _ _ ?_
      clear hK247
      refine wp_seq_k fun K255 hK255 => ?_
      refine wp_seq_k fun K256 hK256 => ?_
      refine nd_start (l := [0, 1, 2]) rfl ?_
      refine nd_batch tabOk2 tabZ_ok2 [(0, {}), (1, {}), (2, {})] [0, 1, 14, 15, 133, 134, 135] (T' := [(0, .pointer (some ⟨kb, 0, none⟩)), (1, .pointer (some ⟨mb, 0, none⟩)), (14, .int .i64 ((m : Nat) : Int)), (15, .slice o236 ((kys Z (X4 ++ X5)).length) c237), (133, .slice o236 ((kys Z (X4 ++ X5)).length) c237), (134, .int .i64 (((kys Z (X4 ++ X5)).length : Nat) : Int)), (135, .int .i64 0)]) (φ := True) (rest := []) h254 (by kernel_rfl) rfl trivial fun a257 h258 => ?_
      clear h254
      refine nd_done ?_
      refine hK256 _ _ ?_
      clear hK256
      refine wp_block ?_
      refine wp_loop_ghost (fun g ga gw => ∃ (m : Nat), (g = (kys Z (X4 ++ X5)).length - m) ∧ (m ≤ (kys Z (X4 ++ X5)).length) ∧ St (MCx 192 (mdF mb Z R C) w mb Z R a C) [(0, .pointer (some ⟨kb, 0, none⟩)), (1, .pointer (some ⟨mb, 0, none⟩)), (133, .slice o236 ((kys Z (X4 ++ X5)).length) c237), (134, .int .i64 (((kys Z (X4 ++ X5)).length : Nat) : Int)), (135, .int .i64 ((m : Nat) : Int))] [(3, ⟨[.int .u16 0, .int .u32 0], ty3, true⟩)] ga gw) (kys Z (X4 ++ X5)).length ⟨0, by omega, by omega, (h258.slotsMono (restr_spec (keep := [0, 1, 133, 134, 135]) rfl))⟩ ?_
      clear h258
      rintro g a259 w260 ⟨m, hi262, hi263, h261⟩
      have hig := hi262
      have hmN := hi263
      refine wp_seq_k fun K264 hK264 => ?_
      refine nd_start (l := [0]) rfl ?_
      refine nd_batch tabOk2 tabZ_ok2 [(0, {})] [0, 1, 133, 134, 135, 136] (T' := [(0, .pointer (some ⟨kb, 0, none⟩)), (1, .pointer (some ⟨mb, 0, none⟩)), (133, .slice o236 ((kys Z (X4 ++ X5)).length) c237), (134, .int .i64 (((kys Z (X4 ++ X5)).length : Nat) : Int)), (135, .int .i64 ((m : Nat) : Int)), (136, .bool (decide (((m : Nat) : Int) < (((kys Z (X4 ++ X5)).length : Nat) : Int))))]) (φ := True) (rest := []) h261 (by kernel_rfl) rfl trivial fun a265 h266 => ?_
      clear h261
      refine nd_done ?_
      refine hK264 _ _ ?_
      clear hK264
      refine wp_seq_k fun K267 hK267 => ?_
      refine c_split h266 (b := decide (((m : Nat) : Int) < (((kys Z (X4 ++ X5)).length : Nat) : Int))) rfl (fun hc268 => ?_) (fun hc268 => ?_)
      ·
        have hc268f : ((m : Nat) : Int) < (((kys Z (X4 ++ X5)).length : Nat) : Int) := by simpa using hc268
        exact absurd hc268f (by rw [kys_len, h45e]; show ¬ ((m : Nat) : Int) < 0; omega)
      ·
        have hc268f : ¬ ((m : Nat) : Int) < (((kys Z (X4 ++ X5)).length : Nat) : Int) := by simpa using hc268
        refine wp_exit ?_
        refine hK255 _ _ ?_
        clear hK255
        refine wp_seq_k fun K269 hK269 => ?_
        refine wp_seq_k fun K270 hK270 => ?_
        refine nd_start (l := [0]) rfl ?_
        refine nd_batch tabOk2 tabZ_ok2 [(0, {})] [0, 1, 133, 134, 135, 22] (T' := [(0, .pointer (some ⟨kb, 0, none⟩)), (1, .pointer (some ⟨mb, 0, none⟩)), (133, .slice o236 ((kys Z (X4 ++ X5)).length) c237), (134, .int .i64 (((kys Z (X4 ++ X5)).length : Nat) : Int)), (135, .int .i64 ((m : Nat) : Int)), (22, .int .i64 0)]) (φ := True) (rest := []) h266 (by kernel_rfl) rfl trivial fun a271 h272 => ?_
        clear h266
        refine nd_done ?_
        refine hK270 _ _ ?_
        clear hK270
        refine wp_block ?_
        refine wp_loop_ghost (fun g ga gw => ∃ (m : Nat), (g = 16 - m) ∧ (m ≤ 16) ∧ St (MCx 192 (mdF mb Z R C) w mb Z R a C) [(0, .pointer (some ⟨kb, 0, none⟩)), (1, .pointer (some ⟨mb, 0, none⟩)), (22, .int .i64 ((m : Nat) : Int))] [(3, ⟨[.int .u16 0, .int .u32 0], ty3, true⟩)] ga gw) 16 ⟨0, by omega, by omega, (h272.slotsMono (restr_spec (keep := [0, 1, 22]) rfl))⟩ ?_
        clear h272
        rintro g a273 w274 ⟨m, hi276, hi277, h275⟩
        have hig := hi276
        have hmN := hi277
        refine wp_seq_k fun K278 hK278 => ?_
        refine wp_seq_k fun K279 hK279 => ?_
        refine nd_start (l := [0, 1]) rfl ?_
        refine nd_batch tabOk2 tabZ_ok2 [(0, {}), (1, {})] [0, 1, 22, 179] (T' := [(0, .pointer (some ⟨kb, 0, none⟩)), (1, .pointer (some ⟨mb, 0, none⟩)), (22, .int .i64 ((m : Nat) : Int)), (179, .bool (decide (((m : Nat) : Int) < 16)))]) (φ := True) (rest := []) h275 (by kernel_rfl) rfl trivial fun a280 h281 => ?_
        clear h275
        refine nd_done ?_
        refine hK279 _ _ ?_
        clear hK279
        refine c_split h281 (b := decide (((m : Nat) : Int) < 16)) rfl (fun hc282 => ?_) (fun hc282 => ?_)
        ·
          have hc282f : ((m : Nat) : Int) < 16 := by simpa using hc282
          refine wp_skip ?_
          refine hK278 _ _ ?_
          clear hK278
          refine wp_seq_k fun K283 hK283 => ?_
          refine wp_block ?_
          refine wp_seq_k fun K284 hK284 => ?_
          refine dr_start (KB := [3, mb]) (Bi := [[0, 1], [0, 1], [1], [0, 1], [0, 1], [0, 1], [0, 1], [0, 1], [0, 1], [0, 1]]) mixed h281 fun w285 h286 => ?_
          clear h281
          refine dr_batch tabOk2 tabZ_ok2 (by repeat (first | with_reducible exact PF.body | with_reducible apply PF.inB | with_reducible apply PF.next)) [(0, {}), (1, {}), (3, {}), (4, {}), (5, {}), (6, {}), (7, {})] [0, 1, 22, 182, 183, 189] (T' := [(0, .pointer (some ⟨kb, 0, none⟩)), (1, .pointer (some ⟨mb, 0, none⟩)), (22, .int .i64 ((m : Nat) : Int)), (182, .pointer (some ⟨kb, 0, none⟩)), (183, .int .i64 ((m : Nat) : Int)), (189, .pointer (some ⟨mb, 15 + (m * 4), none⟩))]) (φ := (0 ≤ ((m : Nat) : Int) ∧ ((m : Nat) : Int) < 16) ∧ True) (fuel := 3) h286 (by kernel_rfl) rfl (by kernel_rfl) (by kernel_rfl) ⟨trivial, trivial, trivial, trivial, trivial, trivial, trivial, trivial⟩ ⟨⟨by omega, by omega⟩, trivial⟩ fun a288 h289 => ?_
          clear h286
          refine dr_read (i := 8) (b := mb) (p := 1) (v := .agg #[.int .u16 ((a.irq m).ntfn.idx), .int .u32 ((a.irq m).ntfn.gen), .int .u64 ((a.irq m).badge), .bool ((a.irq m).masked)]) (fuel := 2) (by repeat (first | with_reducible exact PF.body | with_reducible apply PF.inB | with_reducible apply PF.next)) h289 rfl rfl rfl (by kernel_rfl) (by kernel_rfl) (by kernel_rfl) rfl (rd_mA h289 (k := 15 + (m * 4)) (vs := [.int .u16 ((a.irq m).ntfn.idx), .int .u32 ((a.irq m).ntfn.gen), .int .u64 ((a.irq m).badge), .bool ((a.irq m).masked)]) rfl rfl rfl rfl rfl (md_irq (i := m) (k := 0) (by omega) (by omega) ⟨rfl, rfl, rfl, rfl, trivial⟩)) ?_
          have h290 := h289.put (d := some 190) (v := .agg #[.int .u16 ((a.irq m).ntfn.idx), .int .u32 ((a.irq m).ntfn.gen), .int .u64 ((a.irq m).badge), .bool ((a.irq m).masked)]) (T' := [(190, .agg #[.int .u16 ((a.irq m).ntfn.idx), .int .u32 ((a.irq m).ntfn.gen), .int .u64 ((a.irq m).badge), .bool ((a.irq m).masked)]), (0, .pointer (some ⟨kb, 0, none⟩)), (1, .pointer (some ⟨mb, 0, none⟩)), (22, .int .i64 ((m : Nat) : Int)), (182, .pointer (some ⟨kb, 0, none⟩)), (183, .int .i64 ((m : Nat) : Int)), (189, .pointer (some ⟨mb, 15 + (m * 4), none⟩))]) rfl
          clear h289
          refine wpAnyK_one (i := 2) (fuel := 1) (by kernel_rfl) ?_
          refine op_call h290 rfl rfl rfl (callOk Tryd.func33 (by decide) rfl) (args := [.pointer (some ⟨kb, 0, none⟩), .int .i64 ((m : Nat) : Int)]) rfl (by have h9 := irq_ok kb bo bc S (m : Int) ⟨by omega, by omega⟩ _ (kpK hker h290.frame (hdis _ (List.mem_cons_self ..))); rw [Int.toNat_natCast, ← hv.ab.ir m (by omega)] at h9; exact h9) ?_
          rintro _ w291 ⟨rfl, hf293⟩
          refine ⟨_, rfl, ?_⟩
          have h292 := (h290.grow hf293).put (d := some 184) (v := .agg #[.int .u16 ((a.irq m).ntfn.idx), .int .u32 ((a.irq m).ntfn.gen), .int .u64 ((a.irq m).badge), .bool ((a.irq m).masked)]) (T' := [(184, .agg #[.int .u16 ((a.irq m).ntfn.idx), .int .u32 ((a.irq m).ntfn.gen), .int .u64 ((a.irq m).badge), .bool ((a.irq m).masked)]), (190, .agg #[.int .u16 ((a.irq m).ntfn.idx), .int .u32 ((a.irq m).ntfn.gen), .int .u64 ((a.irq m).badge), .bool ((a.irq m).masked)]), (0, .pointer (some ⟨kb, 0, none⟩)), (1, .pointer (some ⟨mb, 0, none⟩)), (22, .int .i64 ((m : Nat) : Int)), (182, .pointer (some ⟨kb, 0, none⟩)), (183, .int .i64 ((m : Nat) : Int)), (189, .pointer (some ⟨mb, 15 + (m * 4), none⟩))]) rfl
          refine ⟨(keepCons (kpM h290.inv.1 (l := .m) trivial (List.mem_cons_self ..) hf293) keepNil), ?_⟩
          clear h290
          refine dr_batch tabOk2 tabZ_ok2 (by repeat (first | with_reducible exact PF.body | with_reducible apply PF.inB | with_reducible apply PF.next)) [(9, {f := 1})] [0, 1, 22, 191] (T' := [(0, .pointer (some ⟨kb, 0, none⟩)), (1, .pointer (some ⟨mb, 0, none⟩)), (22, .int .i64 ((m : Nat) : Int)), (191, .bool false)]) (φ := EqRun Tryd.prog 71 (.agg #[.int .u16 ((a.irq m).ntfn.idx), .int .u32 ((a.irq m).ntfn.gen), .int .u64 ((a.irq m).badge), .bool ((a.irq m).masked)]) (.agg #[.int .u16 ((a.irq m).ntfn.idx), .int .u32 ((a.irq m).ntfn.gen), .int .u64 ((a.irq m).badge), .bool ((a.irq m).masked)]) true ∧ True) (fuel := 0) h292 (by kernel_rfl) rfl (by kernel_rfl) (by kernel_rfl) ⟨trivial, trivial⟩ ⟨(runIrqS (a.irq m)), trivial⟩ fun a294 h295 => ?_
          clear h292
          refine wpAnyK_done (by kernel_rfl) ?_ _
          refine hK284 _ _ ?_
          clear hK284
          refine c_false h295 rfl ?_
          refine wp_skip ?_
          refine hK283 _ _ ?_
          clear hK283
          refine nd_start (l := [0, 1, 2]) rfl ?_
          refine nd_batch tabOk2 tabZ_ok2 [(0, {}), (1, {}), (2, {})] [0, 1, 22] (T' := [(0, .pointer (some ⟨kb, 0, none⟩)), (1, .pointer (some ⟨mb, 0, none⟩)), (22, .int .i64 (((m : Nat) : Int) + 1))]) (φ := inR .i64 (((m : Nat) : Int) + 1) ∧ True) (rest := []) h295 (by kernel_rfl) rfl ⟨⟨by omega, by omega⟩, trivial⟩ fun a296 h297 => ?_
          clear h295
          refine nd_done ?_
          exact ⟨(g - 1), by omega, (m + 1), by omega, by omega, (h297.slotsMono (restr_spec (keep := [0, 1, 22]) rfl))⟩
        ·
          have hc282f : ¬ ((m : Nat) : Int) < 16 := by simpa using hc282
          refine wp_exit ?_
          refine hK269 _ _ ?_
          clear hK269
          refine wp_seq_k fun K298 hK298 => ?_
          refine nd_start (l := [0]) rfl ?_
          refine nd_batch tabOk2 tabZ_ok2 [(0, {})] [0, 1, 22, 4] (T' := [(0, .pointer (some ⟨kb, 0, none⟩)), (1, .pointer (some ⟨mb, 0, none⟩)), (22, .int .i64 ((m : Nat) : Int)), (4, .bool true)]) (φ := True) (rest := []) h281 (by kernel_rfl) rfl trivial fun a299 h300 => ?_
          clear h281
          refine nd_done ?_
          refine hK298 _ _ ?_
          clear hK298
          refine wp_ret ?_
          try simp only [Exit.then, Exit.inBlock]
          try rw [if_pos trivial]
          exact s_ret tabOk2 tabZ_ok2 h300 [(.tmp 4, {})] (vs := [.bool true]) (φ := True) rfl (by kernel_rfl) trivial ⟨rfl, mg_end hH h300 hho rfl⟩

theorem agreesnn (kb bo bc : Nat) (nd : Nat → Nat) (S : KP) (n : Int) (mb : Nat) (Z : MZ) (R : MR) (a : AK) (C : CP) (hI : MI Z a C) (hv : Iv S a C n) (X3 X4 X5 : List Nat) (hX3 : liveI C.ent 3 = X3) (hX4 : liveI C.ent 4 = X4) (hX5 : liveI C.ent 5 = X5) (NS NP : List Int) (hNS : [] ++ uvs (storeN C.ent) = NS) (hNP : [] ++ uvs (spaceN C) = NP) (h3l : 0 < X3.length) (h45l : 0 < (X4 ++ X5).length) (w : World) (hker : w.heap[kb]? = some (Blk.obj ⟨kC bo bc S, 90, false⟩)) (hcap : CapAt w bo bc nd C) (hkn : kb ∉ capF bo bc nd C) (hdis : ∀ b ∈ kb :: capF bo bc nd C, b ∉ mdF mb Z R C) (hH : MH mb Z R a C w) :
    Calls Tryd.prog 13 #[.pointer (some ⟨kb, 0, none⟩), .pointer (some ⟨mb, 0, none⟩)] w fun e w' => e = .returned (.bool true) ∧ MG mb Z R C w Z R a C w' := by
  have hrS := hv.ab.ri
  have hQ := hv.ab.li
  have h256 := hv.ci.reg.1
  have hkbo : kb ≠ bo := fun e => hkn (mem_capF.2 (.inl e))
  have hrc := cur_same hI hH.md.k hv
  have hl3 : (kys Z X3).length = Z.tl.length := by rw [← hX3, ← live_kys hI]; exact live_len3 hI hH.md.k
  have hl45 : (kys Z (X4 ++ X5)).length = Z.ql.length := by rw [kys_len, ← hX4, ← hX5]; exact live_len45 hI hH.md.k
  have hle3 : X3.length ≤ 256 := by rw [← hX3]; exact live_le C.ent 3
  have hle4 : X4.length ≤ 256 := by rw [← hX4]; exact live_le C.ent 4
  have hle5 : X5.length ≤ 256 := by rw [← hX5]; exact live_le C.ent 5
  have hk3 := kys_len Z X3
  have hk45 := kys_len Z (X4 ++ X5)
  have ha45 : (X4 ++ X5).length = X4.length + X5.length := List.length_append
  obtain ⟨ty3, hg3⟩ := hH.g3
  have hho := hH.ho
  have hkk := hH.md.k
  refine enter (n := 192) (K := mdF mb Z R C) (A := MD (mdF mb Z R C) w.heap.size mb Z R a C) (F := mdF mb Z R C) (T := [(0, .pointer (some ⟨kb, 0, none⟩)), (1, .pointer (some ⟨mb, 0, none⟩))]) (L := [(3, ⟨[.int .u16 0, .int .u32 0], ty3, true⟩)]) (args := [.pointer (some ⟨kb, 0, none⟩), .pointer (some ⟨mb, 0, none⟩)]) Tryd.func13 rfl rfl rfl rfl (kcons hg3 knil) (by simp) (kcons (by intro hq; cases hq) knil) hH.mD MD.stable hH.md.low (kcons (by intro hq; cases hq) knil) ?_
  intro ac h
  refine wp_seq_k fun K1 hK1 => ?_
  refine nd_start (l := [0]) rfl ?_
  refine nd_batch tabOk2 tabZ_ok2 [(0, {})] [0, 1, 4] (T' := [(0, .pointer (some ⟨kb, 0, none⟩)), (1, .pointer (some ⟨mb, 0, none⟩)), (4, .bool false)]) (φ := True) (rest := []) h (by kernel_rfl) rfl trivial fun a2 h3 => ?_
  clear h
  refine nd_done ?_
  refine hK1 _ _ ?_
  clear hK1
  refine wp_seq_k fun K4 hK4 => ?_
  refine nd_start (l := [0, 1, 2, 3, 4, 5, 6]) rfl ?_
  refine nd_batch tabOk2 tabZ_ok2 [(0, {})] [0, 1, 4, 24] (T' := [(0, .pointer (some ⟨kb, 0, none⟩)), (1, .pointer (some ⟨mb, 0, none⟩)), (4, .bool false), (24, .pointer (some ⟨kb, 0, none⟩))]) (φ := True) (rest := [1, 2, 3, 4, 5, 6]) h3 (by kernel_rfl) rfl trivial fun a5 h6 => ?_
  clear h3
  refine nd_op ?_
  refine op_call h6 rfl rfl rfl (callOk Tryd.func43 (by decide) rfl) (args := [.pointer (some ⟨kb, 0, none⟩)]) rfl (lower_ok kb bo bc S _ (kpK hker h6.frame (hdis _ (List.mem_cons_self ..)))) ?_
  rintro _ w7 ⟨rfl, hf9⟩
  refine ⟨_, rfl, ?_⟩
  have h8 := (h6.grow hf9).put (d := some 25) (v := .tuple #[.pointer (some ⟨bo, 0, none⟩), .pointer (some ⟨bc, 0, none⟩)]) (T' := [(25, .tuple #[.pointer (some ⟨bo, 0, none⟩), .pointer (some ⟨bc, 0, none⟩)]), (0, .pointer (some ⟨kb, 0, none⟩)), (1, .pointer (some ⟨mb, 0, none⟩)), (4, .bool false), (24, .pointer (some ⟨kb, 0, none⟩))]) rfl
  clear h6
  refine nd_batch tabOk2 tabZ_ok2 [(2, {}), (3, {}), (4, {}), (5, {}), (6, {})] [0, 1, 4, 5, 6] (T' := [(0, .pointer (some ⟨kb, 0, none⟩)), (1, .pointer (some ⟨mb, 0, none⟩)), (4, .bool false), (5, .pointer (some ⟨bo, 0, none⟩)), (6, .pointer (some ⟨bc, 0, none⟩))]) (φ := True) (rest := []) h8 (by kernel_rfl) rfl trivial fun a10 h11 => ?_
  clear h8
  refine nd_done ?_
  refine hK4 _ _ ?_
  clear hK4
  refine wp_seq_k fun K12 hK12 => ?_
  refine wp_seq_k fun K13 hK13 => ?_
  refine dr_start (KB := [3, mb]) (Bi := [[0, 1], [1], [0, 1], [0, 1], [0, 1], [0, 1], [], [], [0, 1], [0, 1], [0, 1], [1], [0, 1], [0, 1], [0, 1], [0, 1], [], [], [0, 1], [0, 1]]) mixed h11 fun w14 h15 => ?_
  clear h11
  refine dr_batch tabOk2 tabZ_ok2 (by repeat (first | with_reducible exact PF.body | with_reducible apply PF.inB | with_reducible apply PF.next)) [(0, {}), (2, {}), (3, {}), (4, {})] [0, 1, 4, 5, 6, 28, 32] (T' := [(0, .pointer (some ⟨kb, 0, none⟩)), (1, .pointer (some ⟨mb, 0, none⟩)), (4, .bool false), (5, .pointer (some ⟨bo, 0, none⟩)), (6, .pointer (some ⟨bc, 0, none⟩)), (28, .pointer (some ⟨bo, 0, none⟩)), (32, .pointer (some ⟨mb, 0, none⟩))]) (φ := True) (fuel := 16) h15 (by kernel_rfl) rfl (by kernel_rfl) (by kernel_rfl) ⟨trivial, trivial, trivial, trivial, trivial⟩ trivial fun a17 h18 => ?_
  clear h15
  refine dr_read (i := 5) (b := mb) (p := 1) (v := .pointer (some ⟨Z.mo, 0, none⟩)) (fuel := 15) (by repeat (first | with_reducible exact PF.body | with_reducible apply PF.inB | with_reducible apply PF.next)) h18 rfl rfl rfl (by kernel_rfl) (by kernel_rfl) (by kernel_rfl) rfl (rd_m h18 (k := 0) (v := .pointer (some ⟨Z.mo, 0, none⟩)) rfl rfl rfl rfl (md_p ⟨rfl, trivial⟩)) ?_
  have h19 := h18.put (d := some 33) (v := .pointer (some ⟨Z.mo, 0, none⟩)) (T' := [(33, .pointer (some ⟨Z.mo, 0, none⟩)), (0, .pointer (some ⟨kb, 0, none⟩)), (1, .pointer (some ⟨mb, 0, none⟩)), (4, .bool false), (5, .pointer (some ⟨bo, 0, none⟩)), (6, .pointer (some ⟨bc, 0, none⟩)), (28, .pointer (some ⟨bo, 0, none⟩)), (32, .pointer (some ⟨mb, 0, none⟩))]) rfl
  clear h18
  refine wpAnyK_one (i := 1) (fuel := 14) (by kernel_rfl) ?_
  refine op_call h19 rfl rfl rfl (callOk Tryd.func44 (by decide) rfl) (args := [.pointer (some ⟨bo, 0, none⟩), .slice none 0 0]) rfl (by have h9 := storeBytes_ok bo C.ent hv.uc.e none 0 [] [] _ (cpK hcap h19.frame hdis).st rwsNil (by simp) (by simp); rw [hNS] at h9; exact h9) ?_
  rintro _ w26 ⟨o20, c21, F22, rfl, hr23, hf24, hF25⟩
  refine ⟨_, rfl, ?_⟩
  refine ⟨(keepCons (kpM h19.inv.1 (l := .m) trivial (List.mem_cons_self ..) hf24) keepNil), ?_⟩
  have h27 := (h19.grow hf24).put (d := some 29) (v := .slice o20 NS.length c21) (T' := [(29, .slice o20 NS.length c21), (33, .pointer (some ⟨Z.mo, 0, none⟩)), (0, .pointer (some ⟨kb, 0, none⟩)), (1, .pointer (some ⟨mb, 0, none⟩)), (4, .bool false), (5, .pointer (some ⟨bo, 0, none⟩)), (6, .pointer (some ⟨bc, 0, none⟩)), (28, .pointer (some ⟨bo, 0, none⟩)), (32, .pointer (some ⟨mb, 0, none⟩))]) rfl
  clear h19
  refine wpAnyK_one (i := 6) (fuel := 13) (by kernel_rfl) ?_
  refine op_call h27 rfl rfl rfl (callOk Tryd.func44 (by decide) rfl) (args := [.pointer (some ⟨Z.mo, 0, none⟩), .slice none 0 0]) rfl (by have h9 := storeBytes_ok Z.mo C.ent hv.uc.e none 0 [] [] _ h27.inv.1.cp.st rwsNil (by simp) (by simp); rw [hNS] at h9; exact h9) ?_
  rintro _ w34 ⟨o28, c29, F30, rfl, hr31, hf32, hF33⟩
  refine ⟨_, rfl, ?_⟩
  have hr35 := Row.fr hr23 hf32 (fun _ _ hq => by cases hq)
  refine ⟨keepNil, ?_⟩
  have h36 := (h27.grow hf32).put (d := some 34) (v := .slice o28 NS.length c29) (T' := [(34, .slice o28 NS.length c29), (29, .slice o20 NS.length c21), (33, .pointer (some ⟨Z.mo, 0, none⟩)), (0, .pointer (some ⟨kb, 0, none⟩)), (1, .pointer (some ⟨mb, 0, none⟩)), (4, .bool false), (5, .pointer (some ⟨bo, 0, none⟩)), (6, .pointer (some ⟨bc, 0, none⟩)), (28, .pointer (some ⟨bo, 0, none⟩)), (32, .pointer (some ⟨mb, 0, none⟩))]) rfl
  clear h27
  refine wpAnyK_one (i := 7) (fuel := 12) (by kernel_rfl) ?_
  refine op_call h36 rfl rfl rfl (callOk Tryd.func17 (by decide) rfl) (args := [.slice o20 NS.length c21, .slice o28 NS.length c29]) rfl (equal_ok _ (by rw [← hNS]; exact storeN_pos C.ent) _ _ _ _ _ _ _ hr35 hr31) ?_
  rintro _ w37 ⟨rfl, hf39⟩
  refine ⟨_, rfl, ?_⟩
  have h38 := (h36.grow hf39).put (d := some 35) (v := .bool true) (T' := [(35, .bool true), (34, .slice o28 NS.length c29), (29, .slice o20 NS.length c21), (33, .pointer (some ⟨Z.mo, 0, none⟩)), (0, .pointer (some ⟨kb, 0, none⟩)), (1, .pointer (some ⟨mb, 0, none⟩)), (4, .bool false), (5, .pointer (some ⟨bo, 0, none⟩)), (6, .pointer (some ⟨bc, 0, none⟩)), (28, .pointer (some ⟨bo, 0, none⟩)), (32, .pointer (some ⟨mb, 0, none⟩))]) rfl
  refine ⟨keepNil, ?_⟩
  clear h36
  refine dr_batch tabOk2 tabZ_ok2 (by repeat (first | with_reducible exact PF.body | with_reducible apply PF.inB | with_reducible apply PF.next)) [(8, {}), (9, {}), (10, {}), (12, {}), (13, {}), (14, {})] [0, 1, 4, 5, 6, 37, 38, 42] (T' := [(0, .pointer (some ⟨kb, 0, none⟩)), (1, .pointer (some ⟨mb, 0, none⟩)), (4, .bool false), (5, .pointer (some ⟨bo, 0, none⟩)), (6, .pointer (some ⟨bc, 0, none⟩)), (37, .bool false), (38, .pointer (some ⟨bc, 0, none⟩)), (42, .pointer (some ⟨mb, 1, none⟩))]) (φ := True) (fuel := 6) h38 (by kernel_rfl) rfl (by kernel_rfl) (by kernel_rfl) ⟨trivial, trivial, trivial, trivial, trivial, trivial, trivial⟩ trivial fun a40 h41 => ?_
  clear h38
  refine dr_read (i := 15) (b := mb) (p := 1) (v := .pointer (some ⟨Z.mc, 0, none⟩)) (fuel := 5) (by repeat (first | with_reducible exact PF.body | with_reducible apply PF.inB | with_reducible apply PF.next)) h41 rfl rfl rfl (by kernel_rfl) (by kernel_rfl) (by kernel_rfl) rfl (rd_m h41 (k := 1) (v := .pointer (some ⟨Z.mc, 0, none⟩)) rfl rfl rfl rfl (md_p ⟨rfl, trivial⟩)) ?_
  have h42 := h41.put (d := some 43) (v := .pointer (some ⟨Z.mc, 0, none⟩)) (T' := [(43, .pointer (some ⟨Z.mc, 0, none⟩)), (0, .pointer (some ⟨kb, 0, none⟩)), (1, .pointer (some ⟨mb, 0, none⟩)), (4, .bool false), (5, .pointer (some ⟨bo, 0, none⟩)), (6, .pointer (some ⟨bc, 0, none⟩)), (37, .bool false), (38, .pointer (some ⟨bc, 0, none⟩)), (42, .pointer (some ⟨mb, 1, none⟩))]) rfl
  clear h41
  refine wpAnyK_one (i := 11) (fuel := 4) (by kernel_rfl) ?_
  refine op_call h42 rfl rfl rfl (callOk Tryd.func45 (by decide) rfl) (args := [.pointer (some ⟨bc, 0, none⟩), .slice none 0 0]) rfl (by have h9 := spaceBytes_ok bo bc nd C hv.uc none 0 [] [] _ (cpK hcap h42.frame hdis) rwsNil (by simp) (by simp); rw [hNP] at h9; exact h9) ?_
  rintro _ w49 ⟨o43, c44, F45, rfl, hr46, hf47, hF48⟩
  refine ⟨_, rfl, ?_⟩
  refine ⟨(keepCons (kpM h42.inv.1 (l := .m) trivial (List.mem_cons_self ..) hf47) keepNil), ?_⟩
  have h50 := (h42.grow hf47).put (d := some 39) (v := .slice o43 NP.length c44) (T' := [(39, .slice o43 NP.length c44), (43, .pointer (some ⟨Z.mc, 0, none⟩)), (0, .pointer (some ⟨kb, 0, none⟩)), (1, .pointer (some ⟨mb, 0, none⟩)), (4, .bool false), (5, .pointer (some ⟨bo, 0, none⟩)), (6, .pointer (some ⟨bc, 0, none⟩)), (37, .bool false), (38, .pointer (some ⟨bc, 0, none⟩)), (42, .pointer (some ⟨mb, 1, none⟩))]) rfl
  clear h42
  refine wpAnyK_one (i := 16) (fuel := 3) (by kernel_rfl) ?_
  refine op_call h50 rfl rfl rfl (callOk Tryd.func45 (by decide) rfl) (args := [.pointer (some ⟨Z.mc, 0, none⟩), .slice none 0 0]) rfl (by have h9 := spaceBytes_ok Z.mo Z.mc Z.nd C hv.uc none 0 [] [] _ h50.inv.1.cp rwsNil (by simp) (by simp); rw [hNP] at h9; exact h9) ?_
  rintro _ w57 ⟨o51, c52, F53, rfl, hr54, hf55, hF56⟩
  refine ⟨_, rfl, ?_⟩
  have hr58 := Row.fr hr46 hf55 (fun _ _ hq => by cases hq)
  refine ⟨keepNil, ?_⟩
  have h59 := (h50.grow hf55).put (d := some 44) (v := .slice o51 NP.length c52) (T' := [(44, .slice o51 NP.length c52), (39, .slice o43 NP.length c44), (43, .pointer (some ⟨Z.mc, 0, none⟩)), (0, .pointer (some ⟨kb, 0, none⟩)), (1, .pointer (some ⟨mb, 0, none⟩)), (4, .bool false), (5, .pointer (some ⟨bo, 0, none⟩)), (6, .pointer (some ⟨bc, 0, none⟩)), (37, .bool false), (38, .pointer (some ⟨bc, 0, none⟩)), (42, .pointer (some ⟨mb, 1, none⟩))]) rfl
  clear h50
  refine wpAnyK_one (i := 17) (fuel := 2) (by kernel_rfl) ?_
  refine op_call h59 rfl rfl rfl (callOk Tryd.func17 (by decide) rfl) (args := [.slice o43 NP.length c44, .slice o51 NP.length c52]) rfl (equal_ok _ (by rw [← hNP]; exact spaceN_pos C) _ _ _ _ _ _ _ hr58 hr54) ?_
  rintro _ w60 ⟨rfl, hf62⟩
  refine ⟨_, rfl, ?_⟩
  have h61 := (h59.grow hf62).put (d := some 45) (v := .bool true) (T' := [(45, .bool true), (44, .slice o51 NP.length c52), (39, .slice o43 NP.length c44), (43, .pointer (some ⟨Z.mc, 0, none⟩)), (0, .pointer (some ⟨kb, 0, none⟩)), (1, .pointer (some ⟨mb, 0, none⟩)), (4, .bool false), (5, .pointer (some ⟨bo, 0, none⟩)), (6, .pointer (some ⟨bc, 0, none⟩)), (37, .bool false), (38, .pointer (some ⟨bc, 0, none⟩)), (42, .pointer (some ⟨mb, 1, none⟩))]) rfl
  refine ⟨keepNil, ?_⟩
  clear h59
  refine dr_batch tabOk2 tabZ_ok2 (by repeat (first | with_reducible exact PF.body | with_reducible apply PF.inB | with_reducible apply PF.next)) [(18, {}), (19, {})] [0, 1, 4, 5, 6, 47] (T' := [(0, .pointer (some ⟨kb, 0, none⟩)), (1, .pointer (some ⟨mb, 0, none⟩)), (4, .bool false), (5, .pointer (some ⟨bo, 0, none⟩)), (6, .pointer (some ⟨bc, 0, none⟩)), (47, .bool false)]) (φ := True) (fuel := 0) h61 (by kernel_rfl) rfl (by kernel_rfl) (by kernel_rfl) ⟨trivial, trivial, trivial⟩ trivial fun a63 h64 => ?_
  clear h61
  refine wpAnyK_done (by kernel_rfl) ?_ _
  refine hK13 _ _ ?_
  clear hK13
  refine c_false h64 rfl ?_
  refine wp_skip ?_
  refine hK12 _ _ ?_
  clear hK12
  refine wp_seq_k fun K65 hK65 => ?_
  refine wp_seq_k fun K66 hK66 => ?_
  refine dr_start (KB := [3, mb]) (Bi := [[0, 1], [1], [0, 1], [0, 1], [0, 1], [0, 1], [0, 1], [0, 1], [0, 1], [1], [0, 1], [0, 1], [0, 1], [0, 1], [0, 1], [0, 1]]) mixed h64 fun w67 h68 => ?_
  clear h64
  refine dr_batch tabOk2 tabZ_ok2 (by repeat (first | with_reducible exact PF.body | with_reducible apply PF.inB | with_reducible apply PF.next)) [(0, {}), (2, {}), (3, {}), (4, {})] [0, 1, 4, 5, 6, 48, 52] (T' := [(0, .pointer (some ⟨kb, 0, none⟩)), (1, .pointer (some ⟨mb, 0, none⟩)), (4, .bool false), (5, .pointer (some ⟨bo, 0, none⟩)), (6, .pointer (some ⟨bc, 0, none⟩)), (48, .pointer (some ⟨kb, 0, none⟩)), (52, .pointer (some ⟨mb, 13, none⟩))]) (φ := True) (fuel := 12) h68 (by kernel_rfl) rfl (by kernel_rfl) (by kernel_rfl) ⟨trivial, trivial, trivial, trivial, trivial⟩ trivial fun a70 h71 => ?_
  clear h68
  refine dr_read (i := 5) (b := mb) (p := 1) (v := .agg #[.int .u16 ((curR Z a).idx), .int .u32 ((curR Z a).gen)]) (fuel := 11) (by repeat (first | with_reducible exact PF.body | with_reducible apply PF.inB | with_reducible apply PF.next)) h71 rfl rfl rfl (by kernel_rfl) (by kernel_rfl) (by kernel_rfl) rfl (rd_mA h71 (k := 13) (vs := [.int .u16 ((curR Z a).idx), .int .u32 ((curR Z a).gen)]) rfl rfl rfl rfl rfl md_cur) ?_
  have h72 := h71.put (d := some 53) (v := .agg #[.int .u16 ((curR Z a).idx), .int .u32 ((curR Z a).gen)]) (T' := [(53, .agg #[.int .u16 ((curR Z a).idx), .int .u32 ((curR Z a).gen)]), (0, .pointer (some ⟨kb, 0, none⟩)), (1, .pointer (some ⟨mb, 0, none⟩)), (4, .bool false), (5, .pointer (some ⟨bo, 0, none⟩)), (6, .pointer (some ⟨bc, 0, none⟩)), (48, .pointer (some ⟨kb, 0, none⟩)), (52, .pointer (some ⟨mb, 13, none⟩))]) rfl
  clear h71
  refine wpAnyK_one (i := 1) (fuel := 10) (by kernel_rfl) ?_
  refine op_call h72 rfl rfl rfl (callOk Tryd.func18 (by decide) rfl) (args := [.pointer (some ⟨kb, 0, none⟩)]) rfl (running_ok kb bo bc S hrS C.ent _ (kpK hker h72.frame (hdis _ (List.mem_cons_self ..))) (cpK hcap h72.frame hdis).st hkbo) ?_
  rintro _ w73 ⟨rfl, hf75⟩
  refine ⟨_, rfl, ?_⟩
  have h74 := (h72.grow hf75).put (d := some 49) (v := .agg #[.int .u16 ((refP C.ent S.cur).idx), .int .u32 ((refP C.ent S.cur).gen)]) (T' := [(49, .agg #[.int .u16 ((refP C.ent S.cur).idx), .int .u32 ((refP C.ent S.cur).gen)]), (53, .agg #[.int .u16 ((curR Z a).idx), .int .u32 ((curR Z a).gen)]), (0, .pointer (some ⟨kb, 0, none⟩)), (1, .pointer (some ⟨mb, 0, none⟩)), (4, .bool false), (5, .pointer (some ⟨bo, 0, none⟩)), (6, .pointer (some ⟨bc, 0, none⟩)), (48, .pointer (some ⟨kb, 0, none⟩)), (52, .pointer (some ⟨mb, 13, none⟩))]) rfl
  refine ⟨(keepCons (kpM h72.inv.1 (l := .m) trivial (List.mem_cons_self ..) hf75) keepNil), ?_⟩
  clear h72
  refine dr_batch tabOk2 tabZ_ok2 (by repeat (first | with_reducible exact PF.body | with_reducible apply PF.inB | with_reducible apply PF.next)) [(6, {f := 1}), (7, {}), (8, {}), (10, {}), (11, {}), (12, {})] [0, 1, 4, 5, 6, 55, 56, 60] (T' := [(0, .pointer (some ⟨kb, 0, none⟩)), (1, .pointer (some ⟨mb, 0, none⟩)), (4, .bool false), (5, .pointer (some ⟨bo, 0, none⟩)), (6, .pointer (some ⟨bc, 0, none⟩)), (55, .bool false), (56, .pointer (some ⟨kb, 0, none⟩)), (60, .pointer (some ⟨mb, 79, none⟩))]) (φ := EqRun Tryd.prog 39 (.agg #[.int .u16 ((refP C.ent S.cur).idx), .int .u32 ((refP C.ent S.cur).gen)]) (.agg #[.int .u16 ((curR Z a).idx), .int .u32 ((curR Z a).gen)]) true ∧ True) (fuel := 4) h74 (by kernel_rfl) rfl (by kernel_rfl) (by kernel_rfl) ⟨trivial, trivial, trivial, trivial, trivial, trivial, trivial⟩ ⟨(by have hq := runRf (refP C.ent S.cur) (curR Z a); rw [show decide (refP C.ent S.cur = curR Z a) = true from decide_eq_true hrc] at hq; exact hq), trivial⟩ fun a76 h77 => ?_
  clear h74
  refine dr_read (i := 13) (b := mb) (p := 1) (v := .int .u64 a.now) (fuel := 3) (by repeat (first | with_reducible exact PF.body | with_reducible apply PF.inB | with_reducible apply PF.next)) h77 rfl rfl rfl (by kernel_rfl) (by kernel_rfl) (by kernel_rfl) rfl (rd_m h77 (k := 79) (v := .int .u64 a.now) rfl rfl rfl rfl md_now) ?_
  have h78 := h77.put (d := some 61) (v := .int .u64 a.now) (T' := [(61, .int .u64 a.now), (0, .pointer (some ⟨kb, 0, none⟩)), (1, .pointer (some ⟨mb, 0, none⟩)), (4, .bool false), (5, .pointer (some ⟨bo, 0, none⟩)), (6, .pointer (some ⟨bc, 0, none⟩)), (55, .bool false), (56, .pointer (some ⟨kb, 0, none⟩)), (60, .pointer (some ⟨mb, 79, none⟩))]) rfl
  clear h77
  refine wpAnyK_one (i := 9) (fuel := 2) (by kernel_rfl) ?_
  refine op_call h78 rfl rfl rfl (callOk Tryd.func46 (by decide) rfl) (args := [.pointer (some ⟨kb, 0, none⟩)]) rfl (now_ok kb bo bc S _ (kpK hker h78.frame (hdis _ (List.mem_cons_self ..)))) ?_
  rintro _ w79 ⟨rfl, hf81⟩
  refine ⟨_, rfl, ?_⟩
  have h80 := (h78.grow hf81).put (d := some 57) (v := .int .u64 S.now) (T' := [(57, .int .u64 S.now), (61, .int .u64 a.now), (0, .pointer (some ⟨kb, 0, none⟩)), (1, .pointer (some ⟨mb, 0, none⟩)), (4, .bool false), (5, .pointer (some ⟨bo, 0, none⟩)), (6, .pointer (some ⟨bc, 0, none⟩)), (55, .bool false), (56, .pointer (some ⟨kb, 0, none⟩)), (60, .pointer (some ⟨mb, 79, none⟩))]) rfl
  refine ⟨(keepCons (kpM h78.inv.1 (l := .m) trivial (List.mem_cons_self ..) hf81) keepNil), ?_⟩
  clear h78
  refine dr_batch tabOk2 tabZ_ok2 (by repeat (first | with_reducible exact PF.body | with_reducible apply PF.inB | with_reducible apply PF.next)) [(14, {f := 1}), (15, {})] [0, 1, 4, 5, 6, 63] (T' := [(0, .pointer (some ⟨kb, 0, none⟩)), (1, .pointer (some ⟨mb, 0, none⟩)), (4, .bool false), (5, .pointer (some ⟨bo, 0, none⟩)), (6, .pointer (some ⟨bc, 0, none⟩)), (63, .bool false)]) (φ := ((S.now != a.now)) = false ∧ True) (fuel := 0) h80 (by kernel_rfl) rfl (by kernel_rfl) (by kernel_rfl) ⟨trivial, trivial, trivial⟩ ⟨(by rw [← hv.ab.nw]; simp), trivial⟩ fun a82 h83 => ?_
  clear h80
  refine wpAnyK_done (by kernel_rfl) ?_ _
  refine hK66 _ _ ?_
  clear hK66
  refine c_false h83 rfl ?_
  refine wp_skip ?_
  refine hK65 _ _ ?_
  clear hK65
  refine wp_seq_k fun K84 hK84 => ?_
  refine nd_start (l := [0, 1, 2]) rfl ?_
  refine nd_batch tabOk2 tabZ_ok2 [(0, {})] [0, 1, 4, 5, 6, 64] (T' := [(0, .pointer (some ⟨kb, 0, none⟩)), (1, .pointer (some ⟨mb, 0, none⟩)), (4, .bool false), (5, .pointer (some ⟨bo, 0, none⟩)), (6, .pointer (some ⟨bc, 0, none⟩)), (64, .pointer (some ⟨kb, 0, none⟩))]) (φ := True) (rest := [1, 2]) h83 (by kernel_rfl) rfl trivial fun a85 h86 => ?_
  clear h83
  refine nd_op ?_
  have hlLh94 : ∀ kb ∈ ([(3, ⟨[.int .u16 0, .int .u32 0], ty3, true⟩)] : Mem), kb.1 < _ := fun kb hkb => lt_of_heap (h86.known kb hkb)
  have hlSh94 : w.heap.size ≤ _ := h86.frame.size
  refine op_call h86 rfl rfl rfl (callOk Tryd.func27 (by decide) rfl) (args := [.pointer (some ⟨kb, 0, none⟩), .int .u8 3]) rfl (by have h9 := live_ok kb bo bc S C.ent 3 _ (kpK hker h86.frame (hdis _ (List.mem_cons_self ..))) (cpK hcap h86.frame hdis).st hkbo; rw [live_kys hI, hX3] at h9; exact h9) ?_
  rintro _ w93 ⟨o87, c88, F89, rfl, hr90, hf91, hF92⟩
  refine ⟨_, rfl, ?_⟩
  obtain ⟨r3, r3cs, hro, hrb, hrF, r3all⟩ := row_all hr90 (by rw [kys_len]; exact h3l)
  subst hro hrF
  have h94q : St _ _ [(3, ⟨[.int .u16 0, .int .u32 0], ty3, true⟩), (r3, ⟨r3cs, 39, false⟩)] _ _ := h86.fresh hf91 (hF92 r3 (by simp)) hrb
  have h95 := (h94q).put (d := some 65) (v := .slice (some ⟨r3, 0, none⟩) ((kys Z X3).length) c88) (T' := [(65, .slice (some ⟨r3, 0, none⟩) ((kys Z X3).length) c88), (0, .pointer (some ⟨kb, 0, none⟩)), (1, .pointer (some ⟨mb, 0, none⟩)), (4, .bool false), (5, .pointer (some ⟨bo, 0, none⟩)), (6, .pointer (some ⟨bc, 0, none⟩)), (64, .pointer (some ⟨kb, 0, none⟩))]) rfl
  clear h86 h94q
  refine nd_batch tabOk2 tabZ_ok2 [(2, {})] [0, 1, 4, 5, 6, 7] (T' := [(0, .pointer (some ⟨kb, 0, none⟩)), (1, .pointer (some ⟨mb, 0, none⟩)), (4, .bool false), (5, .pointer (some ⟨bo, 0, none⟩)), (6, .pointer (some ⟨bc, 0, none⟩)), (7, .slice (some ⟨r3, 0, none⟩) ((kys Z X3).length) c88)]) (φ := True) (rest := []) h95 (by kernel_rfl) rfl trivial fun a96 h97 => ?_
  clear h95
  refine nd_done ?_
  refine hK84 _ _ ?_
  clear hK84
  refine wp_seq_k fun K98 hK98 => ?_
  refine wp_seq_k fun K99 hK99 => ?_
  refine nd_start (l := [0, 1, 2, 3, 4, 5, 6, 7]) rfl ?_
  refine nd_batch tabOk2 tabZ_ok2 [(0, {}), (1, {}), (2, {}), (3, {}), (4, {})] [0, 1, 4, 5, 6, 7, 67, 70] (T' := [(0, .pointer (some ⟨kb, 0, none⟩)), (1, .pointer (some ⟨mb, 0, none⟩)), (4, .bool false), (5, .pointer (some ⟨bo, 0, none⟩)), (6, .pointer (some ⟨bc, 0, none⟩)), (7, .slice (some ⟨r3, 0, none⟩) ((kys Z X3).length) c88), (67, .int .i64 (((kys Z X3).length : Nat) : Int)), (70, .pointer (some ⟨mb, 2, none⟩))]) (φ := True) (rest := [5, 6, 7]) h97 (by kernel_rfl) rfl trivial fun a100 h101 => ?_
  clear h97
  refine nd_op ?_
  refine op_read (b := mb) (v := .map (some Z.tb)) h101 rfl rfl (rd_m h101 (k := 2) (v := .map (some Z.tb)) rfl rfl rfl rfl (md_p ⟨rfl, trivial⟩)) ?_
  have h102 := h101.put (d := some 71) (v := .map (some Z.tb)) (T' := [(71, .map (some Z.tb)), (0, .pointer (some ⟨kb, 0, none⟩)), (1, .pointer (some ⟨mb, 0, none⟩)), (4, .bool false), (5, .pointer (some ⟨bo, 0, none⟩)), (6, .pointer (some ⟨bc, 0, none⟩)), (7, .slice (some ⟨r3, 0, none⟩) ((kys Z X3).length) c88), (67, .int .i64 (((kys Z X3).length : Nat) : Int)), (70, .pointer (some ⟨mb, 2, none⟩))]) rfl
  clear h101
  refine nd_op ?_
  refine op_read (b := Z.tb) (v := .int .i64 ((Z.tl.length : Nat) : Int)) h102 rfl rfl (by rw [show ((Z.tl.length : Nat) : Int) = (((Z.tl.map (tE Z)).length : Nat) : Int) by rw [List.length_map]]; exact rd_len Tryd.underlying99 h102 rfl rfl h102.inv.1.t) ?_
  have h103 := h102.put (d := some 72) (v := .int .i64 ((Z.tl.length : Nat) : Int)) (T' := [(72, .int .i64 ((Z.tl.length : Nat) : Int)), (71, .map (some Z.tb)), (0, .pointer (some ⟨kb, 0, none⟩)), (1, .pointer (some ⟨mb, 0, none⟩)), (4, .bool false), (5, .pointer (some ⟨bo, 0, none⟩)), (6, .pointer (some ⟨bc, 0, none⟩)), (7, .slice (some ⟨r3, 0, none⟩) ((kys Z X3).length) c88), (67, .int .i64 (((kys Z X3).length : Nat) : Int)), (70, .pointer (some ⟨mb, 2, none⟩))]) rfl
  clear h102
  refine nd_batch tabOk2 tabZ_ok2 [(7, {f := 1})] [0, 1, 4, 5, 6, 7, 73] (T' := [(0, .pointer (some ⟨kb, 0, none⟩)), (1, .pointer (some ⟨mb, 0, none⟩)), (4, .bool false), (5, .pointer (some ⟨bo, 0, none⟩)), (6, .pointer (some ⟨bc, 0, none⟩)), (7, .slice (some ⟨r3, 0, none⟩) ((kys Z X3).length) c88), (73, .bool false)]) (φ := (((((kys Z X3).length : Nat) : Int) != ((Z.tl.length : Nat) : Int))) = false ∧ True) (rest := []) h103 (by kernel_rfl) rfl ⟨(by rw [hl3]; simp), trivial⟩ fun a104 h105 => ?_
  clear h103
  refine nd_done ?_
  refine hK99 _ _ ?_
  clear hK99
  refine c_false h105 rfl ?_
  refine wp_skip ?_
  refine hK98 _ _ ?_
  clear hK98
  refine wp_seq_k fun K106 hK106 => ?_
  refine wp_seq_k fun K107 hK107 => ?_
  refine nd_start (l := [0, 1, 2]) rfl ?_
  refine nd_batch tabOk2 tabZ_ok2 [(0, {}), (1, {}), (2, {})] [0, 1, 4, 5, 6, 7, 74, 75, 76] (T' := [(0, .pointer (some ⟨kb, 0, none⟩)), (1, .pointer (some ⟨mb, 0, none⟩)), (4, .bool false), (5, .pointer (some ⟨bo, 0, none⟩)), (6, .pointer (some ⟨bc, 0, none⟩)), (7, .slice (some ⟨r3, 0, none⟩) ((kys Z X3).length) c88), (74, .slice (some ⟨r3, 0, none⟩) ((kys Z X3).length) c88), (75, .int .i64 (((kys Z X3).length : Nat) : Int)), (76, .int .i64 0)]) (φ := True) (rest := []) h105 (by kernel_rfl) rfl trivial fun a108 h109 => ?_
  clear h105
  refine nd_done ?_
  refine hK107 _ _ ?_
  clear hK107
  refine wp_block ?_
  refine wp_loop_ghost (fun g ga gw => ∃ (m : Nat), (g = (kys Z X3).length - m) ∧ (m ≤ (kys Z X3).length) ∧ St (MCx 192 (mdF mb Z R C) w mb Z R a C) [(0, .pointer (some ⟨kb, 0, none⟩)), (1, .pointer (some ⟨mb, 0, none⟩)), (74, .slice (some ⟨r3, 0, none⟩) ((kys Z X3).length) c88), (75, .int .i64 (((kys Z X3).length : Nat) : Int)), (76, .int .i64 ((m : Nat) : Int))] [(3, ⟨[.int .u16 0, .int .u32 0], ty3, true⟩), (r3, ⟨r3cs, 39, false⟩)] ga gw) (kys Z X3).length ⟨0, by omega, by omega, (h109.slotsMono (restr_spec (keep := [0, 1, 74, 75, 76]) rfl))⟩ ?_
  clear h109
  rintro g a110 w111 ⟨m, hi113, hi114, h112⟩
  have hig := hi113
  have hmN := hi114
  refine wp_seq_k fun K115 hK115 => ?_
  refine nd_start (l := [0]) rfl ?_
  refine nd_batch tabOk2 tabZ_ok2 [(0, {})] [0, 1, 74, 75, 76, 77] (T' := [(0, .pointer (some ⟨kb, 0, none⟩)), (1, .pointer (some ⟨mb, 0, none⟩)), (74, .slice (some ⟨r3, 0, none⟩) ((kys Z X3).length) c88), (75, .int .i64 (((kys Z X3).length : Nat) : Int)), (76, .int .i64 ((m : Nat) : Int)), (77, .bool (decide (((m : Nat) : Int) < (((kys Z X3).length : Nat) : Int))))]) (φ := True) (rest := []) h112 (by kernel_rfl) rfl trivial fun a116 h117 => ?_
  clear h112
  refine nd_done ?_
  refine hK115 _ _ ?_
  clear hK115
  refine wp_seq_k fun K118 hK118 => ?_
  refine c_split h117 (b := decide (((m : Nat) : Int) < (((kys Z X3).length : Nat) : Int))) rfl (fun hc119 => ?_) (fun hc119 => ?_)
  ·
    have hc119f : ((m : Nat) : Int) < (((kys Z X3).length : Nat) : Int) := by simpa using hc119
    have hmq : m < X3.length := by rw [kys_len] at hc119f; omega
    obtain ⟨i, hiq⟩ : ∃ i, X3[m]? = some i := ⟨X3[m]'(by omega), by simp⟩
    have hi : i ∈ sl Z.tl := by have h8 : i ∈ liveI C.ent 3 := (by rw [hX3]; exact List.mem_of_getElem? hiq); have h9 := liveI_mem.1 h8; exact (hI.td i h9.1).1 h9.2
    have hky : (kys Z X3)[m]? = some (Z.ky i) := by unfold kys; rw [List.getElem?_map, hiq]; rfl
    refine wp_skip ?_
    refine hK118 _ _ ?_
    clear hK118
    refine wp_seq_k fun K120 hK120 => ?_
    refine wp_block ?_
    refine wp_seq_k fun K121 hK121 => ?_
    refine nd_start (l := [0, 1, 2, 3]) rfl ?_
    refine nd_batch tabOk2 tabZ_ok2 [(0, {}), (1, {k := 1, m := 1, vs := [.int .u16 ((Z.ky i).idx), .int .u32 ((Z.ky i).gen)]})] [0, 1, 74, 75, 76, 79] (T' := [(0, .pointer (some ⟨kb, 0, none⟩)), (1, .pointer (some ⟨mb, 0, none⟩)), (74, .slice (some ⟨r3, 0, none⟩) ((kys Z X3).length) c88), (75, .int .i64 (((kys Z X3).length : Nat) : Int)), (76, .int .i64 ((m : Nat) : Int)), (79, .agg #[.int .u16 ((Z.ky i).idx), .int .u32 ((Z.ky i).gen)])]) (φ := (0 ≤ ((m : Nat) : Int) ∧ ((m : Nat) : Int) < (((kys Z X3).length : Nat) : Int)) ∧ (r3 = r3 ∧ cellsAre r3cs (0 + (m * 2)) [.int .u16 ((Z.ky i).idx), .int .u32 ((Z.ky i).gen)]) ∧ True) (rest := [2, 3]) h117 (by kernel_rfl) rfl ⟨⟨by omega, by omega⟩, ⟨rfl, (by rw [Nat.zero_add]; exact r3all m _ hky)⟩, trivial⟩ fun a122 h123 => ?_
    clear h117
    refine nd_op ?_
    refine op_new tabOk2 (cells := [.int .u16 0, .int .u32 0]) (ty := 39) (ln := none) (L1 := fun b124 => [(3, ⟨[.int .u16 0, .int .u32 0], ty3, true⟩), (r3, ⟨r3cs, 39, false⟩), (b124, ⟨[.int .u16 0, .int .u32 0], 39, false⟩)]) h123 rfl rfl rfl rfl (by kernel_rfl) (fun _ => rfl) fun b124 w125 a126 h127 hf128 hn129 => ?_
    clear h123
    refine nd_op ?_
    refine op_store tabOk2 {k := 2} (L' := [(3, ⟨[.int .u16 0, .int .u32 0], ty3, true⟩), (r3, ⟨r3cs, 39, false⟩), (b124, ⟨[.int .u16 ((Z.ky i).idx), .int .u32 ((Z.ky i).gen)], 39, false⟩)]) (φ := b124 = b124 ∧ Nat.ble (0 + 2) 2 = true) h127 rfl rfl rfl (by kernel_rfl) ⟨rfl, rfl⟩ fun w130 h131 => ?_
    clear h127
    refine nd_done ?_
    refine hK121 _ _ ?_
    clear hK121
    refine wp_seq_k fun K132 hK132 => ?_
    refine nd_start (l := [0, 1, 2, 3, 4, 5, 6, 7, 8]) rfl ?_
    refine nd_batch tabOk2 tabZ_ok2 [(0, {}), (1, {k := 2})] [9, 0, 1, 74, 75, 76, 81, 82] (T' := [(9, .pointer (some ⟨b124, 0, none⟩)), (0, .pointer (some ⟨kb, 0, none⟩)), (1, .pointer (some ⟨mb, 0, none⟩)), (74, .slice (some ⟨r3, 0, none⟩) ((kys Z X3).length) c88), (75, .int .i64 (((kys Z X3).length : Nat) : Int)), (76, .int .i64 ((m : Nat) : Int)), (81, .pointer (some ⟨kb, 0, none⟩)), (82, .agg #[.int .u16 ((Z.ky i).idx), .int .u32 ((Z.ky i).gen)])]) (φ := (b124 = b124 ∧ Nat.ble (0 + 2) 2 = true) ∧ True) (rest := [2, 3, 4, 5, 6, 7, 8]) h131 (by kernel_rfl) rfl ⟨⟨rfl, rfl⟩, trivial⟩ fun a133 h134 => ?_
    clear h131
    refine nd_op ?_
    refine op_call h134 rfl rfl rfl (callOk Tryd.func25 (by decide) rfl) (args := [.pointer (some ⟨kb, 0, none⟩), .agg #[.int .u16 ((Z.ky i).idx), .int .u32 ((Z.ky i).gen)]]) rfl (by have h9 := thread_ok kb bo bc S hrS C.ent h256 (Z.ky i) (by have := hkk.kx i (hkk.tx i hi); have := hkk.tx i hi; omega) _ (kpK hker h134.frame (hdis _ (List.mem_cons_self ..))) (cpK hcap h134.frame hdis).st hkbo; rw [(thread_same hI hkk hv hi).2, (thread_same hI hkk hv hi).1] at h9; exact h9) ?_
    rintro _ w135 ⟨rfl, hf137⟩
    refine ⟨_, rfl, ?_⟩
    have h136 := (h134.grow hf137).put (d := some 83) (v := .tuple #[.agg #[.int .u8 ((a.th i).st), .int .u8 ((a.th i).prio), .int .u16 ((a.th i).wait.idx), .int .u32 ((a.th i).wait.gen), .int .u16 ((a.th i).cs.idx), .int .u32 ((a.th i).cs.gen), .int .u16 ((a.th i).rep.idx), .int .u32 ((a.th i).rep.gen), .int .u64 ((a.th i).badge), .int .u64 ((a.th i).m0), .int .u64 ((a.th i).m1), .int .u64 ((a.th i).m2), .int .u64 ((a.th i).m3), .int .u8 ((a.th i).len), .int .u8 ((a.th i).got), .int .u32 ((a.th i).xfer), .int .u32 ((a.th i).dst), .bool ((a.th i).grant), .bool ((a.th i).call)], .bool true]) (T' := [(83, .tuple #[.agg #[.int .u8 ((a.th i).st), .int .u8 ((a.th i).prio), .int .u16 ((a.th i).wait.idx), .int .u32 ((a.th i).wait.gen), .int .u16 ((a.th i).cs.idx), .int .u32 ((a.th i).cs.gen), .int .u16 ((a.th i).rep.idx), .int .u32 ((a.th i).rep.gen), .int .u64 ((a.th i).badge), .int .u64 ((a.th i).m0), .int .u64 ((a.th i).m1), .int .u64 ((a.th i).m2), .int .u64 ((a.th i).m3), .int .u8 ((a.th i).len), .int .u8 ((a.th i).got), .int .u32 ((a.th i).xfer), .int .u32 ((a.th i).dst), .bool ((a.th i).grant), .bool ((a.th i).call)], .bool true]), (9, .pointer (some ⟨b124, 0, none⟩)), (0, .pointer (some ⟨kb, 0, none⟩)), (1, .pointer (some ⟨mb, 0, none⟩)), (74, .slice (some ⟨r3, 0, none⟩) ((kys Z X3).length) c88), (75, .int .i64 (((kys Z X3).length : Nat) : Int)), (76, .int .i64 ((m : Nat) : Int)), (81, .pointer (some ⟨kb, 0, none⟩)), (82, .agg #[.int .u16 ((Z.ky i).idx), .int .u32 ((Z.ky i).gen)])]) rfl
    clear h134
    refine nd_batch tabOk2 tabZ_ok2 [(3, {}), (4, {}), (5, {})] [9, 0, 1, 74, 75, 76, 84, 85] (T' := [(9, .pointer (some ⟨b124, 0, none⟩)), (0, .pointer (some ⟨kb, 0, none⟩)), (1, .pointer (some ⟨mb, 0, none⟩)), (74, .slice (some ⟨r3, 0, none⟩) ((kys Z X3).length) c88), (75, .int .i64 (((kys Z X3).length : Nat) : Int)), (76, .int .i64 ((m : Nat) : Int)), (84, .agg #[.int .u8 ((a.th i).st), .int .u8 ((a.th i).prio), .int .u16 ((a.th i).wait.idx), .int .u32 ((a.th i).wait.gen), .int .u16 ((a.th i).cs.idx), .int .u32 ((a.th i).cs.gen), .int .u16 ((a.th i).rep.idx), .int .u32 ((a.th i).rep.gen), .int .u64 ((a.th i).badge), .int .u64 ((a.th i).m0), .int .u64 ((a.th i).m1), .int .u64 ((a.th i).m2), .int .u64 ((a.th i).m3), .int .u8 ((a.th i).len), .int .u8 ((a.th i).got), .int .u32 ((a.th i).xfer), .int .u32 ((a.th i).dst), .bool ((a.th i).grant), .bool ((a.th i).call)]), (85, .bool true)]) (φ := True) (rest := [6, 7, 8]) h136 (by kernel_rfl) rfl trivial fun a138 h139 => ?_
    clear h136
    refine nd_op ?_
    refine op_new tabOk2 (cells := [.int .u8 0, .int .u8 0, .int .u16 0, .int .u32 0, .int .u16 0, .int .u32 0, .int .u16 0, .int .u32 0, .int .u64 0, .int .u64 0, .int .u64 0, .int .u64 0, .int .u64 0, .int .u8 0, .int .u8 0, .int .u32 0, .int .u32 0, .bool false, .bool false]) (ty := 59) (ln := none) (L1 := fun b140 => [(3, ⟨[.int .u16 0, .int .u32 0], ty3, true⟩), (r3, ⟨r3cs, 39, false⟩), (b124, ⟨[.int .u16 ((Z.ky i).idx), .int .u32 ((Z.ky i).gen)], 39, false⟩), (b140, ⟨[.int .u8 0, .int .u8 0, .int .u16 0, .int .u32 0, .int .u16 0, .int .u32 0, .int .u16 0, .int .u32 0, .int .u64 0, .int .u64 0, .int .u64 0, .int .u64 0, .int .u64 0, .int .u8 0, .int .u8 0, .int .u32 0, .int .u32 0, .bool false, .bool false], 59, false⟩)]) h139 rfl rfl rfl rfl (by kernel_rfl) (fun _ => rfl) fun b140 w141 a142 h143 hf144 hn145 => ?_
    clear h139
    refine nd_op ?_
    refine op_store tabOk2 {k := 3} (L' := [(3, ⟨[.int .u16 0, .int .u32 0], ty3, true⟩), (r3, ⟨r3cs, 39, false⟩), (b124, ⟨[.int .u16 ((Z.ky i).idx), .int .u32 ((Z.ky i).gen)], 39, false⟩), (b140, ⟨[.int .u8 ((a.th i).st), .int .u8 ((a.th i).prio), .int .u16 ((a.th i).wait.idx), .int .u32 ((a.th i).wait.gen), .int .u16 ((a.th i).cs.idx), .int .u32 ((a.th i).cs.gen), .int .u16 ((a.th i).rep.idx), .int .u32 ((a.th i).rep.gen), .int .u64 ((a.th i).badge), .int .u64 ((a.th i).m0), .int .u64 ((a.th i).m1), .int .u64 ((a.th i).m2), .int .u64 ((a.th i).m3), .int .u8 ((a.th i).len), .int .u8 ((a.th i).got), .int .u32 ((a.th i).xfer), .int .u32 ((a.th i).dst), .bool ((a.th i).grant), .bool ((a.th i).call)], 59, false⟩)]) (φ := b140 = b140 ∧ Nat.ble (0 + 19) 19 = true) h143 rfl rfl rfl (by kernel_rfl) ⟨rfl, rfl⟩ fun w146 h147 => ?_
    clear h143
    refine nd_batch tabOk2 tabZ_ok2 [(8, {})] [10, 9, 0, 1, 74, 75, 76] (T' := [(10, .pointer (some ⟨b140, 0, none⟩)), (9, .pointer (some ⟨b124, 0, none⟩)), (0, .pointer (some ⟨kb, 0, none⟩)), (1, .pointer (some ⟨mb, 0, none⟩)), (74, .slice (some ⟨r3, 0, none⟩) ((kys Z X3).length) c88), (75, .int .i64 (((kys Z X3).length : Nat) : Int)), (76, .int .i64 ((m : Nat) : Int))]) (φ := True) (rest := []) h147 (by kernel_rfl) rfl trivial fun a148 h149 => ?_
    clear h147
    refine nd_done ?_
    refine hK132 _ _ ?_
    clear hK132
    refine wp_seq_k fun K150 hK150 => ?_
    refine dr_start (KB := [3, r3, b124, b140, mb, Z.tb]) (Bi := [[0, 1, 2, 3, 4, 5], [0, 1, 2, 3, 4, 5], [0, 1, 2, 3, 4, 5], [0, 1, 2, 3, 4, 5], [0, 1, 2, 3, 4, 5], [0, 1, 2, 3, 4, 5], [0, 1, 2, 3, 4, 5], [0, 1, 2, 3, 4, 5], [0, 1, 2, 3, 4, 5], [0, 1, 2, 3, 4, 5], [0, 1, 2, 3, 4, 5]]) mixed h149 fun w151 h152 => ?_
    clear h149
    refine dr_batch tabOk2 tabZ_ok2 (by repeat (first | with_reducible exact PF.body | with_reducible apply PF.inB | with_reducible apply PF.next)) [(0, {}), (1, {}), (2, {})] [10, 9, 0, 1, 74, 75, 76, 89] (T' := [(10, .pointer (some ⟨b140, 0, none⟩)), (9, .pointer (some ⟨b124, 0, none⟩)), (0, .pointer (some ⟨kb, 0, none⟩)), (1, .pointer (some ⟨mb, 0, none⟩)), (74, .slice (some ⟨r3, 0, none⟩) ((kys Z X3).length) c88), (75, .int .i64 (((kys Z X3).length : Nat) : Int)), (76, .int .i64 ((m : Nat) : Int)), (89, .pointer (some ⟨mb, 2, none⟩))]) (φ := True) (fuel := 8) h152 (by kernel_rfl) rfl (by kernel_rfl) (by kernel_rfl) ⟨trivial, trivial, trivial, trivial⟩ trivial fun a154 h155 => ?_
    clear h152
    refine dr_read (i := 3) (b := mb) (p := 4) (v := .map (some Z.tb)) (fuel := 7) (by repeat (first | with_reducible exact PF.body | with_reducible apply PF.inB | with_reducible apply PF.next)) h155 rfl rfl rfl (by kernel_rfl) (by kernel_rfl) (by kernel_rfl) rfl (rd_m h155 (k := 2) (v := .map (some Z.tb)) rfl rfl rfl rfl (md_p ⟨rfl, trivial⟩)) ?_
    have h156 := h155.put (d := some 90) (v := .map (some Z.tb)) (T' := [(90, .map (some Z.tb)), (10, .pointer (some ⟨b140, 0, none⟩)), (9, .pointer (some ⟨b124, 0, none⟩)), (0, .pointer (some ⟨kb, 0, none⟩)), (1, .pointer (some ⟨mb, 0, none⟩)), (74, .slice (some ⟨r3, 0, none⟩) ((kys Z X3).length) c88), (75, .int .i64 (((kys Z X3).length : Nat) : Int)), (76, .int .i64 ((m : Nat) : Int)), (89, .pointer (some ⟨mb, 2, none⟩))]) rfl
    clear h155
    refine dr_batch tabOk2 tabZ_ok2 (by repeat (first | with_reducible exact PF.body | with_reducible apply PF.inB | with_reducible apply PF.next)) [(4, {k := 2, p := 2})] [90, 10, 9, 0, 1, 74, 75, 76, 91] (T' := [(90, .map (some Z.tb)), (10, .pointer (some ⟨b140, 0, none⟩)), (9, .pointer (some ⟨b124, 0, none⟩)), (0, .pointer (some ⟨kb, 0, none⟩)), (1, .pointer (some ⟨mb, 0, none⟩)), (74, .slice (some ⟨r3, 0, none⟩) ((kys Z X3).length) c88), (75, .int .i64 (((kys Z X3).length : Nat) : Int)), (76, .int .i64 ((m : Nat) : Int)), (91, .agg #[.int .u16 ((Z.ky i).idx), .int .u32 ((Z.ky i).gen)])]) (φ := (b124 = b124 ∧ Nat.ble (0 + 2) 2 = true) ∧ True) (fuel := 6) h156 (by kernel_rfl) rfl (by kernel_rfl) (by kernel_rfl) ⟨rfl, trivial⟩ ⟨⟨rfl, rfl⟩, trivial⟩ fun a157 h158 => ?_
    clear h156
    refine dr_read (i := 5) (b := Z.tb) (p := 5) (v := .tuple #[.pointer (some ⟨(Z.tp i), 0, none⟩), .bool true]) (fuel := 5) (by repeat (first | with_reducible exact PF.body | with_reducible apply PF.inB | with_reducible apply PF.next)) h158 rfl rfl rfl (by kernel_rfl) (by kernel_rfl) (by kernel_rfl) rfl (rd_TB h158 (x := i) hi rfl rfl rfl) ?_
    have h159 := h158.put (d := some 92) (v := .tuple #[.pointer (some ⟨(Z.tp i), 0, none⟩), .bool true]) (T' := [(92, .tuple #[.pointer (some ⟨(Z.tp i), 0, none⟩), .bool true]), (90, .map (some Z.tb)), (10, .pointer (some ⟨b140, 0, none⟩)), (9, .pointer (some ⟨b124, 0, none⟩)), (0, .pointer (some ⟨kb, 0, none⟩)), (1, .pointer (some ⟨mb, 0, none⟩)), (74, .slice (some ⟨r3, 0, none⟩) ((kys Z X3).length) c88), (75, .int .i64 (((kys Z X3).length : Nat) : Int)), (76, .int .i64 ((m : Nat) : Int)), (91, .agg #[.int .u16 ((Z.ky i).idx), .int .u32 ((Z.ky i).gen)])]) rfl
    clear h158
    refine dr_batch tabOk2 tabZ_ok2 (by repeat (first | with_reducible exact PF.body | with_reducible apply PF.inB | with_reducible apply PF.next)) [(6, {}), (7, {}), (8, {}), (9, {}), (10, {})] [10, 9, 0, 1, 74, 75, 76, 12, 13] (T' := [(10, .pointer (some ⟨b140, 0, none⟩)), (9, .pointer (some ⟨b124, 0, none⟩)), (0, .pointer (some ⟨kb, 0, none⟩)), (1, .pointer (some ⟨mb, 0, none⟩)), (74, .slice (some ⟨r3, 0, none⟩) ((kys Z X3).length) c88), (75, .int .i64 (((kys Z X3).length : Nat) : Int)), (76, .int .i64 ((m : Nat) : Int)), (12, .pointer (some ⟨(Z.tp i), 0, none⟩)), (13, .bool true)]) (φ := True) (fuel := 0) h159 (by kernel_rfl) rfl (by kernel_rfl) (by kernel_rfl) ⟨trivial, trivial, trivial, trivial, trivial, trivial⟩ trivial fun a160 h161 => ?_
    clear h159
    refine wpAnyK_done (by kernel_rfl) ?_ _
    refine hK150 _ _ ?_
    clear hK150
    refine wp_seq_k fun K162 hK162 => ?_
    refine dr_start (KB := [3, r3, b124, b140, (Z.tp i)]) (Bi := [[0, 1, 2, 3, 4], [0, 1, 2, 3, 4], [0, 1, 2, 3, 4], [0, 1, 2, 3, 4], [0, 1, 2, 3, 4], [0, 1, 2, 3, 4], [0, 1, 2, 3, 4], [0, 1, 2, 3, 4], [0, 1, 2, 3, 4]]) mixed h161 fun w163 h164 => ?_
    clear h161
    refine dr_batch tabOk2 tabZ_ok2 (by repeat (first | with_reducible exact PF.body | with_reducible apply PF.inB | with_reducible apply PF.next)) [(0, {}), (1, {}), (2, {}), (3, {k := 3, p := 3}), (4, {}), (5, {})] [10, 9, 0, 1, 74, 75, 76, 12, 13, 97, 98, 100] (T' := [(10, .pointer (some ⟨b140, 0, none⟩)), (9, .pointer (some ⟨b124, 0, none⟩)), (0, .pointer (some ⟨kb, 0, none⟩)), (1, .pointer (some ⟨mb, 0, none⟩)), (74, .slice (some ⟨r3, 0, none⟩) ((kys Z X3).length) c88), (75, .int .i64 (((kys Z X3).length : Nat) : Int)), (76, .int .i64 ((m : Nat) : Int)), (12, .pointer (some ⟨(Z.tp i), 0, none⟩)), (13, .bool true), (97, .bool false), (98, .agg #[.int .u8 ((a.th i).st), .int .u8 ((a.th i).prio), .int .u16 ((a.th i).wait.idx), .int .u32 ((a.th i).wait.gen), .int .u16 ((a.th i).cs.idx), .int .u32 ((a.th i).cs.gen), .int .u16 ((a.th i).rep.idx), .int .u32 ((a.th i).rep.gen), .int .u64 ((a.th i).badge), .int .u64 ((a.th i).m0), .int .u64 ((a.th i).m1), .int .u64 ((a.th i).m2), .int .u64 ((a.th i).m3), .int .u8 ((a.th i).len), .int .u8 ((a.th i).got), .int .u32 ((a.th i).xfer), .int .u32 ((a.th i).dst), .bool ((a.th i).grant), .bool ((a.th i).call)]), (100, .pointer (some ⟨(Z.tp i), 0, none⟩))]) (φ := (b140 = b140 ∧ Nat.ble (0 + 19) 19 = true) ∧ True) (fuel := 3) h164 (by kernel_rfl) rfl (by kernel_rfl) (by kernel_rfl) ⟨trivial, trivial, trivial, rfl, trivial, trivial, trivial⟩ ⟨⟨rfl, rfl⟩, trivial⟩ fun a166 h167 => ?_
    clear h164
    refine dr_read (i := 6) (b := (Z.tp i)) (p := 4) (v := .agg #[.int .u8 ((a.th i).st), .int .u8 ((a.th i).prio), .int .u16 ((a.th i).wait.idx), .int .u32 ((a.th i).wait.gen), .int .u16 ((a.th i).cs.idx), .int .u32 ((a.th i).cs.gen), .int .u16 ((a.th i).rep.idx), .int .u32 ((a.th i).rep.gen), .int .u64 ((a.th i).badge), .int .u64 ((a.th i).m0), .int .u64 ((a.th i).m1), .int .u64 ((a.th i).m2), .int .u64 ((a.th i).m3), .int .u8 ((a.th i).len), .int .u8 ((a.th i).got), .int .u32 ((a.th i).xfer), .int .u32 ((a.th i).dst), .bool ((a.th i).grant), .bool ((a.th i).call)]) (fuel := 2) (by repeat (first | with_reducible exact PF.body | with_reducible apply PF.inB | with_reducible apply PF.next)) h167 rfl rfl rfl (by kernel_rfl) (by kernel_rfl) (by kernel_rfl) rfl (rd_thA h167 (x := i) (k := 0) (vs := [.int .u8 ((a.th i).st), .int .u8 ((a.th i).prio), .int .u16 ((a.th i).wait.idx), .int .u32 ((a.th i).wait.gen), .int .u16 ((a.th i).cs.idx), .int .u32 ((a.th i).cs.gen), .int .u16 ((a.th i).rep.idx), .int .u32 ((a.th i).rep.gen), .int .u64 ((a.th i).badge), .int .u64 ((a.th i).m0), .int .u64 ((a.th i).m1), .int .u64 ((a.th i).m2), .int .u64 ((a.th i).m3), .int .u8 ((a.th i).len), .int .u8 ((a.th i).got), .int .u32 ((a.th i).xfer), .int .u32 ((a.th i).dst), .bool ((a.th i).grant), .bool ((a.th i).call)]) hi rfl rfl rfl rfl rfl ⟨rfl, rfl, rfl, rfl, rfl, rfl, rfl, rfl, rfl, rfl, rfl, rfl, rfl, rfl, rfl, rfl, rfl, rfl, rfl, trivial⟩) ?_
    have h168 := h167.put (d := some 101) (v := .agg #[.int .u8 ((a.th i).st), .int .u8 ((a.th i).prio), .int .u16 ((a.th i).wait.idx), .int .u32 ((a.th i).wait.gen), .int .u16 ((a.th i).cs.idx), .int .u32 ((a.th i).cs.gen), .int .u16 ((a.th i).rep.idx), .int .u32 ((a.th i).rep.gen), .int .u64 ((a.th i).badge), .int .u64 ((a.th i).m0), .int .u64 ((a.th i).m1), .int .u64 ((a.th i).m2), .int .u64 ((a.th i).m3), .int .u8 ((a.th i).len), .int .u8 ((a.th i).got), .int .u32 ((a.th i).xfer), .int .u32 ((a.th i).dst), .bool ((a.th i).grant), .bool ((a.th i).call)]) (T' := [(101, .agg #[.int .u8 ((a.th i).st), .int .u8 ((a.th i).prio), .int .u16 ((a.th i).wait.idx), .int .u32 ((a.th i).wait.gen), .int .u16 ((a.th i).cs.idx), .int .u32 ((a.th i).cs.gen), .int .u16 ((a.th i).rep.idx), .int .u32 ((a.th i).rep.gen), .int .u64 ((a.th i).badge), .int .u64 ((a.th i).m0), .int .u64 ((a.th i).m1), .int .u64 ((a.th i).m2), .int .u64 ((a.th i).m3), .int .u8 ((a.th i).len), .int .u8 ((a.th i).got), .int .u32 ((a.th i).xfer), .int .u32 ((a.th i).dst), .bool ((a.th i).grant), .bool ((a.th i).call)]), (10, .pointer (some ⟨b140, 0, none⟩)), (9, .pointer (some ⟨b124, 0, none⟩)), (0, .pointer (some ⟨kb, 0, none⟩)), (1, .pointer (some ⟨mb, 0, none⟩)), (74, .slice (some ⟨r3, 0, none⟩) ((kys Z X3).length) c88), (75, .int .i64 (((kys Z X3).length : Nat) : Int)), (76, .int .i64 ((m : Nat) : Int)), (12, .pointer (some ⟨(Z.tp i), 0, none⟩)), (13, .bool true), (97, .bool false), (98, .agg #[.int .u8 ((a.th i).st), .int .u8 ((a.th i).prio), .int .u16 ((a.th i).wait.idx), .int .u32 ((a.th i).wait.gen), .int .u16 ((a.th i).cs.idx), .int .u32 ((a.th i).cs.gen), .int .u16 ((a.th i).rep.idx), .int .u32 ((a.th i).rep.gen), .int .u64 ((a.th i).badge), .int .u64 ((a.th i).m0), .int .u64 ((a.th i).m1), .int .u64 ((a.th i).m2), .int .u64 ((a.th i).m3), .int .u8 ((a.th i).len), .int .u8 ((a.th i).got), .int .u32 ((a.th i).xfer), .int .u32 ((a.th i).dst), .bool ((a.th i).grant), .bool ((a.th i).call)]), (100, .pointer (some ⟨(Z.tp i), 0, none⟩))]) rfl
    clear h167
    refine dr_batch tabOk2 tabZ_ok2 (by repeat (first | with_reducible exact PF.body | with_reducible apply PF.inB | with_reducible apply PF.next)) [(7, {f := 1}), (8, {})] [10, 9, 0, 1, 74, 75, 76, 12, 13, 103] (T' := [(10, .pointer (some ⟨b140, 0, none⟩)), (9, .pointer (some ⟨b124, 0, none⟩)), (0, .pointer (some ⟨kb, 0, none⟩)), (1, .pointer (some ⟨mb, 0, none⟩)), (74, .slice (some ⟨r3, 0, none⟩) ((kys Z X3).length) c88), (75, .int .i64 (((kys Z X3).length : Nat) : Int)), (76, .int .i64 ((m : Nat) : Int)), (12, .pointer (some ⟨(Z.tp i), 0, none⟩)), (13, .bool true), (103, .bool false)]) (φ := EqRun Tryd.prog 59 (.agg #[.int .u8 ((a.th i).st), .int .u8 ((a.th i).prio), .int .u16 ((a.th i).wait.idx), .int .u32 ((a.th i).wait.gen), .int .u16 ((a.th i).cs.idx), .int .u32 ((a.th i).cs.gen), .int .u16 ((a.th i).rep.idx), .int .u32 ((a.th i).rep.gen), .int .u64 ((a.th i).badge), .int .u64 ((a.th i).m0), .int .u64 ((a.th i).m1), .int .u64 ((a.th i).m2), .int .u64 ((a.th i).m3), .int .u8 ((a.th i).len), .int .u8 ((a.th i).got), .int .u32 ((a.th i).xfer), .int .u32 ((a.th i).dst), .bool ((a.th i).grant), .bool ((a.th i).call)]) (.agg #[.int .u8 ((a.th i).st), .int .u8 ((a.th i).prio), .int .u16 ((a.th i).wait.idx), .int .u32 ((a.th i).wait.gen), .int .u16 ((a.th i).cs.idx), .int .u32 ((a.th i).cs.gen), .int .u16 ((a.th i).rep.idx), .int .u32 ((a.th i).rep.gen), .int .u64 ((a.th i).badge), .int .u64 ((a.th i).m0), .int .u64 ((a.th i).m1), .int .u64 ((a.th i).m2), .int .u64 ((a.th i).m3), .int .u8 ((a.th i).len), .int .u8 ((a.th i).got), .int .u32 ((a.th i).xfer), .int .u32 ((a.th i).dst), .bool ((a.th i).grant), .bool ((a.th i).call)]) true ∧ True) (fuel := 0) h168 (by kernel_rfl) rfl (by kernel_rfl) (by kernel_rfl) ⟨trivial, trivial, trivial⟩ ⟨(runThS (a.th i)), trivial⟩ fun a169 h170 => ?_
    clear h168
    refine wpAnyK_done (by kernel_rfl) ?_ _
    refine hK162 _ _ ?_
    clear hK162
    refine c_false h170 rfl ?_
    refine wp_skip ?_
    refine hK120 _ _ ?_
    clear hK120
    refine nd_start (l := [0, 1]) rfl ?_
    refine nd_batch tabOk2 tabZ_ok2 [(0, {}), (1, {})] [10, 9, 0, 1, 74, 75, 12, 13, 76] (T' := [(10, .pointer (some ⟨b140, 0, none⟩)), (9, .pointer (some ⟨b124, 0, none⟩)), (0, .pointer (some ⟨kb, 0, none⟩)), (1, .pointer (some ⟨mb, 0, none⟩)), (74, .slice (some ⟨r3, 0, none⟩) ((kys Z X3).length) c88), (75, .int .i64 (((kys Z X3).length : Nat) : Int)), (12, .pointer (some ⟨(Z.tp i), 0, none⟩)), (13, .bool true), (76, .int .i64 (((m : Nat) : Int) + 1))]) (φ := inR .i64 (((m : Nat) : Int) + 1) ∧ True) (rest := []) h170 (by kernel_rfl) rfl ⟨⟨by omega, by omega⟩, trivial⟩ fun a171 h172 => ?_
    clear h170
    refine nd_done ?_
    have h173 := h172.memMono (L' := [(3, ⟨[.int .u16 0, .int .u32 0], ty3, true⟩), (r3, ⟨r3cs, 39, false⟩)]) (List.Sublist.cons_cons _ (List.Sublist.cons_cons _ (List.Sublist.cons _ (List.Sublist.cons _ List.Sublist.slnil))))
    clear h172
    exact ⟨(g - 1), by omega, (m + 1), by omega, by omega, (h173.slotsMono (restr_spec (keep := [0, 1, 74, 75, 76]) rfl))⟩
  ·
    have hc119f : ¬ ((m : Nat) : Int) < (((kys Z X3).length : Nat) : Int) := by simpa using hc119
    refine wp_exit ?_
    refine hK106 _ _ ?_
    clear hK106
    refine wp_seq_k fun K174 hK174 => ?_
    refine wp_seq_k fun K175 hK175 => ?_
    refine nd_start (l := [0]) rfl ?_
    refine nd_batch tabOk2 tabZ_ok2 [(0, {})] [0, 1, 74, 75, 76, 14] (T' := [(0, .pointer (some ⟨kb, 0, none⟩)), (1, .pointer (some ⟨mb, 0, none⟩)), (74, .slice (some ⟨r3, 0, none⟩) ((kys Z X3).length) c88), (75, .int .i64 (((kys Z X3).length : Nat) : Int)), (76, .int .i64 ((m : Nat) : Int)), (14, .int .i64 0)]) (φ := True) (rest := []) h117 (by kernel_rfl) rfl trivial fun a176 h177 => ?_
    clear h117
    refine nd_done ?_
    refine hK175 _ _ ?_
    clear hK175
    refine wp_block ?_
    have h178 := h177.memMono (L' := [(3, ⟨[.int .u16 0, .int .u32 0], ty3, true⟩)]) (List.Sublist.cons_cons _ (List.Sublist.cons _ List.Sublist.slnil))
    clear h177
    refine wp_loop_ghost (fun g ga gw => ∃ (m : Nat), (g = 8 - m) ∧ (m ≤ 8) ∧ St (MCx 192 (mdF mb Z R C) w mb Z R a C) [(0, .pointer (some ⟨kb, 0, none⟩)), (1, .pointer (some ⟨mb, 0, none⟩)), (14, .int .i64 ((m : Nat) : Int))] [(3, ⟨[.int .u16 0, .int .u32 0], ty3, true⟩)] ga gw) 8 ⟨0, by omega, by omega, (h178.slotsMono (restr_spec (keep := [0, 1, 14]) rfl))⟩ ?_
    clear h178
    rintro g a179 w180 ⟨m, hi182, hi183, h181⟩
    have hig := hi182
    have hmN := hi183
    refine wp_seq_k fun K184 hK184 => ?_
    refine wp_seq_k fun K185 hK185 => ?_
    refine nd_start (l := [0, 1]) rfl ?_
    refine nd_batch tabOk2 tabZ_ok2 [(0, {}), (1, {})] [0, 1, 14, 106] (T' := [(0, .pointer (some ⟨kb, 0, none⟩)), (1, .pointer (some ⟨mb, 0, none⟩)), (14, .int .i64 ((m : Nat) : Int)), (106, .bool (decide (((m : Nat) : Int) < 8)))]) (φ := True) (rest := []) h181 (by kernel_rfl) rfl trivial fun a186 h187 => ?_
    clear h181
    refine nd_done ?_
    refine hK185 _ _ ?_
    clear hK185
    refine c_split h187 (b := decide (((m : Nat) : Int) < 8)) rfl (fun hc188 => ?_) (fun hc188 => ?_)
    ·
      have hc188f : ((m : Nat) : Int) < 8 := by simpa using hc188
      refine wp_skip ?_
      refine hK184 _ _ ?_
      clear hK184
      refine wp_seq_k fun K189 hK189 => ?_
      refine wp_block ?_
      refine wp_seq_k fun K190 hK190 => ?_
      refine dr_start (KB := [3, mb]) (Bi := [[0, 1], [0, 1], [1], [0, 1], [0, 1], [0, 1], [0, 1], [0, 1], [0, 1], [], [0, 1]]) mixed h187 fun w191 h192 => ?_
      clear h187
      refine dr_batch tabOk2 tabZ_ok2 (by repeat (first | with_reducible exact PF.body | with_reducible apply PF.inB | with_reducible apply PF.next)) [(0, {}), (1, {}), (3, {}), (4, {}), (5, {}), (6, {}), (7, {})] [0, 1, 14, 109, 110, 116] (T' := [(0, .pointer (some ⟨kb, 0, none⟩)), (1, .pointer (some ⟨mb, 0, none⟩)), (14, .int .i64 ((m : Nat) : Int)), (109, .pointer (some ⟨kb, 0, none⟩)), (110, .int .i64 ((m : Nat) : Int)), (116, .pointer (some ⟨mb, 5 + (m * 1), none⟩))]) (φ := (0 ≤ ((m : Nat) : Int) ∧ ((m : Nat) : Int) < 8) ∧ True) (fuel := 4) h192 (by kernel_rfl) rfl (by kernel_rfl) (by kernel_rfl) ⟨trivial, trivial, trivial, trivial, trivial, trivial, trivial, trivial⟩ ⟨⟨by omega, by omega⟩, trivial⟩ fun a194 h195 => ?_
      clear h192
      refine dr_read (i := 8) (b := mb) (p := 1) (v := .slice (R.ro m) ((kys Z (a.q (.r m))).length) (R.rk m)) (fuel := 3) (by repeat (first | with_reducible exact PF.body | with_reducible apply PF.inB | with_reducible apply PF.next)) h195 rfl rfl rfl (by kernel_rfl) (by kernel_rfl) (by kernel_rfl) rfl (rd_m h195 (k := 5 + (m * 1)) (v := .slice (R.ro m) ((kys Z (a.q (.r m))).length) (R.rk m)) rfl rfl rfl rfl (md_r (p := m) (by omega) (by omega))) ?_
      have h196 := h195.put (d := some 117) (v := .slice (R.ro m) ((kys Z (a.q (.r m))).length) (R.rk m)) (T' := [(117, .slice (R.ro m) ((kys Z (a.q (.r m))).length) (R.rk m)), (0, .pointer (some ⟨kb, 0, none⟩)), (1, .pointer (some ⟨mb, 0, none⟩)), (14, .int .i64 ((m : Nat) : Int)), (109, .pointer (some ⟨kb, 0, none⟩)), (110, .int .i64 ((m : Nat) : Int)), (116, .pointer (some ⟨mb, 5 + (m * 1), none⟩))]) rfl
      clear h195
      refine wpAnyK_one (i := 2) (fuel := 2) (by kernel_rfl) ?_
      have hszhr200 : w.heap.size ≤ _ := h196.frame.size
      refine op_call h196 rfl rfl rfl (callOk Tryd.func30 (by decide) rfl) (args := [.pointer (some ⟨kb, 0, none⟩), .int .i64 ((m : Nat) : Int)]) rfl (by have h9 := ready_ok kb bo bc S hrS C.ent a.q hQ (m : Int) ⟨by omega, by omega⟩ _ (kpK hker h196.frame (hdis _ (List.mem_cons_self ..))) (cpK hcap h196.frame hdis).st hkbo; rw [Int.toNat_natCast, ready_same hI hkk (by omega)] at h9; exact h9) ?_
      rintro _ w203 ⟨o197, c198, F199, rfl, hr200, hf201, hF202⟩
      refine ⟨_, rfl, ?_⟩
      refine ⟨(keepCons (kpM h196.inv.1 (l := .m) trivial (List.mem_cons_self ..) hf201) keepNil), ?_⟩
      have h204 := (h196.grow hf201).put (d := some 111) (v := .slice o197 ((kys Z (a.q (.r m))).length) c198) (T' := [(111, .slice o197 ((kys Z (a.q (.r m))).length) c198), (117, .slice (R.ro m) ((kys Z (a.q (.r m))).length) (R.rk m)), (0, .pointer (some ⟨kb, 0, none⟩)), (1, .pointer (some ⟨mb, 0, none⟩)), (14, .int .i64 ((m : Nat) : Int)), (109, .pointer (some ⟨kb, 0, none⟩)), (110, .int .i64 ((m : Nat) : Int)), (116, .pointer (some ⟨mb, 5 + (m * 1), none⟩))]) rfl
      clear h196
      refine wpAnyK_one (i := 9) (fuel := 1) (by kernel_rfl) ?_
      refine op_call h204 rfl rfl rfl (callOk Tryd.func23 (by decide) rfl) (args := [.slice o197 ((kys Z (a.q (.r m))).length) c198, .slice (R.ro m) ((kys Z (a.q (.r m))).length) (R.rk m)]) rfl (eqRows (by rw [kys_len]; have := hI.mp.len hkk (L := .r m) (show m < 8 by omega); omega) hr200 (h204.inv.1.rr m (by omega) (by rw [hho]; simp)) (fun b hb hq => by have h1 := hF202 b hb; have h2 := hH.md.low b (mem_mdF.2 ⟨.rr m, (show m < 8 by omega), hq⟩); omega)) ?_
      rintro _ w205 ⟨rfl, hf207⟩
      refine ⟨_, rfl, ?_⟩
      have h206 := (h204.grow hf207).put (d := some 118) (v := .bool true) (T' := [(118, .bool true), (111, .slice o197 ((kys Z (a.q (.r m))).length) c198), (117, .slice (R.ro m) ((kys Z (a.q (.r m))).length) (R.rk m)), (0, .pointer (some ⟨kb, 0, none⟩)), (1, .pointer (some ⟨mb, 0, none⟩)), (14, .int .i64 ((m : Nat) : Int)), (109, .pointer (some ⟨kb, 0, none⟩)), (110, .int .i64 ((m : Nat) : Int)), (116, .pointer (some ⟨mb, 5 + (m * 1), none⟩))]) rfl
      refine ⟨keepNil, ?_⟩
      clear h204
      refine dr_batch tabOk2 tabZ_ok2 (by repeat (first | with_reducible exact PF.body | with_reducible apply PF.inB | with_reducible apply PF.next)) [(10, {})] [0, 1, 14, 119] (T' := [(0, .pointer (some ⟨kb, 0, none⟩)), (1, .pointer (some ⟨mb, 0, none⟩)), (14, .int .i64 ((m : Nat) : Int)), (119, .bool false)]) (φ := True) (fuel := 0) h206 (by kernel_rfl) rfl (by kernel_rfl) (by kernel_rfl) ⟨trivial, trivial⟩ trivial fun a208 h209 => ?_
      clear h206
      refine wpAnyK_done (by kernel_rfl) ?_ _
      refine hK190 _ _ ?_
      clear hK190
      refine c_false h209 rfl ?_
      refine wp_skip ?_
      refine hK189 _ _ ?_
      clear hK189
      refine nd_start (l := [0, 1, 2]) rfl ?_
      refine nd_batch tabOk2 tabZ_ok2 [(0, {}), (1, {}), (2, {})] [0, 1, 14] (T' := [(0, .pointer (some ⟨kb, 0, none⟩)), (1, .pointer (some ⟨mb, 0, none⟩)), (14, .int .i64 (((m : Nat) : Int) + 1))]) (φ := inR .i64 (((m : Nat) : Int) + 1) ∧ True) (rest := []) h209 (by kernel_rfl) rfl ⟨⟨by omega, by omega⟩, trivial⟩ fun a210 h211 => ?_
      clear h209
      refine nd_done ?_
      exact ⟨(g - 1), by omega, (m + 1), by omega, by omega, (h211.slotsMono (restr_spec (keep := [0, 1, 14]) rfl))⟩
    ·
      have hc188f : ¬ ((m : Nat) : Int) < 8 := by simpa using hc188
      refine wp_exit ?_
      refine hK174 _ _ ?_
      clear hK174
      refine wp_seq_k fun K212 hK212 => ?_
      refine nd_start (l := [0, 1, 2, 3, 4, 5]) rfl ?_
      refine nd_batch tabOk2 tabZ_ok2 [(0, {})] [0, 1, 14, 120] (T' := [(0, .pointer (some ⟨kb, 0, none⟩)), (1, .pointer (some ⟨mb, 0, none⟩)), (14, .int .i64 ((m : Nat) : Int)), (120, .pointer (some ⟨kb, 0, none⟩))]) (φ := True) (rest := [1, 2, 3, 4, 5]) h187 (by kernel_rfl) rfl trivial fun a213 h214 => ?_
      clear h187
      refine nd_op ?_
      have hlLh222 : ∀ kb ∈ ([(3, ⟨[.int .u16 0, .int .u32 0], ty3, true⟩)] : Mem), kb.1 < _ := fun kb hkb => lt_of_heap (h214.known kb hkb)
      have hlSh222 : w.heap.size ≤ _ := h214.frame.size
      refine op_call h214 rfl rfl rfl (callOk Tryd.func27 (by decide) rfl) (args := [.pointer (some ⟨kb, 0, none⟩), .int .u8 4]) rfl (by have h9 := live_ok kb bo bc S C.ent 4 _ (kpK hker h214.frame (hdis _ (List.mem_cons_self ..))) (cpK hcap h214.frame hdis).st hkbo; rw [live_kys hI, hX4] at h9; exact h9) ?_
      rintro _ w221 ⟨o215, c216, F217, rfl, hr218, hf219, hF220⟩
      refine ⟨_, rfl, ?_⟩
      have h222q := h214.grow hf219
      have h223 := (h222q).put (d := some 121) (v := .slice o215 ((kys Z X4).length) c216) (T' := [(121, .slice o215 ((kys Z X4).length) c216), (0, .pointer (some ⟨kb, 0, none⟩)), (1, .pointer (some ⟨mb, 0, none⟩)), (14, .int .i64 ((m : Nat) : Int)), (120, .pointer (some ⟨kb, 0, none⟩))]) rfl
      clear h214 h222q
      refine nd_batch tabOk2 tabZ_ok2 [(2, {})] [121, 0, 1, 14, 122] (T' := [(121, .slice o215 ((kys Z X4).length) c216), (0, .pointer (some ⟨kb, 0, none⟩)), (1, .pointer (some ⟨mb, 0, none⟩)), (14, .int .i64 ((m : Nat) : Int)), (122, .pointer (some ⟨kb, 0, none⟩))]) (φ := True) (rest := [3, 4, 5]) h223 (by kernel_rfl) rfl trivial fun a224 h225 => ?_
      clear h223
      refine nd_op ?_
      have hlLh233 : ∀ kb ∈ ([(3, ⟨[.int .u16 0, .int .u32 0], ty3, true⟩)] : Mem), kb.1 < _ := fun kb hkb => lt_of_heap (h225.known kb hkb)
      have hlSh233 : w.heap.size ≤ _ := h225.frame.size
      refine op_call h225 rfl rfl rfl (callOk Tryd.func27 (by decide) rfl) (args := [.pointer (some ⟨kb, 0, none⟩), .int .u8 5]) rfl (by have h9 := live_ok kb bo bc S C.ent 5 _ (kpK hker h225.frame (hdis _ (List.mem_cons_self ..))) (cpK hcap h225.frame hdis).st hkbo; rw [live_kys hI, hX5] at h9; exact h9) ?_
      rintro _ w232 ⟨o226, c227, F228, rfl, hr229, hf230, hF231⟩
      refine ⟨_, rfl, ?_⟩
      have h233q := h225.grow hf230
      have hr234 := Row.fr hr218 hf230 (fun _ _ hq => by cases hq)
      have h235 := (h233q).put (d := some 123) (v := .slice o226 ((kys Z X5).length) c227) (T' := [(123, .slice o226 ((kys Z X5).length) c227), (121, .slice o215 ((kys Z X4).length) c216), (0, .pointer (some ⟨kb, 0, none⟩)), (1, .pointer (some ⟨mb, 0, none⟩)), (14, .int .i64 ((m : Nat) : Int)), (122, .pointer (some ⟨kb, 0, none⟩))]) rfl
      clear h225 h233q
      refine nd_op ?_
      refine op_append tabOk2 (e := 39) (so := o215) (n := (kys Z X4).length) (c := c216) (xo := o226) (m := (kys Z X5).length) (cx := c227) (vals := (kys Z X4).flatMap rfC) (vs := (kys Z X5).flatMap rfC) (F := F217) h235 rfl rfl rfl rfl rfl rfl rfl rfl rfl rfl rfl rfl hr234 (src_row hr229) (by rw [kys_len, kys_len]; omega) (allOne_rf _) ?_
      intro o236 c237 F238 w239 hr240 hf241 hF242
      have hr2402 := rl_app (enc := rfC) (xs := (kys Z X4)) (ys := (kys Z X5)) hr240
      have hr240e : (kys Z X4) ++ (kys Z X5) = kys Z (X4 ++ X5) := by simp [kys]
      rw [hr240e] at hr2402
      rw [show (kys Z X4).length + (kys Z X5).length = (kys Z (X4 ++ X5)).length by rw [← hr240e, List.length_append]]
      have h243q := st_new h235 hf241 (fun kb hkb hq => by have h1 := hlLh222 kb hkb; have h2 := hF220 _ hq; omega) (fun b hb hq => by have h1 := hH.md.low b hb; have h2 := hF220 _ hq; omega) (fun b hb => by have h2 := hF220 _ hb; omega)
      obtain ⟨r4, r4cs, hro4, hrb4, hrF4, r4all⟩ := row_all hr2402 (by rw [kys_len]; exact h45l)
      subst hro4 hrF4
      have hge4 : w.heap.size ≤ r4 := (hF242 r4 (by simp)).elim (fun h9 => Nat.le_trans hlSh222 (hF220 _ h9)) (fun h9 => Nat.le_trans h235.frame.size h9)
      have hgl4 : ∀ kb ∈ ([(3, ⟨[.int .u16 0, .int .u32 0], ty3, true⟩)] : Mem), kb.1 ≠ r4 := fun kb hkb e => (hF242 r4 (by simp)).elim (fun h9 => by have h1 := hlLh222 kb hkb; have h2 := hF220 _ h9; omega) (fun h9 => by have h1 := lt_of_heap (h235.known kb hkb); omega)
      have h243r : St _ _ [(3, ⟨[.int .u16 0, .int .u32 0], ty3, true⟩), (r4, ⟨r4cs, 39, false⟩)] _ _ := st_addL h243q hrb4 hgl4 hge4 (fun hq => by have h1 := hH.md.low _ hq; omega)
      clear h243q
      have h244 := (h243r).put (d := some 124) (v := .slice (some ⟨r4, 0, none⟩) ((kys Z (X4 ++ X5)).length) c237) (T' := [(124, .slice (some ⟨r4, 0, none⟩) ((kys Z (X4 ++ X5)).length) c237), (123, .slice o226 ((kys Z X5).length) c227), (121, .slice o215 ((kys Z X4).length) c216), (0, .pointer (some ⟨kb, 0, none⟩)), (1, .pointer (some ⟨mb, 0, none⟩)), (14, .int .i64 ((m : Nat) : Int)), (122, .pointer (some ⟨kb, 0, none⟩))]) rfl
      clear h235 h243r
      refine nd_batch tabOk2 tabZ_ok2 [(5, {})] [0, 1, 14, 15] (T' := [(0, .pointer (some ⟨kb, 0, none⟩)), (1, .pointer (some ⟨mb, 0, none⟩)), (14, .int .i64 ((m : Nat) : Int)), (15, .slice (some ⟨r4, 0, none⟩) ((kys Z (X4 ++ X5)).length) c237)]) (φ := True) (rest := []) h244 (by kernel_rfl) rfl trivial fun a245 h246 => ?_
      clear h244
      refine nd_done ?_
      refine hK212 _ _ ?_
      clear hK212
      refine wp_seq_k fun K247 hK247 => ?_
      refine wp_seq_k fun K248 hK248 => ?_
      refine nd_start (l := [0, 1, 2, 3, 4, 5, 6, 7]) rfl ?_
      refine nd_batch tabOk2 tabZ_ok2 [(0, {}), (1, {}), (2, {}), (3, {}), (4, {})] [0, 1, 14, 15, 126, 129] (T' := [(0, .pointer (some ⟨kb, 0, none⟩)), (1, .pointer (some ⟨mb, 0, none⟩)), (14, .int .i64 ((m : Nat) : Int)), (15, .slice (some ⟨r4, 0, none⟩) ((kys Z (X4 ++ X5)).length) c237), (126, .int .i64 (((kys Z (X4 ++ X5)).length : Nat) : Int)), (129, .pointer (some ⟨mb, 3, none⟩))]) (φ := True) (rest := [5, 6, 7]) h246 (by kernel_rfl) rfl trivial fun a249 h250 => ?_
      clear h246
      refine nd_op ?_
      refine op_read (b := mb) (v := .map (some Z.qb)) h250 rfl rfl (rd_m h250 (k := 3) (v := .map (some Z.qb)) rfl rfl rfl rfl (md_p ⟨rfl, trivial⟩)) ?_
      have h251 := h250.put (d := some 130) (v := .map (some Z.qb)) (T' := [(130, .map (some Z.qb)), (0, .pointer (some ⟨kb, 0, none⟩)), (1, .pointer (some ⟨mb, 0, none⟩)), (14, .int .i64 ((m : Nat) : Int)), (15, .slice (some ⟨r4, 0, none⟩) ((kys Z (X4 ++ X5)).length) c237), (126, .int .i64 (((kys Z (X4 ++ X5)).length : Nat) : Int)), (129, .pointer (some ⟨mb, 3, none⟩))]) rfl
      clear h250
      refine nd_op ?_
      refine op_read (b := Z.qb) (v := .int .i64 ((Z.ql.length : Nat) : Int)) h251 rfl rfl (by rw [show ((Z.ql.length : Nat) : Int) = (((Z.ql.map (qE Z R a)).length : Nat) : Int) by rw [List.length_map]]; exact rd_len Tryd.underlying100 h251 rfl rfl h251.inv.1.q) ?_
      have h252 := h251.put (d := some 131) (v := .int .i64 ((Z.ql.length : Nat) : Int)) (T' := [(131, .int .i64 ((Z.ql.length : Nat) : Int)), (130, .map (some Z.qb)), (0, .pointer (some ⟨kb, 0, none⟩)), (1, .pointer (some ⟨mb, 0, none⟩)), (14, .int .i64 ((m : Nat) : Int)), (15, .slice (some ⟨r4, 0, none⟩) ((kys Z (X4 ++ X5)).length) c237), (126, .int .i64 (((kys Z (X4 ++ X5)).length : Nat) : Int)), (129, .pointer (some ⟨mb, 3, none⟩))]) rfl
      clear h251
      refine nd_batch tabOk2 tabZ_ok2 [(7, {f := 1})] [0, 1, 14, 15, 132] (T' := [(0, .pointer (some ⟨kb, 0, none⟩)), (1, .pointer (some ⟨mb, 0, none⟩)), (14, .int .i64 ((m : Nat) : Int)), (15, .slice (some ⟨r4, 0, none⟩) ((kys Z (X4 ++ X5)).length) c237), (132, .bool false)]) (φ := (((((kys Z (X4 ++ X5)).length : Nat) : Int) != ((Z.ql.length : Nat) : Int))) = false ∧ True) (rest := []) h252 (by kernel_rfl) rfl ⟨(by rw [hl45]; simp), trivial⟩ fun a253 h254 => ?_
      clear h252
      refine nd_done ?_
      refine hK248 _ _ ?_
      clear hK248
      refine c_false h254 rfl ?_
      refine wp_skip ?_
      refine hK247 _ _ ?_
      clear hK247
      refine wp_seq_k fun K255 hK255 => ?_
      refine wp_seq_k fun K256 hK256 => ?_
      refine nd_start (l := [0, 1, 2]) rfl ?_
      refine nd_batch tabOk2 tabZ_ok2 [(0, {}), (1, {}), (2, {})] [0, 1, 14, 15, 133, 134, 135] (T' := [(0, .pointer (some ⟨kb, 0, none⟩)), (1, .pointer (some ⟨mb, 0, none⟩)), (14, .int .i64 ((m : Nat) : Int)), (15, .slice (some ⟨r4, 0, none⟩) ((kys Z (X4 ++ X5)).length) c237), (133, .slice (some ⟨r4, 0, none⟩) ((kys Z (X4 ++ X5)).length) c237), (134, .int .i64 (((kys Z (X4 ++ X5)).length : Nat) : Int)), (135, .int .i64 0)]) (φ := True) (rest := []) h254 (by kernel_rfl) rfl trivial fun a257 h258 => ?_
      clear h254
      refine nd_done ?_
      refine hK256 _ _ ?_
      clear hK256
      refine wp_block ?_
      refine wp_loop_ghost (fun g ga gw => ∃ (m : Nat), (g = (kys Z (X4 ++ X5)).length - m) ∧ (m ≤ (kys Z (X4 ++ X5)).length) ∧ St (MCx 192 (mdF mb Z R C) w mb Z R a C) [(0, .pointer (some ⟨kb, 0, none⟩)), (1, .pointer (some ⟨mb, 0, none⟩)), (133, .slice (some ⟨r4, 0, none⟩) ((kys Z (X4 ++ X5)).length) c237), (134, .int .i64 (((kys Z (X4 ++ X5)).length : Nat) : Int)), (135, .int .i64 ((m : Nat) : Int))] [(3, ⟨[.int .u16 0, .int .u32 0], ty3, true⟩), (r4, ⟨r4cs, 39, false⟩)] ga gw) (kys Z (X4 ++ X5)).length ⟨0, by omega, by omega, (h258.slotsMono (restr_spec (keep := [0, 1, 133, 134, 135]) rfl))⟩ ?_
      clear h258
      rintro g a259 w260 ⟨m, hi262, hi263, h261⟩
      have hig := hi262
      have hmN := hi263
      refine wp_seq_k fun K264 hK264 => ?_
      refine nd_start (l := [0]) rfl ?_
      refine nd_batch tabOk2 tabZ_ok2 [(0, {})] [0, 1, 133, 134, 135, 136] (T' := [(0, .pointer (some ⟨kb, 0, none⟩)), (1, .pointer (some ⟨mb, 0, none⟩)), (133, .slice (some ⟨r4, 0, none⟩) ((kys Z (X4 ++ X5)).length) c237), (134, .int .i64 (((kys Z (X4 ++ X5)).length : Nat) : Int)), (135, .int .i64 ((m : Nat) : Int)), (136, .bool (decide (((m : Nat) : Int) < (((kys Z (X4 ++ X5)).length : Nat) : Int))))]) (φ := True) (rest := []) h261 (by kernel_rfl) rfl trivial fun a265 h266 => ?_
      clear h261
      refine nd_done ?_
      refine hK264 _ _ ?_
      clear hK264
      refine wp_seq_k fun K267 hK267 => ?_
      refine c_split h266 (b := decide (((m : Nat) : Int) < (((kys Z (X4 ++ X5)).length : Nat) : Int))) rfl (fun hc268 => ?_) (fun hc268 => ?_)
      ·
        have hc268f : ((m : Nat) : Int) < (((kys Z (X4 ++ X5)).length : Nat) : Int) := by simpa using hc268
        have hmq : m < (X4 ++ X5).length := by rw [kys_len] at hc268f; omega
        obtain ⟨i, hiq⟩ : ∃ i, (X4 ++ X5)[m]? = some i := ⟨(X4 ++ X5)[m]'(by omega), by simp⟩
        have hi : i ∈ sl Z.ql := (List.mem_append.1 (List.mem_of_getElem? hiq)).elim (fun h8 => by have h9 : i ∈ liveI C.ent 4 := (by rw [hX4]; exact h8); exact (hI.qd i (liveI_mem.1 h9).1).1 (.inl (liveI_mem.1 h9).2)) (fun h8 => by have h9 : i ∈ liveI C.ent 5 := (by rw [hX5]; exact h8); exact (hI.qd i (liveI_mem.1 h9).1).1 (.inr (liveI_mem.1 h9).2))
        have hky : (kys Z (X4 ++ X5))[m]? = some (Z.ky i) := by unfold kys; rw [List.getElem?_map, hiq]; rfl
        refine wp_skip ?_
        refine hK267 _ _ ?_
        clear hK267
        refine wp_seq_k fun K269 hK269 => ?_
        refine wp_block ?_
        refine wp_seq_k fun K270 hK270 => ?_
        refine nd_start (l := [0, 1, 2, 3]) rfl ?_
        refine nd_batch tabOk2 tabZ_ok2 [(0, {}), (1, {k := 1, m := 1, vs := [.int .u16 ((Z.ky i).idx), .int .u32 ((Z.ky i).gen)]})] [0, 1, 133, 134, 135, 138] (T' := [(0, .pointer (some ⟨kb, 0, none⟩)), (1, .pointer (some ⟨mb, 0, none⟩)), (133, .slice (some ⟨r4, 0, none⟩) ((kys Z (X4 ++ X5)).length) c237), (134, .int .i64 (((kys Z (X4 ++ X5)).length : Nat) : Int)), (135, .int .i64 ((m : Nat) : Int)), (138, .agg #[.int .u16 ((Z.ky i).idx), .int .u32 ((Z.ky i).gen)])]) (φ := (0 ≤ ((m : Nat) : Int) ∧ ((m : Nat) : Int) < (((kys Z (X4 ++ X5)).length : Nat) : Int)) ∧ (r4 = r4 ∧ cellsAre r4cs (0 + (m * 2)) [.int .u16 ((Z.ky i).idx), .int .u32 ((Z.ky i).gen)]) ∧ True) (rest := [2, 3]) h266 (by kernel_rfl) rfl ⟨⟨by omega, by omega⟩, ⟨rfl, (by rw [Nat.zero_add]; exact r4all m _ hky)⟩, trivial⟩ fun a271 h272 => ?_
        clear h266
        refine nd_op ?_
        refine op_new tabOk2 (cells := [.int .u16 0, .int .u32 0]) (ty := 39) (ln := none) (L1 := fun b273 => [(3, ⟨[.int .u16 0, .int .u32 0], ty3, true⟩), (r4, ⟨r4cs, 39, false⟩), (b273, ⟨[.int .u16 0, .int .u32 0], 39, false⟩)]) h272 rfl rfl rfl rfl (by kernel_rfl) (fun _ => rfl) fun b273 w274 a275 h276 hf277 hn278 => ?_
        clear h272
        refine nd_op ?_
        refine op_store tabOk2 {k := 2} (L' := [(3, ⟨[.int .u16 0, .int .u32 0], ty3, true⟩), (r4, ⟨r4cs, 39, false⟩), (b273, ⟨[.int .u16 ((Z.ky i).idx), .int .u32 ((Z.ky i).gen)], 39, false⟩)]) (φ := b273 = b273 ∧ Nat.ble (0 + 2) 2 = true) h276 rfl rfl rfl (by kernel_rfl) ⟨rfl, rfl⟩ fun w279 h280 => ?_
        clear h276
        refine nd_done ?_
        refine hK270 _ _ ?_
        clear hK270
        refine wp_seq_k fun K281 hK281 => ?_
        rcases Bool.eq_false_or_eq_true ((decide (0 < (a.q (.w i)).length))) with hb282 | hb282
        ·
          have hqn := of_decide_eq_true hb282
          refine nd_start (l := [0, 1, 2, 3, 4, 5, 6, 7]) rfl ?_
          refine nd_batch tabOk2 tabZ_ok2 [(0, {}), (1, {k := 2})] [17, 0, 1, 133, 134, 135, 140, 141] (T' := [(17, .pointer (some ⟨b273, 0, none⟩)), (0, .pointer (some ⟨kb, 0, none⟩)), (1, .pointer (some ⟨mb, 0, none⟩)), (133, .slice (some ⟨r4, 0, none⟩) ((kys Z (X4 ++ X5)).length) c237), (134, .int .i64 (((kys Z (X4 ++ X5)).length : Nat) : Int)), (135, .int .i64 ((m : Nat) : Int)), (140, .pointer (some ⟨kb, 0, none⟩)), (141, .agg #[.int .u16 ((Z.ky i).idx), .int .u32 ((Z.ky i).gen)])]) (φ := (b273 = b273 ∧ Nat.ble (0 + 2) 2 = true) ∧ True) (rest := [2, 3, 4, 5, 6, 7]) h280 (by kernel_rfl) rfl ⟨⟨rfl, rfl⟩, trivial⟩ fun a283 h284 => ?_
          clear h280
          refine nd_op ?_
          refine op_call h284 rfl rfl rfl (callOk Tryd.func20 (by decide) rfl) (args := [.pointer (some ⟨kb, 0, none⟩), .agg #[.int .u16 ((Z.ky i).idx), .int .u32 ((Z.ky i).gen)]]) rfl (waitersE kb bo bc S hrS h256 hQ (Z.ky i) (by have := hkk.kx i (hkk.qx i hi); have := hkk.qx i hi; omega) _ (kpK hker h284.frame (hdis _ (List.mem_cons_self ..))) (cpK hcap h284.frame hdis).st hkbo (waiters_same hI hkk hv hi)) ?_
          rintro _ w291 ⟨o285, c286, F287, rfl, hr288, hf289, hF290⟩
          refine ⟨_, rfl, ?_⟩
          have hwp : 0 < (kys Z (a.q (.w i))).length := by rw [kys_len]; exact hqn
          have hr1 := hr288.1
          obtain ⟨r5, r5cs, hro5, hrb5, r5l, r5c, r5t, r5F⟩ := Row.open_ hr288 hwp
          have hrF5 : F287 = [r5] := r5F
          have hro6 : o285 = some ⟨r5, 0, none⟩ := hro5
          subst hro6 hrF5
          have hge5 : w.heap.size ≤ r5 := Nat.le_trans h284.frame.size (hF290 r5 (by simp))
          have h292q : St _ _ [(3, ⟨[.int .u16 0, .int .u32 0], ty3, true⟩), (r4, ⟨r4cs, 39, false⟩), (b273, ⟨[.int .u16 ((Z.ky i).idx), .int .u32 ((Z.ky i).gen)], 39, false⟩), (r5, ⟨r5cs, 39, false⟩)] _ _ := h284.fresh hf289 (hF290 r5 (by simp)) hrb5
          have h293 := (h292q).put (d := some 142) (v := .tuple #[.slice (some ⟨r5, 0, none⟩) ((kys Z (a.q (.w i))).length) c286, .int .u64 (a.word i)]) (T' := [(142, .tuple #[.slice (some ⟨r5, 0, none⟩) ((kys Z (a.q (.w i))).length) c286, .int .u64 (a.word i)]), (17, .pointer (some ⟨b273, 0, none⟩)), (0, .pointer (some ⟨kb, 0, none⟩)), (1, .pointer (some ⟨mb, 0, none⟩)), (133, .slice (some ⟨r4, 0, none⟩) ((kys Z (X4 ++ X5)).length) c237), (134, .int .i64 (((kys Z (X4 ++ X5)).length : Nat) : Int)), (135, .int .i64 ((m : Nat) : Int)), (140, .pointer (some ⟨kb, 0, none⟩)), (141, .agg #[.int .u16 ((Z.ky i).idx), .int .u32 ((Z.ky i).gen)])]) rfl
          clear h284 h292q
          refine nd_batch tabOk2 tabZ_ok2 [(3, {}), (4, {}), (5, {}), (6, {}), (7, {})] [17, 0, 1, 133, 134, 135, 18, 19] (T' := [(17, .pointer (some ⟨b273, 0, none⟩)), (0, .pointer (some ⟨kb, 0, none⟩)), (1, .pointer (some ⟨mb, 0, none⟩)), (133, .slice (some ⟨r4, 0, none⟩) ((kys Z (X4 ++ X5)).length) c237), (134, .int .i64 (((kys Z (X4 ++ X5)).length : Nat) : Int)), (135, .int .i64 ((m : Nat) : Int)), (18, .slice (some ⟨r5, 0, none⟩) ((kys Z (a.q (.w i))).length) c286), (19, .int .u64 (a.word i))]) (φ := True) (rest := []) h293 (by kernel_rfl) rfl trivial fun a294 h295 => ?_
          clear h293
          refine nd_done ?_
          refine hK281 _ _ ?_
          clear hK281
          refine wp_seq_k fun K296 hK296 => ?_
          refine dr_start (KB := [3, r4, b273, r5, mb, Z.qb]) (Bi := [[0, 1, 2, 3, 4, 5], [0, 1, 2, 3, 4, 5], [0, 1, 2, 3, 4, 5], [0, 1, 2, 3, 4, 5], [0, 1, 2, 3, 4, 5], [0, 1, 2, 3, 4, 5], [0, 1, 2, 3, 4, 5], [0, 1, 2, 3, 4, 5], [0, 1, 2, 3, 4, 5], [0, 1, 2, 3, 4, 5], [0, 1, 2, 3, 4, 5]]) mixed h295 fun w297 h298 => ?_
          clear h295
          refine dr_batch tabOk2 tabZ_ok2 (by repeat (first | with_reducible exact PF.body | with_reducible apply PF.inB | with_reducible apply PF.next)) [(0, {}), (1, {}), (2, {})] [17, 0, 1, 133, 134, 135, 18, 19, 148] (T' := [(17, .pointer (some ⟨b273, 0, none⟩)), (0, .pointer (some ⟨kb, 0, none⟩)), (1, .pointer (some ⟨mb, 0, none⟩)), (133, .slice (some ⟨r4, 0, none⟩) ((kys Z (X4 ++ X5)).length) c237), (134, .int .i64 (((kys Z (X4 ++ X5)).length : Nat) : Int)), (135, .int .i64 ((m : Nat) : Int)), (18, .slice (some ⟨r5, 0, none⟩) ((kys Z (a.q (.w i))).length) c286), (19, .int .u64 (a.word i)), (148, .pointer (some ⟨mb, 3, none⟩))]) (φ := True) (fuel := 8) h298 (by kernel_rfl) rfl (by kernel_rfl) (by kernel_rfl) ⟨trivial, trivial, trivial, trivial⟩ trivial fun a300 h301 => ?_
          clear h298
          refine dr_read (i := 3) (b := mb) (p := 4) (v := .map (some Z.qb)) (fuel := 7) (by repeat (first | with_reducible exact PF.body | with_reducible apply PF.inB | with_reducible apply PF.next)) h301 rfl rfl rfl (by kernel_rfl) (by kernel_rfl) (by kernel_rfl) rfl (rd_m h301 (k := 3) (v := .map (some Z.qb)) rfl rfl rfl rfl (md_p ⟨rfl, trivial⟩)) ?_
          have h302 := h301.put (d := some 149) (v := .map (some Z.qb)) (T' := [(149, .map (some Z.qb)), (17, .pointer (some ⟨b273, 0, none⟩)), (0, .pointer (some ⟨kb, 0, none⟩)), (1, .pointer (some ⟨mb, 0, none⟩)), (133, .slice (some ⟨r4, 0, none⟩) ((kys Z (X4 ++ X5)).length) c237), (134, .int .i64 (((kys Z (X4 ++ X5)).length : Nat) : Int)), (135, .int .i64 ((m : Nat) : Int)), (18, .slice (some ⟨r5, 0, none⟩) ((kys Z (a.q (.w i))).length) c286), (19, .int .u64 (a.word i)), (148, .pointer (some ⟨mb, 3, none⟩))]) rfl
          clear h301
          refine dr_batch tabOk2 tabZ_ok2 (by repeat (first | with_reducible exact PF.body | with_reducible apply PF.inB | with_reducible apply PF.next)) [(4, {k := 2, p := 2})] [149, 17, 0, 1, 133, 134, 135, 18, 19, 150] (T' := [(149, .map (some Z.qb)), (17, .pointer (some ⟨b273, 0, none⟩)), (0, .pointer (some ⟨kb, 0, none⟩)), (1, .pointer (some ⟨mb, 0, none⟩)), (133, .slice (some ⟨r4, 0, none⟩) ((kys Z (X4 ++ X5)).length) c237), (134, .int .i64 (((kys Z (X4 ++ X5)).length : Nat) : Int)), (135, .int .i64 ((m : Nat) : Int)), (18, .slice (some ⟨r5, 0, none⟩) ((kys Z (a.q (.w i))).length) c286), (19, .int .u64 (a.word i)), (150, .agg #[.int .u16 ((Z.ky i).idx), .int .u32 ((Z.ky i).gen)])]) (φ := (b273 = b273 ∧ Nat.ble (0 + 2) 2 = true) ∧ True) (fuel := 6) h302 (by kernel_rfl) rfl (by kernel_rfl) (by kernel_rfl) ⟨rfl, trivial⟩ ⟨⟨rfl, rfl⟩, trivial⟩ fun a303 h304 => ?_
          clear h302
          refine dr_read (i := 5) (b := Z.qb) (p := 5) (v := .tuple #[.slice (R.qo i) ((kys Z (a.q (.w i))).length) (R.qk i), .bool true]) (fuel := 5) (by repeat (first | with_reducible exact PF.body | with_reducible apply PF.inB | with_reducible apply PF.next)) h304 rfl rfl rfl (by kernel_rfl) (by kernel_rfl) (by kernel_rfl) rfl (rd_QB h304 (x := i) hi rfl rfl rfl) ?_
          have h305 := h304.put (d := some 151) (v := .tuple #[.slice (R.qo i) ((kys Z (a.q (.w i))).length) (R.qk i), .bool true]) (T' := [(151, .tuple #[.slice (R.qo i) ((kys Z (a.q (.w i))).length) (R.qk i), .bool true]), (149, .map (some Z.qb)), (17, .pointer (some ⟨b273, 0, none⟩)), (0, .pointer (some ⟨kb, 0, none⟩)), (1, .pointer (some ⟨mb, 0, none⟩)), (133, .slice (some ⟨r4, 0, none⟩) ((kys Z (X4 ++ X5)).length) c237), (134, .int .i64 (((kys Z (X4 ++ X5)).length : Nat) : Int)), (135, .int .i64 ((m : Nat) : Int)), (18, .slice (some ⟨r5, 0, none⟩) ((kys Z (a.q (.w i))).length) c286), (19, .int .u64 (a.word i)), (150, .agg #[.int .u16 ((Z.ky i).idx), .int .u32 ((Z.ky i).gen)])]) rfl
          clear h304
          refine dr_batch tabOk2 tabZ_ok2 (by repeat (first | with_reducible exact PF.body | with_reducible apply PF.inB | with_reducible apply PF.next)) [(6, {}), (7, {}), (8, {}), (9, {}), (10, {})] [17, 0, 1, 133, 134, 135, 18, 19, 21] (T' := [(17, .pointer (some ⟨b273, 0, none⟩)), (0, .pointer (some ⟨kb, 0, none⟩)), (1, .pointer (some ⟨mb, 0, none⟩)), (133, .slice (some ⟨r4, 0, none⟩) ((kys Z (X4 ++ X5)).length) c237), (134, .int .i64 (((kys Z (X4 ++ X5)).length : Nat) : Int)), (135, .int .i64 ((m : Nat) : Int)), (18, .slice (some ⟨r5, 0, none⟩) ((kys Z (a.q (.w i))).length) c286), (19, .int .u64 (a.word i)), (21, .bool true)]) (φ := True) (fuel := 0) h305 (by kernel_rfl) rfl (by kernel_rfl) (by kernel_rfl) ⟨trivial, trivial, trivial, trivial, trivial, trivial⟩ trivial fun a306 h307 => ?_
          clear h305
          refine wpAnyK_done (by kernel_rfl) ?_ _
          refine hK296 _ _ ?_
          clear hK296
          refine wp_seq_k fun K308 hK308 => ?_
          refine dr_start (KB := [3, r4, b273, r5, mb, Z.qb, Z.wb]) (Bi := [[0, 1, 2, 3, 4, 5, 6], [0, 1, 2, 3, 4, 5, 6], [0, 1, 2, 3, 4, 5, 6], [0, 1, 2, 3, 4, 5, 6], [0, 1, 2, 3, 4, 5, 6], [0, 1, 2, 3, 4, 5, 6], [0, 1, 2, 3, 4, 5, 6], [0, 1, 2, 3, 4, 5, 6], [0, 1, 2, 3, 4, 5, 6], [0, 1, 2, 3, 4, 5, 6], [], [0, 1, 2, 3, 4, 5, 6], [0, 1, 2, 3, 4, 5, 6], [0, 1, 2, 3, 4, 5, 6], [0, 1, 2, 3, 4, 5, 6], [0, 1, 2, 3, 4, 5, 6], [0, 1, 2, 3, 4, 5, 6], [0, 1, 2, 3, 4, 5, 6], [0, 1, 2, 3, 4, 5, 6], [0, 1, 2, 3, 4, 5, 6], [0, 1, 2, 3, 4, 5, 6], [0, 1, 2, 3, 4, 5, 6], [0, 1, 2, 3, 4, 5, 6]]) mixed h307 fun w309 h310 => ?_
          clear h307
          refine dr_batch tabOk2 tabZ_ok2 (by repeat (first | with_reducible exact PF.body | with_reducible apply PF.inB | with_reducible apply PF.next)) [(0, {}), (1, {}), (2, {}), (3, {}), (4, {}), (5, {}), (6, {})] [17, 0, 1, 133, 134, 135, 18, 19, 21, 156, 157, 160] (T' := [(17, .pointer (some ⟨b273, 0, none⟩)), (0, .pointer (some ⟨kb, 0, none⟩)), (1, .pointer (some ⟨mb, 0, none⟩)), (133, .slice (some ⟨r4, 0, none⟩) ((kys Z (X4 ++ X5)).length) c237), (134, .int .i64 (((kys Z (X4 ++ X5)).length : Nat) : Int)), (135, .int .i64 ((m : Nat) : Int)), (18, .slice (some ⟨r5, 0, none⟩) ((kys Z (a.q (.w i))).length) c286), (19, .int .u64 (a.word i)), (21, .bool true), (156, .bool false), (157, .slice (some ⟨r5, 0, none⟩) ((kys Z (a.q (.w i))).length) c286), (160, .pointer (some ⟨mb, 3, none⟩))]) (φ := True) (fuel := 16) h310 (by kernel_rfl) rfl (by kernel_rfl) (by kernel_rfl) ⟨trivial, trivial, trivial, trivial, trivial, trivial, trivial, trivial⟩ trivial fun a312 h313 => ?_
          clear h310
          refine dr_read (i := 7) (b := mb) (p := 4) (v := .map (some Z.qb)) (fuel := 15) (by repeat (first | with_reducible exact PF.body | with_reducible apply PF.inB | with_reducible apply PF.next)) h313 rfl rfl rfl (by kernel_rfl) (by kernel_rfl) (by kernel_rfl) rfl (rd_m h313 (k := 3) (v := .map (some Z.qb)) rfl rfl rfl rfl (md_p ⟨rfl, trivial⟩)) ?_
          have h314 := h313.put (d := some 161) (v := .map (some Z.qb)) (T' := [(161, .map (some Z.qb)), (17, .pointer (some ⟨b273, 0, none⟩)), (0, .pointer (some ⟨kb, 0, none⟩)), (1, .pointer (some ⟨mb, 0, none⟩)), (133, .slice (some ⟨r4, 0, none⟩) ((kys Z (X4 ++ X5)).length) c237), (134, .int .i64 (((kys Z (X4 ++ X5)).length : Nat) : Int)), (135, .int .i64 ((m : Nat) : Int)), (18, .slice (some ⟨r5, 0, none⟩) ((kys Z (a.q (.w i))).length) c286), (19, .int .u64 (a.word i)), (21, .bool true), (156, .bool false), (157, .slice (some ⟨r5, 0, none⟩) ((kys Z (a.q (.w i))).length) c286), (160, .pointer (some ⟨mb, 3, none⟩))]) rfl
          clear h313
          refine dr_batch tabOk2 tabZ_ok2 (by repeat (first | with_reducible exact PF.body | with_reducible apply PF.inB | with_reducible apply PF.next)) [(8, {k := 2, p := 2})] [161, 17, 0, 1, 133, 134, 135, 18, 19, 21, 156, 157, 162] (T' := [(161, .map (some Z.qb)), (17, .pointer (some ⟨b273, 0, none⟩)), (0, .pointer (some ⟨kb, 0, none⟩)), (1, .pointer (some ⟨mb, 0, none⟩)), (133, .slice (some ⟨r4, 0, none⟩) ((kys Z (X4 ++ X5)).length) c237), (134, .int .i64 (((kys Z (X4 ++ X5)).length : Nat) : Int)), (135, .int .i64 ((m : Nat) : Int)), (18, .slice (some ⟨r5, 0, none⟩) ((kys Z (a.q (.w i))).length) c286), (19, .int .u64 (a.word i)), (21, .bool true), (156, .bool false), (157, .slice (some ⟨r5, 0, none⟩) ((kys Z (a.q (.w i))).length) c286), (162, .agg #[.int .u16 ((Z.ky i).idx), .int .u32 ((Z.ky i).gen)])]) (φ := (b273 = b273 ∧ Nat.ble (0 + 2) 2 = true) ∧ True) (fuel := 14) h314 (by kernel_rfl) rfl (by kernel_rfl) (by kernel_rfl) ⟨rfl, trivial⟩ ⟨⟨rfl, rfl⟩, trivial⟩ fun a315 h316 => ?_
          clear h314
          refine dr_read (i := 9) (b := Z.qb) (p := 5) (v := .slice (R.qo i) ((kys Z (a.q (.w i))).length) (R.qk i)) (fuel := 13) (by repeat (first | with_reducible exact PF.body | with_reducible apply PF.inB | with_reducible apply PF.next)) h316 rfl rfl rfl (by kernel_rfl) (by kernel_rfl) (by kernel_rfl) rfl (rd_Q h316 (x := i) hi rfl rfl rfl) ?_
          have h317 := h316.put (d := some 163) (v := .slice (R.qo i) ((kys Z (a.q (.w i))).length) (R.qk i)) (T' := [(163, .slice (R.qo i) ((kys Z (a.q (.w i))).length) (R.qk i)), (161, .map (some Z.qb)), (17, .pointer (some ⟨b273, 0, none⟩)), (0, .pointer (some ⟨kb, 0, none⟩)), (1, .pointer (some ⟨mb, 0, none⟩)), (133, .slice (some ⟨r4, 0, none⟩) ((kys Z (X4 ++ X5)).length) c237), (134, .int .i64 (((kys Z (X4 ++ X5)).length : Nat) : Int)), (135, .int .i64 ((m : Nat) : Int)), (18, .slice (some ⟨r5, 0, none⟩) ((kys Z (a.q (.w i))).length) c286), (19, .int .u64 (a.word i)), (21, .bool true), (156, .bool false), (157, .slice (some ⟨r5, 0, none⟩) ((kys Z (a.q (.w i))).length) c286), (162, .agg #[.int .u16 ((Z.ky i).idx), .int .u32 ((Z.ky i).gen)])]) rfl
          clear h316
          refine wpAnyK_one (i := 10) (fuel := 12) (by kernel_rfl) ?_
          refine op_call h317 rfl rfl rfl (callOk Tryd.func23 (by decide) rfl) (args := [.slice (some ⟨r5, 0, none⟩) ((kys Z (a.q (.w i))).length) c286, .slice (R.qo i) ((kys Z (a.q (.w i))).length) (R.qk i)]) rfl (eqRows (xs := kys Z (a.q (.w i))) (c1 := c286) (F1 := [r5]) (by rw [kys_len]; have := hI.mp.len hkk (L := .w i) (hkk.qx i hi); omega) ⟨hr1, .inr ⟨r5, r5cs, rfl, h317.kn (k := 3) (blk := ⟨r5cs, 39, false⟩) rfl, r5l, r5c, r5t, rfl⟩⟩ (h317.inv.1.qr i hi (by rw [hho]; simp)) (fun b hb hq => by have h1 : b = r5 := (by simpa using hb); have h2 := hH.md.low b (mem_mdF.2 ⟨.qr i, hi, hq⟩); omega)) ?_
          rintro _ w318 ⟨rfl, hf320⟩
          refine ⟨_, rfl, ?_⟩
          have h319 := (h317.grow hf320).put (d := some 164) (v := .bool true) (T' := [(164, .bool true), (163, .slice (R.qo i) ((kys Z (a.q (.w i))).length) (R.qk i)), (161, .map (some Z.qb)), (17, .pointer (some ⟨b273, 0, none⟩)), (0, .pointer (some ⟨kb, 0, none⟩)), (1, .pointer (some ⟨mb, 0, none⟩)), (133, .slice (some ⟨r4, 0, none⟩) ((kys Z (X4 ++ X5)).length) c237), (134, .int .i64 (((kys Z (X4 ++ X5)).length : Nat) : Int)), (135, .int .i64 ((m : Nat) : Int)), (18, .slice (some ⟨r5, 0, none⟩) ((kys Z (a.q (.w i))).length) c286), (19, .int .u64 (a.word i)), (21, .bool true), (156, .bool false), (157, .slice (some ⟨r5, 0, none⟩) ((kys Z (a.q (.w i))).length) c286), (162, .agg #[.int .u16 ((Z.ky i).idx), .int .u32 ((Z.ky i).gen)])]) rfl
          refine ⟨keepNil, ?_⟩
          clear h317
          refine dr_batch tabOk2 tabZ_ok2 (by repeat (first | with_reducible exact PF.body | with_reducible apply PF.inB | with_reducible apply PF.next)) [(11, {}), (12, {}), (13, {}), (14, {}), (15, {}), (16, {}), (17, {})] [17, 0, 1, 133, 134, 135, 18, 19, 21, 167, 168, 171] (T' := [(17, .pointer (some ⟨b273, 0, none⟩)), (0, .pointer (some ⟨kb, 0, none⟩)), (1, .pointer (some ⟨mb, 0, none⟩)), (133, .slice (some ⟨r4, 0, none⟩) ((kys Z (X4 ++ X5)).length) c237), (134, .int .i64 (((kys Z (X4 ++ X5)).length : Nat) : Int)), (135, .int .i64 ((m : Nat) : Int)), (18, .slice (some ⟨r5, 0, none⟩) ((kys Z (a.q (.w i))).length) c286), (19, .int .u64 (a.word i)), (21, .bool true), (167, .bool false), (168, .int .u64 (a.word i)), (171, .pointer (some ⟨mb, 4, none⟩))]) (φ := True) (fuel := 5) h319 (by kernel_rfl) rfl (by kernel_rfl) (by kernel_rfl) ⟨trivial, trivial, trivial, trivial, trivial, trivial, trivial, trivial⟩ trivial fun a321 h322 => ?_
          clear h319
          refine dr_read (i := 18) (b := mb) (p := 4) (v := .map (some Z.wb)) (fuel := 4) (by repeat (first | with_reducible exact PF.body | with_reducible apply PF.inB | with_reducible apply PF.next)) h322 rfl rfl rfl (by kernel_rfl) (by kernel_rfl) (by kernel_rfl) rfl (rd_m h322 (k := 4) (v := .map (some Z.wb)) rfl rfl rfl rfl (md_p ⟨rfl, trivial⟩)) ?_
          have h323 := h322.put (d := some 172) (v := .map (some Z.wb)) (T' := [(172, .map (some Z.wb)), (17, .pointer (some ⟨b273, 0, none⟩)), (0, .pointer (some ⟨kb, 0, none⟩)), (1, .pointer (some ⟨mb, 0, none⟩)), (133, .slice (some ⟨r4, 0, none⟩) ((kys Z (X4 ++ X5)).length) c237), (134, .int .i64 (((kys Z (X4 ++ X5)).length : Nat) : Int)), (135, .int .i64 ((m : Nat) : Int)), (18, .slice (some ⟨r5, 0, none⟩) ((kys Z (a.q (.w i))).length) c286), (19, .int .u64 (a.word i)), (21, .bool true), (167, .bool false), (168, .int .u64 (a.word i)), (171, .pointer (some ⟨mb, 4, none⟩))]) rfl
          clear h322
          refine dr_batch tabOk2 tabZ_ok2 (by repeat (first | with_reducible exact PF.body | with_reducible apply PF.inB | with_reducible apply PF.next)) [(19, {k := 2, p := 2})] [172, 17, 0, 1, 133, 134, 135, 18, 19, 21, 167, 168, 173] (T' := [(172, .map (some Z.wb)), (17, .pointer (some ⟨b273, 0, none⟩)), (0, .pointer (some ⟨kb, 0, none⟩)), (1, .pointer (some ⟨mb, 0, none⟩)), (133, .slice (some ⟨r4, 0, none⟩) ((kys Z (X4 ++ X5)).length) c237), (134, .int .i64 (((kys Z (X4 ++ X5)).length : Nat) : Int)), (135, .int .i64 ((m : Nat) : Int)), (18, .slice (some ⟨r5, 0, none⟩) ((kys Z (a.q (.w i))).length) c286), (19, .int .u64 (a.word i)), (21, .bool true), (167, .bool false), (168, .int .u64 (a.word i)), (173, .agg #[.int .u16 ((Z.ky i).idx), .int .u32 ((Z.ky i).gen)])]) (φ := (b273 = b273 ∧ Nat.ble (0 + 2) 2 = true) ∧ True) (fuel := 3) h323 (by kernel_rfl) rfl (by kernel_rfl) (by kernel_rfl) ⟨rfl, trivial⟩ ⟨⟨rfl, rfl⟩, trivial⟩ fun a324 h325 => ?_
          clear h323
          refine dr_read (i := 20) (b := Z.wb) (p := 6) (v := .int .u64 (a.word i)) (fuel := 2) (by repeat (first | with_reducible exact PF.body | with_reducible apply PF.inB | with_reducible apply PF.next)) h325 rfl rfl rfl (by kernel_rfl) (by kernel_rfl) (by kernel_rfl) rfl (rd_W h325 (x := i) hi rfl rfl rfl) ?_
          have h326 := h325.put (d := some 174) (v := .int .u64 (a.word i)) (T' := [(174, .int .u64 (a.word i)), (172, .map (some Z.wb)), (17, .pointer (some ⟨b273, 0, none⟩)), (0, .pointer (some ⟨kb, 0, none⟩)), (1, .pointer (some ⟨mb, 0, none⟩)), (133, .slice (some ⟨r4, 0, none⟩) ((kys Z (X4 ++ X5)).length) c237), (134, .int .i64 (((kys Z (X4 ++ X5)).length : Nat) : Int)), (135, .int .i64 ((m : Nat) : Int)), (18, .slice (some ⟨r5, 0, none⟩) ((kys Z (a.q (.w i))).length) c286), (19, .int .u64 (a.word i)), (21, .bool true), (167, .bool false), (168, .int .u64 (a.word i)), (173, .agg #[.int .u16 ((Z.ky i).idx), .int .u32 ((Z.ky i).gen)])]) rfl
          clear h325
          refine dr_batch tabOk2 tabZ_ok2 (by repeat (first | with_reducible exact PF.body | with_reducible apply PF.inB | with_reducible apply PF.next)) [(21, {f := 1}), (22, {})] [17, 0, 1, 133, 134, 135, 18, 19, 21, 176] (T' := [(17, .pointer (some ⟨b273, 0, none⟩)), (0, .pointer (some ⟨kb, 0, none⟩)), (1, .pointer (some ⟨mb, 0, none⟩)), (133, .slice (some ⟨r4, 0, none⟩) ((kys Z (X4 ++ X5)).length) c237), (134, .int .i64 (((kys Z (X4 ++ X5)).length : Nat) : Int)), (135, .int .i64 ((m : Nat) : Int)), (18, .slice (some ⟨r5, 0, none⟩) ((kys Z (a.q (.w i))).length) c286), (19, .int .u64 (a.word i)), (21, .bool true), (176, .bool false)]) (φ := (((a.word i) != (a.word i))) = false ∧ True) (fuel := 0) h326 (by kernel_rfl) rfl (by kernel_rfl) (by kernel_rfl) ⟨trivial, trivial, trivial⟩ ⟨(by simp), trivial⟩ fun a327 h328 => ?_
          clear h326
          refine wpAnyK_done (by kernel_rfl) ?_ _
          refine hK308 _ _ ?_
          clear hK308
          refine c_false h328 rfl ?_
          refine wp_skip ?_
          refine hK269 _ _ ?_
          clear hK269
          refine nd_start (l := [0, 1]) rfl ?_
          refine nd_batch tabOk2 tabZ_ok2 [(0, {}), (1, {})] [17, 0, 1, 133, 134, 18, 19, 21, 135] (T' := [(17, .pointer (some ⟨b273, 0, none⟩)), (0, .pointer (some ⟨kb, 0, none⟩)), (1, .pointer (some ⟨mb, 0, none⟩)), (133, .slice (some ⟨r4, 0, none⟩) ((kys Z (X4 ++ X5)).length) c237), (134, .int .i64 (((kys Z (X4 ++ X5)).length : Nat) : Int)), (18, .slice (some ⟨r5, 0, none⟩) ((kys Z (a.q (.w i))).length) c286), (19, .int .u64 (a.word i)), (21, .bool true), (135, .int .i64 (((m : Nat) : Int) + 1))]) (φ := inR .i64 (((m : Nat) : Int) + 1) ∧ True) (rest := []) h328 (by kernel_rfl) rfl ⟨⟨by omega, by omega⟩, trivial⟩ fun a329 h330 => ?_
          clear h328
          refine nd_done ?_
          have h331 := h330.memMono (L' := [(3, ⟨[.int .u16 0, .int .u32 0], ty3, true⟩), (r4, ⟨r4cs, 39, false⟩)]) (List.Sublist.cons_cons _ (List.Sublist.cons_cons _ (List.Sublist.cons _ (List.Sublist.cons _ List.Sublist.slnil))))
          clear h330
          exact ⟨(g - 1), by omega, (m + 1), by omega, by omega, (h331.slotsMono (restr_spec (keep := [0, 1, 133, 134, 135]) rfl))⟩
        ·
          have hqn := of_decide_eq_false hb282
          refine nd_start (l := [0, 1, 2, 3, 4, 5, 6, 7]) rfl ?_
          refine nd_batch tabOk2 tabZ_ok2 [(0, {}), (1, {k := 2})] [17, 0, 1, 133, 134, 135, 140, 141] (T' := [(17, .pointer (some ⟨b273, 0, none⟩)), (0, .pointer (some ⟨kb, 0, none⟩)), (1, .pointer (some ⟨mb, 0, none⟩)), (133, .slice (some ⟨r4, 0, none⟩) ((kys Z (X4 ++ X5)).length) c237), (134, .int .i64 (((kys Z (X4 ++ X5)).length : Nat) : Int)), (135, .int .i64 ((m : Nat) : Int)), (140, .pointer (some ⟨kb, 0, none⟩)), (141, .agg #[.int .u16 ((Z.ky i).idx), .int .u32 ((Z.ky i).gen)])]) (φ := (b273 = b273 ∧ Nat.ble (0 + 2) 2 = true) ∧ True) (rest := [2, 3, 4, 5, 6, 7]) h280 (by kernel_rfl) rfl ⟨⟨rfl, rfl⟩, trivial⟩ fun a332 h333 => ?_
          clear h280
          refine nd_op ?_
          refine op_call h333 rfl rfl rfl (callOk Tryd.func20 (by decide) rfl) (args := [.pointer (some ⟨kb, 0, none⟩), .agg #[.int .u16 ((Z.ky i).idx), .int .u32 ((Z.ky i).gen)]]) rfl (waitersE kb bo bc S hrS h256 hQ (Z.ky i) (by have := hkk.kx i (hkk.qx i hi); have := hkk.qx i hi; omega) _ (kpK hker h333.frame (hdis _ (List.mem_cons_self ..))) (cpK hcap h333.frame hdis).st hkbo (waiters_same hI hkk hv hi)) ?_
          rintro _ w340 ⟨o334, c335, F336, rfl, hr337, hf338, hF339⟩
          refine ⟨_, rfl, ?_⟩
          have h341q := h333.grow hf338
          have h342 := (h341q).put (d := some 142) (v := .tuple #[.slice o334 ((kys Z (a.q (.w i))).length) c335, .int .u64 (a.word i)]) (T' := [(142, .tuple #[.slice o334 ((kys Z (a.q (.w i))).length) c335, .int .u64 (a.word i)]), (17, .pointer (some ⟨b273, 0, none⟩)), (0, .pointer (some ⟨kb, 0, none⟩)), (1, .pointer (some ⟨mb, 0, none⟩)), (133, .slice (some ⟨r4, 0, none⟩) ((kys Z (X4 ++ X5)).length) c237), (134, .int .i64 (((kys Z (X4 ++ X5)).length : Nat) : Int)), (135, .int .i64 ((m : Nat) : Int)), (140, .pointer (some ⟨kb, 0, none⟩)), (141, .agg #[.int .u16 ((Z.ky i).idx), .int .u32 ((Z.ky i).gen)])]) rfl
          clear h333 h341q
          refine nd_batch tabOk2 tabZ_ok2 [(3, {}), (4, {}), (5, {}), (6, {}), (7, {})] [17, 0, 1, 133, 134, 135, 18, 19] (T' := [(17, .pointer (some ⟨b273, 0, none⟩)), (0, .pointer (some ⟨kb, 0, none⟩)), (1, .pointer (some ⟨mb, 0, none⟩)), (133, .slice (some ⟨r4, 0, none⟩) ((kys Z (X4 ++ X5)).length) c237), (134, .int .i64 (((kys Z (X4 ++ X5)).length : Nat) : Int)), (135, .int .i64 ((m : Nat) : Int)), (18, .slice o334 ((kys Z (a.q (.w i))).length) c335), (19, .int .u64 (a.word i))]) (φ := True) (rest := []) h342 (by kernel_rfl) rfl trivial fun a343 h344 => ?_
          clear h342
          refine nd_done ?_
          refine hK281 _ _ ?_
          clear hK281
          refine wp_seq_k fun K345 hK345 => ?_
          refine dr_start (KB := [3, r4, b273, mb, Z.qb]) (Bi := [[0, 1, 2, 3, 4], [0, 1, 2, 3, 4], [0, 1, 2, 3, 4], [0, 1, 2, 3, 4], [0, 1, 2, 3, 4], [0, 1, 2, 3, 4], [0, 1, 2, 3, 4], [0, 1, 2, 3, 4], [0, 1, 2, 3, 4], [0, 1, 2, 3, 4], [0, 1, 2, 3, 4]]) mixed h344 fun w346 h347 => ?_
          clear h344
          refine dr_batch tabOk2 tabZ_ok2 (by repeat (first | with_reducible exact PF.body | with_reducible apply PF.inB | with_reducible apply PF.next)) [(0, {}), (1, {}), (2, {})] [17, 0, 1, 133, 134, 135, 18, 19, 148] (T' := [(17, .pointer (some ⟨b273, 0, none⟩)), (0, .pointer (some ⟨kb, 0, none⟩)), (1, .pointer (some ⟨mb, 0, none⟩)), (133, .slice (some ⟨r4, 0, none⟩) ((kys Z (X4 ++ X5)).length) c237), (134, .int .i64 (((kys Z (X4 ++ X5)).length : Nat) : Int)), (135, .int .i64 ((m : Nat) : Int)), (18, .slice o334 ((kys Z (a.q (.w i))).length) c335), (19, .int .u64 (a.word i)), (148, .pointer (some ⟨mb, 3, none⟩))]) (φ := True) (fuel := 8) h347 (by kernel_rfl) rfl (by kernel_rfl) (by kernel_rfl) ⟨trivial, trivial, trivial, trivial⟩ trivial fun a349 h350 => ?_
          clear h347
          refine dr_read (i := 3) (b := mb) (p := 3) (v := .map (some Z.qb)) (fuel := 7) (by repeat (first | with_reducible exact PF.body | with_reducible apply PF.inB | with_reducible apply PF.next)) h350 rfl rfl rfl (by kernel_rfl) (by kernel_rfl) (by kernel_rfl) rfl (rd_m h350 (k := 3) (v := .map (some Z.qb)) rfl rfl rfl rfl (md_p ⟨rfl, trivial⟩)) ?_
          have h351 := h350.put (d := some 149) (v := .map (some Z.qb)) (T' := [(149, .map (some Z.qb)), (17, .pointer (some ⟨b273, 0, none⟩)), (0, .pointer (some ⟨kb, 0, none⟩)), (1, .pointer (some ⟨mb, 0, none⟩)), (133, .slice (some ⟨r4, 0, none⟩) ((kys Z (X4 ++ X5)).length) c237), (134, .int .i64 (((kys Z (X4 ++ X5)).length : Nat) : Int)), (135, .int .i64 ((m : Nat) : Int)), (18, .slice o334 ((kys Z (a.q (.w i))).length) c335), (19, .int .u64 (a.word i)), (148, .pointer (some ⟨mb, 3, none⟩))]) rfl
          clear h350
          refine dr_batch tabOk2 tabZ_ok2 (by repeat (first | with_reducible exact PF.body | with_reducible apply PF.inB | with_reducible apply PF.next)) [(4, {k := 2, p := 2})] [149, 17, 0, 1, 133, 134, 135, 18, 19, 150] (T' := [(149, .map (some Z.qb)), (17, .pointer (some ⟨b273, 0, none⟩)), (0, .pointer (some ⟨kb, 0, none⟩)), (1, .pointer (some ⟨mb, 0, none⟩)), (133, .slice (some ⟨r4, 0, none⟩) ((kys Z (X4 ++ X5)).length) c237), (134, .int .i64 (((kys Z (X4 ++ X5)).length : Nat) : Int)), (135, .int .i64 ((m : Nat) : Int)), (18, .slice o334 ((kys Z (a.q (.w i))).length) c335), (19, .int .u64 (a.word i)), (150, .agg #[.int .u16 ((Z.ky i).idx), .int .u32 ((Z.ky i).gen)])]) (φ := (b273 = b273 ∧ Nat.ble (0 + 2) 2 = true) ∧ True) (fuel := 6) h351 (by kernel_rfl) rfl (by kernel_rfl) (by kernel_rfl) ⟨rfl, trivial⟩ ⟨⟨rfl, rfl⟩, trivial⟩ fun a352 h353 => ?_
          clear h351
          refine dr_read (i := 5) (b := Z.qb) (p := 4) (v := .tuple #[.slice (R.qo i) ((kys Z (a.q (.w i))).length) (R.qk i), .bool true]) (fuel := 5) (by repeat (first | with_reducible exact PF.body | with_reducible apply PF.inB | with_reducible apply PF.next)) h353 rfl rfl rfl (by kernel_rfl) (by kernel_rfl) (by kernel_rfl) rfl (rd_QB h353 (x := i) hi rfl rfl rfl) ?_
          have h354 := h353.put (d := some 151) (v := .tuple #[.slice (R.qo i) ((kys Z (a.q (.w i))).length) (R.qk i), .bool true]) (T' := [(151, .tuple #[.slice (R.qo i) ((kys Z (a.q (.w i))).length) (R.qk i), .bool true]), (149, .map (some Z.qb)), (17, .pointer (some ⟨b273, 0, none⟩)), (0, .pointer (some ⟨kb, 0, none⟩)), (1, .pointer (some ⟨mb, 0, none⟩)), (133, .slice (some ⟨r4, 0, none⟩) ((kys Z (X4 ++ X5)).length) c237), (134, .int .i64 (((kys Z (X4 ++ X5)).length : Nat) : Int)), (135, .int .i64 ((m : Nat) : Int)), (18, .slice o334 ((kys Z (a.q (.w i))).length) c335), (19, .int .u64 (a.word i)), (150, .agg #[.int .u16 ((Z.ky i).idx), .int .u32 ((Z.ky i).gen)])]) rfl
          clear h353
          refine dr_batch tabOk2 tabZ_ok2 (by repeat (first | with_reducible exact PF.body | with_reducible apply PF.inB | with_reducible apply PF.next)) [(6, {}), (7, {}), (8, {}), (9, {}), (10, {})] [17, 0, 1, 133, 134, 135, 18, 19, 21] (T' := [(17, .pointer (some ⟨b273, 0, none⟩)), (0, .pointer (some ⟨kb, 0, none⟩)), (1, .pointer (some ⟨mb, 0, none⟩)), (133, .slice (some ⟨r4, 0, none⟩) ((kys Z (X4 ++ X5)).length) c237), (134, .int .i64 (((kys Z (X4 ++ X5)).length : Nat) : Int)), (135, .int .i64 ((m : Nat) : Int)), (18, .slice o334 ((kys Z (a.q (.w i))).length) c335), (19, .int .u64 (a.word i)), (21, .bool true)]) (φ := True) (fuel := 0) h354 (by kernel_rfl) rfl (by kernel_rfl) (by kernel_rfl) ⟨trivial, trivial, trivial, trivial, trivial, trivial⟩ trivial fun a355 h356 => ?_
          clear h354
          refine wpAnyK_done (by kernel_rfl) ?_ _
          refine hK345 _ _ ?_
          clear hK345
          refine wp_seq_k fun K357 hK357 => ?_
          refine dr_start (KB := [3, r4, b273, mb, Z.qb, Z.wb]) (Bi := [[0, 1, 2, 3, 4, 5], [0, 1, 2, 3, 4, 5], [0, 1, 2, 3, 4, 5], [0, 1, 2, 3, 4, 5], [0, 1, 2, 3, 4, 5], [0, 1, 2, 3, 4, 5], [0, 1, 2, 3, 4, 5], [0, 1, 2, 3, 4, 5], [0, 1, 2, 3, 4, 5], [0, 1, 2, 3, 4, 5], [], [0, 1, 2, 3, 4, 5], [0, 1, 2, 3, 4, 5], [0, 1, 2, 3, 4, 5], [0, 1, 2, 3, 4, 5], [0, 1, 2, 3, 4, 5], [0, 1, 2, 3, 4, 5], [0, 1, 2, 3, 4, 5], [0, 1, 2, 3, 4, 5], [0, 1, 2, 3, 4, 5], [0, 1, 2, 3, 4, 5], [0, 1, 2, 3, 4, 5], [0, 1, 2, 3, 4, 5]]) mixed h356 fun w358 h359 => ?_
          clear h356
          refine dr_batch tabOk2 tabZ_ok2 (by repeat (first | with_reducible exact PF.body | with_reducible apply PF.inB | with_reducible apply PF.next)) [(0, {}), (1, {}), (2, {}), (3, {}), (4, {}), (5, {}), (6, {})] [17, 0, 1, 133, 134, 135, 18, 19, 21, 156, 157, 160] (T' := [(17, .pointer (some ⟨b273, 0, none⟩)), (0, .pointer (some ⟨kb, 0, none⟩)), (1, .pointer (some ⟨mb, 0, none⟩)), (133, .slice (some ⟨r4, 0, none⟩) ((kys Z (X4 ++ X5)).length) c237), (134, .int .i64 (((kys Z (X4 ++ X5)).length : Nat) : Int)), (135, .int .i64 ((m : Nat) : Int)), (18, .slice o334 ((kys Z (a.q (.w i))).length) c335), (19, .int .u64 (a.word i)), (21, .bool true), (156, .bool false), (157, .slice o334 ((kys Z (a.q (.w i))).length) c335), (160, .pointer (some ⟨mb, 3, none⟩))]) (φ := True) (fuel := 16) h359 (by kernel_rfl) rfl (by kernel_rfl) (by kernel_rfl) ⟨trivial, trivial, trivial, trivial, trivial, trivial, trivial, trivial⟩ trivial fun a361 h362 => ?_
          clear h359
          refine dr_read (i := 7) (b := mb) (p := 3) (v := .map (some Z.qb)) (fuel := 15) (by repeat (first | with_reducible exact PF.body | with_reducible apply PF.inB | with_reducible apply PF.next)) h362 rfl rfl rfl (by kernel_rfl) (by kernel_rfl) (by kernel_rfl) rfl (rd_m h362 (k := 3) (v := .map (some Z.qb)) rfl rfl rfl rfl (md_p ⟨rfl, trivial⟩)) ?_
          have h363 := h362.put (d := some 161) (v := .map (some Z.qb)) (T' := [(161, .map (some Z.qb)), (17, .pointer (some ⟨b273, 0, none⟩)), (0, .pointer (some ⟨kb, 0, none⟩)), (1, .pointer (some ⟨mb, 0, none⟩)), (133, .slice (some ⟨r4, 0, none⟩) ((kys Z (X4 ++ X5)).length) c237), (134, .int .i64 (((kys Z (X4 ++ X5)).length : Nat) : Int)), (135, .int .i64 ((m : Nat) : Int)), (18, .slice o334 ((kys Z (a.q (.w i))).length) c335), (19, .int .u64 (a.word i)), (21, .bool true), (156, .bool false), (157, .slice o334 ((kys Z (a.q (.w i))).length) c335), (160, .pointer (some ⟨mb, 3, none⟩))]) rfl
          clear h362
          refine dr_batch tabOk2 tabZ_ok2 (by repeat (first | with_reducible exact PF.body | with_reducible apply PF.inB | with_reducible apply PF.next)) [(8, {k := 2, p := 2})] [161, 17, 0, 1, 133, 134, 135, 18, 19, 21, 156, 157, 162] (T' := [(161, .map (some Z.qb)), (17, .pointer (some ⟨b273, 0, none⟩)), (0, .pointer (some ⟨kb, 0, none⟩)), (1, .pointer (some ⟨mb, 0, none⟩)), (133, .slice (some ⟨r4, 0, none⟩) ((kys Z (X4 ++ X5)).length) c237), (134, .int .i64 (((kys Z (X4 ++ X5)).length : Nat) : Int)), (135, .int .i64 ((m : Nat) : Int)), (18, .slice o334 ((kys Z (a.q (.w i))).length) c335), (19, .int .u64 (a.word i)), (21, .bool true), (156, .bool false), (157, .slice o334 ((kys Z (a.q (.w i))).length) c335), (162, .agg #[.int .u16 ((Z.ky i).idx), .int .u32 ((Z.ky i).gen)])]) (φ := (b273 = b273 ∧ Nat.ble (0 + 2) 2 = true) ∧ True) (fuel := 14) h363 (by kernel_rfl) rfl (by kernel_rfl) (by kernel_rfl) ⟨rfl, trivial⟩ ⟨⟨rfl, rfl⟩, trivial⟩ fun a364 h365 => ?_
          clear h363
          refine dr_read (i := 9) (b := Z.qb) (p := 4) (v := .slice (R.qo i) ((kys Z (a.q (.w i))).length) (R.qk i)) (fuel := 13) (by repeat (first | with_reducible exact PF.body | with_reducible apply PF.inB | with_reducible apply PF.next)) h365 rfl rfl rfl (by kernel_rfl) (by kernel_rfl) (by kernel_rfl) rfl (rd_Q h365 (x := i) hi rfl rfl rfl) ?_
          have h366 := h365.put (d := some 163) (v := .slice (R.qo i) ((kys Z (a.q (.w i))).length) (R.qk i)) (T' := [(163, .slice (R.qo i) ((kys Z (a.q (.w i))).length) (R.qk i)), (161, .map (some Z.qb)), (17, .pointer (some ⟨b273, 0, none⟩)), (0, .pointer (some ⟨kb, 0, none⟩)), (1, .pointer (some ⟨mb, 0, none⟩)), (133, .slice (some ⟨r4, 0, none⟩) ((kys Z (X4 ++ X5)).length) c237), (134, .int .i64 (((kys Z (X4 ++ X5)).length : Nat) : Int)), (135, .int .i64 ((m : Nat) : Int)), (18, .slice o334 ((kys Z (a.q (.w i))).length) c335), (19, .int .u64 (a.word i)), (21, .bool true), (156, .bool false), (157, .slice o334 ((kys Z (a.q (.w i))).length) c335), (162, .agg #[.int .u16 ((Z.ky i).idx), .int .u32 ((Z.ky i).gen)])]) rfl
          clear h365
          refine wpAnyK_one (i := 10) (fuel := 12) (by kernel_rfl) ?_
          refine op_call h366 rfl rfl rfl (callOk Tryd.func23 (by decide) rfl) (args := [.slice o334 ((kys Z (a.q (.w i))).length) c335, .slice (R.qo i) ((kys Z (a.q (.w i))).length) (R.qk i)]) rfl (by rw [show (kys Z (a.q (.w i))).length = 0 by rw [kys_len]; omega]; exact equalR_none _ _ _ _ _) ?_
          rintro _ w367 ⟨rfl, hf369⟩
          refine ⟨_, rfl, ?_⟩
          have h368 := (h366.grow hf369).put (d := some 164) (v := .bool true) (T' := [(164, .bool true), (163, .slice (R.qo i) ((kys Z (a.q (.w i))).length) (R.qk i)), (161, .map (some Z.qb)), (17, .pointer (some ⟨b273, 0, none⟩)), (0, .pointer (some ⟨kb, 0, none⟩)), (1, .pointer (some ⟨mb, 0, none⟩)), (133, .slice (some ⟨r4, 0, none⟩) ((kys Z (X4 ++ X5)).length) c237), (134, .int .i64 (((kys Z (X4 ++ X5)).length : Nat) : Int)), (135, .int .i64 ((m : Nat) : Int)), (18, .slice o334 ((kys Z (a.q (.w i))).length) c335), (19, .int .u64 (a.word i)), (21, .bool true), (156, .bool false), (157, .slice o334 ((kys Z (a.q (.w i))).length) c335), (162, .agg #[.int .u16 ((Z.ky i).idx), .int .u32 ((Z.ky i).gen)])]) rfl
          refine ⟨keepNil, ?_⟩
          clear h366
          refine dr_batch tabOk2 tabZ_ok2 (by repeat (first | with_reducible exact PF.body | with_reducible apply PF.inB | with_reducible apply PF.next)) [(11, {}), (12, {}), (13, {}), (14, {}), (15, {}), (16, {}), (17, {})] [17, 0, 1, 133, 134, 135, 18, 19, 21, 167, 168, 171] (T' := [(17, .pointer (some ⟨b273, 0, none⟩)), (0, .pointer (some ⟨kb, 0, none⟩)), (1, .pointer (some ⟨mb, 0, none⟩)), (133, .slice (some ⟨r4, 0, none⟩) ((kys Z (X4 ++ X5)).length) c237), (134, .int .i64 (((kys Z (X4 ++ X5)).length : Nat) : Int)), (135, .int .i64 ((m : Nat) : Int)), (18, .slice o334 ((kys Z (a.q (.w i))).length) c335), (19, .int .u64 (a.word i)), (21, .bool true), (167, .bool false), (168, .int .u64 (a.word i)), (171, .pointer (some ⟨mb, 4, none⟩))]) (φ := True) (fuel := 5) h368 (by kernel_rfl) rfl (by kernel_rfl) (by kernel_rfl) ⟨trivial, trivial, trivial, trivial, trivial, trivial, trivial, trivial⟩ trivial fun a370 h371 => ?_
          clear h368
          refine dr_read (i := 18) (b := mb) (p := 3) (v := .map (some Z.wb)) (fuel := 4) (by repeat (first | with_reducible exact PF.body | with_reducible apply PF.inB | with_reducible apply PF.next)) h371 rfl rfl rfl (by kernel_rfl) (by kernel_rfl) (by kernel_rfl) rfl (rd_m h371 (k := 4) (v := .map (some Z.wb)) rfl rfl rfl rfl (md_p ⟨rfl, trivial⟩)) ?_
          have h372 := h371.put (d := some 172) (v := .map (some Z.wb)) (T' := [(172, .map (some Z.wb)), (17, .pointer (some ⟨b273, 0, none⟩)), (0, .pointer (some ⟨kb, 0, none⟩)), (1, .pointer (some ⟨mb, 0, none⟩)), (133, .slice (some ⟨r4, 0, none⟩) ((kys Z (X4 ++ X5)).length) c237), (134, .int .i64 (((kys Z (X4 ++ X5)).length : Nat) : Int)), (135, .int .i64 ((m : Nat) : Int)), (18, .slice o334 ((kys Z (a.q (.w i))).length) c335), (19, .int .u64 (a.word i)), (21, .bool true), (167, .bool false), (168, .int .u64 (a.word i)), (171, .pointer (some ⟨mb, 4, none⟩))]) rfl
          clear h371
          refine dr_batch tabOk2 tabZ_ok2 (by repeat (first | with_reducible exact PF.body | with_reducible apply PF.inB | with_reducible apply PF.next)) [(19, {k := 2, p := 2})] [172, 17, 0, 1, 133, 134, 135, 18, 19, 21, 167, 168, 173] (T' := [(172, .map (some Z.wb)), (17, .pointer (some ⟨b273, 0, none⟩)), (0, .pointer (some ⟨kb, 0, none⟩)), (1, .pointer (some ⟨mb, 0, none⟩)), (133, .slice (some ⟨r4, 0, none⟩) ((kys Z (X4 ++ X5)).length) c237), (134, .int .i64 (((kys Z (X4 ++ X5)).length : Nat) : Int)), (135, .int .i64 ((m : Nat) : Int)), (18, .slice o334 ((kys Z (a.q (.w i))).length) c335), (19, .int .u64 (a.word i)), (21, .bool true), (167, .bool false), (168, .int .u64 (a.word i)), (173, .agg #[.int .u16 ((Z.ky i).idx), .int .u32 ((Z.ky i).gen)])]) (φ := (b273 = b273 ∧ Nat.ble (0 + 2) 2 = true) ∧ True) (fuel := 3) h372 (by kernel_rfl) rfl (by kernel_rfl) (by kernel_rfl) ⟨rfl, trivial⟩ ⟨⟨rfl, rfl⟩, trivial⟩ fun a373 h374 => ?_
          clear h372
          refine dr_read (i := 20) (b := Z.wb) (p := 5) (v := .int .u64 (a.word i)) (fuel := 2) (by repeat (first | with_reducible exact PF.body | with_reducible apply PF.inB | with_reducible apply PF.next)) h374 rfl rfl rfl (by kernel_rfl) (by kernel_rfl) (by kernel_rfl) rfl (rd_W h374 (x := i) hi rfl rfl rfl) ?_
          have h375 := h374.put (d := some 174) (v := .int .u64 (a.word i)) (T' := [(174, .int .u64 (a.word i)), (172, .map (some Z.wb)), (17, .pointer (some ⟨b273, 0, none⟩)), (0, .pointer (some ⟨kb, 0, none⟩)), (1, .pointer (some ⟨mb, 0, none⟩)), (133, .slice (some ⟨r4, 0, none⟩) ((kys Z (X4 ++ X5)).length) c237), (134, .int .i64 (((kys Z (X4 ++ X5)).length : Nat) : Int)), (135, .int .i64 ((m : Nat) : Int)), (18, .slice o334 ((kys Z (a.q (.w i))).length) c335), (19, .int .u64 (a.word i)), (21, .bool true), (167, .bool false), (168, .int .u64 (a.word i)), (173, .agg #[.int .u16 ((Z.ky i).idx), .int .u32 ((Z.ky i).gen)])]) rfl
          clear h374
          refine dr_batch tabOk2 tabZ_ok2 (by repeat (first | with_reducible exact PF.body | with_reducible apply PF.inB | with_reducible apply PF.next)) [(21, {f := 1}), (22, {})] [17, 0, 1, 133, 134, 135, 18, 19, 21, 176] (T' := [(17, .pointer (some ⟨b273, 0, none⟩)), (0, .pointer (some ⟨kb, 0, none⟩)), (1, .pointer (some ⟨mb, 0, none⟩)), (133, .slice (some ⟨r4, 0, none⟩) ((kys Z (X4 ++ X5)).length) c237), (134, .int .i64 (((kys Z (X4 ++ X5)).length : Nat) : Int)), (135, .int .i64 ((m : Nat) : Int)), (18, .slice o334 ((kys Z (a.q (.w i))).length) c335), (19, .int .u64 (a.word i)), (21, .bool true), (176, .bool false)]) (φ := (((a.word i) != (a.word i))) = false ∧ True) (fuel := 0) h375 (by kernel_rfl) rfl (by kernel_rfl) (by kernel_rfl) ⟨trivial, trivial, trivial⟩ ⟨(by simp), trivial⟩ fun a376 h377 => ?_
          clear h375
          refine wpAnyK_done (by kernel_rfl) ?_ _
          refine hK357 _ _ ?_
          clear hK357
          refine c_false h377 rfl ?_
          refine wp_skip ?_
          refine hK269 _ _ ?_
          clear hK269
          refine nd_start (l := [0, 1]) rfl ?_
          refine nd_batch tabOk2 tabZ_ok2 [(0, {}), (1, {})] [17, 0, 1, 133, 134, 18, 19, 21, 135] (T' := [(17, .pointer (some ⟨b273, 0, none⟩)), (0, .pointer (some ⟨kb, 0, none⟩)), (1, .pointer (some ⟨mb, 0, none⟩)), (133, .slice (some ⟨r4, 0, none⟩) ((kys Z (X4 ++ X5)).length) c237), (134, .int .i64 (((kys Z (X4 ++ X5)).length : Nat) : Int)), (18, .slice o334 ((kys Z (a.q (.w i))).length) c335), (19, .int .u64 (a.word i)), (21, .bool true), (135, .int .i64 (((m : Nat) : Int) + 1))]) (φ := inR .i64 (((m : Nat) : Int) + 1) ∧ True) (rest := []) h377 (by kernel_rfl) rfl ⟨⟨by omega, by omega⟩, trivial⟩ fun a378 h379 => ?_
          clear h377
          refine nd_done ?_
          have h380 := h379.memMono (L' := [(3, ⟨[.int .u16 0, .int .u32 0], ty3, true⟩), (r4, ⟨r4cs, 39, false⟩)]) (List.Sublist.cons_cons _ (List.Sublist.cons_cons _ (List.Sublist.cons _ List.Sublist.slnil)))
          clear h379
          exact ⟨(g - 1), by omega, (m + 1), by omega, by omega, (h380.slotsMono (restr_spec (keep := [0, 1, 133, 134, 135]) rfl))⟩
      ·
        have hc268f : ¬ ((m : Nat) : Int) < (((kys Z (X4 ++ X5)).length : Nat) : Int) := by simpa using hc268
        refine wp_exit ?_
        refine hK255 _ _ ?_
        clear hK255
        refine wp_seq_k fun K381 hK381 => ?_
        refine wp_seq_k fun K382 hK382 => ?_
        refine nd_start (l := [0]) rfl ?_
        refine nd_batch tabOk2 tabZ_ok2 [(0, {})] [0, 1, 133, 134, 135, 22] (T' := [(0, .pointer (some ⟨kb, 0, none⟩)), (1, .pointer (some ⟨mb, 0, none⟩)), (133, .slice (some ⟨r4, 0, none⟩) ((kys Z (X4 ++ X5)).length) c237), (134, .int .i64 (((kys Z (X4 ++ X5)).length : Nat) : Int)), (135, .int .i64 ((m : Nat) : Int)), (22, .int .i64 0)]) (φ := True) (rest := []) h266 (by kernel_rfl) rfl trivial fun a383 h384 => ?_
        clear h266
        refine nd_done ?_
        refine hK382 _ _ ?_
        clear hK382
        refine wp_block ?_
        have h385 := h384.memMono (L' := [(3, ⟨[.int .u16 0, .int .u32 0], ty3, true⟩)]) (List.Sublist.cons_cons _ (List.Sublist.cons _ List.Sublist.slnil))
        clear h384
        refine wp_loop_ghost (fun g ga gw => ∃ (m : Nat), (g = 16 - m) ∧ (m ≤ 16) ∧ St (MCx 192 (mdF mb Z R C) w mb Z R a C) [(0, .pointer (some ⟨kb, 0, none⟩)), (1, .pointer (some ⟨mb, 0, none⟩)), (22, .int .i64 ((m : Nat) : Int))] [(3, ⟨[.int .u16 0, .int .u32 0], ty3, true⟩)] ga gw) 16 ⟨0, by omega, by omega, (h385.slotsMono (restr_spec (keep := [0, 1, 22]) rfl))⟩ ?_
        clear h385
        rintro g a386 w387 ⟨m, hi389, hi390, h388⟩
        have hig := hi389
        have hmN := hi390
        refine wp_seq_k fun K391 hK391 => ?_
        refine wp_seq_k fun K392 hK392 => ?_
        refine nd_start (l := [0, 1]) rfl ?_
        refine nd_batch tabOk2 tabZ_ok2 [(0, {}), (1, {})] [0, 1, 22, 179] (T' := [(0, .pointer (some ⟨kb, 0, none⟩)), (1, .pointer (some ⟨mb, 0, none⟩)), (22, .int .i64 ((m : Nat) : Int)), (179, .bool (decide (((m : Nat) : Int) < 16)))]) (φ := True) (rest := []) h388 (by kernel_rfl) rfl trivial fun a393 h394 => ?_
        clear h388
        refine nd_done ?_
        refine hK392 _ _ ?_
        clear hK392
        refine c_split h394 (b := decide (((m : Nat) : Int) < 16)) rfl (fun hc395 => ?_) (fun hc395 => ?_)
        ·
          have hc395f : ((m : Nat) : Int) < 16 := by simpa using hc395
          refine wp_skip ?_
          refine hK391 _ _ ?_
          clear hK391
          refine wp_seq_k fun K396 hK396 => ?_
          refine wp_block ?_
          refine wp_seq_k fun K397 hK397 => ?_
          refine dr_start (KB := [3, mb]) (Bi := [[0, 1], [0, 1], [1], [0, 1], [0, 1], [0, 1], [0, 1], [0, 1], [0, 1], [0, 1]]) mixed h394 fun w398 h399 => ?_
          clear h394
          refine dr_batch tabOk2 tabZ_ok2 (by repeat (first | with_reducible exact PF.body | with_reducible apply PF.inB | with_reducible apply PF.next)) [(0, {}), (1, {}), (3, {}), (4, {}), (5, {}), (6, {}), (7, {})] [0, 1, 22, 182, 183, 189] (T' := [(0, .pointer (some ⟨kb, 0, none⟩)), (1, .pointer (some ⟨mb, 0, none⟩)), (22, .int .i64 ((m : Nat) : Int)), (182, .pointer (some ⟨kb, 0, none⟩)), (183, .int .i64 ((m : Nat) : Int)), (189, .pointer (some ⟨mb, 15 + (m * 4), none⟩))]) (φ := (0 ≤ ((m : Nat) : Int) ∧ ((m : Nat) : Int) < 16) ∧ True) (fuel := 3) h399 (by kernel_rfl) rfl (by kernel_rfl) (by kernel_rfl) ⟨trivial, trivial, trivial, trivial, trivial, trivial, trivial, trivial⟩ ⟨⟨by omega, by omega⟩, trivial⟩ fun a401 h402 => ?_
          clear h399
          refine dr_read (i := 8) (b := mb) (p := 1) (v := .agg #[.int .u16 ((a.irq m).ntfn.idx), .int .u32 ((a.irq m).ntfn.gen), .int .u64 ((a.irq m).badge), .bool ((a.irq m).masked)]) (fuel := 2) (by repeat (first | with_reducible exact PF.body | with_reducible apply PF.inB | with_reducible apply PF.next)) h402 rfl rfl rfl (by kernel_rfl) (by kernel_rfl) (by kernel_rfl) rfl (rd_mA h402 (k := 15 + (m * 4)) (vs := [.int .u16 ((a.irq m).ntfn.idx), .int .u32 ((a.irq m).ntfn.gen), .int .u64 ((a.irq m).badge), .bool ((a.irq m).masked)]) rfl rfl rfl rfl rfl (md_irq (i := m) (k := 0) (by omega) (by omega) ⟨rfl, rfl, rfl, rfl, trivial⟩)) ?_
          have h403 := h402.put (d := some 190) (v := .agg #[.int .u16 ((a.irq m).ntfn.idx), .int .u32 ((a.irq m).ntfn.gen), .int .u64 ((a.irq m).badge), .bool ((a.irq m).masked)]) (T' := [(190, .agg #[.int .u16 ((a.irq m).ntfn.idx), .int .u32 ((a.irq m).ntfn.gen), .int .u64 ((a.irq m).badge), .bool ((a.irq m).masked)]), (0, .pointer (some ⟨kb, 0, none⟩)), (1, .pointer (some ⟨mb, 0, none⟩)), (22, .int .i64 ((m : Nat) : Int)), (182, .pointer (some ⟨kb, 0, none⟩)), (183, .int .i64 ((m : Nat) : Int)), (189, .pointer (some ⟨mb, 15 + (m * 4), none⟩))]) rfl
          clear h402
          refine wpAnyK_one (i := 2) (fuel := 1) (by kernel_rfl) ?_
          refine op_call h403 rfl rfl rfl (callOk Tryd.func33 (by decide) rfl) (args := [.pointer (some ⟨kb, 0, none⟩), .int .i64 ((m : Nat) : Int)]) rfl (by have h9 := irq_ok kb bo bc S (m : Int) ⟨by omega, by omega⟩ _ (kpK hker h403.frame (hdis _ (List.mem_cons_self ..))); rw [Int.toNat_natCast, ← hv.ab.ir m (by omega)] at h9; exact h9) ?_
          rintro _ w404 ⟨rfl, hf406⟩
          refine ⟨_, rfl, ?_⟩
          have h405 := (h403.grow hf406).put (d := some 184) (v := .agg #[.int .u16 ((a.irq m).ntfn.idx), .int .u32 ((a.irq m).ntfn.gen), .int .u64 ((a.irq m).badge), .bool ((a.irq m).masked)]) (T' := [(184, .agg #[.int .u16 ((a.irq m).ntfn.idx), .int .u32 ((a.irq m).ntfn.gen), .int .u64 ((a.irq m).badge), .bool ((a.irq m).masked)]), (190, .agg #[.int .u16 ((a.irq m).ntfn.idx), .int .u32 ((a.irq m).ntfn.gen), .int .u64 ((a.irq m).badge), .bool ((a.irq m).masked)]), (0, .pointer (some ⟨kb, 0, none⟩)), (1, .pointer (some ⟨mb, 0, none⟩)), (22, .int .i64 ((m : Nat) : Int)), (182, .pointer (some ⟨kb, 0, none⟩)), (183, .int .i64 ((m : Nat) : Int)), (189, .pointer (some ⟨mb, 15 + (m * 4), none⟩))]) rfl
          refine ⟨(keepCons (kpM h403.inv.1 (l := .m) trivial (List.mem_cons_self ..) hf406) keepNil), ?_⟩
          clear h403
          refine dr_batch tabOk2 tabZ_ok2 (by repeat (first | with_reducible exact PF.body | with_reducible apply PF.inB | with_reducible apply PF.next)) [(9, {f := 1})] [0, 1, 22, 191] (T' := [(0, .pointer (some ⟨kb, 0, none⟩)), (1, .pointer (some ⟨mb, 0, none⟩)), (22, .int .i64 ((m : Nat) : Int)), (191, .bool false)]) (φ := EqRun Tryd.prog 71 (.agg #[.int .u16 ((a.irq m).ntfn.idx), .int .u32 ((a.irq m).ntfn.gen), .int .u64 ((a.irq m).badge), .bool ((a.irq m).masked)]) (.agg #[.int .u16 ((a.irq m).ntfn.idx), .int .u32 ((a.irq m).ntfn.gen), .int .u64 ((a.irq m).badge), .bool ((a.irq m).masked)]) true ∧ True) (fuel := 0) h405 (by kernel_rfl) rfl (by kernel_rfl) (by kernel_rfl) ⟨trivial, trivial⟩ ⟨(runIrqS (a.irq m)), trivial⟩ fun a407 h408 => ?_
          clear h405
          refine wpAnyK_done (by kernel_rfl) ?_ _
          refine hK397 _ _ ?_
          clear hK397
          refine c_false h408 rfl ?_
          refine wp_skip ?_
          refine hK396 _ _ ?_
          clear hK396
          refine nd_start (l := [0, 1, 2]) rfl ?_
          refine nd_batch tabOk2 tabZ_ok2 [(0, {}), (1, {}), (2, {})] [0, 1, 22] (T' := [(0, .pointer (some ⟨kb, 0, none⟩)), (1, .pointer (some ⟨mb, 0, none⟩)), (22, .int .i64 (((m : Nat) : Int) + 1))]) (φ := inR .i64 (((m : Nat) : Int) + 1) ∧ True) (rest := []) h408 (by kernel_rfl) rfl ⟨⟨by omega, by omega⟩, trivial⟩ fun a409 h410 => ?_
          clear h408
          refine nd_done ?_
          exact ⟨(g - 1), by omega, (m + 1), by omega, by omega, (h410.slotsMono (restr_spec (keep := [0, 1, 22]) rfl))⟩
        ·
          have hc395f : ¬ ((m : Nat) : Int) < 16 := by simpa using hc395
          refine wp_exit ?_
          refine hK381 _ _ ?_
          clear hK381
          refine wp_seq_k fun K411 hK411 => ?_
          refine nd_start (l := [0]) rfl ?_
          refine nd_batch tabOk2 tabZ_ok2 [(0, {})] [0, 1, 22, 4] (T' := [(0, .pointer (some ⟨kb, 0, none⟩)), (1, .pointer (some ⟨mb, 0, none⟩)), (22, .int .i64 ((m : Nat) : Int)), (4, .bool true)]) (φ := True) (rest := []) h394 (by kernel_rfl) rfl trivial fun a412 h413 => ?_
          clear h394
          refine nd_done ?_
          refine hK411 _ _ ?_
          clear hK411
          refine wp_ret ?_
          try simp only [Exit.then, Exit.inBlock]
          try rw [if_pos trivial]
          exact s_ret tabOk2 tabZ_ok2 h413 [(.tmp 4, {})] (vs := [.bool true]) (φ := True) rfl (by kernel_rfl) trivial ⟨rfl, mg_end hH h413 hho rfl⟩

end Go.Proofs.Qxb6500918aDoor
