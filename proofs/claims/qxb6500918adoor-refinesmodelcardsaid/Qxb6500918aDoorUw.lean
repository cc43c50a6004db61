/-
  The model: a thread is forgotten. (Made by program: a symbolic walk that prints its steps.)
-/
import Derived.Test.Qxb6500918aDoorUv
import Derived.Test.Qxb6500918aDoorUt
namespace Go.Proofs.Qxb6500918aDoor
open Go.Sx Go.Kn
set_option maxRecDepth 100000
set_option maxHeartbeats 4000000
set_option linter.unusedVariables false
set_option linter.unusedSimpArgs false

theorem no_key {Z : MZ} {R : MR} {E : Nat → Ent} {m : Nat} (hk : MK Z R) (hn : ¬ (m ∈ sl Z.tl ∧ Z.ky m = refAtP E (m : Int))) (hm : m < 256) : ∀ x ∈ sl Z.tl, Z.ky x ≠ refAtP E (m : Int) := fun x hx e => by
  have h1 := hk.kx x (hk.tx x hx)
  have h2 := refAt_idx (E := E) (i := (m : Int)) ⟨by omega, by omega⟩
  rw [e, h2] at h1
  have : x = m := by omega
  subst this
  exact hn ⟨hx, e⟩

theorem forgetT_ok (mb : Nat) (Z : MZ) (R : MR) (a : AK) (C : CP) (o : Nat) (ho : o ∈ sl Z.tl) (rt bd : Int) (hP : MP Z a) (w : World) (hH : MH mb Z R a C w) :
    Calls Tryd.prog 97 #[.pointer (some ⟨mb, 0, none⟩), .agg #[.int .u8 3, .int .u16 ((Z.ky o).idx), .int .u32 ((Z.ky o).gen), .int .u8 rt, .int .u64 bd]] w fun e w' => e = .returned (.tuple #[]) ∧ ∃ R', MG mb Z R C w (Z.delT o) R' (wakeM (Z.delT o) C.ent ((leaveA a o).setT o (unl noT)) (Z.ky o) 256) C w' := by
  obtain ⟨ty3, hg3⟩ := hH.g3
  have hho := hH.ho
  have hkk := hH.md.k
  refine enter (n := 98) (K := mdF mb Z R C) (A := MD (mdF mb Z R C) w.heap.size mb Z R a C) (F := mdF mb Z R C) (T := [(0, .pointer (some ⟨mb, 0, none⟩)), (1, .agg #[.int .u8 3, .int .u16 ((Z.ky o).idx), .int .u32 ((Z.ky o).gen), .int .u8 rt, .int .u64 bd])]) (L := [(3, ⟨[.int .u16 0, .int .u32 0], ty3, true⟩)]) (args := [.pointer (some ⟨mb, 0, none⟩), .agg #[.int .u8 3, .int .u16 ((Z.ky o).idx), .int .u32 ((Z.ky o).gen), .int .u8 rt, .int .u64 bd]]) Tryd.func97 rfl rfl rfl rfl (kcons hg3 knil) (by simp) (kcons (by intro hq; cases hq) knil) hH.mD MD.stable hH.md.low (kcons (by intro hq; cases hq) knil) ?_
  intro ac h
  refine wp_seq_k fun K1 hK1 => ?_
  refine nd_start (l := [0]) rfl ?_
  refine nd_op ?_
  refine op_new tabOk2 (cells := [.int .u8 3, .int .u16 ((Z.ky o).idx), .int .u32 ((Z.ky o).gen), .int .u8 rt, .int .u64 bd]) (ty := 49) (ln := none) (L1 := fun b2 => [(3, ⟨[.int .u16 0, .int .u32 0], ty3, true⟩), (b2, ⟨[.int .u8 3, .int .u16 ((Z.ky o).idx), .int .u32 ((Z.ky o).gen), .int .u8 rt, .int .u64 bd], 49, false⟩)]) h rfl rfl rfl rfl (by kernel_rfl) (fun _ => rfl) fun b2 w3 a4 h5 hf6 hn7 => ?_
  clear h
  refine nd_done ?_
  refine hK1 _ _ ?_
  clear hK1
  refine wp_seq_k fun K8 hK8 => ?_
  refine nd_start (l := [0, 1]) rfl ?_
  refine nd_batch tabOk2 tabZ_ok2 [(0, {}), (1, {k := 1})] [3, 0, 1, 10] (T' := [(3, .pointer (some ⟨b2, 0, none⟩)), (0, .pointer (some ⟨mb, 0, none⟩)), (1, .agg #[.int .u8 3, .int .u16 ((Z.ky o).idx), .int .u32 ((Z.ky o).gen), .int .u8 rt, .int .u64 bd]), (10, .int .u8 3)]) (φ := (b2 = b2 ∧ Nat.ble (0 + 1) 5 = true) ∧ True) (rest := []) h5 (by kernel_rfl) rfl ⟨⟨rfl, rfl⟩, trivial⟩ fun a9 h10 => ?_
  clear h5
  refine nd_done ?_
  refine hK8 _ _ ?_
  clear hK8
  refine wp_block ?_
  refine wp_seq_k fun K11 hK11 => ?_
  refine nd_start (l := [0, 1]) rfl ?_
  refine nd_batch tabOk2 tabZ_ok2 [(0, {}), (1, {})] [3, 0, 1, 10, 11] (T' := [(3, .pointer (some ⟨b2, 0, none⟩)), (0, .pointer (some ⟨mb, 0, none⟩)), (1, .agg #[.int .u8 3, .int .u16 ((Z.ky o).idx), .int .u32 ((Z.ky o).gen), .int .u8 rt, .int .u64 bd]), (10, .int .u8 3), (11, .bool true)]) (φ := True) (rest := []) h10 (by kernel_rfl) rfl trivial fun a12 h13 => ?_
  clear h10
  refine nd_done ?_
  refine hK11 _ _ ?_
  clear hK11
  refine c_true h13 rfl ?_
  refine wp_seq_k fun K14 hK14 => ?_
  refine nd_start (l := [0, 1, 2, 3]) rfl ?_
  refine nd_batch tabOk2 tabZ_ok2 [(0, {}), (1, {}), (2, {k := 1})] [3, 0, 1, 10, 13, 15] (T' := [(3, .pointer (some ⟨b2, 0, none⟩)), (0, .pointer (some ⟨mb, 0, none⟩)), (1, .agg #[.int .u8 3, .int .u16 ((Z.ky o).idx), .int .u32 ((Z.ky o).gen), .int .u8 rt, .int .u64 bd]), (10, .int .u8 3), (13, .pointer (some ⟨mb, 0, none⟩)), (15, .agg #[.int .u16 ((Z.ky o).idx), .int .u32 ((Z.ky o).gen)])]) (φ := (b2 = b2 ∧ Nat.ble (1 + 2) 5 = true) ∧ True) (rest := [3]) h13 (by kernel_rfl) rfl ⟨⟨rfl, rfl⟩, trivial⟩ fun a15 h16 => ?_
  clear h13
  refine nd_op ?_
  refine op_call h16 rfl rfl rfl (callOk Tryd.func87 (by decide) rfl) (args := [.pointer (some ⟨mb, 0, none⟩), .agg #[.int .u16 ((Z.ky o).idx), .int .u32 ((Z.ky o).gen)]]) rfl (idle_ok mb Z _ a _ o ho hP _ (mh_of h16 hho (k := 0) rfl)) ?_
  rintro _ w17 ⟨rfl, R18, hg19⟩
  refine ⟨_, rfl, ?_⟩
  have h20a := st_mg h16 hg19 (kcons (fun _ => rfl) (kcons (fun hq => by cases hq) knil))
  have h20 := h20a.put (d := some 16) (v := .tuple #[]) (T' := [(16, .tuple #[]), (3, .pointer (some ⟨b2, 0, none⟩)), (0, .pointer (some ⟨mb, 0, none⟩)), (1, .agg #[.int .u8 3, .int .u16 ((Z.ky o).idx), .int .u32 ((Z.ky o).gen), .int .u8 rt, .int .u64 bd]), (10, .int .u8 3), (13, .pointer (some ⟨mb, 0, none⟩)), (15, .agg #[.int .u16 ((Z.ky o).idx), .int .u32 ((Z.ky o).gen)])]) rfl
  have hhoh20 := hg19.mh.ho
  obtain ⟨a21, ea21⟩ : ∃ z : AK, z = leaveA a o := ⟨_, rfl⟩
  rw [← ea21] at h20
  clear h16 h20a
  have ht22 : a21.th o = { a.th o with st := 0, wait := ⟨0, 0⟩ } := by rw [ea21, leave_th]
  have hP23 : MP Z a21 := by rw [ea21]; exact MP.leave hP hkk ho
  refine nd_done ?_
  refine hK14 _ _ ?_
  clear hK14
  refine wp_seq_k fun K24 hK24 => ?_
  refine dr_start (KB := [3, b2, mb]) (Bi := [[0, 1, 2], [0, 1, 2], [0, 1, 2], [0, 1, 2], [0, 1, 2], [0, 1, 2], []]) mixed h20 fun w25 h26 => ?_
  clear h20
  refine dr_batch tabOk2 tabZ_ok2 (by repeat (first | with_reducible exact PF.body | with_reducible apply PF.inB | with_reducible apply PF.next)) [(0, {}), (1, {}), (2, {})] [3, 0, 1, 10, 19] (T' := [(3, .pointer (some ⟨b2, 0, none⟩)), (0, .pointer (some ⟨mb, 0, none⟩)), (1, .agg #[.int .u8 3, .int .u16 ((Z.ky o).idx), .int .u32 ((Z.ky o).gen), .int .u8 rt, .int .u64 bd]), (10, .int .u8 3), (19, .pointer (some ⟨mb, 2, none⟩))]) (φ := True) (fuel := 4) h26 (by kernel_rfl) rfl (by kernel_rfl) (by kernel_rfl) ⟨trivial, trivial, trivial, trivial⟩ trivial fun a28 h29 => ?_
  clear h26
  refine dr_read (i := 3) (b := mb) (p := 2) (v := .map (some Z.tb)) (fuel := 3) (by repeat (first | with_reducible exact PF.body | with_reducible apply PF.inB | with_reducible apply PF.next)) h29 rfl rfl rfl (by kernel_rfl) (by kernel_rfl) (by kernel_rfl) rfl (rd_m h29 (k := 2) (v := .map (some Z.tb)) rfl rfl rfl rfl (md_p ⟨rfl, trivial⟩)) ?_
  have h30 := h29.put (d := some 20) (v := .map (some Z.tb)) (T' := [(20, .map (some Z.tb)), (3, .pointer (some ⟨b2, 0, none⟩)), (0, .pointer (some ⟨mb, 0, none⟩)), (1, .agg #[.int .u8 3, .int .u16 ((Z.ky o).idx), .int .u32 ((Z.ky o).gen), .int .u8 rt, .int .u64 bd]), (10, .int .u8 3), (19, .pointer (some ⟨mb, 2, none⟩))]) rfl
  clear h29
  refine dr_batch tabOk2 tabZ_ok2 (by repeat (first | with_reducible exact PF.body | with_reducible apply PF.inB | with_reducible apply PF.next)) [(4, {}), (5, {k := 1, p := 1})] [20, 3, 0, 1, 10, 22] (T' := [(20, .map (some Z.tb)), (3, .pointer (some ⟨b2, 0, none⟩)), (0, .pointer (some ⟨mb, 0, none⟩)), (1, .agg #[.int .u8 3, .int .u16 ((Z.ky o).idx), .int .u32 ((Z.ky o).gen), .int .u8 rt, .int .u64 bd]), (10, .int .u8 3), (22, .agg #[.int .u16 ((Z.ky o).idx), .int .u32 ((Z.ky o).gen)])]) (φ := (b2 = b2 ∧ Nat.ble (1 + 2) 5 = true) ∧ True) (fuel := 1) h30 (by kernel_rfl) rfl (by kernel_rfl) (by kernel_rfl) ⟨trivial, rfl, trivial⟩ ⟨⟨rfl, rfl⟩, trivial⟩ fun a31 h32 => ?_
  clear h30
  refine wpAnyK_one (i := 6) (fuel := 0) (by kernel_rfl) ?_
  refine op_mDelT (x := o) h32 rfl rfl rfl rfl rfl ho (kcons (fun _ => rfl) (kcons (fun hq => by cases hq) knil)) fun w33 hf34 h35a => ?_
  have h35 := h35a.put (d := none) (v := .tuple #[]) (T' := [(20, .map (some Z.tb)), (3, .pointer (some ⟨b2, 0, none⟩)), (0, .pointer (some ⟨mb, 0, none⟩)), (1, .agg #[.int .u8 3, .int .u16 ((Z.ky o).idx), .int .u32 ((Z.ky o).gen), .int .u8 rt, .int .u64 bd]), (10, .int .u8 3), (22, .agg #[.int .u16 ((Z.ky o).idx), .int .u32 ((Z.ky o).gen)])]) rfl
  refine ⟨keepNil, ?_⟩
  clear h32 h35a
  have h36 := st_say h35 (MD0.setDead h35.inv.1 (o := o) (fun hq => (sl_del.1 hq).2 rfl) (unl noT))
  clear h35
  obtain ⟨a37, ea37⟩ : ∃ z : AK, z = a21.setT o (unl noT) := ⟨_, rfl⟩
  rw [← ea37] at h36
  refine wpAnyK_done (by kernel_rfl) ?_ _
  refine hK24 _ _ ?_
  clear hK24
  refine wp_seq_k fun K38 hK38 => ?_
  refine nd_start (l := [0]) rfl ?_
  refine nd_batch tabOk2 tabZ_ok2 [(0, {})] [3, 0, 1, 10, 4] (T' := [(3, .pointer (some ⟨b2, 0, none⟩)), (0, .pointer (some ⟨mb, 0, none⟩)), (1, .agg #[.int .u8 3, .int .u16 ((Z.ky o).idx), .int .u32 ((Z.ky o).gen), .int .u8 rt, .int .u64 bd]), (10, .int .u8 3), (4, .int .i64 0)]) (φ := True) (rest := []) h36 (by kernel_rfl) rfl trivial fun a39 h40 => ?_
  clear h36
  refine nd_done ?_
  refine hK38 _ _ ?_
  clear hK38
  refine wp_block ?_
  have h41 := h40
  rw [show a37 = ((leaveA a o).setT o (unl noT)) by subst ea37 ea21; rfl] at h41
  clear h40
  have hk1 := h41.inv.1.k
  refine wp_loop_ghost (fun g ga gw => ∃ (b1 : AK) (R1 : MR) (m : Nat), (g = 256 - m) ∧ (m ≤ 256) ∧ (b1 = wakeM (Z.delT o) C.ent ((leaveA a o).setT o (unl noT)) (Z.ky o) m) ∧ (R1.ho = none) ∧ St (MCx 98 (mdF mb Z R C) w mb (Z.delT o) R1 b1 C) [(0, .pointer (some ⟨mb, 0, none⟩)), (3, .pointer (some ⟨b2, 0, none⟩)), (4, .int .i64 ((m : Nat) : Int))] [(3, ⟨[.int .u16 0, .int .u32 0], ty3, true⟩), (b2, ⟨[.int .u8 3, .int .u16 ((Z.ky o).idx), .int .u32 ((Z.ky o).gen), .int .u8 rt, .int .u64 bd], 49, false⟩)] ga gw) 256 ⟨((leaveA a o).setT o (unl noT)), R18, 0, by omega, by omega, rfl, hhoh20, (h41.slotsMono (restr_spec (keep := [0, 3, 4]) rfl))⟩ ?_
  clear h41
  rintro g a42 w43 ⟨b1, R1, m, hi45, hi46, hi47, hi48, h44⟩
  have hig := hi45
  have hm8 := hi46
  have hb1 := hi47
  have hho1 := hi48
  have hP1 : MP (Z.delT o) b1 := by rw [hb1]; exact (hP.forgetT hkk ho).wakeM hk1 _ _
  have hwm : wakeM (Z.delT o) C.ent ((leaveA a o).setT o (unl noT)) (Z.ky o) (m + 1) = if m ∈ sl (Z.delT o).tl ∧ (Z.delT o).ky m = refAtP C.ent (m : Int) ∧ (b1.th m).st = 6 ∧ (b1.th m).wait = Z.ky o then wakeA b1 m else b1 := by rw [hb1]; rfl
  refine wp_seq_k fun K49 hK49 => ?_
  refine wp_seq_k fun K50 hK50 => ?_
  refine nd_start (l := [0, 1]) rfl ?_
  refine nd_batch tabOk2 tabZ_ok2 [(0, {}), (1, {})] [0, 3, 4, 24] (T' := [(0, .pointer (some ⟨mb, 0, none⟩)), (3, .pointer (some ⟨b2, 0, none⟩)), (4, .int .i64 ((m : Nat) : Int)), (24, .bool (decide (((m : Nat) : Int) < 256)))]) (φ := True) (rest := []) h44 (by kernel_rfl) rfl trivial fun a51 h52 => ?_
  clear h44
  refine nd_done ?_
  refine hK50 _ _ ?_
  clear hK50
  refine c_split h52 (b := decide (((m : Nat) : Int) < 256)) rfl (fun hc53 => ?_) (fun hc53 => ?_)
  ·
    have hc53f : ((m : Nat) : Int) < 256 := by simpa using hc53
    refine wp_skip ?_
    refine hK49 _ _ ?_
    clear hK49
    refine wp_seq_k fun K54 hK54 => ?_
    refine wp_block ?_
    refine wp_seq_k fun K55 hK55 => ?_
    rcases Bool.eq_false_or_eq_true ((decide (m ∈ sl (Z.delT o).tl ∧ Z.ky m = refAtP C.ent (m : Int)))) with hb56 | hb56
    ·
      have hin := of_decide_eq_true hb56
      refine dr_start (KB := [3, b2, mb, Z.tb]) (Bi := [[0, 1, 2, 3], [0, 1, 2, 3], [0, 1, 2, 3], [0, 1, 2, 3], [0, 1, 2, 3], [0, 1, 2, 3], [0, 1, 2, 3], [0, 1, 2, 3], [0, 1, 2, 3], [2], [0, 1, 2, 3], [0, 1, 2, 3], [0, 1, 2, 3], [0, 1, 2, 3], [0, 1, 2, 3], [0, 1, 2, 3]]) mixed h52 fun w57 h58 => ?_
      clear h52
      refine dr_batch tabOk2 tabZ_ok2 (by repeat (first | with_reducible exact PF.body | with_reducible apply PF.inB | with_reducible apply PF.next)) [(0, {}), (1, {}), (2, {})] [0, 3, 4, 30] (T' := [(0, .pointer (some ⟨mb, 0, none⟩)), (3, .pointer (some ⟨b2, 0, none⟩)), (4, .int .i64 ((m : Nat) : Int)), (30, .pointer (some ⟨mb, 2, none⟩))]) (φ := True) (fuel := 13) h58 (by kernel_rfl) rfl (by kernel_rfl) (by kernel_rfl) ⟨trivial, trivial, trivial, trivial⟩ trivial fun a60 h61 => ?_
      clear h58
      refine dr_read (i := 3) (b := mb) (p := 2) (v := .map (some Z.tb)) (fuel := 12) (by repeat (first | with_reducible exact PF.body | with_reducible apply PF.inB | with_reducible apply PF.next)) h61 rfl rfl rfl (by kernel_rfl) (by kernel_rfl) (by kernel_rfl) rfl (rd_m h61 (k := 2) (v := .map (some Z.tb)) rfl rfl rfl rfl (md_p ⟨rfl, trivial⟩)) ?_
      have h62 := h61.put (d := some 31) (v := .map (some Z.tb)) (T' := [(31, .map (some Z.tb)), (0, .pointer (some ⟨mb, 0, none⟩)), (3, .pointer (some ⟨b2, 0, none⟩)), (4, .int .i64 ((m : Nat) : Int)), (30, .pointer (some ⟨mb, 2, none⟩))]) rfl
      clear h61
      refine dr_batch tabOk2 tabZ_ok2 (by repeat (first | with_reducible exact PF.body | with_reducible apply PF.inB | with_reducible apply PF.next)) [(4, {}), (5, {}), (6, {})] [31, 0, 3, 4, 34] (T' := [(31, .map (some Z.tb)), (0, .pointer (some ⟨mb, 0, none⟩)), (3, .pointer (some ⟨b2, 0, none⟩)), (4, .int .i64 ((m : Nat) : Int)), (34, .pointer (some ⟨mb, 0, none⟩))]) (φ := True) (fuel := 9) h62 (by kernel_rfl) rfl (by kernel_rfl) (by kernel_rfl) ⟨trivial, trivial, trivial, trivial⟩ trivial fun a63 h64 => ?_
      clear h62
      refine dr_read (i := 7) (b := mb) (p := 2) (v := .pointer (some ⟨Z.mo, 0, none⟩)) (fuel := 8) (by repeat (first | with_reducible exact PF.body | with_reducible apply PF.inB | with_reducible apply PF.next)) h64 rfl rfl rfl (by kernel_rfl) (by kernel_rfl) (by kernel_rfl) rfl (rd_m h64 (k := 0) (v := .pointer (some ⟨Z.mo, 0, none⟩)) rfl rfl rfl rfl (md_p ⟨rfl, trivial⟩)) ?_
      have h65 := h64.put (d := some 35) (v := .pointer (some ⟨Z.mo, 0, none⟩)) (T' := [(35, .pointer (some ⟨Z.mo, 0, none⟩)), (31, .map (some Z.tb)), (0, .pointer (some ⟨mb, 0, none⟩)), (3, .pointer (some ⟨b2, 0, none⟩)), (4, .int .i64 ((m : Nat) : Int)), (34, .pointer (some ⟨mb, 0, none⟩))]) rfl
      clear h64
      refine dr_batch tabOk2 tabZ_ok2 (by repeat (first | with_reducible exact PF.body | with_reducible apply PF.inB | with_reducible apply PF.next)) [(8, {})] [35, 31, 0, 3, 4, 36] (T' := [(35, .pointer (some ⟨Z.mo, 0, none⟩)), (31, .map (some Z.tb)), (0, .pointer (some ⟨mb, 0, none⟩)), (3, .pointer (some ⟨b2, 0, none⟩)), (4, .int .i64 ((m : Nat) : Int)), (36, .int .i64 ((m : Nat) : Int))]) (φ := True) (fuel := 7) h65 (by kernel_rfl) rfl (by kernel_rfl) (by kernel_rfl) ⟨trivial, trivial⟩ trivial fun a66 h67 => ?_
      clear h65
      refine wpAnyK_one (i := 9) (fuel := 6) (by kernel_rfl) ?_
      refine op_call h67 rfl rfl rfl (callOk Tryd.func41 (by decide) rfl) (args := [.pointer (some ⟨Z.mo, 0, none⟩), .int .i64 ((m : Nat) : Int)]) rfl (by have h9 := refAt_ok Z.mo C.ent (m : Int) ⟨by omega, by omega⟩ _ h67.inv.1.cp.st; rw [← hin.2] at h9; exact h9) ?_
      rintro _ w68 ⟨rfl, hf70⟩
      refine ⟨_, rfl, ?_⟩
      have h69 := (h67.grow hf70).put (d := some 37) (v := .agg #[.int .u16 ((Z.ky m).idx), .int .u32 ((Z.ky m).gen)]) (T' := [(37, .agg #[.int .u16 ((Z.ky m).idx), .int .u32 ((Z.ky m).gen)]), (35, .pointer (some ⟨Z.mo, 0, none⟩)), (31, .map (some Z.tb)), (0, .pointer (some ⟨mb, 0, none⟩)), (3, .pointer (some ⟨b2, 0, none⟩)), (4, .int .i64 ((m : Nat) : Int)), (36, .int .i64 ((m : Nat) : Int))]) rfl
      refine ⟨(keepCons (kpM h67.inv.1 (l := .m) trivial (List.mem_cons_self ..) hf70) keepNil), ?_⟩
      clear h67
      refine dr_read (i := 10) (b := Z.tb) (p := 3) (v := .tuple #[.pointer (some ⟨(Z.tp m), 0, none⟩), .bool true]) (fuel := 5) (by repeat (first | with_reducible exact PF.body | with_reducible apply PF.inB | with_reducible apply PF.next)) h69 rfl rfl rfl (by kernel_rfl) (by kernel_rfl) (by kernel_rfl) rfl (rd_TB h69 (x := m) hin.1 rfl rfl rfl) ?_
      have h71 := h69.put (d := some 38) (v := .tuple #[.pointer (some ⟨(Z.tp m), 0, none⟩), .bool true]) (T' := [(38, .tuple #[.pointer (some ⟨(Z.tp m), 0, none⟩), .bool true]), (37, .agg #[.int .u16 ((Z.ky m).idx), .int .u32 ((Z.ky m).gen)]), (35, .pointer (some ⟨Z.mo, 0, none⟩)), (31, .map (some Z.tb)), (0, .pointer (some ⟨mb, 0, none⟩)), (3, .pointer (some ⟨b2, 0, none⟩)), (4, .int .i64 ((m : Nat) : Int)), (36, .int .i64 ((m : Nat) : Int))]) rfl
      clear h69
      refine dr_batch tabOk2 tabZ_ok2 (by repeat (first | with_reducible exact PF.body | with_reducible apply PF.inB | with_reducible apply PF.next)) [(11, {}), (12, {}), (13, {}), (14, {}), (15, {})] [0, 3, 4, 5, 6] (T' := [(0, .pointer (some ⟨mb, 0, none⟩)), (3, .pointer (some ⟨b2, 0, none⟩)), (4, .int .i64 ((m : Nat) : Int)), (5, .pointer (some ⟨(Z.tp m), 0, none⟩)), (6, .bool true)]) (φ := True) (fuel := 0) h71 (by kernel_rfl) rfl (by kernel_rfl) (by kernel_rfl) ⟨trivial, trivial, trivial, trivial, trivial, trivial⟩ trivial fun a72 h73 => ?_
      clear h71
      refine wpAnyK_done (by kernel_rfl) ?_ _
      refine hK55 _ _ ?_
      clear hK55
      refine wp_seq_k fun K74 hK74 => ?_
      rcases Bool.eq_false_or_eq_true (((b1.th m).st == 6)) with hb75 | hb75
      ·
        have hb75f : (b1.th m).st = 6 := by simpa using hb75
        refine dr_start (KB := [3, b2, (Z.tp m)]) (Bi := [[0, 1, 2], [0, 1, 2], [0, 1, 2], [0, 1, 2], [0, 1, 2], [0, 1, 2], [0, 1, 2], [0, 1, 2], [0, 1, 2], [0, 1, 2], [0, 1, 2], [0, 1, 2], [0, 1, 2], [0, 1, 2], [0, 1, 2], [0, 1, 2], [0, 1, 2]]) mixed h73 fun w76 h77 => ?_
        clear h73
        refine dr_batch tabOk2 tabZ_ok2 (by repeat (first | with_reducible exact PF.body | with_reducible apply PF.inB | with_reducible apply PF.next)) [(0, {}), (1, {}), (2, {}), (3, {}), (4, {})] [0, 3, 4, 5, 6, 42, 45] (T' := [(0, .pointer (some ⟨mb, 0, none⟩)), (3, .pointer (some ⟨b2, 0, none⟩)), (4, .int .i64 ((m : Nat) : Int)), (5, .pointer (some ⟨(Z.tp m), 0, none⟩)), (6, .bool true), (42, .bool true), (45, .pointer (some ⟨(Z.tp m), 0, none⟩))]) (φ := True) (fuel := 12) h77 (by kernel_rfl) rfl (by kernel_rfl) (by kernel_rfl) ⟨trivial, trivial, trivial, trivial, trivial, trivial⟩ trivial fun a79 h80 => ?_
        clear h77
        refine dr_read (i := 5) (b := (Z.tp m)) (p := 2) (v := .int .u8 ((b1.th m).st)) (fuel := 11) (by repeat (first | with_reducible exact PF.body | with_reducible apply PF.inB | with_reducible apply PF.next)) h80 rfl rfl rfl (by kernel_rfl) (by kernel_rfl) (by kernel_rfl) rfl (rd_th h80 (x := m) (k := 0) (v := .int .u8 ((b1.th m).st)) hin.1 rfl rfl rfl rfl ⟨rfl, trivial⟩) ?_
        have h81 := h80.put (d := some 46) (v := .int .u8 ((b1.th m).st)) (T' := [(46, .int .u8 ((b1.th m).st)), (0, .pointer (some ⟨mb, 0, none⟩)), (3, .pointer (some ⟨b2, 0, none⟩)), (4, .int .i64 ((m : Nat) : Int)), (5, .pointer (some ⟨(Z.tp m), 0, none⟩)), (6, .bool true), (42, .bool true), (45, .pointer (some ⟨(Z.tp m), 0, none⟩))]) rfl
        clear h80
        refine dr_batch tabOk2 tabZ_ok2 (by repeat (first | with_reducible exact PF.body | with_reducible apply PF.inB | with_reducible apply PF.next)) [(6, {f := 2}), (7, {}), (8, {}), (9, {}), (10, {}), (11, {})] [0, 3, 4, 5, 6, 49, 52] (T' := [(0, .pointer (some ⟨mb, 0, none⟩)), (3, .pointer (some ⟨b2, 0, none⟩)), (4, .int .i64 ((m : Nat) : Int)), (5, .pointer (some ⟨(Z.tp m), 0, none⟩)), (6, .bool true), (49, .bool true), (52, .pointer (some ⟨(Z.tp m), 2, none⟩))]) (φ := (((b1.th m).st == 6)) = true ∧ True) (fuel := 5) h81 (by kernel_rfl) rfl (by kernel_rfl) (by kernel_rfl) ⟨trivial, trivial, trivial, trivial, trivial, trivial, trivial⟩ ⟨hb75, trivial⟩ fun a82 h83 => ?_
        clear h81
        refine dr_read (i := 12) (b := (Z.tp m)) (p := 2) (v := .agg #[.int .u16 ((b1.th m).wait.idx), .int .u32 ((b1.th m).wait.gen)]) (fuel := 4) (by repeat (first | with_reducible exact PF.body | with_reducible apply PF.inB | with_reducible apply PF.next)) h83 rfl rfl rfl (by kernel_rfl) (by kernel_rfl) (by kernel_rfl) rfl (rd_thA h83 (x := m) (k := 2) (vs := [.int .u16 ((b1.th m).wait.idx), .int .u32 ((b1.th m).wait.gen)]) hin.1 rfl rfl rfl rfl rfl ⟨rfl, rfl, trivial⟩) ?_
        have h84 := h83.put (d := some 53) (v := .agg #[.int .u16 ((b1.th m).wait.idx), .int .u32 ((b1.th m).wait.gen)]) (T' := [(53, .agg #[.int .u16 ((b1.th m).wait.idx), .int .u32 ((b1.th m).wait.gen)]), (0, .pointer (some ⟨mb, 0, none⟩)), (3, .pointer (some ⟨b2, 0, none⟩)), (4, .int .i64 ((m : Nat) : Int)), (5, .pointer (some ⟨(Z.tp m), 0, none⟩)), (6, .bool true), (49, .bool true), (52, .pointer (some ⟨(Z.tp m), 2, none⟩))]) rfl
        clear h83
        refine dr_batch tabOk2 tabZ_ok2 (by repeat (first | with_reducible exact PF.body | with_reducible apply PF.inB | with_reducible apply PF.next)) [(13, {}), (14, {k := 1, p := 1}), (15, {vs := [.bool (decide ((b1.th m).wait = (Z.ky o)))]}), (16, {})] [0, 3, 4, 5, 6, 57] (T' := [(0, .pointer (some ⟨mb, 0, none⟩)), (3, .pointer (some ⟨b2, 0, none⟩)), (4, .int .i64 ((m : Nat) : Int)), (5, .pointer (some ⟨(Z.tp m), 0, none⟩)), (6, .bool true), (57, .bool (Bool.xor false (decide ((b1.th m).wait = (Z.ky o)))))]) (φ := (b2 = b2 ∧ Nat.ble (1 + 2) 5 = true) ∧ EqRun Tryd.prog 39 (.agg #[.int .u16 ((b1.th m).wait.idx), .int .u32 ((b1.th m).wait.gen)]) (.agg #[.int .u16 ((Z.ky o).idx), .int .u32 ((Z.ky o).gen)]) (decide ((b1.th m).wait = (Z.ky o))) ∧ True) (fuel := 0) h84 (by kernel_rfl) rfl (by kernel_rfl) (by kernel_rfl) ⟨trivial, rfl, trivial, trivial, trivial⟩ ⟨⟨rfl, rfl⟩, (runRf ((b1.th m).wait) (Z.ky o)), trivial⟩ fun a85 h86 => ?_
        clear h84
        refine wpAnyK_done (by kernel_rfl) ?_ _
        refine hK74 _ _ ?_
        clear hK74
        refine c_split h86 (b := (Bool.xor false (decide ((b1.th m).wait = (Z.ky o))))) rfl (fun hc87 => ?_) (fun hc87 => ?_)
        ·
          have hc87f : (b1.th m).wait = (Z.ky o) := by simpa using hc87
          refine nd_start (l := [0, 1, 2, 3, 4, 5, 6, 7]) rfl ?_
          refine nd_batch tabOk2 tabZ_ok2 [(0, {}), (1, {}), (2, {}), (3, {})] [0, 3, 4, 5, 6, 58, 61] (T' := [(0, .pointer (some ⟨mb, 0, none⟩)), (3, .pointer (some ⟨b2, 0, none⟩)), (4, .int .i64 ((m : Nat) : Int)), (5, .pointer (some ⟨(Z.tp m), 0, none⟩)), (6, .bool true), (58, .pointer (some ⟨mb, 0, none⟩)), (61, .pointer (some ⟨mb, 0, none⟩))]) (φ := True) (rest := [4, 5, 6, 7]) h86 (by kernel_rfl) rfl trivial fun a88 h89 => ?_
          clear h86
          refine nd_op ?_
          refine op_read (b := mb) (v := .pointer (some ⟨Z.mo, 0, none⟩)) h89 rfl rfl (rd_m h89 (k := 0) (v := .pointer (some ⟨Z.mo, 0, none⟩)) rfl rfl rfl rfl (md_p ⟨rfl, trivial⟩)) ?_
          have h90 := h89.put (d := some 62) (v := .pointer (some ⟨Z.mo, 0, none⟩)) (T' := [(62, .pointer (some ⟨Z.mo, 0, none⟩)), (0, .pointer (some ⟨mb, 0, none⟩)), (3, .pointer (some ⟨b2, 0, none⟩)), (4, .int .i64 ((m : Nat) : Int)), (5, .pointer (some ⟨(Z.tp m), 0, none⟩)), (6, .bool true), (58, .pointer (some ⟨mb, 0, none⟩)), (61, .pointer (some ⟨mb, 0, none⟩))]) rfl
          clear h89
          refine nd_batch tabOk2 tabZ_ok2 [(5, {})] [62, 0, 3, 4, 5, 6, 58, 63] (T' := [(62, .pointer (some ⟨Z.mo, 0, none⟩)), (0, .pointer (some ⟨mb, 0, none⟩)), (3, .pointer (some ⟨b2, 0, none⟩)), (4, .int .i64 ((m : Nat) : Int)), (5, .pointer (some ⟨(Z.tp m), 0, none⟩)), (6, .bool true), (58, .pointer (some ⟨mb, 0, none⟩)), (63, .int .i64 ((m : Nat) : Int))]) (φ := True) (rest := [6, 7]) h90 (by kernel_rfl) rfl trivial fun a91 h92 => ?_
          clear h90
          refine nd_op ?_
          refine op_call h92 rfl rfl rfl (callOk Tryd.func41 (by decide) rfl) (args := [.pointer (some ⟨Z.mo, 0, none⟩), .int .i64 ((m : Nat) : Int)]) rfl (by have h9 := refAt_ok Z.mo C.ent (m : Int) ⟨by omega, by omega⟩ _ h92.inv.1.cp.st; rw [← hin.2] at h9; exact h9) ?_
          rintro _ w93 ⟨rfl, hf95⟩
          refine ⟨_, rfl, ?_⟩
          have h94 := (h92.grow hf95).put (d := some 64) (v := .agg #[.int .u16 ((Z.ky m).idx), .int .u32 ((Z.ky m).gen)]) (T' := [(64, .agg #[.int .u16 ((Z.ky m).idx), .int .u32 ((Z.ky m).gen)]), (62, .pointer (some ⟨Z.mo, 0, none⟩)), (0, .pointer (some ⟨mb, 0, none⟩)), (3, .pointer (some ⟨b2, 0, none⟩)), (4, .int .i64 ((m : Nat) : Int)), (5, .pointer (some ⟨(Z.tp m), 0, none⟩)), (6, .bool true), (58, .pointer (some ⟨mb, 0, none⟩)), (63, .int .i64 ((m : Nat) : Int))]) rfl
          clear h92
          refine nd_op ?_
          refine op_call h94 rfl rfl rfl (callOk Tryd.func52 (by decide) rfl) (args := [.pointer (some ⟨mb, 0, none⟩), .agg #[.int .u16 ((Z.ky m).idx), .int .u32 ((Z.ky m).gen)]]) rfl (mready_ok mb (Z.delT o) _ b1 _ m hin.1 hP1 _ (mh_of h94 hho1 (k := 0) rfl)) ?_
          rintro _ w96 ⟨rfl, R97, hg98⟩
          refine ⟨_, rfl, ?_⟩
          have h99a := st_mg h94 hg98 (kcons (fun _ => rfl) (kcons (fun hq => by cases hq) knil))
          have h99 := h99a.put (d := some 65) (v := .tuple #[]) (T' := [(65, .tuple #[]), (64, .agg #[.int .u16 ((Z.ky m).idx), .int .u32 ((Z.ky m).gen)]), (62, .pointer (some ⟨Z.mo, 0, none⟩)), (0, .pointer (some ⟨mb, 0, none⟩)), (3, .pointer (some ⟨b2, 0, none⟩)), (4, .int .i64 ((m : Nat) : Int)), (5, .pointer (some ⟨(Z.tp m), 0, none⟩)), (6, .bool true), (58, .pointer (some ⟨mb, 0, none⟩)), (63, .int .i64 ((m : Nat) : Int))]) rfl
          have hhoh99 := hg98.mh.ho
          obtain ⟨a100, ea100⟩ : ∃ z : AK, z = wakeA b1 m := ⟨_, rfl⟩
          rw [← ea100] at h99
          clear h94 h99a
          refine nd_done ?_
          refine hK54 _ _ ?_
          clear hK54
          refine nd_start (l := [0, 1, 2]) rfl ?_
          refine nd_batch tabOk2 tabZ_ok2 [(0, {}), (1, {}), (2, {})] [0, 3, 5, 6, 4] (T' := [(0, .pointer (some ⟨mb, 0, none⟩)), (3, .pointer (some ⟨b2, 0, none⟩)), (5, .pointer (some ⟨(Z.tp m), 0, none⟩)), (6, .bool true), (4, .int .i64 (((m : Nat) : Int) + 1))]) (φ := inR .i64 (((m : Nat) : Int) + 1) ∧ True) (rest := []) h99 (by kernel_rfl) rfl ⟨⟨by omega, by omega⟩, trivial⟩ fun a101 h102 => ?_
          clear h99
          refine nd_done ?_
          exact ⟨(g - 1), by omega, a100, R97, (m + 1), by omega, by omega, (by rw [hwm, if_pos ⟨hin.1, hin.2, hb75f, hc87f⟩]; exact ea100), hhoh99, (h102.slotsMono (restr_spec (keep := [0, 3, 4]) rfl))⟩
        ·
          have hc87f : ¬ ((b1.th m).wait = (Z.ky o)) := by simpa using hc87
          refine wp_skip ?_
          refine hK54 _ _ ?_
          clear hK54
          refine nd_start (l := [0, 1, 2]) rfl ?_
          refine nd_batch tabOk2 tabZ_ok2 [(0, {}), (1, {}), (2, {})] [0, 3, 5, 6, 4] (T' := [(0, .pointer (some ⟨mb, 0, none⟩)), (3, .pointer (some ⟨b2, 0, none⟩)), (5, .pointer (some ⟨(Z.tp m), 0, none⟩)), (6, .bool true), (4, .int .i64 (((m : Nat) : Int) + 1))]) (φ := inR .i64 (((m : Nat) : Int) + 1) ∧ True) (rest := []) h86 (by kernel_rfl) rfl ⟨⟨by omega, by omega⟩, trivial⟩ fun a103 h104 => ?_
          clear h86
          refine nd_done ?_
          exact ⟨(g - 1), by omega, b1, R1, (m + 1), by omega, by omega, (by rw [hwm, if_neg (fun hq => hc87f hq.2.2.2)]), hho1, (h104.slotsMono (restr_spec (keep := [0, 3, 4]) rfl))⟩
      ·
        have hb75f : (b1.th m).st ≠ 6 := by simpa using hb75
        refine dr_start (KB := [3, b2, (Z.tp m)]) (Bi := [[0, 1, 2], [0, 1, 2], [0, 1, 2], [0, 1, 2], [0, 1, 2], [0, 1, 2], [0, 1, 2], [0, 1, 2], [0, 1, 2], [0, 1, 2], [0, 1, 2], [0, 1, 2], [0, 1, 2], [0, 1, 2], [0, 1, 2], [0, 1, 2], [0, 1, 2]]) mixed h73 fun w105 h106 => ?_
        clear h73
        refine dr_batch tabOk2 tabZ_ok2 (by repeat (first | with_reducible exact PF.body | with_reducible apply PF.inB | with_reducible apply PF.next)) [(0, {}), (1, {}), (2, {}), (3, {}), (4, {})] [0, 3, 4, 5, 6, 42, 45] (T' := [(0, .pointer (some ⟨mb, 0, none⟩)), (3, .pointer (some ⟨b2, 0, none⟩)), (4, .int .i64 ((m : Nat) : Int)), (5, .pointer (some ⟨(Z.tp m), 0, none⟩)), (6, .bool true), (42, .bool true), (45, .pointer (some ⟨(Z.tp m), 0, none⟩))]) (φ := True) (fuel := 12) h106 (by kernel_rfl) rfl (by kernel_rfl) (by kernel_rfl) ⟨trivial, trivial, trivial, trivial, trivial, trivial⟩ trivial fun a108 h109 => ?_
        clear h106
        refine dr_read (i := 5) (b := (Z.tp m)) (p := 2) (v := .int .u8 ((b1.th m).st)) (fuel := 11) (by repeat (first | with_reducible exact PF.body | with_reducible apply PF.inB | with_reducible apply PF.next)) h109 rfl rfl rfl (by kernel_rfl) (by kernel_rfl) (by kernel_rfl) rfl (rd_th h109 (x := m) (k := 0) (v := .int .u8 ((b1.th m).st)) hin.1 rfl rfl rfl rfl ⟨rfl, trivial⟩) ?_
        have h110 := h109.put (d := some 46) (v := .int .u8 ((b1.th m).st)) (T' := [(46, .int .u8 ((b1.th m).st)), (0, .pointer (some ⟨mb, 0, none⟩)), (3, .pointer (some ⟨b2, 0, none⟩)), (4, .int .i64 ((m : Nat) : Int)), (5, .pointer (some ⟨(Z.tp m), 0, none⟩)), (6, .bool true), (42, .bool true), (45, .pointer (some ⟨(Z.tp m), 0, none⟩))]) rfl
        clear h109
        refine dr_batch tabOk2 tabZ_ok2 (by repeat (first | with_reducible exact PF.body | with_reducible apply PF.inB | with_reducible apply PF.next)) [(6, {f := 1}), (7, {}), (8, {}), (9, {}), (10, {}), (11, {}), (12, {k := 0, p := 0}), (13, {}), (14, {k := 0, p := 0}), (15, {}), (16, {})] [0, 3, 4, 5, 6, 57] (T' := [(0, .pointer (some ⟨mb, 0, none⟩)), (3, .pointer (some ⟨b2, 0, none⟩)), (4, .int .i64 ((m : Nat) : Int)), (5, .pointer (some ⟨(Z.tp m), 0, none⟩)), (6, .bool true), (57, .bool false)]) (φ := (((b1.th m).st == 6)) = false ∧ True) (fuel := 0) h110 (by kernel_rfl) rfl (by kernel_rfl) (by kernel_rfl) ⟨trivial, trivial, trivial, trivial, trivial, trivial, rfl, trivial, rfl, trivial, trivial, trivial⟩ ⟨hb75, trivial⟩ fun a111 h112 => ?_
        clear h110
        refine wpAnyK_done (by kernel_rfl) ?_ _
        refine hK74 _ _ ?_
        clear hK74
        refine c_false h112 rfl ?_
        refine wp_skip ?_
        refine hK54 _ _ ?_
        clear hK54
        refine nd_start (l := [0, 1, 2]) rfl ?_
        refine nd_batch tabOk2 tabZ_ok2 [(0, {}), (1, {}), (2, {})] [0, 3, 5, 6, 4] (T' := [(0, .pointer (some ⟨mb, 0, none⟩)), (3, .pointer (some ⟨b2, 0, none⟩)), (5, .pointer (some ⟨(Z.tp m), 0, none⟩)), (6, .bool true), (4, .int .i64 (((m : Nat) : Int) + 1))]) (φ := inR .i64 (((m : Nat) : Int) + 1) ∧ True) (rest := []) h112 (by kernel_rfl) rfl ⟨⟨by omega, by omega⟩, trivial⟩ fun a113 h114 => ?_
        clear h112
        refine nd_done ?_
        exact ⟨(g - 1), by omega, b1, R1, (m + 1), by omega, by omega, (by rw [hwm, if_neg (fun hq => hb75f hq.2.2.1)]), hho1, (h114.slotsMono (restr_spec (keep := [0, 3, 4]) rfl))⟩
    ·
      have hin := of_decide_eq_false hb56
      refine dr_start (KB := [3, b2, mb, Z.tb]) (Bi := [[0, 1, 2, 3], [0, 1, 2, 3], [0, 1, 2, 3], [0, 1, 2, 3], [0, 1, 2, 3], [0, 1, 2, 3], [0, 1, 2, 3], [0, 1, 2, 3], [0, 1, 2, 3], [2], [0, 1, 2, 3], [0, 1, 2, 3], [0, 1, 2, 3], [0, 1, 2, 3], [0, 1, 2, 3], [0, 1, 2, 3]]) mixed h52 fun w115 h116 => ?_
      clear h52
      refine dr_batch tabOk2 tabZ_ok2 (by repeat (first | with_reducible exact PF.body | with_reducible apply PF.inB | with_reducible apply PF.next)) [(0, {}), (1, {}), (2, {})] [0, 3, 4, 30] (T' := [(0, .pointer (some ⟨mb, 0, none⟩)), (3, .pointer (some ⟨b2, 0, none⟩)), (4, .int .i64 ((m : Nat) : Int)), (30, .pointer (some ⟨mb, 2, none⟩))]) (φ := True) (fuel := 13) h116 (by kernel_rfl) rfl (by kernel_rfl) (by kernel_rfl) ⟨trivial, trivial, trivial, trivial⟩ trivial fun a118 h119 => ?_
      clear h116
      refine dr_read (i := 3) (b := mb) (p := 2) (v := .map (some Z.tb)) (fuel := 12) (by repeat (first | with_reducible exact PF.body | with_reducible apply PF.inB | with_reducible apply PF.next)) h119 rfl rfl rfl (by kernel_rfl) (by kernel_rfl) (by kernel_rfl) rfl (rd_m h119 (k := 2) (v := .map (some Z.tb)) rfl rfl rfl rfl (md_p ⟨rfl, trivial⟩)) ?_
      have h120 := h119.put (d := some 31) (v := .map (some Z.tb)) (T' := [(31, .map (some Z.tb)), (0, .pointer (some ⟨mb, 0, none⟩)), (3, .pointer (some ⟨b2, 0, none⟩)), (4, .int .i64 ((m : Nat) : Int)), (30, .pointer (some ⟨mb, 2, none⟩))]) rfl
      clear h119
      refine dr_batch tabOk2 tabZ_ok2 (by repeat (first | with_reducible exact PF.body | with_reducible apply PF.inB | with_reducible apply PF.next)) [(4, {}), (5, {}), (6, {})] [31, 0, 3, 4, 34] (T' := [(31, .map (some Z.tb)), (0, .pointer (some ⟨mb, 0, none⟩)), (3, .pointer (some ⟨b2, 0, none⟩)), (4, .int .i64 ((m : Nat) : Int)), (34, .pointer (some ⟨mb, 0, none⟩))]) (φ := True) (fuel := 9) h120 (by kernel_rfl) rfl (by kernel_rfl) (by kernel_rfl) ⟨trivial, trivial, trivial, trivial⟩ trivial fun a121 h122 => ?_
      clear h120
      refine dr_read (i := 7) (b := mb) (p := 2) (v := .pointer (some ⟨Z.mo, 0, none⟩)) (fuel := 8) (by repeat (first | with_reducible exact PF.body | with_reducible apply PF.inB | with_reducible apply PF.next)) h122 rfl rfl rfl (by kernel_rfl) (by kernel_rfl) (by kernel_rfl) rfl (rd_m h122 (k := 0) (v := .pointer (some ⟨Z.mo, 0, none⟩)) rfl rfl rfl rfl (md_p ⟨rfl, trivial⟩)) ?_
      have h123 := h122.put (d := some 35) (v := .pointer (some ⟨Z.mo, 0, none⟩)) (T' := [(35, .pointer (some ⟨Z.mo, 0, none⟩)), (31, .map (some Z.tb)), (0, .pointer (some ⟨mb, 0, none⟩)), (3, .pointer (some ⟨b2, 0, none⟩)), (4, .int .i64 ((m : Nat) : Int)), (34, .pointer (some ⟨mb, 0, none⟩))]) rfl
      clear h122
      refine dr_batch tabOk2 tabZ_ok2 (by repeat (first | with_reducible exact PF.body | with_reducible apply PF.inB | with_reducible apply PF.next)) [(8, {})] [35, 31, 0, 3, 4, 36] (T' := [(35, .pointer (some ⟨Z.mo, 0, none⟩)), (31, .map (some Z.tb)), (0, .pointer (some ⟨mb, 0, none⟩)), (3, .pointer (some ⟨b2, 0, none⟩)), (4, .int .i64 ((m : Nat) : Int)), (36, .int .i64 ((m : Nat) : Int))]) (φ := True) (fuel := 7) h123 (by kernel_rfl) rfl (by kernel_rfl) (by kernel_rfl) ⟨trivial, trivial⟩ trivial fun a124 h125 => ?_
      clear h123
      refine wpAnyK_one (i := 9) (fuel := 6) (by kernel_rfl) ?_
      refine op_call h125 rfl rfl rfl (callOk Tryd.func41 (by decide) rfl) (args := [.pointer (some ⟨Z.mo, 0, none⟩), .int .i64 ((m : Nat) : Int)]) rfl (refAt_ok Z.mo C.ent (m : Int) ⟨by omega, by omega⟩ _ h125.inv.1.cp.st) ?_
      rintro _ w126 ⟨rfl, hf128⟩
      refine ⟨_, rfl, ?_⟩
      have h127 := (h125.grow hf128).put (d := some 37) (v := .agg #[.int .u16 ((refAtP C.ent (m : Int)).idx), .int .u32 ((refAtP C.ent (m : Int)).gen)]) (T' := [(37, .agg #[.int .u16 ((refAtP C.ent (m : Int)).idx), .int .u32 ((refAtP C.ent (m : Int)).gen)]), (35, .pointer (some ⟨Z.mo, 0, none⟩)), (31, .map (some Z.tb)), (0, .pointer (some ⟨mb, 0, none⟩)), (3, .pointer (some ⟨b2, 0, none⟩)), (4, .int .i64 ((m : Nat) : Int)), (36, .int .i64 ((m : Nat) : Int))]) rfl
      refine ⟨(keepCons (kpM h125.inv.1 (l := .m) trivial (List.mem_cons_self ..) hf128) keepNil), ?_⟩
      clear h125
      refine dr_read (i := 10) (b := Z.tb) (p := 3) (v := .tuple #[.pointer none, .bool false]) (fuel := 5) (by repeat (first | with_reducible exact PF.body | with_reducible apply PF.inB | with_reducible apply PF.next)) h127 rfl rfl rfl (by kernel_rfl) (by kernel_rfl) (by kernel_rfl) rfl (rd_TN (Z := Z.delT o) h127 (k := refAtP C.ent (m : Int)) (no_key (Z := Z.delT o) h127.inv.1.k hin (by omega)) rfl rfl rfl) ?_
      have h129 := h127.put (d := some 38) (v := .tuple #[.pointer none, .bool false]) (T' := [(38, .tuple #[.pointer none, .bool false]), (37, .agg #[.int .u16 ((refAtP C.ent (m : Int)).idx), .int .u32 ((refAtP C.ent (m : Int)).gen)]), (35, .pointer (some ⟨Z.mo, 0, none⟩)), (31, .map (some Z.tb)), (0, .pointer (some ⟨mb, 0, none⟩)), (3, .pointer (some ⟨b2, 0, none⟩)), (4, .int .i64 ((m : Nat) : Int)), (36, .int .i64 ((m : Nat) : Int))]) rfl
      clear h127
      refine dr_batch tabOk2 tabZ_ok2 (by repeat (first | with_reducible exact PF.body | with_reducible apply PF.inB | with_reducible apply PF.next)) [(11, {}), (12, {}), (13, {}), (14, {}), (15, {})] [0, 3, 4, 5, 6] (T' := [(0, .pointer (some ⟨mb, 0, none⟩)), (3, .pointer (some ⟨b2, 0, none⟩)), (4, .int .i64 ((m : Nat) : Int)), (5, .pointer none), (6, .bool false)]) (φ := True) (fuel := 0) h129 (by kernel_rfl) rfl (by kernel_rfl) (by kernel_rfl) ⟨trivial, trivial, trivial, trivial, trivial, trivial⟩ trivial fun a130 h131 => ?_
      clear h129
      refine wpAnyK_done (by kernel_rfl) ?_ _
      refine hK55 _ _ ?_
      clear hK55
      refine wp_seq_k fun K132 hK132 => ?_
      refine dr_start (KB := [3, b2]) (Bi := [[0, 1], [0, 1], [0, 1], [0, 1], [0, 1], [0, 1], [0, 1], [0, 1], [0, 1], [0, 1], [0, 1], [0, 1], [0, 1], [0, 1], [0, 1], [0, 1], [0, 1]]) mixed h131 fun w133 h134 => ?_
      clear h131
      refine dr_batch tabOk2 tabZ_ok2 (by repeat (first | with_reducible exact PF.body | with_reducible apply PF.inB | with_reducible apply PF.next)) [(0, {}), (1, {}), (2, {}), (3, {}), (4, {}), (5, {k := 0, p := 0}), (6, {}), (7, {}), (8, {}), (9, {}), (10, {}), (11, {}), (12, {k := 0, p := 0}), (13, {}), (14, {k := 0, p := 0}), (15, {}), (16, {})] [0, 3, 4, 5, 6, 57] (T' := [(0, .pointer (some ⟨mb, 0, none⟩)), (3, .pointer (some ⟨b2, 0, none⟩)), (4, .int .i64 ((m : Nat) : Int)), (5, .pointer none), (6, .bool false), (57, .bool false)]) (φ := True) (fuel := 0) h134 (by kernel_rfl) rfl (by kernel_rfl) (by kernel_rfl) ⟨trivial, trivial, trivial, trivial, trivial, rfl, trivial, trivial, trivial, trivial, trivial, trivial, rfl, trivial, rfl, trivial, trivial, trivial⟩ trivial fun a136 h137 => ?_
      clear h134
      refine wpAnyK_done (by kernel_rfl) ?_ _
      refine hK132 _ _ ?_
      clear hK132
      refine c_false h137 rfl ?_
      refine wp_skip ?_
      refine hK54 _ _ ?_
      clear hK54
      refine nd_start (l := [0, 1, 2]) rfl ?_
      refine nd_batch tabOk2 tabZ_ok2 [(0, {}), (1, {}), (2, {})] [0, 3, 5, 6, 4] (T' := [(0, .pointer (some ⟨mb, 0, none⟩)), (3, .pointer (some ⟨b2, 0, none⟩)), (5, .pointer none), (6, .bool false), (4, .int .i64 (((m : Nat) : Int) + 1))]) (φ := inR .i64 (((m : Nat) : Int) + 1) ∧ True) (rest := []) h137 (by kernel_rfl) rfl ⟨⟨by omega, by omega⟩, trivial⟩ fun a138 h139 => ?_
      clear h137
      refine nd_done ?_
      exact ⟨(g - 1), by omega, b1, R1, (m + 1), by omega, by omega, (by rw [hwm, if_neg (fun hq => hin ⟨hq.1, hq.2.1⟩)]), hho1, (h139.slotsMono (restr_spec (keep := [0, 3, 4]) rfl))⟩
  ·
    have hc53f : ¬ ((m : Nat) : Int) < 256 := by simpa using hc53
    have hm9 : m = 256 := by omega
    subst hm9
    have h140 := h52.slotsMono (restr_spec (keep := [0, 3]) rfl)
    clear h52
    refine wp_exit ?_
    try simp only [Exit.then, Exit.inBlock]
    try rw [if_pos trivial]
    exact s_end tabOk2 tabZ_ok2 h140 [] (vs := []) (φ := True) rfl (by kernel_rfl) trivial (by rw [← hb1]; exact ⟨rfl, R1, mg_end hH h140 hho1 rfl⟩)

end Go.Proofs.Qxb6500918aDoor
