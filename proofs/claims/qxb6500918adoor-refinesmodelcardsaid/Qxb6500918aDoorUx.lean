/-
  The model: queues and nodes are forgotten. (Made by program: a symbolic walk that prints its steps.)
-/
import Derived.Test.Qxb6500918aDoorUw
namespace Go.Proofs.Qxb6500918aDoor
open Go.Sx Go.Kn
set_option maxRecDepth 100000
set_option maxHeartbeats 4000000
set_option linter.unusedVariables false
set_option linter.unusedSimpArgs false

theorem forget4e (mb : Nat) (Z : MZ) (R : MR) (a : AK) (C : CP) (i : Nat) (hi : i ∈ sl Z.ql) (rt bd : Int) (hP : MP Z a) (hq0 : a.q (.w i) = []) (w : World) (hH : MH mb Z R a C w) :
    Calls Tryd.prog 97 #[.pointer (some ⟨mb, 0, none⟩), .agg #[.int .u8 4, .int .u16 ((Z.ky i).idx), .int .u32 ((Z.ky i).gen), .int .u8 rt, .int .u64 bd]] w fun e w' => e = .returned (.tuple #[]) ∧ ∃ R', MG mb Z R C w (Z.delQ i) R' (((a.q (.w i)).foldl wakeA a).setW i 0) C w' := by
  have hokw : (QL.w i).ok := hH.md.k.qx i hi
  have hi2 : i < 256 := hokw
  obtain ⟨ty3, hg3⟩ := hH.g3
  have hho := hH.ho
  have hkk := hH.md.k
  refine enter (n := 98) (K := mdF mb Z R C) (A := MD (mdF mb Z R C) w.heap.size mb Z R a C) (F := mdF mb Z R C) (T := [(0, .pointer (some ⟨mb, 0, none⟩)), (1, .agg #[.int .u8 4, .int .u16 ((Z.ky i).idx), .int .u32 ((Z.ky i).gen), .int .u8 rt, .int .u64 bd])]) (L := [(3, ⟨[.int .u16 0, .int .u32 0], ty3, true⟩)]) (args := [.pointer (some ⟨mb, 0, none⟩), .agg #[.int .u8 4, .int .u16 ((Z.ky i).idx), .int .u32 ((Z.ky i).gen), .int .u8 rt, .int .u64 bd]]) Tryd.func97 rfl rfl rfl rfl (kcons hg3 knil) (by simp) (kcons (by intro hq; cases hq) knil) hH.mD MD.stable hH.md.low (kcons (by intro hq; cases hq) knil) ?_
  intro ac h
  refine wp_seq_k fun K1 hK1 => ?_
  refine nd_start (l := [0]) rfl ?_
  refine nd_op ?_
  refine op_new tabOk2 (cells := [.int .u8 4, .int .u16 ((Z.ky i).idx), .int .u32 ((Z.ky i).gen), .int .u8 rt, .int .u64 bd]) (ty := 49) (ln := none) (L1 := fun b2 => [(3, ⟨[.int .u16 0, .int .u32 0], ty3, true⟩), (b2, ⟨[.int .u8 4, .int .u16 ((Z.ky i).idx), .int .u32 ((Z.ky i).gen), .int .u8 rt, .int .u64 bd], 49, false⟩)]) h rfl rfl rfl rfl (by kernel_rfl) (fun _ => rfl) fun b2 w3 a4 h5 hf6 hn7 => ?_
  clear h
  refine nd_done ?_
  refine hK1 _ _ ?_
  clear hK1
  refine wp_seq_k fun K8 hK8 => ?_
  refine nd_start (l := [0, 1]) rfl ?_
  refine nd_batch tabOk2 tabZ_ok2 [(0, {}), (1, {k := 1})] [3, 0, 1, 10] (T' := [(3, .pointer (some ⟨b2, 0, none⟩)), (0, .pointer (some ⟨mb, 0, none⟩)), (1, .agg #[.int .u8 4, .int .u16 ((Z.ky i).idx), .int .u32 ((Z.ky i).gen), .int .u8 rt, .int .u64 bd]), (10, .int .u8 4)]) (φ := (b2 = b2 ∧ Nat.ble (0 + 1) 5 = true) ∧ True) (rest := []) h5 (by kernel_rfl) rfl ⟨⟨rfl, rfl⟩, trivial⟩ fun a9 h10 => ?_
  clear h5
  refine nd_done ?_
  refine hK8 _ _ ?_
  clear hK8
  refine wp_block ?_
  refine wp_seq_k fun K11 hK11 => ?_
  refine nd_start (l := [0, 1]) rfl ?_
  refine nd_batch tabOk2 tabZ_ok2 [(0, {}), (1, {})] [3, 0, 1, 10, 11] (T' := [(3, .pointer (some ⟨b2, 0, none⟩)), (0, .pointer (some ⟨mb, 0, none⟩)), (1, .agg #[.int .u8 4, .int .u16 ((Z.ky i).idx), .int .u32 ((Z.ky i).gen), .int .u8 rt, .int .u64 bd]), (10, .int .u8 4), (11, .bool false)]) (φ := True) (rest := []) h10 (by kernel_rfl) rfl trivial fun a12 h13 => ?_
  clear h10
  refine nd_done ?_
  refine hK11 _ _ ?_
  clear hK11
  refine c_false h13 rfl ?_
  refine wp_seq_k fun K14 hK14 => ?_
  refine wp_seq_k fun K15 hK15 => ?_
  refine nd_start (l := [0, 1]) rfl ?_
  refine nd_batch tabOk2 tabZ_ok2 [(0, {}), (1, {})] [3, 0, 1, 10, 66] (T' := [(3, .pointer (some ⟨b2, 0, none⟩)), (0, .pointer (some ⟨mb, 0, none⟩)), (1, .agg #[.int .u8 4, .int .u16 ((Z.ky i).idx), .int .u32 ((Z.ky i).gen), .int .u8 rt, .int .u64 bd]), (10, .int .u8 4), (66, .bool true)]) (φ := True) (rest := []) h13 (by kernel_rfl) rfl trivial fun a16 h17 => ?_
  clear h13
  refine nd_done ?_
  refine hK15 _ _ ?_
  clear hK15
  refine c_true h17 rfl ?_
  refine wp_skip ?_
  refine hK14 _ _ ?_
  clear hK14
  refine c_true h17 rfl ?_
  refine wp_seq_k fun K18 hK18 => ?_
  refine wp_seq_k fun K19 hK19 => ?_
  refine dr_start (KB := [3, b2, mb, Z.qb]) (Bi := [[0, 1, 2, 3], [0, 1, 2, 3], [0, 1, 2, 3], [0, 1, 2, 3], [0, 1, 2, 3], [0, 1, 2, 3], [0, 1, 2, 3], [], [0, 1, 2, 3], [0, 1, 2, 3]]) mixed h17 fun w20 h21 => ?_
  clear h17
  refine dr_batch tabOk2 tabZ_ok2 (by repeat (first | with_reducible exact PF.body | with_reducible apply PF.inB | with_reducible apply PF.next)) [(0, {}), (1, {}), (2, {})] [3, 0, 1, 10, 66, 71] (T' := [(3, .pointer (some ⟨b2, 0, none⟩)), (0, .pointer (some ⟨mb, 0, none⟩)), (1, .agg #[.int .u8 4, .int .u16 ((Z.ky i).idx), .int .u32 ((Z.ky i).gen), .int .u8 rt, .int .u64 bd]), (10, .int .u8 4), (66, .bool true), (71, .pointer (some ⟨mb, 3, none⟩))]) (φ := True) (fuel := 7) h21 (by kernel_rfl) rfl (by kernel_rfl) (by kernel_rfl) ⟨trivial, trivial, trivial, trivial⟩ trivial fun a23 h24 => ?_
  clear h21
  refine dr_read (i := 3) (b := mb) (p := 2) (v := .map (some Z.qb)) (fuel := 6) (by repeat (first | with_reducible exact PF.body | with_reducible apply PF.inB | with_reducible apply PF.next)) h24 rfl rfl rfl (by kernel_rfl) (by kernel_rfl) (by kernel_rfl) rfl (rd_m h24 (k := 3) (v := .map (some Z.qb)) rfl rfl rfl rfl (md_p ⟨rfl, trivial⟩)) ?_
  have h25 := h24.put (d := some 72) (v := .map (some Z.qb)) (T' := [(72, .map (some Z.qb)), (3, .pointer (some ⟨b2, 0, none⟩)), (0, .pointer (some ⟨mb, 0, none⟩)), (1, .agg #[.int .u8 4, .int .u16 ((Z.ky i).idx), .int .u32 ((Z.ky i).gen), .int .u8 rt, .int .u64 bd]), (10, .int .u8 4), (66, .bool true), (71, .pointer (some ⟨mb, 3, none⟩))]) rfl
  clear h24
  refine dr_batch tabOk2 tabZ_ok2 (by repeat (first | with_reducible exact PF.body | with_reducible apply PF.inB | with_reducible apply PF.next)) [(4, {}), (5, {k := 1, p := 1})] [72, 3, 0, 1, 10, 66, 74] (T' := [(72, .map (some Z.qb)), (3, .pointer (some ⟨b2, 0, none⟩)), (0, .pointer (some ⟨mb, 0, none⟩)), (1, .agg #[.int .u8 4, .int .u16 ((Z.ky i).idx), .int .u32 ((Z.ky i).gen), .int .u8 rt, .int .u64 bd]), (10, .int .u8 4), (66, .bool true), (74, .agg #[.int .u16 ((Z.ky i).idx), .int .u32 ((Z.ky i).gen)])]) (φ := (b2 = b2 ∧ Nat.ble (1 + 2) 5 = true) ∧ True) (fuel := 4) h25 (by kernel_rfl) rfl (by kernel_rfl) (by kernel_rfl) ⟨trivial, rfl, trivial⟩ ⟨⟨rfl, rfl⟩, trivial⟩ fun a26 h27 => ?_
  clear h25
  refine dr_read (i := 6) (b := Z.qb) (p := 3) (v := .slice (R.qo i) ((kys Z (a.q (.w i))).length) (R.qk i)) (fuel := 3) (by repeat (first | with_reducible exact PF.body | with_reducible apply PF.inB | with_reducible apply PF.next)) h27 rfl rfl rfl (by kernel_rfl) (by kernel_rfl) (by kernel_rfl) rfl (rd_Q h27 (x := i) hi rfl rfl rfl) ?_
  have h28 := h27.put (d := some 75) (v := .slice (R.qo i) ((kys Z (a.q (.w i))).length) (R.qk i)) (T' := [(75, .slice (R.qo i) ((kys Z (a.q (.w i))).length) (R.qk i)), (72, .map (some Z.qb)), (3, .pointer (some ⟨b2, 0, none⟩)), (0, .pointer (some ⟨mb, 0, none⟩)), (1, .agg #[.int .u8 4, .int .u16 ((Z.ky i).idx), .int .u32 ((Z.ky i).gen), .int .u8 rt, .int .u64 bd]), (10, .int .u8 4), (66, .bool true), (74, .agg #[.int .u16 ((Z.ky i).idx), .int .u32 ((Z.ky i).gen)])]) rfl
  clear h27
  refine dr_batch tabOk2 tabZ_ok2 (by repeat (first | with_reducible exact PF.body | with_reducible apply PF.inB | with_reducible apply PF.next)) [(9, {})] [75, 3, 0, 1, 10, 66, 78] (T' := [(75, .slice (R.qo i) ((kys Z (a.q (.w i))).length) (R.qk i)), (3, .pointer (some ⟨b2, 0, none⟩)), (0, .pointer (some ⟨mb, 0, none⟩)), (1, .agg #[.int .u8 4, .int .u16 ((Z.ky i).idx), .int .u32 ((Z.ky i).gen), .int .u8 rt, .int .u64 bd]), (10, .int .u8 4), (66, .bool true), (78, .int .i64 0)]) (φ := True) (fuel := 2) h28 (by kernel_rfl) rfl (by kernel_rfl) (by kernel_rfl) ⟨trivial, trivial⟩ trivial fun a29 h30 => ?_
  clear h28
  refine wpAnyK_one (i := 7) (fuel := 1) (by kernel_rfl) ?_
  refine op_append tabOk2 (e := 39) (so := none) (n := 0) (c := 0) (xo := R.qo i) (m := (kys Z (a.q (.w i))).length) (cx := R.qk i) (vals := []) (vs := (kys Z (a.q (.w i))).flatMap rfC) (F := []) h30 rfl rfl rfl rfl rfl rfl rfl rfl rfl rfl rfl rfl (rl_nil rfC _ _ _) (src_row (h30.inv.1.qr i hi (by rw [hho]; simp))) (by have := hP.klen hkk hokw; omega) (allOne_rf _) ?_
  intro o31 c32 F33 w34 hr35 hf36 hF37
  have hr352 := rl_app (enc := rfC) (xs := []) (ys := kys Z (a.q (.w i))) hr35
  rw [List.nil_append] at hr352
  rw [Nat.zero_add]
  refine ⟨keepNil, ?_⟩
  have h39 := (h30.grow hf36).put (d := some 76) (v := .slice o31 ((kys Z (a.q (.w i))).length) c32) (T' := [(76, .slice o31 ((kys Z (a.q (.w i))).length) c32), (75, .slice (R.qo i) ((kys Z (a.q (.w i))).length) (R.qk i)), (3, .pointer (some ⟨b2, 0, none⟩)), (0, .pointer (some ⟨mb, 0, none⟩)), (1, .agg #[.int .u8 4, .int .u16 ((Z.ky i).idx), .int .u32 ((Z.ky i).gen), .int .u8 rt, .int .u64 bd]), (10, .int .u8 4), (66, .bool true), (78, .int .i64 0)]) rfl
  clear h30
  refine dr_batch tabOk2 tabZ_ok2 (by repeat (first | with_reducible exact PF.body | with_reducible apply PF.inB | with_reducible apply PF.next)) [(8, {})] [76, 3, 0, 1, 10, 66, 78, 77] (T' := [(76, .slice o31 ((kys Z (a.q (.w i))).length) c32), (3, .pointer (some ⟨b2, 0, none⟩)), (0, .pointer (some ⟨mb, 0, none⟩)), (1, .agg #[.int .u8 4, .int .u16 ((Z.ky i).idx), .int .u32 ((Z.ky i).gen), .int .u8 rt, .int .u64 bd]), (10, .int .u8 4), (66, .bool true), (78, .int .i64 0), (77, .int .i64 (((kys Z (a.q (.w i))).length : Nat) : Int))]) (φ := True) (fuel := 0) h39 (by kernel_rfl) rfl (by kernel_rfl) (by kernel_rfl) ⟨trivial, trivial⟩ trivial fun a40 h41 => ?_
  clear h39
  refine wpAnyK_done (by kernel_rfl) ?_ _
  refine hK19 _ _ ?_
  clear hK19
  refine wp_block ?_
  refine wp_loop_ghost (fun g ga gw => ∃ (b1 : AK) (R1 : MR) (m : Nat), (g = (a.q (.w i)).length - m) ∧ (m ≤ (a.q (.w i)).length) ∧ (b1 = ((a.q (.w i)).take m).foldl wakeA a) ∧ (R1.ho = none) ∧ St (MCx 98 (mdF mb Z R C) w mb Z R1 b1 C) [(0, .pointer (some ⟨mb, 0, none⟩)), (3, .pointer (some ⟨b2, 0, none⟩)), (76, .slice o31 ((kys Z (a.q (.w i))).length) c32), (77, .int .i64 (((kys Z (a.q (.w i))).length : Nat) : Int)), (78, .int .i64 ((m : Nat) : Int))] [(3, ⟨[.int .u16 0, .int .u32 0], ty3, true⟩), (b2, ⟨[.int .u8 4, .int .u16 ((Z.ky i).idx), .int .u32 ((Z.ky i).gen), .int .u8 rt, .int .u64 bd], 49, false⟩)] ga gw) (a.q (.w i)).length ⟨a, R, 0, by omega, by omega, rfl, hho, (h41.slotsMono (restr_spec (keep := [0, 3, 76, 77, 78]) rfl))⟩ ?_
  clear h41
  rintro g a42 w43 ⟨b1, R1, m, hi45, hi46, hi47, hi48, h44⟩
  have hig := hi45
  have hm8 := hi46
  have hb1 := hi47
  have hho1 := hi48
  have hkl9 := hP.klen hkk hokw
  have hkl8 := kys_len Z (a.q (.w i))
  have hfw := fold_wake hP hkk hokw m hm8
  have hP1 : MP Z b1 := by rw [hb1]; exact hfw.1
  refine wp_seq_k fun K49 hK49 => ?_
  refine nd_start (l := [0]) rfl ?_
  refine nd_batch tabOk2 tabZ_ok2 [(0, {})] [0, 3, 76, 77, 78, 79] (T' := [(0, .pointer (some ⟨mb, 0, none⟩)), (3, .pointer (some ⟨b2, 0, none⟩)), (76, .slice o31 ((kys Z (a.q (.w i))).length) c32), (77, .int .i64 (((kys Z (a.q (.w i))).length : Nat) : Int)), (78, .int .i64 ((m : Nat) : Int)), (79, .bool (decide (((m : Nat) : Int) < (((kys Z (a.q (.w i))).length : Nat) : Int))))]) (φ := True) (rest := []) h44 (by kernel_rfl) rfl trivial fun a50 h51 => ?_
  clear h44
  refine nd_done ?_
  refine hK49 _ _ ?_
  clear hK49
  refine wp_seq_k fun K52 hK52 => ?_
  refine c_split h51 (b := decide (((m : Nat) : Int) < (((kys Z (a.q (.w i))).length : Nat) : Int))) rfl (fun hc53 => ?_) (fun hc53 => ?_)
  ·
    have hc53f : ((m : Nat) : Int) < (((kys Z (a.q (.w i))).length : Nat) : Int) := by simpa using hc53
    exact absurd hc53f (by rw [hq0]; show ¬ ((m : Nat) : Int) < 0; omega)
  ·
    have hc53f : ¬ ((m : Nat) : Int) < (((kys Z (a.q (.w i))).length : Nat) : Int) := by simpa using hc53
    have hm9 : (a.q (.w i)).length ≤ m := by rw [hq0]; simp
    rw [List.take_of_length_le hm9] at hb1 hfw
    rw [List.drop_of_length_le hm9] at hfw
    refine wp_exit ?_
    refine hK18 _ _ ?_
    clear hK18
    refine wp_seq_k fun K54 hK54 => ?_
    refine dr_start (KB := [3, b2, mb]) (Bi := [[0, 1, 2], [0, 1, 2], [0, 1, 2], [0, 1, 2], [0, 1, 2], [0, 1, 2], []]) mixed h51 fun w55 h56 => ?_
    clear h51
    refine dr_batch tabOk2 tabZ_ok2 (by repeat (first | with_reducible exact PF.body | with_reducible apply PF.inB | with_reducible apply PF.next)) [(0, {}), (1, {}), (2, {})] [0, 3, 76, 77, 78, 88] (T' := [(0, .pointer (some ⟨mb, 0, none⟩)), (3, .pointer (some ⟨b2, 0, none⟩)), (76, .slice o31 ((kys Z (a.q (.w i))).length) c32), (77, .int .i64 (((kys Z (a.q (.w i))).length : Nat) : Int)), (78, .int .i64 ((m : Nat) : Int)), (88, .pointer (some ⟨mb, 3, none⟩))]) (φ := True) (fuel := 4) h56 (by kernel_rfl) rfl (by kernel_rfl) (by kernel_rfl) ⟨trivial, trivial, trivial, trivial⟩ trivial fun a58 h59 => ?_
    clear h56
    refine dr_read (i := 3) (b := mb) (p := 2) (v := .map (some Z.qb)) (fuel := 3) (by repeat (first | with_reducible exact PF.body | with_reducible apply PF.inB | with_reducible apply PF.next)) h59 rfl rfl rfl (by kernel_rfl) (by kernel_rfl) (by kernel_rfl) rfl (rd_m h59 (k := 3) (v := .map (some Z.qb)) rfl rfl rfl rfl (md_p ⟨rfl, trivial⟩)) ?_
    have h60 := h59.put (d := some 89) (v := .map (some Z.qb)) (T' := [(89, .map (some Z.qb)), (0, .pointer (some ⟨mb, 0, none⟩)), (3, .pointer (some ⟨b2, 0, none⟩)), (76, .slice o31 ((kys Z (a.q (.w i))).length) c32), (77, .int .i64 (((kys Z (a.q (.w i))).length : Nat) : Int)), (78, .int .i64 ((m : Nat) : Int)), (88, .pointer (some ⟨mb, 3, none⟩))]) rfl
    clear h59
    refine dr_batch tabOk2 tabZ_ok2 (by repeat (first | with_reducible exact PF.body | with_reducible apply PF.inB | with_reducible apply PF.next)) [(4, {}), (5, {k := 1, p := 1})] [89, 0, 3, 76, 77, 78, 91] (T' := [(89, .map (some Z.qb)), (0, .pointer (some ⟨mb, 0, none⟩)), (3, .pointer (some ⟨b2, 0, none⟩)), (76, .slice o31 ((kys Z (a.q (.w i))).length) c32), (77, .int .i64 (((kys Z (a.q (.w i))).length : Nat) : Int)), (78, .int .i64 ((m : Nat) : Int)), (91, .agg #[.int .u16 ((Z.ky i).idx), .int .u32 ((Z.ky i).gen)])]) (φ := (b2 = b2 ∧ Nat.ble (1 + 2) 5 = true) ∧ True) (fuel := 1) h60 (by kernel_rfl) rfl (by kernel_rfl) (by kernel_rfl) ⟨trivial, rfl, trivial⟩ ⟨⟨rfl, rfl⟩, trivial⟩ fun a61 h62 => ?_
    clear h60
    refine wpAnyK_one (i := 6) (fuel := 0) (by kernel_rfl) ?_
    refine op_mDelQ (x := i) h62 rfl rfl rfl rfl rfl hi hho1 (kcons (fun _ => rfl) (kcons (fun hq => by cases hq) knil)) fun w63 hf64 h65a => ?_
    have h65 := h65a.put (d := none) (v := .tuple #[]) (T' := [(89, .map (some Z.qb)), (0, .pointer (some ⟨mb, 0, none⟩)), (3, .pointer (some ⟨b2, 0, none⟩)), (76, .slice o31 ((kys Z (a.q (.w i))).length) c32), (77, .int .i64 (((kys Z (a.q (.w i))).length : Nat) : Int)), (78, .int .i64 ((m : Nat) : Int)), (91, .agg #[.int .u16 ((Z.ky i).idx), .int .u32 ((Z.ky i).gen)])]) rfl
    refine ⟨keepNil, ?_⟩
    clear h62 h65a
    refine wpAnyK_done (by kernel_rfl) ?_ _
    refine hK54 _ _ ?_
    clear hK54
    refine dr_start (KB := [3, b2, mb]) (Bi := [[0, 1, 2], [0, 1, 2], [0, 1, 2], [0, 1, 2], [0, 1, 2], [0, 1, 2], []]) mixed h65 fun w66 h67 => ?_
    clear h65
    refine dr_batch tabOk2 tabZ_ok2 (by repeat (first | with_reducible exact PF.body | with_reducible apply PF.inB | with_reducible apply PF.next)) [(0, {}), (1, {}), (2, {})] [0, 3, 76, 77, 78, 94] (T' := [(0, .pointer (some ⟨mb, 0, none⟩)), (3, .pointer (some ⟨b2, 0, none⟩)), (76, .slice o31 ((kys Z (a.q (.w i))).length) c32), (77, .int .i64 (((kys Z (a.q (.w i))).length : Nat) : Int)), (78, .int .i64 ((m : Nat) : Int)), (94, .pointer (some ⟨mb, 4, none⟩))]) (φ := True) (fuel := 4) h67 (by kernel_rfl) rfl (by kernel_rfl) (by kernel_rfl) ⟨trivial, trivial, trivial, trivial⟩ trivial fun a69 h70 => ?_
    clear h67
    refine dr_read (i := 3) (b := mb) (p := 2) (v := .map (some Z.wb)) (fuel := 3) (by repeat (first | with_reducible exact PF.body | with_reducible apply PF.inB | with_reducible apply PF.next)) h70 rfl rfl rfl (by kernel_rfl) (by kernel_rfl) (by kernel_rfl) rfl (rd_m h70 (k := 4) (v := .map (some Z.wb)) rfl rfl rfl rfl (md_p ⟨rfl, trivial⟩)) ?_
    have h71 := h70.put (d := some 95) (v := .map (some Z.wb)) (T' := [(95, .map (some Z.wb)), (0, .pointer (some ⟨mb, 0, none⟩)), (3, .pointer (some ⟨b2, 0, none⟩)), (76, .slice o31 ((kys Z (a.q (.w i))).length) c32), (77, .int .i64 (((kys Z (a.q (.w i))).length : Nat) : Int)), (78, .int .i64 ((m : Nat) : Int)), (94, .pointer (some ⟨mb, 4, none⟩))]) rfl
    clear h70
    refine dr_batch tabOk2 tabZ_ok2 (by repeat (first | with_reducible exact PF.body | with_reducible apply PF.inB | with_reducible apply PF.next)) [(4, {}), (5, {k := 1, p := 1})] [95, 0, 3, 76, 77, 78, 97] (T' := [(95, .map (some Z.wb)), (0, .pointer (some ⟨mb, 0, none⟩)), (3, .pointer (some ⟨b2, 0, none⟩)), (76, .slice o31 ((kys Z (a.q (.w i))).length) c32), (77, .int .i64 (((kys Z (a.q (.w i))).length : Nat) : Int)), (78, .int .i64 ((m : Nat) : Int)), (97, .agg #[.int .u16 ((Z.ky i).idx), .int .u32 ((Z.ky i).gen)])]) (φ := (b2 = b2 ∧ Nat.ble (1 + 2) 5 = true) ∧ True) (fuel := 1) h71 (by kernel_rfl) rfl (by kernel_rfl) (by kernel_rfl) ⟨trivial, rfl, trivial⟩ ⟨⟨rfl, rfl⟩, trivial⟩ fun a72 h73 => ?_
    clear h71
    refine wpAnyK_one (i := 6) (fuel := 0) (by kernel_rfl) ?_
    refine op_mDelW (x := i) h73 rfl rfl rfl rfl rfl (fun hq => (sl_del.1 hq).2 rfl) rfl hi2 (kcons (fun _ => rfl) (kcons (fun hq => by cases hq) knil)) fun w74 hf75 h76a => ?_
    have h76 := h76a.put (d := none) (v := .tuple #[]) (T' := [(95, .map (some Z.wb)), (0, .pointer (some ⟨mb, 0, none⟩)), (3, .pointer (some ⟨b2, 0, none⟩)), (76, .slice o31 ((kys Z (a.q (.w i))).length) c32), (77, .int .i64 (((kys Z (a.q (.w i))).length : Nat) : Int)), (78, .int .i64 ((m : Nat) : Int)), (97, .agg #[.int .u16 ((Z.ky i).idx), .int .u32 ((Z.ky i).gen)])]) rfl
    refine ⟨keepNil, ?_⟩
    clear h73 h76a
    obtain ⟨a77, ea77⟩ : ∃ z : AK, z = b1.setW i 0 := ⟨_, rfl⟩
    rw [← ea77] at h76
    have hhoh76 : ((R1.hole (.qr i)).delW i).ho = none := rfl
    refine wpAnyK_done (by kernel_rfl) ?_ _
    try simp only [Exit.then, Exit.inBlock]
    try rw [if_pos trivial]
    exact s_end tabOk2 tabZ_ok2 h76 [] (vs := []) (φ := True) rfl (by kernel_rfl) trivial ⟨rfl, _, mg_end hH h76 hhoh76 (by subst ea77; rw [hb1])⟩

theorem forget4n (mb : Nat) (Z : MZ) (R : MR) (a : AK) (C : CP) (i : Nat) (hi : i ∈ sl Z.ql) (rt bd : Int) (hP : MP Z a) (hql : 0 < (a.q (.w i)).length) (w : World) (hH : MH mb Z R a C w) :
    Calls Tryd.prog 97 #[.pointer (some ⟨mb, 0, none⟩), .agg #[.int .u8 4, .int .u16 ((Z.ky i).idx), .int .u32 ((Z.ky i).gen), .int .u8 rt, .int .u64 bd]] w fun e w' => e = .returned (.tuple #[]) ∧ ∃ R', MG mb Z R C w (Z.delQ i) R' (((a.q (.w i)).foldl wakeA a).setW i 0) C w' := by
  have hokw : (QL.w i).ok := hH.md.k.qx i hi
  have hi2 : i < 256 := hokw
  obtain ⟨ty3, hg3⟩ := hH.g3
  have hho := hH.ho
  have hkk := hH.md.k
  refine enter (n := 98) (K := mdF mb Z R C) (A := MD (mdF mb Z R C) w.heap.size mb Z R a C) (F := mdF mb Z R C) (T := [(0, .pointer (some ⟨mb, 0, none⟩)), (1, .agg #[.int .u8 4, .int .u16 ((Z.ky i).idx), .int .u32 ((Z.ky i).gen), .int .u8 rt, .int .u64 bd])]) (L := [(3, ⟨[.int .u16 0, .int .u32 0], ty3, true⟩)]) (args := [.pointer (some ⟨mb, 0, none⟩), .agg #[.int .u8 4, .int .u16 ((Z.ky i).idx), .int .u32 ((Z.ky i).gen), .int .u8 rt, .int .u64 bd]]) Tryd.func97 rfl rfl rfl rfl (kcons hg3 knil) (by simp) (kcons (by intro hq; cases hq) knil) hH.mD MD.stable hH.md.low (kcons (by intro hq; cases hq) knil) ?_
  intro ac h
  refine wp_seq_k fun K1 hK1 => ?_
  refine nd_start (l := [0]) rfl ?_
  refine nd_op ?_
  refine op_new tabOk2 (cells := [.int .u8 4, .int .u16 ((Z.ky i).idx), .int .u32 ((Z.ky i).gen), .int .u8 rt, .int .u64 bd]) (ty := 49) (ln := none) (L1 := fun b2 => [(3, ⟨[.int .u16 0, .int .u32 0], ty3, true⟩), (b2, ⟨[.int .u8 4, .int .u16 ((Z.ky i).idx), .int .u32 ((Z.ky i).gen), .int .u8 rt, .int .u64 bd], 49, false⟩)]) h rfl rfl rfl rfl (by kernel_rfl) (fun _ => rfl) fun b2 w3 a4 h5 hf6 hn7 => ?_
  clear h
  refine nd_done ?_
  refine hK1 _ _ ?_
  clear hK1
  refine wp_seq_k fun K8 hK8 => ?_
  refine nd_start (l := [0, 1]) rfl ?_
  refine nd_batch tabOk2 tabZ_ok2 [(0, {}), (1, {k := 1})] [3, 0, 1, 10] (T' := [(3, .pointer (some ⟨b2, 0, none⟩)), (0, .pointer (some ⟨mb, 0, none⟩)), (1, .agg #[.int .u8 4, .int .u16 ((Z.ky i).idx), .int .u32 ((Z.ky i).gen), .int .u8 rt, .int .u64 bd]), (10, .int .u8 4)]) (φ := (b2 = b2 ∧ Nat.ble (0 + 1) 5 = true) ∧ True) (rest := []) h5 (by kernel_rfl) rfl ⟨⟨rfl, rfl⟩, trivial⟩ fun a9 h10 => ?_
  clear h5
  refine nd_done ?_
  refine hK8 _ _ ?_
  clear hK8
  refine wp_block ?_
  refine wp_seq_k fun K11 hK11 => ?_
  refine nd_start (l := [0, 1]) rfl ?_
  refine nd_batch tabOk2 tabZ_ok2 [(0, {}), (1, {})] [3, 0, 1, 10, 11] (T' := [(3, .pointer (some ⟨b2, 0, none⟩)), (0, .pointer (some ⟨mb, 0, none⟩)), (1, .agg #[.int .u8 4, .int .u16 ((Z.ky i).idx), .int .u32 ((Z.ky i).gen), .int .u8 rt, .int .u64 bd]), (10, .int .u8 4), (11, .bool false)]) (φ := True) (rest := []) h10 (by kernel_rfl) rfl trivial fun a12 h13 => ?_
  clear h10
  refine nd_done ?_
  refine hK11 _ _ ?_
  clear hK11
  refine c_false h13 rfl ?_
  refine wp_seq_k fun K14 hK14 => ?_
  refine wp_seq_k fun K15 hK15 => ?_
  refine nd_start (l := [0, 1]) rfl ?_
  refine nd_batch tabOk2 tabZ_ok2 [(0, {}), (1, {})] [3, 0, 1, 10, 66] (T' := [(3, .pointer (some ⟨b2, 0, none⟩)), (0, .pointer (some ⟨mb, 0, none⟩)), (1, .agg #[.int .u8 4, .int .u16 ((Z.ky i).idx), .int .u32 ((Z.ky i).gen), .int .u8 rt, .int .u64 bd]), (10, .int .u8 4), (66, .bool true)]) (φ := True) (rest := []) h13 (by kernel_rfl) rfl trivial fun a16 h17 => ?_
  clear h13
  refine nd_done ?_
  refine hK15 _ _ ?_
  clear hK15
  refine c_true h17 rfl ?_
  refine wp_skip ?_
  refine hK14 _ _ ?_
  clear hK14
  refine c_true h17 rfl ?_
  refine wp_seq_k fun K18 hK18 => ?_
  refine wp_seq_k fun K19 hK19 => ?_
  refine dr_start (KB := [3, b2, mb, Z.qb]) (Bi := [[0, 1, 2, 3], [0, 1, 2, 3], [0, 1, 2, 3], [0, 1, 2, 3], [0, 1, 2, 3], [0, 1, 2, 3], [0, 1, 2, 3], [], [0, 1, 2, 3], [0, 1, 2, 3]]) mixed h17 fun w20 h21 => ?_
  clear h17
  refine dr_batch tabOk2 tabZ_ok2 (by repeat (first | with_reducible exact PF.body | with_reducible apply PF.inB | with_reducible apply PF.next)) [(0, {}), (1, {}), (2, {})] [3, 0, 1, 10, 66, 71] (T' := [(3, .pointer (some ⟨b2, 0, none⟩)), (0, .pointer (some ⟨mb, 0, none⟩)), (1, .agg #[.int .u8 4, .int .u16 ((Z.ky i).idx), .int .u32 ((Z.ky i).gen), .int .u8 rt, .int .u64 bd]), (10, .int .u8 4), (66, .bool true), (71, .pointer (some ⟨mb, 3, none⟩))]) (φ := True) (fuel := 7) h21 (by kernel_rfl) rfl (by kernel_rfl) (by kernel_rfl) ⟨trivial, trivial, trivial, trivial⟩ trivial fun a23 h24 => ?_
  clear h21
  refine dr_read (i := 3) (b := mb) (p := 2) (v := .map (some Z.qb)) (fuel := 6) (by repeat (first | with_reducible exact PF.body | with_reducible apply PF.inB | with_reducible apply PF.next)) h24 rfl rfl rfl (by kernel_rfl) (by kernel_rfl) (by kernel_rfl) rfl (rd_m h24 (k := 3) (v := .map (some Z.qb)) rfl rfl rfl rfl (md_p ⟨rfl, trivial⟩)) ?_
  have h25 := h24.put (d := some 72) (v := .map (some Z.qb)) (T' := [(72, .map (some Z.qb)), (3, .pointer (some ⟨b2, 0, none⟩)), (0, .pointer (some ⟨mb, 0, none⟩)), (1, .agg #[.int .u8 4, .int .u16 ((Z.ky i).idx), .int .u32 ((Z.ky i).gen), .int .u8 rt, .int .u64 bd]), (10, .int .u8 4), (66, .bool true), (71, .pointer (some ⟨mb, 3, none⟩))]) rfl
  clear h24
  refine dr_batch tabOk2 tabZ_ok2 (by repeat (first | with_reducible exact PF.body | with_reducible apply PF.inB | with_reducible apply PF.next)) [(4, {}), (5, {k := 1, p := 1})] [72, 3, 0, 1, 10, 66, 74] (T' := [(72, .map (some Z.qb)), (3, .pointer (some ⟨b2, 0, none⟩)), (0, .pointer (some ⟨mb, 0, none⟩)), (1, .agg #[.int .u8 4, .int .u16 ((Z.ky i).idx), .int .u32 ((Z.ky i).gen), .int .u8 rt, .int .u64 bd]), (10, .int .u8 4), (66, .bool true), (74, .agg #[.int .u16 ((Z.ky i).idx), .int .u32 ((Z.ky i).gen)])]) (φ := (b2 = b2 ∧ Nat.ble (1 + 2) 5 = true) ∧ True) (fuel := 4) h25 (by kernel_rfl) rfl (by kernel_rfl) (by kernel_rfl) ⟨trivial, rfl, trivial⟩ ⟨⟨rfl, rfl⟩, trivial⟩ fun a26 h27 => ?_
  clear h25
  refine dr_read (i := 6) (b := Z.qb) (p := 3) (v := .slice (R.qo i) ((kys Z (a.q (.w i))).length) (R.qk i)) (fuel := 3) (by repeat (first | with_reducible exact PF.body | with_reducible apply PF.inB | with_reducible apply PF.next)) h27 rfl rfl rfl (by kernel_rfl) (by kernel_rfl) (by kernel_rfl) rfl (rd_Q h27 (x := i) hi rfl rfl rfl) ?_
  have h28 := h27.put (d := some 75) (v := .slice (R.qo i) ((kys Z (a.q (.w i))).length) (R.qk i)) (T' := [(75, .slice (R.qo i) ((kys Z (a.q (.w i))).length) (R.qk i)), (72, .map (some Z.qb)), (3, .pointer (some ⟨b2, 0, none⟩)), (0, .pointer (some ⟨mb, 0, none⟩)), (1, .agg #[.int .u8 4, .int .u16 ((Z.ky i).idx), .int .u32 ((Z.ky i).gen), .int .u8 rt, .int .u64 bd]), (10, .int .u8 4), (66, .bool true), (74, .agg #[.int .u16 ((Z.ky i).idx), .int .u32 ((Z.ky i).gen)])]) rfl
  clear h27
  refine dr_batch tabOk2 tabZ_ok2 (by repeat (first | with_reducible exact PF.body | with_reducible apply PF.inB | with_reducible apply PF.next)) [(9, {})] [75, 3, 0, 1, 10, 66, 78] (T' := [(75, .slice (R.qo i) ((kys Z (a.q (.w i))).length) (R.qk i)), (3, .pointer (some ⟨b2, 0, none⟩)), (0, .pointer (some ⟨mb, 0, none⟩)), (1, .agg #[.int .u8 4, .int .u16 ((Z.ky i).idx), .int .u32 ((Z.ky i).gen), .int .u8 rt, .int .u64 bd]), (10, .int .u8 4), (66, .bool true), (78, .int .i64 0)]) (φ := True) (fuel := 2) h28 (by kernel_rfl) rfl (by kernel_rfl) (by kernel_rfl) ⟨trivial, trivial⟩ trivial fun a29 h30 => ?_
  clear h28
  refine wpAnyK_one (i := 7) (fuel := 1) (by kernel_rfl) ?_
  refine op_append tabOk2 (e := 39) (so := none) (n := 0) (c := 0) (xo := R.qo i) (m := (kys Z (a.q (.w i))).length) (cx := R.qk i) (vals := []) (vs := (kys Z (a.q (.w i))).flatMap rfC) (F := []) h30 rfl rfl rfl rfl rfl rfl rfl rfl rfl rfl rfl rfl (rl_nil rfC _ _ _) (src_row (h30.inv.1.qr i hi (by rw [hho]; simp))) (by have := hP.klen hkk hokw; omega) (allOne_rf _) ?_
  intro o31 c32 F33 w34 hr35 hf36 hF37
  have hr352 := rl_app (enc := rfC) (xs := []) (ys := kys Z (a.q (.w i))) hr35
  rw [List.nil_append] at hr352
  rw [Nat.zero_add]
  obtain ⟨rb, rcs, hro, hrb, hrF, hall⟩ := row_all hr352 (by rw [kys_len]; exact hql)
  subst hro hrF
  refine ⟨keepNil, ?_⟩
  have h38q : St _ _ [(3, ⟨[.int .u16 0, .int .u32 0], ty3, true⟩), (b2, ⟨[.int .u8 4, .int .u16 ((Z.ky i).idx), .int .u32 ((Z.ky i).gen), .int .u8 rt, .int .u64 bd], 49, false⟩), (rb, ⟨rcs, 39, false⟩)] _ _ := h30.fresh hf36 ((hF37 rb (by simp)).resolve_left (fun hq => by cases hq)) hrb
  have h39 := (h38q).put (d := some 76) (v := .slice (some ⟨rb, 0, none⟩) ((kys Z (a.q (.w i))).length) c32) (T' := [(76, .slice (some ⟨rb, 0, none⟩) ((kys Z (a.q (.w i))).length) c32), (75, .slice (R.qo i) ((kys Z (a.q (.w i))).length) (R.qk i)), (3, .pointer (some ⟨b2, 0, none⟩)), (0, .pointer (some ⟨mb, 0, none⟩)), (1, .agg #[.int .u8 4, .int .u16 ((Z.ky i).idx), .int .u32 ((Z.ky i).gen), .int .u8 rt, .int .u64 bd]), (10, .int .u8 4), (66, .bool true), (78, .int .i64 0)]) rfl
  clear h30 h38q
  refine dr_batch tabOk2 tabZ_ok2 (by repeat (first | with_reducible exact PF.body | with_reducible apply PF.inB | with_reducible apply PF.next)) [(8, {})] [76, 3, 0, 1, 10, 66, 78, 77] (T' := [(76, .slice (some ⟨rb, 0, none⟩) ((kys Z (a.q (.w i))).length) c32), (3, .pointer (some ⟨b2, 0, none⟩)), (0, .pointer (some ⟨mb, 0, none⟩)), (1, .agg #[.int .u8 4, .int .u16 ((Z.ky i).idx), .int .u32 ((Z.ky i).gen), .int .u8 rt, .int .u64 bd]), (10, .int .u8 4), (66, .bool true), (78, .int .i64 0), (77, .int .i64 (((kys Z (a.q (.w i))).length : Nat) : Int))]) (φ := True) (fuel := 0) h39 (by kernel_rfl) rfl (by kernel_rfl) (by kernel_rfl) ⟨trivial, trivial⟩ trivial fun a40 h41 => ?_
  clear h39
  refine wpAnyK_done (by kernel_rfl) ?_ _
  refine hK19 _ _ ?_
  clear hK19
  refine wp_block ?_
  refine wp_loop_ghost (fun g ga gw => ∃ (b1 : AK) (R1 : MR) (m : Nat), (g = (a.q (.w i)).length - m) ∧ (m ≤ (a.q (.w i)).length) ∧ (b1 = ((a.q (.w i)).take m).foldl wakeA a) ∧ (R1.ho = none) ∧ St (MCx 98 (mdF mb Z R C) w mb Z R1 b1 C) [(0, .pointer (some ⟨mb, 0, none⟩)), (3, .pointer (some ⟨b2, 0, none⟩)), (76, .slice (some ⟨rb, 0, none⟩) ((kys Z (a.q (.w i))).length) c32), (77, .int .i64 (((kys Z (a.q (.w i))).length : Nat) : Int)), (78, .int .i64 ((m : Nat) : Int))] [(3, ⟨[.int .u16 0, .int .u32 0], ty3, true⟩), (b2, ⟨[.int .u8 4, .int .u16 ((Z.ky i).idx), .int .u32 ((Z.ky i).gen), .int .u8 rt, .int .u64 bd], 49, false⟩), (rb, ⟨rcs, 39, false⟩)] ga gw) (a.q (.w i)).length ⟨a, R, 0, by omega, by omega, rfl, hho, (h41.slotsMono (restr_spec (keep := [0, 3, 76, 77, 78]) rfl))⟩ ?_
  clear h41
  rintro g a42 w43 ⟨b1, R1, m, hi45, hi46, hi47, hi48, h44⟩
  have hig := hi45
  have hm8 := hi46
  have hb1 := hi47
  have hho1 := hi48
  have hkl9 := hP.klen hkk hokw
  have hkl8 := kys_len Z (a.q (.w i))
  have hfw := fold_wake hP hkk hokw m hm8
  have hP1 : MP Z b1 := by rw [hb1]; exact hfw.1
  refine wp_seq_k fun K49 hK49 => ?_
  refine nd_start (l := [0]) rfl ?_
  refine nd_batch tabOk2 tabZ_ok2 [(0, {})] [0, 3, 76, 77, 78, 79] (T' := [(0, .pointer (some ⟨mb, 0, none⟩)), (3, .pointer (some ⟨b2, 0, none⟩)), (76, .slice (some ⟨rb, 0, none⟩) ((kys Z (a.q (.w i))).length) c32), (77, .int .i64 (((kys Z (a.q (.w i))).length : Nat) : Int)), (78, .int .i64 ((m : Nat) : Int)), (79, .bool (decide (((m : Nat) : Int) < (((kys Z (a.q (.w i))).length : Nat) : Int))))]) (φ := True) (rest := []) h44 (by kernel_rfl) rfl trivial fun a50 h51 => ?_
  clear h44
  refine nd_done ?_
  refine hK49 _ _ ?_
  clear hK49
  refine wp_seq_k fun K52 hK52 => ?_
  refine c_split h51 (b := decide (((m : Nat) : Int) < (((kys Z (a.q (.w i))).length : Nat) : Int))) rfl (fun hc53 => ?_) (fun hc53 => ?_)
  ·
    have hc53f : ((m : Nat) : Int) < (((kys Z (a.q (.w i))).length : Nat) : Int) := by simpa using hc53
    have hmq : m < (a.q (.w i)).length := by rw [kys_len] at hc53f; omega
    obtain ⟨y, hyq⟩ : ∃ y, (a.q (.w i))[m]? = some y := ⟨(a.q (.w i))[m]'(by omega), by simp⟩
    have hy := (hP.mq (.w i) hokw y (List.mem_of_getElem? hyq)).1
    have hky : (kys Z (a.q (.w i)))[m]? = some (Z.ky y) := by unfold kys; rw [List.getElem?_map, hyq]; rfl
    refine wp_skip ?_
    refine hK52 _ _ ?_
    clear hK52
    refine wp_seq_k fun K54 hK54 => ?_
    refine wp_block ?_
    refine wp_seq_k fun K55 hK55 => ?_
    refine nd_start (l := [0, 1, 2, 3]) rfl ?_
    refine nd_batch tabOk2 tabZ_ok2 [(0, {}), (1, {k := 2, m := 1, vs := [.int .u16 ((Z.ky y).idx), .int .u32 ((Z.ky y).gen)]})] [0, 3, 76, 77, 78, 81] (T' := [(0, .pointer (some ⟨mb, 0, none⟩)), (3, .pointer (some ⟨b2, 0, none⟩)), (76, .slice (some ⟨rb, 0, none⟩) ((kys Z (a.q (.w i))).length) c32), (77, .int .i64 (((kys Z (a.q (.w i))).length : Nat) : Int)), (78, .int .i64 ((m : Nat) : Int)), (81, .agg #[.int .u16 ((Z.ky y).idx), .int .u32 ((Z.ky y).gen)])]) (φ := (0 ≤ ((m : Nat) : Int) ∧ ((m : Nat) : Int) < (((kys Z (a.q (.w i))).length : Nat) : Int)) ∧ (rb = rb ∧ cellsAre rcs (0 + (m * 2)) [.int .u16 ((Z.ky y).idx), .int .u32 ((Z.ky y).gen)]) ∧ True) (rest := [2, 3]) h51 (by kernel_rfl) rfl ⟨⟨by omega, by omega⟩, ⟨rfl, (by rw [Nat.zero_add]; exact hall m _ hky)⟩, trivial⟩ fun a56 h57 => ?_
    clear h51
    refine nd_op ?_
    refine op_new tabOk2 (cells := [.int .u16 0, .int .u32 0]) (ty := 39) (ln := none) (L1 := fun b58 => [(3, ⟨[.int .u16 0, .int .u32 0], ty3, true⟩), (b2, ⟨[.int .u8 4, .int .u16 ((Z.ky i).idx), .int .u32 ((Z.ky i).gen), .int .u8 rt, .int .u64 bd], 49, false⟩), (rb, ⟨rcs, 39, false⟩), (b58, ⟨[.int .u16 0, .int .u32 0], 39, false⟩)]) h57 rfl rfl rfl rfl (by kernel_rfl) (fun _ => rfl) fun b58 w59 a60 h61 hf62 hn63 => ?_
    clear h57
    refine nd_op ?_
    refine op_store tabOk2 {k := 3} (L' := [(3, ⟨[.int .u16 0, .int .u32 0], ty3, true⟩), (b2, ⟨[.int .u8 4, .int .u16 ((Z.ky i).idx), .int .u32 ((Z.ky i).gen), .int .u8 rt, .int .u64 bd], 49, false⟩), (rb, ⟨rcs, 39, false⟩), (b58, ⟨[.int .u16 ((Z.ky y).idx), .int .u32 ((Z.ky y).gen)], 39, false⟩)]) (φ := b58 = b58 ∧ Nat.ble (0 + 2) 2 = true) h61 rfl rfl rfl (by kernel_rfl) ⟨rfl, rfl⟩ fun w64 h65 => ?_
    clear h61
    refine nd_done ?_
    refine hK55 _ _ ?_
    clear hK55
    refine nd_start (l := [0, 1, 2]) rfl ?_
    refine nd_batch tabOk2 tabZ_ok2 [(0, {}), (1, {k := 3})] [8, 0, 3, 76, 77, 78, 82, 83] (T' := [(8, .pointer (some ⟨b58, 0, none⟩)), (0, .pointer (some ⟨mb, 0, none⟩)), (3, .pointer (some ⟨b2, 0, none⟩)), (76, .slice (some ⟨rb, 0, none⟩) ((kys Z (a.q (.w i))).length) c32), (77, .int .i64 (((kys Z (a.q (.w i))).length : Nat) : Int)), (78, .int .i64 ((m : Nat) : Int)), (82, .pointer (some ⟨mb, 0, none⟩)), (83, .agg #[.int .u16 ((Z.ky y).idx), .int .u32 ((Z.ky y).gen)])]) (φ := (b58 = b58 ∧ Nat.ble (0 + 2) 2 = true) ∧ True) (rest := [2]) h65 (by kernel_rfl) rfl ⟨⟨rfl, rfl⟩, trivial⟩ fun a66 h67 => ?_
    clear h65
    refine nd_op ?_
    refine op_call h67 rfl rfl rfl (callOk Tryd.func52 (by decide) rfl) (args := [.pointer (some ⟨mb, 0, none⟩), .agg #[.int .u16 ((Z.ky y).idx), .int .u32 ((Z.ky y).gen)]]) rfl (mready_ok mb Z _ b1 _ y hy hP1 _ (mh_of h67 hho1 (k := 0) rfl)) ?_
    rintro _ w68 ⟨rfl, R69, hg70⟩
    refine ⟨_, rfl, ?_⟩
    have h71a := st_mg h67 hg70 (kcons (fun _ => rfl) (kcons (fun hq => by cases hq) (kcons (fun hq => by cases hq) (kcons (fun hq => by cases hq) knil))))
    have h71 := h71a.put (d := some 84) (v := .tuple #[]) (T' := [(84, .tuple #[]), (8, .pointer (some ⟨b58, 0, none⟩)), (0, .pointer (some ⟨mb, 0, none⟩)), (3, .pointer (some ⟨b2, 0, none⟩)), (76, .slice (some ⟨rb, 0, none⟩) ((kys Z (a.q (.w i))).length) c32), (77, .int .i64 (((kys Z (a.q (.w i))).length : Nat) : Int)), (78, .int .i64 ((m : Nat) : Int)), (82, .pointer (some ⟨mb, 0, none⟩)), (83, .agg #[.int .u16 ((Z.ky y).idx), .int .u32 ((Z.ky y).gen)])]) rfl
    have hhoh71 := hg70.mh.ho
    obtain ⟨a72, ea72⟩ : ∃ z : AK, z = wakeA b1 y := ⟨_, rfl⟩
    rw [← ea72] at h71
    clear h67 h71a
    refine nd_done ?_
    refine hK54 _ _ ?_
    clear hK54
    refine nd_start (l := [0, 1]) rfl ?_
    refine nd_batch tabOk2 tabZ_ok2 [(0, {}), (1, {})] [8, 0, 3, 76, 77, 78] (T' := [(8, .pointer (some ⟨b58, 0, none⟩)), (0, .pointer (some ⟨mb, 0, none⟩)), (3, .pointer (some ⟨b2, 0, none⟩)), (76, .slice (some ⟨rb, 0, none⟩) ((kys Z (a.q (.w i))).length) c32), (77, .int .i64 (((kys Z (a.q (.w i))).length : Nat) : Int)), (78, .int .i64 (((m : Nat) : Int) + 1))]) (φ := inR .i64 (((m : Nat) : Int) + 1) ∧ True) (rest := []) h71 (by kernel_rfl) rfl ⟨⟨by omega, by omega⟩, trivial⟩ fun a73 h74 => ?_
    clear h71
    refine nd_done ?_
    have h75 := h74.memMono (L' := [(3, ⟨[.int .u16 0, .int .u32 0], ty3, true⟩), (b2, ⟨[.int .u8 4, .int .u16 ((Z.ky i).idx), .int .u32 ((Z.ky i).gen), .int .u8 rt, .int .u64 bd], 49, false⟩), (rb, ⟨rcs, 39, false⟩)]) (List.Sublist.cons_cons _ (List.Sublist.cons_cons _ (List.Sublist.cons_cons _ (List.Sublist.cons _ List.Sublist.slnil))))
    clear h74
    exact ⟨(g - 1), by omega, a72, R69, (m + 1), by omega, by omega, (by rw [List.take_add_one, hyq, Option.toList, List.foldl_append, ← hb1]; exact ea72), hhoh71, (h75.slotsMono (restr_spec (keep := [0, 3, 76, 77, 78]) rfl))⟩
  ·
    have hc53f : ¬ ((m : Nat) : Int) < (((kys Z (a.q (.w i))).length : Nat) : Int) := by simpa using hc53
    have hm9 : (a.q (.w i)).length ≤ m := by rw [kys_len] at hc53f; omega
    rw [List.take_of_length_le hm9] at hb1 hfw
    rw [List.drop_of_length_le hm9] at hfw
    refine wp_exit ?_
    refine hK18 _ _ ?_
    clear hK18
    refine wp_seq_k fun K76 hK76 => ?_
    refine dr_start (KB := [3, b2, rb, mb]) (Bi := [[0, 1, 2, 3], [0, 1, 2, 3], [0, 1, 2, 3], [0, 1, 2, 3], [0, 1, 2, 3], [0, 1, 2, 3], []]) mixed h51 fun w77 h78 => ?_
    clear h51
    refine dr_batch tabOk2 tabZ_ok2 (by repeat (first | with_reducible exact PF.body | with_reducible apply PF.inB | with_reducible apply PF.next)) [(0, {}), (1, {}), (2, {})] [0, 3, 76, 77, 78, 88] (T' := [(0, .pointer (some ⟨mb, 0, none⟩)), (3, .pointer (some ⟨b2, 0, none⟩)), (76, .slice (some ⟨rb, 0, none⟩) ((kys Z (a.q (.w i))).length) c32), (77, .int .i64 (((kys Z (a.q (.w i))).length : Nat) : Int)), (78, .int .i64 ((m : Nat) : Int)), (88, .pointer (some ⟨mb, 3, none⟩))]) (φ := True) (fuel := 4) h78 (by kernel_rfl) rfl (by kernel_rfl) (by kernel_rfl) ⟨trivial, trivial, trivial, trivial⟩ trivial fun a80 h81 => ?_
    clear h78
    refine dr_read (i := 3) (b := mb) (p := 3) (v := .map (some Z.qb)) (fuel := 3) (by repeat (first | with_reducible exact PF.body | with_reducible apply PF.inB | with_reducible apply PF.next)) h81 rfl rfl rfl (by kernel_rfl) (by kernel_rfl) (by kernel_rfl) rfl (rd_m h81 (k := 3) (v := .map (some Z.qb)) rfl rfl rfl rfl (md_p ⟨rfl, trivial⟩)) ?_
    have h82 := h81.put (d := some 89) (v := .map (some Z.qb)) (T' := [(89, .map (some Z.qb)), (0, .pointer (some ⟨mb, 0, none⟩)), (3, .pointer (some ⟨b2, 0, none⟩)), (76, .slice (some ⟨rb, 0, none⟩) ((kys Z (a.q (.w i))).length) c32), (77, .int .i64 (((kys Z (a.q (.w i))).length : Nat) : Int)), (78, .int .i64 ((m : Nat) : Int)), (88, .pointer (some ⟨mb, 3, none⟩))]) rfl
    clear h81
    refine dr_batch tabOk2 tabZ_ok2 (by repeat (first | with_reducible exact PF.body | with_reducible apply PF.inB | with_reducible apply PF.next)) [(4, {}), (5, {k := 1, p := 1})] [89, 0, 3, 76, 77, 78, 91] (T' := [(89, .map (some Z.qb)), (0, .pointer (some ⟨mb, 0, none⟩)), (3, .pointer (some ⟨b2, 0, none⟩)), (76, .slice (some ⟨rb, 0, none⟩) ((kys Z (a.q (.w i))).length) c32), (77, .int .i64 (((kys Z (a.q (.w i))).length : Nat) : Int)), (78, .int .i64 ((m : Nat) : Int)), (91, .agg #[.int .u16 ((Z.ky i).idx), .int .u32 ((Z.ky i).gen)])]) (φ := (b2 = b2 ∧ Nat.ble (1 + 2) 5 = true) ∧ True) (fuel := 1) h82 (by kernel_rfl) rfl (by kernel_rfl) (by kernel_rfl) ⟨trivial, rfl, trivial⟩ ⟨⟨rfl, rfl⟩, trivial⟩ fun a83 h84 => ?_
    clear h82
    refine wpAnyK_one (i := 6) (fuel := 0) (by kernel_rfl) ?_
    refine op_mDelQ (x := i) h84 rfl rfl rfl rfl rfl hi hho1 (kcons (fun _ => rfl) (kcons (fun hq => by cases hq) (kcons (fun hq => by cases hq) knil))) fun w85 hf86 h87a => ?_
    have h87 := h87a.put (d := none) (v := .tuple #[]) (T' := [(89, .map (some Z.qb)), (0, .pointer (some ⟨mb, 0, none⟩)), (3, .pointer (some ⟨b2, 0, none⟩)), (76, .slice (some ⟨rb, 0, none⟩) ((kys Z (a.q (.w i))).length) c32), (77, .int .i64 (((kys Z (a.q (.w i))).length : Nat) : Int)), (78, .int .i64 ((m : Nat) : Int)), (91, .agg #[.int .u16 ((Z.ky i).idx), .int .u32 ((Z.ky i).gen)])]) rfl
    refine ⟨keepNil, ?_⟩
    clear h84 h87a
    refine wpAnyK_done (by kernel_rfl) ?_ _
    refine hK76 _ _ ?_
    clear hK76
    refine dr_start (KB := [3, b2, rb, mb]) (Bi := [[0, 1, 2, 3], [0, 1, 2, 3], [0, 1, 2, 3], [0, 1, 2, 3], [0, 1, 2, 3], [0, 1, 2, 3], []]) mixed h87 fun w88 h89 => ?_
    clear h87
    refine dr_batch tabOk2 tabZ_ok2 (by repeat (first | with_reducible exact PF.body | with_reducible apply PF.inB | with_reducible apply PF.next)) [(0, {}), (1, {}), (2, {})] [0, 3, 76, 77, 78, 94] (T' := [(0, .pointer (some ⟨mb, 0, none⟩)), (3, .pointer (some ⟨b2, 0, none⟩)), (76, .slice (some ⟨rb, 0, none⟩) ((kys Z (a.q (.w i))).length) c32), (77, .int .i64 (((kys Z (a.q (.w i))).length : Nat) : Int)), (78, .int .i64 ((m : Nat) : Int)), (94, .pointer (some ⟨mb, 4, none⟩))]) (φ := True) (fuel := 4) h89 (by kernel_rfl) rfl (by kernel_rfl) (by kernel_rfl) ⟨trivial, trivial, trivial, trivial⟩ trivial fun a91 h92 => ?_
    clear h89
    refine dr_read (i := 3) (b := mb) (p := 3) (v := .map (some Z.wb)) (fuel := 3) (by repeat (first | with_reducible exact PF.body | with_reducible apply PF.inB | with_reducible apply PF.next)) h92 rfl rfl rfl (by kernel_rfl) (by kernel_rfl) (by kernel_rfl) rfl (rd_m h92 (k := 4) (v := .map (some Z.wb)) rfl rfl rfl rfl (md_p ⟨rfl, trivial⟩)) ?_
    have h93 := h92.put (d := some 95) (v := .map (some Z.wb)) (T' := [(95, .map (some Z.wb)), (0, .pointer (some ⟨mb, 0, none⟩)), (3, .pointer (some ⟨b2, 0, none⟩)), (76, .slice (some ⟨rb, 0, none⟩) ((kys Z (a.q (.w i))).length) c32), (77, .int .i64 (((kys Z (a.q (.w i))).length : Nat) : Int)), (78, .int .i64 ((m : Nat) : Int)), (94, .pointer (some ⟨mb, 4, none⟩))]) rfl
    clear h92
    refine dr_batch tabOk2 tabZ_ok2 (by repeat (first | with_reducible exact PF.body | with_reducible apply PF.inB | with_reducible apply PF.next)) [(4, {}), (5, {k := 1, p := 1})] [95, 0, 3, 76, 77, 78, 97] (T' := [(95, .map (some Z.wb)), (0, .pointer (some ⟨mb, 0, none⟩)), (3, .pointer (some ⟨b2, 0, none⟩)), (76, .slice (some ⟨rb, 0, none⟩) ((kys Z (a.q (.w i))).length) c32), (77, .int .i64 (((kys Z (a.q (.w i))).length : Nat) : Int)), (78, .int .i64 ((m : Nat) : Int)), (97, .agg #[.int .u16 ((Z.ky i).idx), .int .u32 ((Z.ky i).gen)])]) (φ := (b2 = b2 ∧ Nat.ble (1 + 2) 5 = true) ∧ True) (fuel := 1) h93 (by kernel_rfl) rfl (by kernel_rfl) (by kernel_rfl) ⟨trivial, rfl, trivial⟩ ⟨⟨rfl, rfl⟩, trivial⟩ fun a94 h95 => ?_
    clear h93
    refine wpAnyK_one (i := 6) (fuel := 0) (by kernel_rfl) ?_
    refine op_mDelW (x := i) h95 rfl rfl rfl rfl rfl (fun hq => (sl_del.1 hq).2 rfl) rfl hi2 (kcons (fun _ => rfl) (kcons (fun hq => by cases hq) (kcons (fun hq => by cases hq) knil))) fun w96 hf97 h98a => ?_
    have h98 := h98a.put (d := none) (v := .tuple #[]) (T' := [(95, .map (some Z.wb)), (0, .pointer (some ⟨mb, 0, none⟩)), (3, .pointer (some ⟨b2, 0, none⟩)), (76, .slice (some ⟨rb, 0, none⟩) ((kys Z (a.q (.w i))).length) c32), (77, .int .i64 (((kys Z (a.q (.w i))).length : Nat) : Int)), (78, .int .i64 ((m : Nat) : Int)), (97, .agg #[.int .u16 ((Z.ky i).idx), .int .u32 ((Z.ky i).gen)])]) rfl
    refine ⟨keepNil, ?_⟩
    clear h95 h98a
    obtain ⟨a99, ea99⟩ : ∃ z : AK, z = b1.setW i 0 := ⟨_, rfl⟩
    rw [← ea99] at h98
    have hhoh98 : ((R1.hole (.qr i)).delW i).ho = none := rfl
    refine wpAnyK_done (by kernel_rfl) ?_ _
    try simp only [Exit.then, Exit.inBlock]
    try rw [if_pos trivial]
    exact s_end tabOk2 tabZ_ok2 h98 [] (vs := []) (φ := True) rfl (by kernel_rfl) trivial ⟨rfl, _, mg_end hH h98 hhoh98 (by subst ea99; rw [hb1])⟩

theorem forget5e (mb : Nat) (Z : MZ) (R : MR) (a : AK) (C : CP) (i : Nat) (hi : i ∈ sl Z.ql) (rt bd : Int) (hP : MP Z a) (hq0 : a.q (.w i) = []) (w : World) (hH : MH mb Z R a C w) :
    Calls Tryd.prog 97 #[.pointer (some ⟨mb, 0, none⟩), .agg #[.int .u8 5, .int .u16 ((Z.ky i).idx), .int .u32 ((Z.ky i).gen), .int .u8 rt, .int .u64 bd]] w fun e w' => e = .returned (.tuple #[]) ∧ ∃ R', MG mb Z R C w (Z.delQ i) R' (((a.q (.w i)).foldl wakeA a).setW i 0) C w' := by
  have hokw : (QL.w i).ok := hH.md.k.qx i hi
  have hi2 : i < 256 := hokw
  obtain ⟨ty3, hg3⟩ := hH.g3
  have hho := hH.ho
  have hkk := hH.md.k
  refine enter (n := 98) (K := mdF mb Z R C) (A := MD (mdF mb Z R C) w.heap.size mb Z R a C) (F := mdF mb Z R C) (T := [(0, .pointer (some ⟨mb, 0, none⟩)), (1, .agg #[.int .u8 5, .int .u16 ((Z.ky i).idx), .int .u32 ((Z.ky i).gen), .int .u8 rt, .int .u64 bd])]) (L := [(3, ⟨[.int .u16 0, .int .u32 0], ty3, true⟩)]) (args := [.pointer (some ⟨mb, 0, none⟩), .agg #[.int .u8 5, .int .u16 ((Z.ky i).idx), .int .u32 ((Z.ky i).gen), .int .u8 rt, .int .u64 bd]]) Tryd.func97 rfl rfl rfl rfl (kcons hg3 knil) (by simp) (kcons (by intro hq; cases hq) knil) hH.mD MD.stable hH.md.low (kcons (by intro hq; cases hq) knil) ?_
  intro ac h
  refine wp_seq_k fun K1 hK1 => ?_
  refine nd_start (l := [0]) rfl ?_
  refine nd_op ?_
  refine op_new tabOk2 (cells := [.int .u8 5, .int .u16 ((Z.ky i).idx), .int .u32 ((Z.ky i).gen), .int .u8 rt, .int .u64 bd]) (ty := 49) (ln := none) (L1 := fun b2 => [(3, ⟨[.int .u16 0, .int .u32 0], ty3, true⟩), (b2, ⟨[.int .u8 5, .int .u16 ((Z.ky i).idx), .int .u32 ((Z.ky i).gen), .int .u8 rt, .int .u64 bd], 49, false⟩)]) h rfl rfl rfl rfl (by kernel_rfl) (fun _ => rfl) fun b2 w3 a4 h5 hf6 hn7 => ?_
  clear h
  refine nd_done ?_
  refine hK1 _ _ ?_
  clear hK1
  refine wp_seq_k fun K8 hK8 => ?_
  refine nd_start (l := [0, 1]) rfl ?_
  refine nd_batch tabOk2 tabZ_ok2 [(0, {}), (1, {k := 1})] [3, 0, 1, 10] (T' := [(3, .pointer (some ⟨b2, 0, none⟩)), (0, .pointer (some ⟨mb, 0, none⟩)), (1, .agg #[.int .u8 5, .int .u16 ((Z.ky i).idx), .int .u32 ((Z.ky i).gen), .int .u8 rt, .int .u64 bd]), (10, .int .u8 5)]) (φ := (b2 = b2 ∧ Nat.ble (0 + 1) 5 = true) ∧ True) (rest := []) h5 (by kernel_rfl) rfl ⟨⟨rfl, rfl⟩, trivial⟩ fun a9 h10 => ?_
  clear h5
  refine nd_done ?_
  refine hK8 _ _ ?_
  clear hK8
  refine wp_block ?_
  refine wp_seq_k fun K11 hK11 => ?_
  refine nd_start (l := [0, 1]) rfl ?_
  refine nd_batch tabOk2 tabZ_ok2 [(0, {}), (1, {})] [3, 0, 1, 10, 11] (T' := [(3, .pointer (some ⟨b2, 0, none⟩)), (0, .pointer (some ⟨mb, 0, none⟩)), (1, .agg #[.int .u8 5, .int .u16 ((Z.ky i).idx), .int .u32 ((Z.ky i).gen), .int .u8 rt, .int .u64 bd]), (10, .int .u8 5), (11, .bool false)]) (φ := True) (rest := []) h10 (by kernel_rfl) rfl trivial fun a12 h13 => ?_
  clear h10
  refine nd_done ?_
  refine hK11 _ _ ?_
  clear hK11
  refine c_false h13 rfl ?_
  refine wp_seq_k fun K14 hK14 => ?_
  refine wp_seq_k fun K15 hK15 => ?_
  refine nd_start (l := [0, 1]) rfl ?_
  refine nd_batch tabOk2 tabZ_ok2 [(0, {}), (1, {})] [3, 0, 1, 10, 66] (T' := [(3, .pointer (some ⟨b2, 0, none⟩)), (0, .pointer (some ⟨mb, 0, none⟩)), (1, .agg #[.int .u8 5, .int .u16 ((Z.ky i).idx), .int .u32 ((Z.ky i).gen), .int .u8 rt, .int .u64 bd]), (10, .int .u8 5), (66, .bool false)]) (φ := True) (rest := []) h13 (by kernel_rfl) rfl trivial fun a16 h17 => ?_
  clear h13
  refine nd_done ?_
  refine hK15 _ _ ?_
  clear hK15
  refine c_false h17 rfl ?_
  refine nd_start (l := [0, 1]) rfl ?_
  refine nd_batch tabOk2 tabZ_ok2 [(0, {}), (1, {})] [3, 0, 1, 10, 66] (T' := [(3, .pointer (some ⟨b2, 0, none⟩)), (0, .pointer (some ⟨mb, 0, none⟩)), (1, .agg #[.int .u8 5, .int .u16 ((Z.ky i).idx), .int .u32 ((Z.ky i).gen), .int .u8 rt, .int .u64 bd]), (10, .int .u8 5), (66, .bool true)]) (φ := True) (rest := []) h17 (by kernel_rfl) rfl trivial fun a18 h19 => ?_
  clear h17
  refine nd_done ?_
  refine hK14 _ _ ?_
  clear hK14
  refine c_true h19 rfl ?_
  refine wp_seq_k fun K20 hK20 => ?_
  refine wp_seq_k fun K21 hK21 => ?_
  refine dr_start (KB := [3, b2, mb, Z.qb]) (Bi := [[0, 1, 2, 3], [0, 1, 2, 3], [0, 1, 2, 3], [0, 1, 2, 3], [0, 1, 2, 3], [0, 1, 2, 3], [0, 1, 2, 3], [], [0, 1, 2, 3], [0, 1, 2, 3]]) mixed h19 fun w22 h23 => ?_
  clear h19
  refine dr_batch tabOk2 tabZ_ok2 (by repeat (first | with_reducible exact PF.body | with_reducible apply PF.inB | with_reducible apply PF.next)) [(0, {}), (1, {}), (2, {})] [3, 0, 1, 10, 66, 71] (T' := [(3, .pointer (some ⟨b2, 0, none⟩)), (0, .pointer (some ⟨mb, 0, none⟩)), (1, .agg #[.int .u8 5, .int .u16 ((Z.ky i).idx), .int .u32 ((Z.ky i).gen), .int .u8 rt, .int .u64 bd]), (10, .int .u8 5), (66, .bool true), (71, .pointer (some ⟨mb, 3, none⟩))]) (φ := True) (fuel := 7) h23 (by kernel_rfl) rfl (by kernel_rfl) (by kernel_rfl) ⟨trivial, trivial, trivial, trivial⟩ trivial fun a25 h26 => ?_
  clear h23
  refine dr_read (i := 3) (b := mb) (p := 2) (v := .map (some Z.qb)) (fuel := 6) (by repeat (first | with_reducible exact PF.body | with_reducible apply PF.inB | with_reducible apply PF.next)) h26 rfl rfl rfl (by kernel_rfl) (by kernel_rfl) (by kernel_rfl) rfl (rd_m h26 (k := 3) (v := .map (some Z.qb)) rfl rfl rfl rfl (md_p ⟨rfl, trivial⟩)) ?_
  have h27 := h26.put (d := some 72) (v := .map (some Z.qb)) (T' := [(72, .map (some Z.qb)), (3, .pointer (some ⟨b2, 0, none⟩)), (0, .pointer (some ⟨mb, 0, none⟩)), (1, .agg #[.int .u8 5, .int .u16 ((Z.ky i).idx), .int .u32 ((Z.ky i).gen), .int .u8 rt, .int .u64 bd]), (10, .int .u8 5), (66, .bool true), (71, .pointer (some ⟨mb, 3, none⟩))]) rfl
  clear h26
  refine dr_batch tabOk2 tabZ_ok2 (by repeat (first | with_reducible exact PF.body | with_reducible apply PF.inB | with_reducible apply PF.next)) [(4, {}), (5, {k := 1, p := 1})] [72, 3, 0, 1, 10, 66, 74] (T' := [(72, .map (some Z.qb)), (3, .pointer (some ⟨b2, 0, none⟩)), (0, .pointer (some ⟨mb, 0, none⟩)), (1, .agg #[.int .u8 5, .int .u16 ((Z.ky i).idx), .int .u32 ((Z.ky i).gen), .int .u8 rt, .int .u64 bd]), (10, .int .u8 5), (66, .bool true), (74, .agg #[.int .u16 ((Z.ky i).idx), .int .u32 ((Z.ky i).gen)])]) (φ := (b2 = b2 ∧ Nat.ble (1 + 2) 5 = true) ∧ True) (fuel := 4) h27 (by kernel_rfl) rfl (by kernel_rfl) (by kernel_rfl) ⟨trivial, rfl, trivial⟩ ⟨⟨rfl, rfl⟩, trivial⟩ fun a28 h29 => ?_
  clear h27
  refine dr_read (i := 6) (b := Z.qb) (p := 3) (v := .slice (R.qo i) ((kys Z (a.q (.w i))).length) (R.qk i)) (fuel := 3) (by repeat (first | with_reducible exact PF.body | with_reducible apply PF.inB | with_reducible apply PF.next)) h29 rfl rfl rfl (by kernel_rfl) (by kernel_rfl) (by kernel_rfl) rfl (rd_Q h29 (x := i) hi rfl rfl rfl) ?_
  have h30 := h29.put (d := some 75) (v := .slice (R.qo i) ((kys Z (a.q (.w i))).length) (R.qk i)) (T' := [(75, .slice (R.qo i) ((kys Z (a.q (.w i))).length) (R.qk i)), (72, .map (some Z.qb)), (3, .pointer (some ⟨b2, 0, none⟩)), (0, .pointer (some ⟨mb, 0, none⟩)), (1, .agg #[.int .u8 5, .int .u16 ((Z.ky i).idx), .int .u32 ((Z.ky i).gen), .int .u8 rt, .int .u64 bd]), (10, .int .u8 5), (66, .bool true), (74, .agg #[.int .u16 ((Z.ky i).idx), .int .u32 ((Z.ky i).gen)])]) rfl
  clear h29
  refine dr_batch tabOk2 tabZ_ok2 (by repeat (first | with_reducible exact PF.body | with_reducible apply PF.inB | with_reducible apply PF.next)) [(9, {})] [75, 3, 0, 1, 10, 66, 78] (T' := [(75, .slice (R.qo i) ((kys Z (a.q (.w i))).length) (R.qk i)), (3, .pointer (some ⟨b2, 0, none⟩)), (0, .pointer (some ⟨mb, 0, none⟩)), (1, .agg #[.int .u8 5, .int .u16 ((Z.ky i).idx), .int .u32 ((Z.ky i).gen), .int .u8 rt, .int .u64 bd]), (10, .int .u8 5), (66, .bool true), (78, .int .i64 0)]) (φ := True) (fuel := 2) h30 (by kernel_rfl) rfl (by kernel_rfl) (by kernel_rfl) ⟨trivial, trivial⟩ trivial fun a31 h32 => ?_
  clear h30
  refine wpAnyK_one (i := 7) (fuel := 1) (by kernel_rfl) ?_
  refine op_append tabOk2 (e := 39) (so := none) (n := 0) (c := 0) (xo := R.qo i) (m := (kys Z (a.q (.w i))).length) (cx := R.qk i) (vals := []) (vs := (kys Z (a.q (.w i))).flatMap rfC) (F := []) h32 rfl rfl rfl rfl rfl rfl rfl rfl rfl rfl rfl rfl (rl_nil rfC _ _ _) (src_row (h32.inv.1.qr i hi (by rw [hho]; simp))) (by have := hP.klen hkk hokw; omega) (allOne_rf _) ?_
  intro o33 c34 F35 w36 hr37 hf38 hF39
  have hr372 := rl_app (enc := rfC) (xs := []) (ys := kys Z (a.q (.w i))) hr37
  rw [List.nil_append] at hr372
  rw [Nat.zero_add]
  refine ⟨keepNil, ?_⟩
  have h41 := (h32.grow hf38).put (d := some 76) (v := .slice o33 ((kys Z (a.q (.w i))).length) c34) (T' := [(76, .slice o33 ((kys Z (a.q (.w i))).length) c34), (75, .slice (R.qo i) ((kys Z (a.q (.w i))).length) (R.qk i)), (3, .pointer (some ⟨b2, 0, none⟩)), (0, .pointer (some ⟨mb, 0, none⟩)), (1, .agg #[.int .u8 5, .int .u16 ((Z.ky i).idx), .int .u32 ((Z.ky i).gen), .int .u8 rt, .int .u64 bd]), (10, .int .u8 5), (66, .bool true), (78, .int .i64 0)]) rfl
  clear h32
  refine dr_batch tabOk2 tabZ_ok2 (by repeat (first | with_reducible exact PF.body | with_reducible apply PF.inB | with_reducible apply PF.next)) [(8, {})] [76, 3, 0, 1, 10, 66, 78, 77] (T' := [(76, .slice o33 ((kys Z (a.q (.w i))).length) c34), (3, .pointer (some ⟨b2, 0, none⟩)), (0, .pointer (some ⟨mb, 0, none⟩)), (1, .agg #[.int .u8 5, .int .u16 ((Z.ky i).idx), .int .u32 ((Z.ky i).gen), .int .u8 rt, .int .u64 bd]), (10, .int .u8 5), (66, .bool true), (78, .int .i64 0), (77, .int .i64 (((kys Z (a.q (.w i))).length : Nat) : Int))]) (φ := True) (fuel := 0) h41 (by kernel_rfl) rfl (by kernel_rfl) (by kernel_rfl) ⟨trivial, trivial⟩ trivial fun a42 h43 => ?_
  clear h41
  refine wpAnyK_done (by kernel_rfl) ?_ _
  refine hK21 _ _ ?_
  clear hK21
  refine wp_block ?_
  refine wp_loop_ghost (fun g ga gw => ∃ (b1 : AK) (R1 : MR) (m : Nat), (g = (a.q (.w i)).length - m) ∧ (m ≤ (a.q (.w i)).length) ∧ (b1 = ((a.q (.w i)).take m).foldl wakeA a) ∧ (R1.ho = none) ∧ St (MCx 98 (mdF mb Z R C) w mb Z R1 b1 C) [(0, .pointer (some ⟨mb, 0, none⟩)), (3, .pointer (some ⟨b2, 0, none⟩)), (76, .slice o33 ((kys Z (a.q (.w i))).length) c34), (77, .int .i64 (((kys Z (a.q (.w i))).length : Nat) : Int)), (78, .int .i64 ((m : Nat) : Int))] [(3, ⟨[.int .u16 0, .int .u32 0], ty3, true⟩), (b2, ⟨[.int .u8 5, .int .u16 ((Z.ky i).idx), .int .u32 ((Z.ky i).gen), .int .u8 rt, .int .u64 bd], 49, false⟩)] ga gw) (a.q (.w i)).length ⟨a, R, 0, by omega, by omega, rfl, hho, (h43.slotsMono (restr_spec (keep := [0, 3, 76, 77, 78]) rfl))⟩ ?_
  clear h43
  rintro g a44 w45 ⟨b1, R1, m, hi47, hi48, hi49, hi50, h46⟩
  have hig := hi47
  have hm8 := hi48
  have hb1 := hi49
  have hho1 := hi50
  have hkl9 := hP.klen hkk hokw
  have hkl8 := kys_len Z (a.q (.w i))
  have hfw := fold_wake hP hkk hokw m hm8
  have hP1 : MP Z b1 := by rw [hb1]; exact hfw.1
  refine wp_seq_k fun K51 hK51 => ?_
  refine nd_start (l := [0]) rfl ?_
  refine nd_batch tabOk2 tabZ_ok2 [(0, {})] [0, 3, 76, 77, 78, 79] (T' := [(0, .pointer (some ⟨mb, 0, none⟩)), (3, .pointer (some ⟨b2, 0, none⟩)), (76, .slice o33 ((kys Z (a.q (.w i))).length) c34), (77, .int .i64 (((kys Z (a.q (.w i))).length : Nat) : Int)), (78, .int .i64 ((m : Nat) : Int)), (79, .bool (decide (((m : Nat) : Int) < (((kys Z (a.q (.w i))).length : Nat) : Int))))]) (φ := True) (rest := []) h46 (by kernel_rfl) rfl trivial fun a52 h53 => ?_
  clear h46
  refine nd_done ?_
  refine hK51 _ _ ?_
  clear hK51
  refine wp_seq_k fun K54 hK54 => ?_
  refine c_split h53 (b := decide (((m : Nat) : Int) < (((kys Z (a.q (.w i))).length : Nat) : Int))) rfl (fun hc55 => ?_) (fun hc55 => ?_)
  ·
    have hc55f : ((m : Nat) : Int) < (((kys Z (a.q (.w i))).length : Nat) : Int) := by simpa using hc55
    exact absurd hc55f (by rw [hq0]; show ¬ ((m : Nat) : Int) < 0; omega)
  ·
    have hc55f : ¬ ((m : Nat) : Int) < (((kys Z (a.q (.w i))).length : Nat) : Int) := by simpa using hc55
    have hm9 : (a.q (.w i)).length ≤ m := by rw [hq0]; simp
    rw [List.take_of_length_le hm9] at hb1 hfw
    rw [List.drop_of_length_le hm9] at hfw
    refine wp_exit ?_
    refine hK20 _ _ ?_
    clear hK20
    refine wp_seq_k fun K56 hK56 => ?_
    refine dr_start (KB := [3, b2, mb]) (Bi := [[0, 1, 2], [0, 1, 2], [0, 1, 2], [0, 1, 2], [0, 1, 2], [0, 1, 2], []]) mixed h53 fun w57 h58 => ?_
    clear h53
    refine dr_batch tabOk2 tabZ_ok2 (by repeat (first | with_reducible exact PF.body | with_reducible apply PF.inB | with_reducible apply PF.next)) [(0, {}), (1, {}), (2, {})] [0, 3, 76, 77, 78, 88] (T' := [(0, .pointer (some ⟨mb, 0, none⟩)), (3, .pointer (some ⟨b2, 0, none⟩)), (76, .slice o33 ((kys Z (a.q (.w i))).length) c34), (77, .int .i64 (((kys Z (a.q (.w i))).length : Nat) : Int)), (78, .int .i64 ((m : Nat) : Int)), (88, .pointer (some ⟨mb, 3, none⟩))]) (φ := True) (fuel := 4) h58 (by kernel_rfl) rfl (by kernel_rfl) (by kernel_rfl) ⟨trivial, trivial, trivial, trivial⟩ trivial fun a60 h61 => ?_
    clear h58
    refine dr_read (i := 3) (b := mb) (p := 2) (v := .map (some Z.qb)) (fuel := 3) (by repeat (first | with_reducible exact PF.body | with_reducible apply PF.inB | with_reducible apply PF.next)) h61 rfl rfl rfl (by kernel_rfl) (by kernel_rfl) (by kernel_rfl) rfl (rd_m h61 (k := 3) (v := .map (some Z.qb)) rfl rfl rfl rfl (md_p ⟨rfl, trivial⟩)) ?_
    have h62 := h61.put (d := some 89) (v := .map (some Z.qb)) (T' := [(89, .map (some Z.qb)), (0, .pointer (some ⟨mb, 0, none⟩)), (3, .pointer (some ⟨b2, 0, none⟩)), (76, .slice o33 ((kys Z (a.q (.w i))).length) c34), (77, .int .i64 (((kys Z (a.q (.w i))).length : Nat) : Int)), (78, .int .i64 ((m : Nat) : Int)), (88, .pointer (some ⟨mb, 3, none⟩))]) rfl
    clear h61
    refine dr_batch tabOk2 tabZ_ok2 (by repeat (first | with_reducible exact PF.body | with_reducible apply PF.inB | with_reducible apply PF.next)) [(4, {}), (5, {k := 1, p := 1})] [89, 0, 3, 76, 77, 78, 91] (T' := [(89, .map (some Z.qb)), (0, .pointer (some ⟨mb, 0, none⟩)), (3, .pointer (some ⟨b2, 0, none⟩)), (76, .slice o33 ((kys Z (a.q (.w i))).length) c34), (77, .int .i64 (((kys Z (a.q (.w i))).length : Nat) : Int)), (78, .int .i64 ((m : Nat) : Int)), (91, .agg #[.int .u16 ((Z.ky i).idx), .int .u32 ((Z.ky i).gen)])]) (φ := (b2 = b2 ∧ Nat.ble (1 + 2) 5 = true) ∧ True) (fuel := 1) h62 (by kernel_rfl) rfl (by kernel_rfl) (by kernel_rfl) ⟨trivial, rfl, trivial⟩ ⟨⟨rfl, rfl⟩, trivial⟩ fun a63 h64 => ?_
    clear h62
    refine wpAnyK_one (i := 6) (fuel := 0) (by kernel_rfl) ?_
    refine op_mDelQ (x := i) h64 rfl rfl rfl rfl rfl hi hho1 (kcons (fun _ => rfl) (kcons (fun hq => by cases hq) knil)) fun w65 hf66 h67a => ?_
    have h67 := h67a.put (d := none) (v := .tuple #[]) (T' := [(89, .map (some Z.qb)), (0, .pointer (some ⟨mb, 0, none⟩)), (3, .pointer (some ⟨b2, 0, none⟩)), (76, .slice o33 ((kys Z (a.q (.w i))).length) c34), (77, .int .i64 (((kys Z (a.q (.w i))).length : Nat) : Int)), (78, .int .i64 ((m : Nat) : Int)), (91, .agg #[.int .u16 ((Z.ky i).idx), .int .u32 ((Z.ky i).gen)])]) rfl
    refine ⟨keepNil, ?_⟩
    clear h64 h67a
    refine wpAnyK_done (by kernel_rfl) ?_ _
    refine hK56 _ _ ?_
    clear hK56
    refine dr_start (KB := [3, b2, mb]) (Bi := [[0, 1, 2], [0, 1, 2], [0, 1, 2], [0, 1, 2], [0, 1, 2], [0, 1, 2], []]) mixed h67 fun w68 h69 => ?_
    clear h67
    refine dr_batch tabOk2 tabZ_ok2 (by repeat (first | with_reducible exact PF.body | with_reducible apply PF.inB | with_reducible apply PF.next)) [(0, {}), (1, {}), (2, {})] [0, 3, 76, 77, 78, 94] (T' := [(0, .pointer (some ⟨mb, 0, none⟩)), (3, .pointer (some ⟨b2, 0, none⟩)), (76, .slice o33 ((kys Z (a.q (.w i))).length) c34), (77, .int .i64 (((kys Z (a.q (.w i))).length : Nat) : Int)), (78, .int .i64 ((m : Nat) : Int)), (94, .pointer (some ⟨mb, 4, none⟩))]) (φ := True) (fuel := 4) h69 (by kernel_rfl) rfl (by kernel_rfl) (by kernel_rfl) ⟨trivial, trivial, trivial, trivial⟩ trivial fun a71 h72 => ?_
    clear h69
    refine dr_read (i := 3) (b := mb) (p := 2) (v := .map (some Z.wb)) (fuel := 3) (by repeat (first | with_reducible exact PF.body | with_reducible apply PF.inB | with_reducible apply PF.next)) h72 rfl rfl rfl (by kernel_rfl) (by kernel_rfl) (by kernel_rfl) rfl (rd_m h72 (k := 4) (v := .map (some Z.wb)) rfl rfl rfl rfl (md_p ⟨rfl, trivial⟩)) ?_
    have h73 := h72.put (d := some 95) (v := .map (some Z.wb)) (T' := [(95, .map (some Z.wb)), (0, .pointer (some ⟨mb, 0, none⟩)), (3, .pointer (some ⟨b2, 0, none⟩)), (76, .slice o33 ((kys Z (a.q (.w i))).length) c34), (77, .int .i64 (((kys Z (a.q (.w i))).length : Nat) : Int)), (78, .int .i64 ((m : Nat) : Int)), (94, .pointer (some ⟨mb, 4, none⟩))]) rfl
    clear h72
    refine dr_batch tabOk2 tabZ_ok2 (by repeat (first | with_reducible exact PF.body | with_reducible apply PF.inB | with_reducible apply PF.next)) [(4, {}), (5, {k := 1, p := 1})] [95, 0, 3, 76, 77, 78, 97] (T' := [(95, .map (some Z.wb)), (0, .pointer (some ⟨mb, 0, none⟩)), (3, .pointer (some ⟨b2, 0, none⟩)), (76, .slice o33 ((kys Z (a.q (.w i))).length) c34), (77, .int .i64 (((kys Z (a.q (.w i))).length : Nat) : Int)), (78, .int .i64 ((m : Nat) : Int)), (97, .agg #[.int .u16 ((Z.ky i).idx), .int .u32 ((Z.ky i).gen)])]) (φ := (b2 = b2 ∧ Nat.ble (1 + 2) 5 = true) ∧ True) (fuel := 1) h73 (by kernel_rfl) rfl (by kernel_rfl) (by kernel_rfl) ⟨trivial, rfl, trivial⟩ ⟨⟨rfl, rfl⟩, trivial⟩ fun a74 h75 => ?_
    clear h73
    refine wpAnyK_one (i := 6) (fuel := 0) (by kernel_rfl) ?_
    refine op_mDelW (x := i) h75 rfl rfl rfl rfl rfl (fun hq => (sl_del.1 hq).2 rfl) rfl hi2 (kcons (fun _ => rfl) (kcons (fun hq => by cases hq) knil)) fun w76 hf77 h78a => ?_
    have h78 := h78a.put (d := none) (v := .tuple #[]) (T' := [(95, .map (some Z.wb)), (0, .pointer (some ⟨mb, 0, none⟩)), (3, .pointer (some ⟨b2, 0, none⟩)), (76, .slice o33 ((kys Z (a.q (.w i))).length) c34), (77, .int .i64 (((kys Z (a.q (.w i))).length : Nat) : Int)), (78, .int .i64 ((m : Nat) : Int)), (97, .agg #[.int .u16 ((Z.ky i).idx), .int .u32 ((Z.ky i).gen)])]) rfl
    refine ⟨keepNil, ?_⟩
    clear h75 h78a
    obtain ⟨a79, ea79⟩ : ∃ z : AK, z = b1.setW i 0 := ⟨_, rfl⟩
    rw [← ea79] at h78
    have hhoh78 : ((R1.hole (.qr i)).delW i).ho = none := rfl
    refine wpAnyK_done (by kernel_rfl) ?_ _
    try simp only [Exit.then, Exit.inBlock]
    try rw [if_pos trivial]
    exact s_end tabOk2 tabZ_ok2 h78 [] (vs := []) (φ := True) rfl (by kernel_rfl) trivial ⟨rfl, _, mg_end hH h78 hhoh78 (by subst ea79; rw [hb1])⟩

theorem forget5n (mb : Nat) (Z : MZ) (R : MR) (a : AK) (C : CP) (i : Nat) (hi : i ∈ sl Z.ql) (rt bd : Int) (hP : MP Z a) (hql : 0 < (a.q (.w i)).length) (w : World) (hH : MH mb Z R a C w) :
    Calls Tryd.prog 97 #[.pointer (some ⟨mb, 0, none⟩), .agg #[.int .u8 5, .int .u16 ((Z.ky i).idx), .int .u32 ((Z.ky i).gen), .int .u8 rt, .int .u64 bd]] w fun e w' => e = .returned (.tuple #[]) ∧ ∃ R', MG mb Z R C w (Z.delQ i) R' (((a.q (.w i)).foldl wakeA a).setW i 0) C w' := by
  have hokw : (QL.w i).ok := hH.md.k.qx i hi
  have hi2 : i < 256 := hokw
  obtain ⟨ty3, hg3⟩ := hH.g3
  have hho := hH.ho
  have hkk := hH.md.k
  refine enter (n := 98) (K := mdF mb Z R C) (A := MD (mdF mb Z R C) w.heap.size mb Z R a C) (F := mdF mb Z R C) (T := [(0, .pointer (some ⟨mb, 0, none⟩)), (1, .agg #[.int .u8 5, .int .u16 ((Z.ky i).idx), .int .u32 ((Z.ky i).gen), .int .u8 rt, .int .u64 bd])]) (L := [(3, ⟨[.int .u16 0, .int .u32 0], ty3, true⟩)]) (args := [.pointer (some ⟨mb, 0, none⟩), .agg #[.int .u8 5, .int .u16 ((Z.ky i).idx), .int .u32 ((Z.ky i).gen), .int .u8 rt, .int .u64 bd]]) Tryd.func97 rfl rfl rfl rfl (kcons hg3 knil) (by simp) (kcons (by intro hq; cases hq) knil) hH.mD MD.stable hH.md.low (kcons (by intro hq; cases hq) knil) ?_
  intro ac h
  refine wp_seq_k fun K1 hK1 => ?_
  refine nd_start (l := [0]) rfl ?_
  refine nd_op ?_
  refine op_new tabOk2 (cells := [.int .u8 5, .int .u16 ((Z.ky i).idx), .int .u32 ((Z.ky i).gen), .int .u8 rt, .int .u64 bd]) (ty := 49) (ln := none) (L1 := fun b2 => [(3, ⟨[.int .u16 0, .int .u32 0], ty3, true⟩), (b2, ⟨[.int .u8 5, .int .u16 ((Z.ky i).idx), .int .u32 ((Z.ky i).gen), .int .u8 rt, .int .u64 bd], 49, false⟩)]) h rfl rfl rfl rfl (by kernel_rfl) (fun _ => rfl) fun b2 w3 a4 h5 hf6 hn7 => ?_
  clear h
  refine nd_done ?_
  refine hK1 _ _ ?_
  clear hK1
  refine wp_seq_k fun K8 hK8 => ?_
  refine nd_start (l := [0, 1]) rfl ?_
  refine nd_batch tabOk2 tabZ_ok2 [(0, {}), (1, {k := 1})] [3, 0, 1, 10] (T' := [(3, .pointer (some ⟨b2, 0, none⟩)), (0, .pointer (some ⟨mb, 0, none⟩)), (1, .agg #[.int .u8 5, .int .u16 ((Z.ky i).idx), .int .u32 ((Z.ky i).gen), .int .u8 rt, .int .u64 bd]), (10, .int .u8 5)]) (φ := (b2 = b2 ∧ Nat.ble (0 + 1) 5 = true) ∧ True) (rest := []) h5 (by kernel_rfl) rfl ⟨⟨rfl, rfl⟩, trivial⟩ fun a9 h10 => ?_
  clear h5
  refine nd_done ?_
  refine hK8 _ _ ?_
  clear hK8
  refine wp_block ?_
  refine wp_seq_k fun K11 hK11 => ?_
  refine nd_start (l := [0, 1]) rfl ?_
  refine nd_batch tabOk2 tabZ_ok2 [(0, {}), (1, {})] [3, 0, 1, 10, 11] (T' := [(3, .pointer (some ⟨b2, 0, none⟩)), (0, .pointer (some ⟨mb, 0, none⟩)), (1, .agg #[.int .u8 5, .int .u16 ((Z.ky i).idx), .int .u32 ((Z.ky i).gen), .int .u8 rt, .int .u64 bd]), (10, .int .u8 5), (11, .bool false)]) (φ := True) (rest := []) h10 (by kernel_rfl) rfl trivial fun a12 h13 => ?_
  clear h10
  refine nd_done ?_
  refine hK11 _ _ ?_
  clear hK11
  refine c_false h13 rfl ?_
  refine wp_seq_k fun K14 hK14 => ?_
  refine wp_seq_k fun K15 hK15 => ?_
  refine nd_start (l := [0, 1]) rfl ?_
  refine nd_batch tabOk2 tabZ_ok2 [(0, {}), (1, {})] [3, 0, 1, 10, 66] (T' := [(3, .pointer (some ⟨b2, 0, none⟩)), (0, .pointer (some ⟨mb, 0, none⟩)), (1, .agg #[.int .u8 5, .int .u16 ((Z.ky i).idx), .int .u32 ((Z.ky i).gen), .int .u8 rt, .int .u64 bd]), (10, .int .u8 5), (66, .bool false)]) (φ := True) (rest := []) h13 (by kernel_rfl) rfl trivial fun a16 h17 => ?_
  clear h13
  refine nd_done ?_
  refine hK15 _ _ ?_
  clear hK15
  refine c_false h17 rfl ?_
  refine nd_start (l := [0, 1]) rfl ?_
  refine nd_batch tabOk2 tabZ_ok2 [(0, {}), (1, {})] [3, 0, 1, 10, 66] (T' := [(3, .pointer (some ⟨b2, 0, none⟩)), (0, .pointer (some ⟨mb, 0, none⟩)), (1, .agg #[.int .u8 5, .int .u16 ((Z.ky i).idx), .int .u32 ((Z.ky i).gen), .int .u8 rt, .int .u64 bd]), (10, .int .u8 5), (66, .bool true)]) (φ := True) (rest := []) h17 (by kernel_rfl) rfl trivial fun a18 h19 => ?_
  clear h17
  refine nd_done ?_
  refine hK14 _ _ ?_
  clear hK14
  refine c_true h19 rfl ?_
  refine wp_seq_k fun K20 hK20 => ?_
  refine wp_seq_k fun K21 hK21 => ?_
  refine dr_start (KB := [3, b2, mb, Z.qb]) (Bi := [[0, 1, 2, 3], [0, 1, 2, 3], [0, 1, 2, 3], [0, 1, 2, 3], [0, 1, 2, 3], [0, 1, 2, 3], [0, 1, 2, 3], [], [0, 1, 2, 3], [0, 1, 2, 3]]) mixed h19 fun w22 h23 => ?_
  clear h19
  refine dr_batch tabOk2 tabZ_ok2 (by repeat (first | with_reducible exact PF.body | with_reducible apply PF.inB | with_reducible apply PF.next)) [(0, {}), (1, {}), (2, {})] [3, 0, 1, 10, 66, 71] (T' := [(3, .pointer (some ⟨b2, 0, none⟩)), (0, .pointer (some ⟨mb, 0, none⟩)), (1, .agg #[.int .u8 5, .int .u16 ((Z.ky i).idx), .int .u32 ((Z.ky i).gen), .int .u8 rt, .int .u64 bd]), (10, .int .u8 5), (66, .bool true), (71, .pointer (some ⟨mb, 3, none⟩))]) (φ := True) (fuel := 7) h23 (by kernel_rfl) rfl (by kernel_rfl) (by kernel_rfl) ⟨trivial, trivial, trivial, trivial⟩ trivial fun a25 h26 => ?_
  clear h23
  refine dr_read (i := 3) (b := mb) (p := 2) (v := .map (some Z.qb)) (fuel := 6) (by repeat (first | with_reducible exact PF.body | with_reducible apply PF.inB | with_reducible apply PF.next)) h26 rfl rfl rfl (by kernel_rfl) (by kernel_rfl) (by kernel_rfl) rfl (rd_m h26 (k := 3) (v := .map (some Z.qb)) rfl rfl rfl rfl (md_p ⟨rfl, trivial⟩)) ?_
  have h27 := h26.put (d := some 72) (v := .map (some Z.qb)) (T' := [(72, .map (some Z.qb)), (3, .pointer (some ⟨b2, 0, none⟩)), (0, .pointer (some ⟨mb, 0, none⟩)), (1, .agg #[.int .u8 5, .int .u16 ((Z.ky i).idx), .int .u32 ((Z.ky i).gen), .int .u8 rt, .int .u64 bd]), (10, .int .u8 5), (66, .bool true), (71, .pointer (some ⟨mb, 3, none⟩))]) rfl
  clear h26
  refine dr_batch tabOk2 tabZ_ok2 (by repeat (first | with_reducible exact PF.body | with_reducible apply PF.inB | with_reducible apply PF.next)) [(4, {}), (5, {k := 1, p := 1})] [72, 3, 0, 1, 10, 66, 74] (T' := [(72, .map (some Z.qb)), (3, .pointer (some ⟨b2, 0, none⟩)), (0, .pointer (some ⟨mb, 0, none⟩)), (1, .agg #[.int .u8 5, .int .u16 ((Z.ky i).idx), .int .u32 ((Z.ky i).gen), .int .u8 rt, .int .u64 bd]), (10, .int .u8 5), (66, .bool true), (74, .agg #[.int .u16 ((Z.ky i).idx), .int .u32 ((Z.ky i).gen)])]) (φ := (b2 = b2 ∧ Nat.ble (1 + 2) 5 = true) ∧ True) (fuel := 4) h27 (by kernel_rfl) rfl (by kernel_rfl) (by kernel_rfl) ⟨trivial, rfl, trivial⟩ ⟨⟨rfl, rfl⟩, trivial⟩ fun a28 h29 => ?_
  clear h27
  refine dr_read (i := 6) (b := Z.qb) (p := 3) (v := .slice (R.qo i) ((kys Z (a.q (.w i))).length) (R.qk i)) (fuel := 3) (by repeat (first | with_reducible exact PF.body | with_reducible apply PF.inB | with_reducible apply PF.next)) h29 rfl rfl rfl (by kernel_rfl) (by kernel_rfl) (by kernel_rfl) rfl (rd_Q h29 (x := i) hi rfl rfl rfl) ?_
  have h30 := h29.put (d := some 75) (v := .slice (R.qo i) ((kys Z (a.q (.w i))).length) (R.qk i)) (T' := [(75, .slice (R.qo i) ((kys Z (a.q (.w i))).length) (R.qk i)), (72, .map (some Z.qb)), (3, .pointer (some ⟨b2, 0, none⟩)), (0, .pointer (some ⟨mb, 0, none⟩)), (1, .agg #[.int .u8 5, .int .u16 ((Z.ky i).idx), .int .u32 ((Z.ky i).gen), .int .u8 rt, .int .u64 bd]), (10, .int .u8 5), (66, .bool true), (74, .agg #[.int .u16 ((Z.ky i).idx), .int .u32 ((Z.ky i).gen)])]) rfl
  clear h29
  refine dr_batch tabOk2 tabZ_ok2 (by repeat (first | with_reducible exact PF.body | with_reducible apply PF.inB | with_reducible apply PF.next)) [(9, {})] [75, 3, 0, 1, 10, 66, 78] (T' := [(75, .slice (R.qo i) ((kys Z (a.q (.w i))).length) (R.qk i)), (3, .pointer (some ⟨b2, 0, none⟩)), (0, .pointer (some ⟨mb, 0, none⟩)), (1, .agg #[.int .u8 5, .int .u16 ((Z.ky i).idx), .int .u32 ((Z.ky i).gen), .int .u8 rt, .int .u64 bd]), (10, .int .u8 5), (66, .bool true), (78, .int .i64 0)]) (φ := True) (fuel := 2) h30 (by kernel_rfl) rfl (by kernel_rfl) (by kernel_rfl) ⟨trivial, trivial⟩ trivial fun a31 h32 => ?_
  clear h30
  refine wpAnyK_one (i := 7) (fuel := 1) (by kernel_rfl) ?_
  refine op_append tabOk2 (e := 39) (so := none) (n := 0) (c := 0) (xo := R.qo i) (m := (kys Z (a.q (.w i))).length) (cx := R.qk i) (vals := []) (vs := (kys Z (a.q (.w i))).flatMap rfC) (F := []) h32 rfl rfl rfl rfl rfl rfl rfl rfl rfl rfl rfl rfl (rl_nil rfC _ _ _) (src_row (h32.inv.1.qr i hi (by rw [hho]; simp))) (by have := hP.klen hkk hokw; omega) (allOne_rf _) ?_
  intro o33 c34 F35 w36 hr37 hf38 hF39
  have hr372 := rl_app (enc := rfC) (xs := []) (ys := kys Z (a.q (.w i))) hr37
  rw [List.nil_append] at hr372
  rw [Nat.zero_add]
  obtain ⟨rb, rcs, hro, hrb, hrF, hall⟩ := row_all hr372 (by rw [kys_len]; exact hql)
  subst hro hrF
  refine ⟨keepNil, ?_⟩
  have h40q : St _ _ [(3, ⟨[.int .u16 0, .int .u32 0], ty3, true⟩), (b2, ⟨[.int .u8 5, .int .u16 ((Z.ky i).idx), .int .u32 ((Z.ky i).gen), .int .u8 rt, .int .u64 bd], 49, false⟩), (rb, ⟨rcs, 39, false⟩)] _ _ := h32.fresh hf38 ((hF39 rb (by simp)).resolve_left (fun hq => by cases hq)) hrb
  have h41 := (h40q).put (d := some 76) (v := .slice (some ⟨rb, 0, none⟩) ((kys Z (a.q (.w i))).length) c34) (T' := [(76, .slice (some ⟨rb, 0, none⟩) ((kys Z (a.q (.w i))).length) c34), (75, .slice (R.qo i) ((kys Z (a.q (.w i))).length) (R.qk i)), (3, .pointer (some ⟨b2, 0, none⟩)), (0, .pointer (some ⟨mb, 0, none⟩)), (1, .agg #[.int .u8 5, .int .u16 ((Z.ky i).idx), .int .u32 ((Z.ky i).gen), .int .u8 rt, .int .u64 bd]), (10, .int .u8 5), (66, .bool true), (78, .int .i64 0)]) rfl
  clear h32 h40q
  refine dr_batch tabOk2 tabZ_ok2 (by repeat (first | with_reducible exact PF.body | with_reducible apply PF.inB | with_reducible apply PF.next)) [(8, {})] [76, 3, 0, 1, 10, 66, 78, 77] (T' := [(76, .slice (some ⟨rb, 0, none⟩) ((kys Z (a.q (.w i))).length) c34), (3, .pointer (some ⟨b2, 0, none⟩)), (0, .pointer (some ⟨mb, 0, none⟩)), (1, .agg #[.int .u8 5, .int .u16 ((Z.ky i).idx), .int .u32 ((Z.ky i).gen), .int .u8 rt, .int .u64 bd]), (10, .int .u8 5), (66, .bool true), (78, .int .i64 0), (77, .int .i64 (((kys Z (a.q (.w i))).length : Nat) : Int))]) (φ := True) (fuel := 0) h41 (by kernel_rfl) rfl (by kernel_rfl) (by kernel_rfl) ⟨trivial, trivial⟩ trivial fun a42 h43 => ?_
  clear h41
  refine wpAnyK_done (by kernel_rfl) ?_ _
  refine hK21 _ _ ?_
  clear hK21
  refine wp_block ?_
  refine wp_loop_ghost (fun g ga gw => ∃ (b1 : AK) (R1 : MR) (m : Nat), (g = (a.q (.w i)).length - m) ∧ (m ≤ (a.q (.w i)).length) ∧ (b1 = ((a.q (.w i)).take m).foldl wakeA a) ∧ (R1.ho = none) ∧ St (MCx 98 (mdF mb Z R C) w mb Z R1 b1 C) [(0, .pointer (some ⟨mb, 0, none⟩)), (3, .pointer (some ⟨b2, 0, none⟩)), (76, .slice (some ⟨rb, 0, none⟩) ((kys Z (a.q (.w i))).length) c34), (77, .int .i64 (((kys Z (a.q (.w i))).length : Nat) : Int)), (78, .int .i64 ((m : Nat) : Int))] [(3, ⟨[.int .u16 0, .int .u32 0], ty3, true⟩), (b2, ⟨[.int .u8 5, .int .u16 ((Z.ky i).idx), .int .u32 ((Z.ky i).gen), .int .u8 rt, .int .u64 bd], 49, false⟩), (rb, ⟨rcs, 39, false⟩)] ga gw) (a.q (.w i)).length ⟨a, R, 0, by omega, by omega, rfl, hho, (h43.slotsMono (restr_spec (keep := [0, 3, 76, 77, 78]) rfl))⟩ ?_
  clear h43
  rintro g a44 w45 ⟨b1, R1, m, hi47, hi48, hi49, hi50, h46⟩
  have hig := hi47
  have hm8 := hi48
  have hb1 := hi49
  have hho1 := hi50
  have hkl9 := hP.klen hkk hokw
  have hkl8 := kys_len Z (a.q (.w i))
  have hfw := fold_wake hP hkk hokw m hm8
  have hP1 : MP Z b1 := by rw [hb1]; exact hfw.1
  refine wp_seq_k fun K51 hK51 => ?_
  refine nd_start (l := [0]) rfl ?_
  refine nd_batch tabOk2 tabZ_ok2 [(0, {})] [0, 3, 76, 77, 78, 79] (T' := [(0, .pointer (some ⟨mb, 0, none⟩)), (3, .pointer (some ⟨b2, 0, none⟩)), (76, .slice (some ⟨rb, 0, none⟩) ((kys Z (a.q (.w i))).length) c34), (77, .int .i64 (((kys Z (a.q (.w i))).length : Nat) : Int)), (78, .int .i64 ((m : Nat) : Int)), (79, .bool (decide (((m : Nat) : Int) < (((kys Z (a.q (.w i))).length : Nat) : Int))))]) (φ := True) (rest := []) h46 (by kernel_rfl) rfl trivial fun a52 h53 => ?_
  clear h46
  refine nd_done ?_
  refine hK51 _ _ ?_
  clear hK51
  refine wp_seq_k fun K54 hK54 => ?_
  refine c_split h53 (b := decide (((m : Nat) : Int) < (((kys Z (a.q (.w i))).length : Nat) : Int))) rfl (fun hc55 => ?_) (fun hc55 => ?_)
  ·
    have hc55f : ((m : Nat) : Int) < (((kys Z (a.q (.w i))).length : Nat) : Int) := by simpa using hc55
    have hmq : m < (a.q (.w i)).length := by rw [kys_len] at hc55f; omega
    obtain ⟨y, hyq⟩ : ∃ y, (a.q (.w i))[m]? = some y := ⟨(a.q (.w i))[m]'(by omega), by simp⟩
    have hy := (hP.mq (.w i) hokw y (List.mem_of_getElem? hyq)).1
    have hky : (kys Z (a.q (.w i)))[m]? = some (Z.ky y) := by unfold kys; rw [List.getElem?_map, hyq]; rfl
    refine wp_skip ?_
    refine hK54 _ _ ?_
    clear hK54
    refine wp_seq_k fun K56 hK56 => ?_
    refine wp_block ?_
    refine wp_seq_k fun K57 hK57 => ?_
    refine nd_start (l := [0, 1, 2, 3]) rfl ?_
    refine nd_batch tabOk2 tabZ_ok2 [(0, {}), (1, {k := 2, m := 1, vs := [.int .u16 ((Z.ky y).idx), .int .u32 ((Z.ky y).gen)]})] [0, 3, 76, 77, 78, 81] (T' := [(0, .pointer (some ⟨mb, 0, none⟩)), (3, .pointer (some ⟨b2, 0, none⟩)), (76, .slice (some ⟨rb, 0, none⟩) ((kys Z (a.q (.w i))).length) c34), (77, .int .i64 (((kys Z (a.q (.w i))).length : Nat) : Int)), (78, .int .i64 ((m : Nat) : Int)), (81, .agg #[.int .u16 ((Z.ky y).idx), .int .u32 ((Z.ky y).gen)])]) (φ := (0 ≤ ((m : Nat) : Int) ∧ ((m : Nat) : Int) < (((kys Z (a.q (.w i))).length : Nat) : Int)) ∧ (rb = rb ∧ cellsAre rcs (0 + (m * 2)) [.int .u16 ((Z.ky y).idx), .int .u32 ((Z.ky y).gen)]) ∧ True) (rest := [2, 3]) h53 (by kernel_rfl) rfl ⟨⟨by omega, by omega⟩, ⟨rfl, (by rw [Nat.zero_add]; exact hall m _ hky)⟩, trivial⟩ fun a58 h59 => ?_
    clear h53
    refine nd_op ?_
    refine op_new tabOk2 (cells := [.int .u16 0, .int .u32 0]) (ty := 39) (ln := none) (L1 := fun b60 => [(3, ⟨[.int .u16 0, .int .u32 0], ty3, true⟩), (b2, ⟨[.int .u8 5, .int .u16 ((Z.ky i).idx), .int .u32 ((Z.ky i).gen), .int .u8 rt, .int .u64 bd], 49, false⟩), (rb, ⟨rcs, 39, false⟩), (b60, ⟨[.int .u16 0, .int .u32 0], 39, false⟩)]) h59 rfl rfl rfl rfl (by kernel_rfl) (fun _ => rfl) fun b60 w61 a62 h63 hf64 hn65 => ?_
    clear h59
    refine nd_op ?_
    refine op_store tabOk2 {k := 3} (L' := [(3, ⟨[.int .u16 0, .int .u32 0], ty3, true⟩), (b2, ⟨[.int .u8 5, .int .u16 ((Z.ky i).idx), .int .u32 ((Z.ky i).gen), .int .u8 rt, .int .u64 bd], 49, false⟩), (rb, ⟨rcs, 39, false⟩), (b60, ⟨[.int .u16 ((Z.ky y).idx), .int .u32 ((Z.ky y).gen)], 39, false⟩)]) (φ := b60 = b60 ∧ Nat.ble (0 + 2) 2 = true) h63 rfl rfl rfl (by kernel_rfl) ⟨rfl, rfl⟩ fun w66 h67 => ?_
    clear h63
    refine nd_done ?_
    refine hK57 _ _ ?_
    clear hK57
    refine nd_start (l := [0, 1, 2]) rfl ?_
    refine nd_batch tabOk2 tabZ_ok2 [(0, {}), (1, {k := 3})] [8, 0, 3, 76, 77, 78, 82, 83] (T' := [(8, .pointer (some ⟨b60, 0, none⟩)), (0, .pointer (some ⟨mb, 0, none⟩)), (3, .pointer (some ⟨b2, 0, none⟩)), (76, .slice (some ⟨rb, 0, none⟩) ((kys Z (a.q (.w i))).length) c34), (77, .int .i64 (((kys Z (a.q (.w i))).length : Nat) : Int)), (78, .int .i64 ((m : Nat) : Int)), (82, .pointer (some ⟨mb, 0, none⟩)), (83, .agg #[.int .u16 ((Z.ky y).idx), .int .u32 ((Z.ky y).gen)])]) (φ := (b60 = b60 ∧ Nat.ble (0 + 2) 2 = true) ∧ True) (rest := [2]) h67 (by kernel_rfl) rfl ⟨⟨rfl, rfl⟩, trivial⟩ fun a68 h69 => ?_
    clear h67
    refine nd_op ?_
    refine op_call h69 rfl rfl rfl (callOk Tryd.func52 (by decide) rfl) (args := [.pointer (some ⟨mb, 0, none⟩), .agg #[.int .u16 ((Z.ky y).idx), .int .u32 ((Z.ky y).gen)]]) rfl (mready_ok mb Z _ b1 _ y hy hP1 _ (mh_of h69 hho1 (k := 0) rfl)) ?_
    rintro _ w70 ⟨rfl, R71, hg72⟩
    refine ⟨_, rfl, ?_⟩
    have h73a := st_mg h69 hg72 (kcons (fun _ => rfl) (kcons (fun hq => by cases hq) (kcons (fun hq => by cases hq) (kcons (fun hq => by cases hq) knil))))
    have h73 := h73a.put (d := some 84) (v := .tuple #[]) (T' := [(84, .tuple #[]), (8, .pointer (some ⟨b60, 0, none⟩)), (0, .pointer (some ⟨mb, 0, none⟩)), (3, .pointer (some ⟨b2, 0, none⟩)), (76, .slice (some ⟨rb, 0, none⟩) ((kys Z (a.q (.w i))).length) c34), (77, .int .i64 (((kys Z (a.q (.w i))).length : Nat) : Int)), (78, .int .i64 ((m : Nat) : Int)), (82, .pointer (some ⟨mb, 0, none⟩)), (83, .agg #[.int .u16 ((Z.ky y).idx), .int .u32 ((Z.ky y).gen)])]) rfl
    have hhoh73 := hg72.mh.ho
    obtain ⟨a74, ea74⟩ : ∃ z : AK, z = wakeA b1 y := ⟨_, rfl⟩
    rw [← ea74] at h73
    clear h69 h73a
    refine nd_done ?_
    refine hK56 _ _ ?_
    clear hK56
    refine nd_start (l := [0, 1]) rfl ?_
    refine nd_batch tabOk2 tabZ_ok2 [(0, {}), (1, {})] [8, 0, 3, 76, 77, 78] (T' := [(8, .pointer (some ⟨b60, 0, none⟩)), (0, .pointer (some ⟨mb, 0, none⟩)), (3, .pointer (some ⟨b2, 0, none⟩)), (76, .slice (some ⟨rb, 0, none⟩) ((kys Z (a.q (.w i))).length) c34), (77, .int .i64 (((kys Z (a.q (.w i))).length : Nat) : Int)), (78, .int .i64 (((m : Nat) : Int) + 1))]) (φ := inR .i64 (((m : Nat) : Int) + 1) ∧ True) (rest := []) h73 (by kernel_rfl) rfl ⟨⟨by omega, by omega⟩, trivial⟩ fun a75 h76 => ?_
    clear h73
    refine nd_done ?_
    have h77 := h76.memMono (L' := [(3, ⟨[.int .u16 0, .int .u32 0], ty3, true⟩), (b2, ⟨[.int .u8 5, .int .u16 ((Z.ky i).idx), .int .u32 ((Z.ky i).gen), .int .u8 rt, .int .u64 bd], 49, false⟩), (rb, ⟨rcs, 39, false⟩)]) (List.Sublist.cons_cons _ (List.Sublist.cons_cons _ (List.Sublist.cons_cons _ (List.Sublist.cons _ List.Sublist.slnil))))
    clear h76
    exact ⟨(g - 1), by omega, a74, R71, (m + 1), by omega, by omega, (by rw [List.take_add_one, hyq, Option.toList, List.foldl_append, ← hb1]; exact ea74), hhoh73, (h77.slotsMono (restr_spec (keep := [0, 3, 76, 77, 78]) rfl))⟩
  ·
    have hc55f : ¬ ((m : Nat) : Int) < (((kys Z (a.q (.w i))).length : Nat) : Int) := by simpa using hc55
    have hm9 : (a.q (.w i)).length ≤ m := by rw [kys_len] at hc55f; omega
    rw [List.take_of_length_le hm9] at hb1 hfw
    rw [List.drop_of_length_le hm9] at hfw
    refine wp_exit ?_
    refine hK20 _ _ ?_
    clear hK20
    refine wp_seq_k fun K78 hK78 => ?_
    refine dr_start (KB := [3, b2, rb, mb]) (Bi := [[0, 1, 2, 3], [0, 1, 2, 3], [0, 1, 2, 3], [0, 1, 2, 3], [0, 1, 2, 3], [0, 1, 2, 3], []]) mixed h53 fun w79 h80 => ?_
    clear h53
    refine dr_batch tabOk2 tabZ_ok2 (by repeat (first | with_reducible exact PF.body | with_reducible apply PF.inB | with_reducible apply PF.next)) [(0, {}), (1, {}), (2, {})] [0, 3, 76, 77, 78, 88] (T' := [(0, .pointer (some ⟨mb, 0, none⟩)), (3, .pointer (some ⟨b2, 0, none⟩)), (76, .slice (some ⟨rb, 0, none⟩) ((kys Z (a.q (.w i))).length) c34), (77, .int .i64 (((kys Z (a.q (.w i))).length : Nat) : Int)), (78, .int .i64 ((m : Nat) : Int)), (88, .pointer (some ⟨mb, 3, none⟩))]) (φ := True) (fuel := 4) h80 (by kernel_rfl) rfl (by kernel_rfl) (by kernel_rfl) ⟨trivial, trivial, trivial, trivial⟩ trivial fun a82 h83 => ?_
    clear h80
    refine dr_read (i := 3) (b := mb) (p := 3) (v := .map (some Z.qb)) (fuel := 3) (by repeat (first | with_reducible exact PF.body | with_reducible apply PF.inB | with_reducible apply PF.next)) h83 rfl rfl rfl (by kernel_rfl) (by kernel_rfl) (by kernel_rfl) rfl (rd_m h83 (k := 3) (v := .map (some Z.qb)) rfl rfl rfl rfl (md_p ⟨rfl, trivial⟩)) ?_
    have h84 := h83.put (d := some 89) (v := .map (some Z.qb)) (T' := [(89, .map (some Z.qb)), (0, .pointer (some ⟨mb, 0, none⟩)), (3, .pointer (some ⟨b2, 0, none⟩)), (76, .slice (some ⟨rb, 0, none⟩) ((kys Z (a.q (.w i))).length) c34), (77, .int .i64 (((kys Z (a.q (.w i))).length : Nat) : Int)), (78, .int .i64 ((m : Nat) : Int)), (88, .pointer (some ⟨mb, 3, none⟩))]) rfl
    clear h83
    refine dr_batch tabOk2 tabZ_ok2 (by repeat (first | with_reducible exact PF.body | with_reducible apply PF.inB | with_reducible apply PF.next)) [(4, {}), (5, {k := 1, p := 1})] [89, 0, 3, 76, 77, 78, 91] (T' := [(89, .map (some Z.qb)), (0, .pointer (some ⟨mb, 0, none⟩)), (3, .pointer (some ⟨b2, 0, none⟩)), (76, .slice (some ⟨rb, 0, none⟩) ((kys Z (a.q (.w i))).length) c34), (77, .int .i64 (((kys Z (a.q (.w i))).length : Nat) : Int)), (78, .int .i64 ((m : Nat) : Int)), (91, .agg #[.int .u16 ((Z.ky i).idx), .int .u32 ((Z.ky i).gen)])]) (φ := (b2 = b2 ∧ Nat.ble (1 + 2) 5 = true) ∧ True) (fuel := 1) h84 (by kernel_rfl) rfl (by kernel_rfl) (by kernel_rfl) ⟨trivial, rfl, trivial⟩ ⟨⟨rfl, rfl⟩, trivial⟩ fun a85 h86 => ?_
    clear h84
    refine wpAnyK_one (i := 6) (fuel := 0) (by kernel_rfl) ?_
    refine op_mDelQ (x := i) h86 rfl rfl rfl rfl rfl hi hho1 (kcons (fun _ => rfl) (kcons (fun hq => by cases hq) (kcons (fun hq => by cases hq) knil))) fun w87 hf88 h89a => ?_
    have h89 := h89a.put (d := none) (v := .tuple #[]) (T' := [(89, .map (some Z.qb)), (0, .pointer (some ⟨mb, 0, none⟩)), (3, .pointer (some ⟨b2, 0, none⟩)), (76, .slice (some ⟨rb, 0, none⟩) ((kys Z (a.q (.w i))).length) c34), (77, .int .i64 (((kys Z (a.q (.w i))).length : Nat) : Int)), (78, .int .i64 ((m : Nat) : Int)), (91, .agg #[.int .u16 ((Z.ky i).idx), .int .u32 ((Z.ky i).gen)])]) rfl
    refine ⟨keepNil, ?_⟩
    clear h86 h89a
    refine wpAnyK_done (by kernel_rfl) ?_ _
    refine hK78 _ _ ?_
    clear hK78
    refine dr_start (KB := [3, b2, rb, mb]) (Bi := [[0, 1, 2, 3], [0, 1, 2, 3], [0, 1, 2, 3], [0, 1, 2, 3], [0, 1, 2, 3], [0, 1, 2, 3], []]) mixed h89 fun w90 h91 => ?_
    clear h89
    refine dr_batch tabOk2 tabZ_ok2 (by repeat (first | with_reducible exact PF.body | with_reducible apply PF.inB | with_reducible apply PF.next)) [(0, {}), (1, {}), (2, {})] [0, 3, 76, 77, 78, 94] (T' := [(0, .pointer (some ⟨mb, 0, none⟩)), (3, .pointer (some ⟨b2, 0, none⟩)), (76, .slice (some ⟨rb, 0, none⟩) ((kys Z (a.q (.w i))).length) c34), (77, .int .i64 (((kys Z (a.q (.w i))).length : Nat) : Int)), (78, .int .i64 ((m : Nat) : Int)), (94, .pointer (some ⟨mb, 4, none⟩))]) (φ := True) (fuel := 4) h91 (by kernel_rfl) rfl (by kernel_rfl) (by kernel_rfl) ⟨trivial, trivial, trivial, trivial⟩ trivial fun a93 h94 => ?_
    clear h91
    refine dr_read (i := 3) (b := mb) (p := 3) (v := .map (some Z.wb)) (fuel := 3) (by repeat (first | with_reducible exact PF.body | with_reducible apply PF.inB | with_reducible apply PF.next)) h94 rfl rfl rfl (by kernel_rfl) (by kernel_rfl) (by kernel_rfl) rfl (rd_m h94 (k := 4) (v := .map (some Z.wb)) rfl rfl rfl rfl (md_p ⟨rfl, trivial⟩)) ?_
    have h95 := h94.put (d := some 95) (v := .map (some Z.wb)) (T' := [(95, .map (some Z.wb)), (0, .pointer (some ⟨mb, 0, none⟩)), (3, .pointer (some ⟨b2, 0, none⟩)), (76, .slice (some ⟨rb, 0, none⟩) ((kys Z (a.q (.w i))).length) c34), (77, .int .i64 (((kys Z (a.q (.w i))).length : Nat) : Int)), (78, .int .i64 ((m : Nat) : Int)), (94, .pointer (some ⟨mb, 4, none⟩))]) rfl
    clear h94
    refine dr_batch tabOk2 tabZ_ok2 (by repeat (first | with_reducible exact PF.body | with_reducible apply PF.inB | with_reducible apply PF.next)) [(4, {}), (5, {k := 1, p := 1})] [95, 0, 3, 76, 77, 78, 97] (T' := [(95, .map (some Z.wb)), (0, .pointer (some ⟨mb, 0, none⟩)), (3, .pointer (some ⟨b2, 0, none⟩)), (76, .slice (some ⟨rb, 0, none⟩) ((kys Z (a.q (.w i))).length) c34), (77, .int .i64 (((kys Z (a.q (.w i))).length : Nat) : Int)), (78, .int .i64 ((m : Nat) : Int)), (97, .agg #[.int .u16 ((Z.ky i).idx), .int .u32 ((Z.ky i).gen)])]) (φ := (b2 = b2 ∧ Nat.ble (1 + 2) 5 = true) ∧ True) (fuel := 1) h95 (by kernel_rfl) rfl (by kernel_rfl) (by kernel_rfl) ⟨trivial, rfl, trivial⟩ ⟨⟨rfl, rfl⟩, trivial⟩ fun a96 h97 => ?_
    clear h95
    refine wpAnyK_one (i := 6) (fuel := 0) (by kernel_rfl) ?_
    refine op_mDelW (x := i) h97 rfl rfl rfl rfl rfl (fun hq => (sl_del.1 hq).2 rfl) rfl hi2 (kcons (fun _ => rfl) (kcons (fun hq => by cases hq) (kcons (fun hq => by cases hq) knil))) fun w98 hf99 h100a => ?_
    have h100 := h100a.put (d := none) (v := .tuple #[]) (T' := [(95, .map (some Z.wb)), (0, .pointer (some ⟨mb, 0, none⟩)), (3, .pointer (some ⟨b2, 0, none⟩)), (76, .slice (some ⟨rb, 0, none⟩) ((kys Z (a.q (.w i))).length) c34), (77, .int .i64 (((kys Z (a.q (.w i))).length : Nat) : Int)), (78, .int .i64 ((m : Nat) : Int)), (97, .agg #[.int .u16 ((Z.ky i).idx), .int .u32 ((Z.ky i).gen)])]) rfl
    refine ⟨keepNil, ?_⟩
    clear h97 h100a
    obtain ⟨a101, ea101⟩ : ∃ z : AK, z = b1.setW i 0 := ⟨_, rfl⟩
    rw [← ea101] at h100
    have hhoh100 : ((R1.hole (.qr i)).delW i).ho = none := rfl
    refine wpAnyK_done (by kernel_rfl) ?_ _
    try simp only [Exit.then, Exit.inBlock]
    try rw [if_pos trivial]
    exact s_end tabOk2 tabZ_ok2 h100 [] (vs := []) (φ := True) rfl (by kernel_rfl) trivial ⟨rfl, _, mg_end hH h100 hhoh100 (by subst ea101; rw [hb1])⟩

theorem forget2 (mb : Nat) (Z : MZ) (R : MR) (a : AK) (C : CP) (c : Cp) (w : World) (hH : MH mb Z R a C w) :
    Calls Tryd.prog 97 #[.pointer (some ⟨mb, 0, none⟩), .agg #[.int .u8 2, .int .u16 c.obj.idx, .int .u32 c.obj.gen, .int .u8 c.rights, .int .u64 c.badge]] w fun e w' => e = .returned (.tuple #[]) ∧ MG mb Z R C w Z R a C w' := by
  obtain ⟨ty3, hg3⟩ := hH.g3
  have hho := hH.ho
  have hkk := hH.md.k
  refine enter (n := 98) (K := mdF mb Z R C) (A := MD (mdF mb Z R C) w.heap.size mb Z R a C) (F := mdF mb Z R C) (T := [(0, .pointer (some ⟨mb, 0, none⟩)), (1, .agg #[.int .u8 2, .int .u16 c.obj.idx, .int .u32 c.obj.gen, .int .u8 c.rights, .int .u64 c.badge])]) (L := [(3, ⟨[.int .u16 0, .int .u32 0], ty3, true⟩)]) (args := [.pointer (some ⟨mb, 0, none⟩), .agg #[.int .u8 2, .int .u16 c.obj.idx, .int .u32 c.obj.gen, .int .u8 c.rights, .int .u64 c.badge]]) Tryd.func97 rfl rfl rfl rfl (kcons hg3 knil) (by simp) (kcons (by intro hq; cases hq) knil) hH.mD MD.stable hH.md.low (kcons (by intro hq; cases hq) knil) ?_
  intro ac h
  refine wp_seq_k fun K1 hK1 => ?_
  refine nd_start (l := [0]) rfl ?_
  refine nd_op ?_
  refine op_new tabOk2 (cells := [.int .u8 2, .int .u16 c.obj.idx, .int .u32 c.obj.gen, .int .u8 c.rights, .int .u64 c.badge]) (ty := 49) (ln := none) (L1 := fun b2 => [(3, ⟨[.int .u16 0, .int .u32 0], ty3, true⟩), (b2, ⟨[.int .u8 2, .int .u16 c.obj.idx, .int .u32 c.obj.gen, .int .u8 c.rights, .int .u64 c.badge], 49, false⟩)]) h rfl rfl rfl rfl (by kernel_rfl) (fun _ => rfl) fun b2 w3 a4 h5 hf6 hn7 => ?_
  clear h
  refine nd_done ?_
  refine hK1 _ _ ?_
  clear hK1
  refine wp_seq_k fun K8 hK8 => ?_
  refine nd_start (l := [0, 1]) rfl ?_
  refine nd_batch tabOk2 tabZ_ok2 [(0, {}), (1, {k := 1})] [3, 0, 1, 10] (T' := [(3, .pointer (some ⟨b2, 0, none⟩)), (0, .pointer (some ⟨mb, 0, none⟩)), (1, .agg #[.int .u8 2, .int .u16 c.obj.idx, .int .u32 c.obj.gen, .int .u8 c.rights, .int .u64 c.badge]), (10, .int .u8 2)]) (φ := (b2 = b2 ∧ Nat.ble (0 + 1) 5 = true) ∧ True) (rest := []) h5 (by kernel_rfl) rfl ⟨⟨rfl, rfl⟩, trivial⟩ fun a9 h10 => ?_
  clear h5
  refine nd_done ?_
  refine hK8 _ _ ?_
  clear hK8
  refine wp_block ?_
  refine wp_seq_k fun K11 hK11 => ?_
  refine nd_start (l := [0, 1]) rfl ?_
  refine nd_batch tabOk2 tabZ_ok2 [(0, {}), (1, {})] [3, 0, 1, 10, 11] (T' := [(3, .pointer (some ⟨b2, 0, none⟩)), (0, .pointer (some ⟨mb, 0, none⟩)), (1, .agg #[.int .u8 2, .int .u16 c.obj.idx, .int .u32 c.obj.gen, .int .u8 c.rights, .int .u64 c.badge]), (10, .int .u8 2), (11, .bool false)]) (φ := True) (rest := []) h10 (by kernel_rfl) rfl trivial fun a12 h13 => ?_
  clear h10
  refine nd_done ?_
  refine hK11 _ _ ?_
  clear hK11
  refine c_false h13 rfl ?_
  refine wp_seq_k fun K14 hK14 => ?_
  refine wp_seq_k fun K15 hK15 => ?_
  refine nd_start (l := [0, 1]) rfl ?_
  refine nd_batch tabOk2 tabZ_ok2 [(0, {}), (1, {})] [3, 0, 1, 10, 66] (T' := [(3, .pointer (some ⟨b2, 0, none⟩)), (0, .pointer (some ⟨mb, 0, none⟩)), (1, .agg #[.int .u8 2, .int .u16 c.obj.idx, .int .u32 c.obj.gen, .int .u8 c.rights, .int .u64 c.badge]), (10, .int .u8 2), (66, .bool false)]) (φ := True) (rest := []) h13 (by kernel_rfl) rfl trivial fun a16 h17 => ?_
  clear h13
  refine nd_done ?_
  refine hK15 _ _ ?_
  clear hK15
  refine c_false h17 rfl ?_
  refine nd_start (l := [0, 1]) rfl ?_
  refine nd_batch tabOk2 tabZ_ok2 [(0, {}), (1, {})] [3, 0, 1, 10, 66] (T' := [(3, .pointer (some ⟨b2, 0, none⟩)), (0, .pointer (some ⟨mb, 0, none⟩)), (1, .agg #[.int .u8 2, .int .u16 c.obj.idx, .int .u32 c.obj.gen, .int .u8 c.rights, .int .u64 c.badge]), (10, .int .u8 2), (66, .bool false)]) (φ := True) (rest := []) h17 (by kernel_rfl) rfl trivial fun a18 h19 => ?_
  clear h17
  refine nd_done ?_
  refine hK14 _ _ ?_
  clear hK14
  refine c_false h19 rfl ?_
  refine wp_skip ?_
  try simp only [Exit.then, Exit.inBlock]
  try rw [if_pos trivial]
  exact s_end tabOk2 tabZ_ok2 h19 [] (vs := []) (φ := True) rfl (by kernel_rfl) trivial ⟨rfl, mg_end hH h19 hho rfl⟩

end Go.Proofs.Qxb6500918aDoor
