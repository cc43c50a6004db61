/-
  each. (Made by program: a symbolic walk that prints its steps.)
-/
import Derived.Test.Qxb6500918aDoorKG
import Derived.Test.Qxb6500918aDoorSxR
namespace Go.Proofs.Qxb6500918aDoor
open Go.Sx Go.Kn
set_option maxRecDepth 100000
set_option maxHeartbeats 4000000
set_option linter.unusedVariables false
set_option linter.unusedSimpArgs false

theorem each_ok (bo bc : Nat) (nd : Nat → Nat) (pr : Nat → Bool) (vf : Nat) (cap : List Value) (hok : CallOk Tryd.prog vf) (K : List Nat) (Inv : Nat → World → Prop) (w : World) (hb : w.heap[bc]? = some (Blk.obj ⟨spC bo nd pr, 142, false⟩)) (hI0 : Inv 0 w)
    (hvis : ∀ (i j : Nat), i < 256 → j < 16 → pr i = true → ∀ w1, Inv (i * 16 + j) w1 → Fr K w w1 → Calls Tryd.prog vf (Value.int .i64 ((i * 16 + j : Nat) : Int) :: Value.pointer (some ⟨nd i, j * 6, none⟩) :: cap).toArray w1 fun e w' => e = .returned (.tuple #[]) ∧ Inv (i * 16 + j + 1) w' ∧ Fr K w w')
    (hskip : ∀ i : Nat, i < 256 → pr i = false → ∀ w1, Inv (i * 16) w1 → Inv (i * 16 + 16) w1) :
    Calls Tryd.prog 70 #[.pointer (some ⟨bc, 0, none⟩), .func (.func vf) #[] cap.toArray] w fun e w' => e = .returned (.tuple #[]) ∧ Inv 4096 w' ∧ Fr K w w' := by
  refine enter (n := 32) (K := K) (A := fun _ => True) (F := []) (T := [(0, .pointer (some ⟨bc, 0, none⟩)), (1, .func (.func vf) #[] cap.toArray)]) (L := []) (args := [.pointer (some ⟨bc, 0, none⟩), .func (.func vf) #[] cap.toArray]) Tryd.func70 rfl rfl rfl rfl knil (by simp) knil trivial (fun _ _ _ _ => trivial) (fun _ hq => by cases hq) knil ?_
  intro a h
  refine wp_seq_k fun K1 hK1 => ?_
  refine nd_start (l := [0, 1, 2, 3, 4]) rfl ?_
  refine nd_batch tabOk tabZ_ok [(0, {}), (1, {}), (2, {})] [0, 1, 9] (T' := [(0, .pointer (some ⟨bc, 0, none⟩)), (1, .func (.func vf) #[] cap.toArray), (9, .pointer (some ⟨bc, 1, none⟩))]) (φ := True) (rest := [3, 4]) h (by kernel_rfl) rfl trivial fun a2 h3 => ?_
  clear h
  refine nd_op ?_
  refine op_loadx tabOk (vs := (arr 256 one (npV nd pr))) h3 rfl rfl rfl rfl rfl rfl nodes_len.symm (nodes_at hb) ?_
  have h4 := h3.put (d := some 10) (v := .agg (arr 256 one (npV nd pr)).toArray) (T' := [(10, .agg (arr 256 one (npV nd pr)).toArray), (0, .pointer (some ⟨bc, 0, none⟩)), (1, .func (.func vf) #[] cap.toArray), (9, .pointer (some ⟨bc, 1, none⟩))]) rfl
  clear h3
  refine nd_batch tabOk tabZ_ok [(4, {})] [10, 0, 1, 11] (T' := [(10, .agg (arr 256 one (npV nd pr)).toArray), (0, .pointer (some ⟨bc, 0, none⟩)), (1, .func (.func vf) #[] cap.toArray), (11, .int .i64 0)]) (φ := True) (rest := []) h4 (by kernel_rfl) rfl trivial fun a5 h6 => ?_
  clear h4
  refine nd_done ?_
  refine hK1 _ _ ?_
  clear hK1
  refine wp_block ?_
  refine wp_loop_ghost (fun g ga gw => ∃ (i : Int), ((g : Int) = 256 - i) ∧ (0 ≤ i ∧ i ≤ 256) ∧ (Inv (i.toNat * 16) gw) ∧ St ⟨32, K, w, fun _ => True, []⟩ [(10, .agg (arr 256 one (npV nd pr)).toArray), (1, .func (.func vf) #[] cap.toArray), (11, .int .i64 i)] [] ga gw) 256 ⟨0, by decide, ⟨by decide, by decide⟩, hI0, (h6.slotsMono (restr_spec (keep := [10, 1, 11]) rfl))⟩ ?_
  clear h6
  rintro g a7 w8 ⟨i, hi10, hi11, hi12, h9⟩
  have hig := hi10
  have hi0 := hi11
  have hI := hi12
  obtain ⟨gO, egO⟩ : ∃ x, x = g := ⟨_, rfl⟩
  refine wp_seq_k fun K13 hK13 => ?_
  refine nd_start (l := [0]) rfl ?_
  refine nd_batch tabOk tabZ_ok [(0, {})] [10, 1, 11, 12] (T' := [(10, .agg (arr 256 one (npV nd pr)).toArray), (1, .func (.func vf) #[] cap.toArray), (11, .int .i64 i), (12, .bool (decide (i < 256)))]) (φ := True) (rest := []) h9 (by kernel_rfl) rfl trivial fun a14 h15 => ?_
  clear h9
  refine nd_done ?_
  refine hK13 _ _ ?_
  clear hK13
  refine wp_seq_k fun K16 hK16 => ?_
  refine c_split h15 (b := decide (i < 256)) rfl (fun hc17 => ?_) (fun hc17 => ?_)
  ·
    have hc17f : i < 256 := by simpa using hc17
    refine wp_skip ?_
    refine hK16 _ _ ?_
    clear hK16
    refine wp_seq_k fun K18 hK18 => ?_
    refine wp_block ?_
    refine wp_seq_k fun K19 hK19 => ?_
    refine nd_start (l := [0, 1, 2, 3]) rfl ?_
    refine nd_batch tabOk tabZ_ok [(0, {})] [10, 1, 11, 13] (T' := [(10, .agg (arr 256 one (npV nd pr)).toArray), (1, .func (.func vf) #[] cap.toArray), (11, .int .i64 i), (13, .int .i64 i)]) (φ := True) (rest := [1, 2, 3]) h15 (by kernel_rfl) rfl trivial fun a20 h21 => ?_
    clear h15
    refine nd_op ?_
    refine op_pure (v := npV nd pr i.toNat) h21 rfl rfl (pure_node h21.slots rfl rfl rfl (by omega) (by omega)) ?_
    have h22 := h21.put (d := some 14) (v := npV nd pr i.toNat) (T' := [(14, npV nd pr i.toNat), (10, .agg (arr 256 one (npV nd pr)).toArray), (1, .func (.func vf) #[] cap.toArray), (11, .int .i64 i), (13, .int .i64 i)]) rfl
    clear h21
    refine nd_batch tabOk tabZ_ok [(2, {}), (3, {})] [10, 1, 11, 4, 5] (T' := [(10, .agg (arr 256 one (npV nd pr)).toArray), (1, .func (.func vf) #[] cap.toArray), (11, .int .i64 i), (4, .int .i64 i), (5, npV nd pr i.toNat)]) (φ := True) (rest := []) h22 (by kernel_rfl) rfl trivial fun a23 h24 => ?_
    clear h22
    refine nd_done ?_
    refine hK19 _ _ ?_
    clear hK19
    refine wp_seq_k fun K25 hK25 => ?_
    refine nd_start (l := [0, 1]) rfl ?_
    refine nd_batch tabOk tabZ_ok [(0, {})] [10, 1, 11, 4, 5, 15] (T' := [(10, .agg (arr 256 one (npV nd pr)).toArray), (1, .func (.func vf) #[] cap.toArray), (11, .int .i64 i), (4, .int .i64 i), (5, npV nd pr i.toNat), (15, npV nd pr i.toNat)]) (φ := True) (rest := [1]) h24 (by kernel_rfl) rfl trivial fun a26 h27 => ?_
    clear h24
    refine nd_op ?_
    refine op_pure (v := .bool (pr i.toNat)) h27 rfl rfl (pure_nodeNe h27.slots rfl rfl) ?_
    have h28 := h27.put (d := some 16) (v := .bool (pr i.toNat)) (T' := [(16, .bool (pr i.toNat)), (10, .agg (arr 256 one (npV nd pr)).toArray), (1, .func (.func vf) #[] cap.toArray), (11, .int .i64 i), (4, .int .i64 i), (5, npV nd pr i.toNat), (15, npV nd pr i.toNat)]) rfl
    clear h27
    refine nd_done ?_
    refine hK25 _ _ ?_
    clear hK25
    refine c_split h28 (b := (pr i.toNat)) rfl (fun hc29 => ?_) (fun hc29 => ?_)
    ·
      have hpi := hc29
      have h30 := h28
      rw [show npV nd pr i.toNat = .pointer (some ⟨nd i.toNat, 0, none⟩) by unfold npV; rw [hpi]; rfl] at h30
      clear h28
      refine wp_seq_k fun K31 hK31 => ?_
      refine nd_start (l := [0]) rfl ?_
      refine nd_batch tabOk tabZ_ok [(0, {})] [10, 1, 11, 4, 5, 17] (T' := [(10, .agg (arr 256 one (npV nd pr)).toArray), (1, .func (.func vf) #[] cap.toArray), (11, .int .i64 i), (4, .int .i64 i), (5, .pointer (some ⟨(nd i.toNat), 0, none⟩)), (17, .int .i64 0)]) (φ := True) (rest := []) h30 (by kernel_rfl) rfl trivial fun a32 h33 => ?_
      clear h30
      refine nd_done ?_
      refine hK31 _ _ ?_
      clear hK31
      refine wp_block ?_
      refine wp_loop_ghost (fun g ga gw => ∃ (j : Int), ((g : Int) = 16 - j) ∧ (0 ≤ j ∧ j ≤ 16) ∧ (Inv (i.toNat * 16 + j.toNat) gw) ∧ St ⟨32, K, w, fun _ => True, []⟩ [(10, .agg (arr 256 one (npV nd pr)).toArray), (1, .func (.func vf) #[] cap.toArray), (11, .int .i64 i), (4, .int .i64 i), (5, .pointer (some ⟨(nd i.toNat), 0, none⟩)), (17, .int .i64 j)] [] ga gw) 16 ⟨0, by decide, ⟨by decide, by decide⟩, hI, (h33.slotsMono (restr_spec (keep := [10, 1, 11, 4, 5, 17]) rfl))⟩ ?_
      clear h33
      rintro g a34 w35 ⟨j, hi37, hi38, hi39, h36⟩
      have hjg := hi37
      have hj0 := hi38
      have hJ := hi39
      refine wp_seq_k fun K40 hK40 => ?_
      refine nd_start (l := [0]) rfl ?_
      refine nd_batch tabOk tabZ_ok [(0, {})] [10, 1, 11, 4, 5, 17, 18] (T' := [(10, .agg (arr 256 one (npV nd pr)).toArray), (1, .func (.func vf) #[] cap.toArray), (11, .int .i64 i), (4, .int .i64 i), (5, .pointer (some ⟨(nd i.toNat), 0, none⟩)), (17, .int .i64 j), (18, .bool (decide (j < 16)))]) (φ := True) (rest := []) h36 (by kernel_rfl) rfl trivial fun a41 h42 => ?_
      clear h36
      refine nd_done ?_
      refine hK40 _ _ ?_
      clear hK40
      refine wp_seq_k fun K43 hK43 => ?_
      refine c_split h42 (b := decide (j < 16)) rfl (fun hc44 => ?_) (fun hc44 => ?_)
      ·
        have hc44f : j < 16 := by simpa using hc44
        refine wp_skip ?_
        refine hK43 _ _ ?_
        clear hK43
        refine wp_seq_k fun K45 hK45 => ?_
        refine wp_block ?_
        refine wp_seq_k fun K46 hK46 => ?_
        refine nd_start (l := [0, 1]) rfl ?_
        refine nd_batch tabOk tabZ_ok [(0, {}), (1, {})] [10, 1, 11, 4, 5, 17, 6] (T' := [(10, .agg (arr 256 one (npV nd pr)).toArray), (1, .func (.func vf) #[] cap.toArray), (11, .int .i64 i), (4, .int .i64 i), (5, .pointer (some ⟨(nd i.toNat), 0, none⟩)), (17, .int .i64 j), (6, .int .i64 j)]) (φ := True) (rest := []) h42 (by kernel_rfl) rfl trivial fun a47 h48 => ?_
        clear h42
        refine nd_done ?_
        refine hK46 _ _ ?_
        clear hK46
        refine nd_start (l := [0, 1, 2, 3, 4, 5, 6, 7, 8, 9]) rfl ?_
        refine nd_batch tabOk tabZ_ok [(0, {}), (1, {}), (2, {}), (3, {}), (4, {}), (5, {}), (6, {}), (7, {}), (8, {})] [10, 1, 11, 4, 5, 17, 6, 20, 24, 28] (T' := [(10, .agg (arr 256 one (npV nd pr)).toArray), (1, .func (.func vf) #[] cap.toArray), (11, .int .i64 i), (4, .int .i64 i), (5, .pointer (some ⟨(nd i.toNat), 0, none⟩)), (17, .int .i64 j), (6, .int .i64 j), (20, .func (.func vf) #[] cap.toArray), (24, .int .i64 ((i * 16) + j)), (28, .pointer (some ⟨(nd i.toNat), 0 + (j.toNat * 6), none⟩))]) (φ := inR .i64 (i * 16) ∧ inR .i64 ((i * 16) + j) ∧ (0 ≤ j ∧ j < 16) ∧ True) (rest := [9]) h48 (by kernel_rfl) rfl ⟨⟨by omega, by omega⟩, ⟨by omega, by omega⟩, ⟨by omega, by omega⟩, trivial⟩ fun a49 h50 => ?_
        clear h48
        refine nd_op ?_
        refine op_callv (f := vf) (first := []) (cap := cap) (args := [.int .i64 ((i * 16) + j), .pointer (some ⟨(nd i.toNat), 0 + (j.toNat * 6), none⟩)]) h50 rfl rfl rfl rfl hok rfl ?_ ?_ (R := fun e w' => e = .returned (.tuple #[]) ∧ Inv (i.toNat * 16 + j.toNat + 1) w' ∧ Fr K w w')
        · have hq := hvis i.toNat j.toNat (by omega) (by omega) hpi _ hJ h50.frame
          rw [show ((i.toNat * 16 + j.toNat : Nat) : Int) = i * 16 + j by omega] at hq
          rw [show j.toNat * 6 = 0 + j.toNat * 6 by omega] at hq
          exact hq
        rintro _ w51 ⟨rfl, hJ2, hF2⟩
        refine ⟨_, rfl, ?_⟩
        have h52 := (h50.jump hF2).put (d := some 29) (v := .tuple #[]) (T' := [(29, .tuple #[]), (10, .agg (arr 256 one (npV nd pr)).toArray), (1, .func (.func vf) #[] cap.toArray), (11, .int .i64 i), (4, .int .i64 i), (5, .pointer (some ⟨(nd i.toNat), 0, none⟩)), (17, .int .i64 j), (6, .int .i64 j), (20, .func (.func vf) #[] cap.toArray), (24, .int .i64 ((i * 16) + j)), (28, .pointer (some ⟨(nd i.toNat), 0 + (j.toNat * 6), none⟩))]) rfl
        clear h50
        refine nd_done ?_
        refine hK45 _ _ ?_
        clear hK45
        refine nd_start (l := [0, 1]) rfl ?_
        refine nd_batch tabOk tabZ_ok [(0, {}), (1, {})] [10, 1, 11, 4, 5, 6, 17] (T' := [(10, .agg (arr 256 one (npV nd pr)).toArray), (1, .func (.func vf) #[] cap.toArray), (11, .int .i64 i), (4, .int .i64 i), (5, .pointer (some ⟨(nd i.toNat), 0, none⟩)), (6, .int .i64 j), (17, .int .i64 (j + 1))]) (φ := inR .i64 (j + 1) ∧ True) (rest := []) h52 (by kernel_rfl) rfl ⟨⟨by omega, by omega⟩, trivial⟩ fun a53 h54 => ?_
        clear h52
        refine nd_done ?_
        exact ⟨(g - 1), by omega, (j + 1), by omega, ⟨by omega, by omega⟩, (by rw [show (j + 1).toNat = j.toNat + 1 by omega]; exact hJ2), (h54.slotsMono (restr_spec (keep := [10, 1, 11, 4, 5, 17]) rfl))⟩
      ·
        have hc44f : ¬ j < 16 := by simpa using hc44
        have hjf : j.toNat = 16 := by omega
        have hIn := hJ
        rw [hjf] at hIn
        refine wp_exit ?_
        refine hK18 _ _ ?_
        clear hK18
        refine nd_start (l := [0, 1]) rfl ?_
        refine nd_batch tabOk tabZ_ok [(0, {}), (1, {})] [10, 1, 4, 5, 17, 11] (T' := [(10, .agg (arr 256 one (npV nd pr)).toArray), (1, .func (.func vf) #[] cap.toArray), (4, .int .i64 i), (5, .pointer (some ⟨(nd i.toNat), 0, none⟩)), (17, .int .i64 j), (11, .int .i64 (i + 1))]) (φ := inR .i64 (i + 1) ∧ True) (rest := []) h42 (by kernel_rfl) rfl ⟨⟨by omega, by omega⟩, trivial⟩ fun a55 h56 => ?_
        clear h42
        refine nd_done ?_
        exact ⟨(gO - 1), by omega, (i + 1), by omega, ⟨by omega, by omega⟩, (by rw [show (i + 1).toNat * 16 = i.toNat * 16 + 16 by omega]; exact hIn), (h56.slotsMono (restr_spec (keep := [10, 1, 11]) rfl))⟩
    ·
      have hpi := hc29
      have hI2 := hskip i.toNat (by omega) hpi _ hI
      refine wp_skip ?_
      refine hK18 _ _ ?_
      clear hK18
      refine nd_start (l := [0, 1]) rfl ?_
      refine nd_batch tabOk tabZ_ok [(0, {}), (1, {})] [10, 1, 4, 5, 11] (T' := [(10, .agg (arr 256 one (npV nd pr)).toArray), (1, .func (.func vf) #[] cap.toArray), (4, .int .i64 i), (5, npV nd pr i.toNat), (11, .int .i64 (i + 1))]) (φ := inR .i64 (i + 1) ∧ True) (rest := []) h28 (by kernel_rfl) rfl ⟨⟨by omega, by omega⟩, trivial⟩ fun a57 h58 => ?_
      clear h28
      refine nd_done ?_
      exact ⟨(gO - 1), by omega, (i + 1), by omega, ⟨by omega, by omega⟩, (by rw [show (i + 1).toNat * 16 = i.toNat * 16 + 16 by omega]; exact hI2), (h58.slotsMono (restr_spec (keep := [10, 1, 11]) rfl))⟩
  ·
    have hc17f : ¬ i < 256 := by simpa using hc17
    have hfin : i.toNat * 16 = 4096 := by omega
    rw [hfin] at hI
    refine wp_exit ?_
    try simp only [Exit.then, Exit.inBlock]
    try rw [if_pos trivial]
    exact s_end tabOk tabZ_ok h15 [] (vs := []) (φ := True) rfl (by kernel_rfl) trivial ⟨rfl, hI, h15.frame⟩

end Go.Proofs.Qxb6500918aDoor
