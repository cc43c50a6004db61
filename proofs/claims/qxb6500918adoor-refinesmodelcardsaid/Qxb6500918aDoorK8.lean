/-
  settle. (Made by program: a symbolic walk that prints its steps.)
-/
import Derived.Test.Qxb6500918aDoorK7
import Derived.Test.Qxb6500918aDoorKp
namespace Go.Proofs.Qxb6500918aDoor
open Go.Sx Go.Kn
set_option maxRecDepth 100000
set_option maxHeartbeats 4000000
set_option linter.unusedVariables false
set_option linter.unusedSimpArgs false

theorem settle_ok (kb bo bc : Nat) (S : KP) (rS : RI S) (E : Nat → Ent) (f t : Int) (hf : 0 ≤ f ∧ f < 256) (ht : 0 ≤ t ∧ t < 256) (w : World) (hb : w.heap[kb]? = some (Blk.obj ⟨kC bo bc S, 90, false⟩)) (hs : w.heap[bo]? = some (Blk.obj ⟨stC E, 131, false⟩)) (hne : kb ≠ bo) :
    Calls Tryd.prog 105 #[.pointer (some ⟨kb, 0, none⟩), .int .i16 f, .int .i16 t] w fun e w' => e = .returned (.tuple #[]) ∧ w'.heap[kb]? = some (Blk.obj ⟨kC bo bc (settleP S E f t), 90, false⟩) ∧ Fr [kb] w w' := by
  refine enter0 (n := 41) (K := [kb]) (T := [(0, .pointer (some ⟨kb, 0, none⟩)), (1, .int .i16 f), (2, .int .i16 t)]) (L := [(kb, ⟨kC bo bc S, 90, false⟩), (bo, ⟨stC E, 131, true⟩)]) (args := [.pointer (some ⟨kb, 0, none⟩), .int .i16 f, .int .i16 t]) Tryd.func105 rfl rfl rfl rfl (kcons hb (kcons hs knil)) (by simp; exact hne) (kcons (by simp) (kcons (by intro hq; cases hq) knil)) ?_
  intro a h
  refine wp_block ?_
  refine wp_seq_k fun K1 hK1 => ?_
  refine nd_start (l := [0, 1, 2, 3, 4, 5, 6, 7, 8]) rfl ?_
  refine nd_batch tabOk tabZ_ok [(0, {}), (1, {}), (2, {}), (3, {}), (4, {}), (5, {}), (6, {}), (7, {k := 0, m := 1, vs := [.bool ((S.tcb f.toNat).call)]}), (8, {})] [0, 1, 2, 6] (T' := [(0, .pointer (some ⟨kb, 0, none⟩)), (1, .int .i16 f), (2, .int .i16 t), (6, .bool ((S.tcb f.toNat).call))]) (φ := (0 ≤ f ∧ f < 256) ∧ (kb = kb ∧ cellsAre (kC bo bc S) (2 + (f.toNat * 21) + 18) [.bool ((S.tcb f.toNat).call)]) ∧ True) (rest := []) h (by kernel_rfl) rfl ⟨⟨by omega, by omega⟩, ⟨rfl, (k_tcb (i := f.toNat) (k := 18) (by omega) (by omega) ⟨rfl, trivial⟩)⟩, trivial⟩ fun a2 h3 => ?_
  clear h
  refine nd_done ?_
  refine hK1 _ _ ?_
  clear hK1
  refine c_split h3 (b := (S.tcb f.toNat).call) rfl (fun hc4 => ?_) (fun hc4 => ?_)
  ·
    refine wp_seq_k fun K5 hK5 => ?_
    refine nd_start (l := [0, 1, 2, 3, 4, 5]) rfl ?_
    refine nd_batch tabOk tabZ_ok [(0, {}), (1, {}), (2, {}), (3, {})] [0, 1, 2, 15, 16, 17, 18] (T' := [(0, .pointer (some ⟨kb, 0, none⟩)), (1, .int .i16 f), (2, .int .i16 t), (15, .pointer (some ⟨kb, 0, none⟩)), (16, .int .i16 f), (17, .pointer (some ⟨kb, 0, none⟩)), (18, .int .i16 t)]) (φ := True) (rest := [4, 5]) h3 (by kernel_rfl) rfl trivial fun a6 h7 => ?_
    clear h3
    refine nd_op ?_
    refine op_call h7 rfl rfl rfl (callOk Tryd.func51 (by decide) rfl) (args := [.pointer (some ⟨kb, 0, none⟩), .int .i16 t]) rfl (ref_ok kb bo bc S E t (.inr ht) _ (h7.kn (k := 0) (blk := ⟨kC bo bc S, 90, false⟩) rfl) (h7.kn (k := 1) (blk := ⟨stC E, 131, true⟩) rfl) hne) ?_
    rintro _ w8 ⟨rfl, hf10⟩
    refine ⟨_, rfl, ?_⟩
    have h9 := (h7.grow hf10).put (d := some 19) (v := .agg #[.int .u16 ((refP E t).idx), .int .u32 ((refP E t).gen)]) (T' := [(19, .agg #[.int .u16 ((refP E t).idx), .int .u32 ((refP E t).gen)]), (0, .pointer (some ⟨kb, 0, none⟩)), (1, .int .i16 f), (2, .int .i16 t), (15, .pointer (some ⟨kb, 0, none⟩)), (16, .int .i16 f), (17, .pointer (some ⟨kb, 0, none⟩)), (18, .int .i16 t)]) rfl
    clear h7
    refine nd_op ?_
    refine op_call h9 rfl rfl rfl (callOk Tryd.func103 (by decide) rfl) (args := [.pointer (some ⟨kb, 0, none⟩), .int .i16 f, .int .u8 6, .agg #[.int .u16 ((refP E t).idx), .int .u32 ((refP E t).gen)]]) rfl (block_ok kb bo bc S rS f 6 (refP E t) hf (ref_idx (.inr ht)) _ (h9.kn (k := 0) rfl)) ?_
    rintro _ w14 ⟨rfl, hb12, hf13⟩
    refine ⟨_, rfl, ?_⟩
    obtain ⟨S11, eS11⟩ : ∃ S9, S9 = blockP S f 6 (refP E t) := ⟨_, rfl⟩
    rw [← eS11] at hb12
    have rS11 : RI S11 := by rw [eS11]; exact block_RI rS hf (ref_idx (.inr ht))
    have h15 := (h9.setBlk (k := 0) rfl rfl hf13 hb12 (L' := [(kb, ⟨kC bo bc S11, 90, false⟩), (bo, ⟨stC E, 131, true⟩)]) rfl).put (d := some 20) (v := .tuple #[]) (T' := [(20, .tuple #[]), (19, .agg #[.int .u16 ((refP E t).idx), .int .u32 ((refP E t).gen)]), (0, .pointer (some ⟨kb, 0, none⟩)), (1, .int .i16 f), (2, .int .i16 t), (15, .pointer (some ⟨kb, 0, none⟩)), (16, .int .i16 f), (17, .pointer (some ⟨kb, 0, none⟩)), (18, .int .i16 t)]) rfl
    clear h9
    refine nd_done ?_
    refine hK5 _ _ ?_
    clear hK5
    refine dr_start (KB := [kb, bo]) (Bi := [[0, 1], [0, 1], [0, 1], [0, 1], [], [0, 1], [0, 1], [0, 1], [0, 1], [0, 1], []]) mixed h15 fun w16 h17 => ?_
    clear h15
    refine dr_batch tabOk tabZ_ok (by repeat (first | with_reducible exact PF.body | with_reducible apply PF.inB | with_reducible apply PF.next)) [(0, {}), (1, {}), (2, {}), (3, {}), (5, {}), (6, {})] [0, 1, 2, 22, 23, 24, 27] (T' := [(0, .pointer (some ⟨kb, 0, none⟩)), (1, .int .i16 f), (2, .int .i16 t), (22, .int .i16 t), (23, .pointer (some ⟨kb, 0, none⟩)), (24, .int .i16 f), (27, .pointer (some ⟨kb, 2, none⟩))]) (φ := True) (fuel := 5) h17 (by kernel_rfl) rfl (by kernel_rfl) (by kernel_rfl) ⟨trivial, trivial, trivial, trivial, trivial, trivial, trivial⟩ trivial fun a19 h20 => ?_
    clear h17
    refine wpAnyK_one (i := 4) (fuel := 4) (by kernel_rfl) ?_
    refine op_call h20 rfl rfl rfl (callOk Tryd.func51 (by decide) rfl) (args := [.pointer (some ⟨kb, 0, none⟩), .int .i16 f]) rfl (ref_ok kb bo bc S11 E f (.inr hf) _ (h20.kn (k := 0) (blk := ⟨kC bo bc S11, 90, false⟩) rfl) (h20.kn (k := 1) (blk := ⟨stC E, 131, true⟩) rfl) hne) ?_
    rintro _ w21 ⟨rfl, hf23⟩
    refine ⟨_, rfl, ?_⟩
    have h22 := (h20.grow hf23).put (d := some 25) (v := .agg #[.int .u16 ((refP E f).idx), .int .u32 ((refP E f).gen)]) (T' := [(25, .agg #[.int .u16 ((refP E f).idx), .int .u32 ((refP E f).gen)]), (0, .pointer (some ⟨kb, 0, none⟩)), (1, .int .i16 f), (2, .int .i16 t), (22, .int .i16 t), (23, .pointer (some ⟨kb, 0, none⟩)), (24, .int .i16 f), (27, .pointer (some ⟨kb, 2, none⟩))]) rfl
    refine ⟨keepNil, ?_⟩
    clear h20
    refine dr_batch tabOk tabZ_ok (by repeat (first | with_reducible exact PF.body | with_reducible apply PF.inB | with_reducible apply PF.next)) [(7, {}), (8, {}), (9, {})] [25, 0, 1, 2, 30] (T' := [(25, .agg #[.int .u16 ((refP E f).idx), .int .u32 ((refP E f).gen)]), (0, .pointer (some ⟨kb, 0, none⟩)), (1, .int .i16 f), (2, .int .i16 t), (30, .pointer (some ⟨kb, 2 + (t.toNat * 21) + 6, none⟩))]) (φ := (0 ≤ t ∧ t < 256) ∧ True) (fuel := 1) h22 (by kernel_rfl) rfl (by kernel_rfl) (by kernel_rfl) ⟨trivial, trivial, trivial, trivial⟩ ⟨⟨by omega, by omega⟩, trivial⟩ fun a24 h25 => ?_
    clear h22
    refine wpAnyK_one (i := 10) (fuel := 0) (by kernel_rfl) ?_
    refine op_store tabOk {k := 0, m := 1, vs := kC bo bc (S11.setT t.toNat { S11.tcb t.toNat with rep := ⟨(refP E f).idx, (refP E f).gen⟩ })} (L' := [(kb, ⟨kC bo bc (S11.setT t.toNat { S11.tcb t.toNat with rep := ⟨(refP E f).idx, (refP E f).gen⟩ }), 90, false⟩), (bo, ⟨stC E, 131, true⟩)]) (φ := kb = kb ∧ Nat.ble (2 + (t.toNat * 21) + 6 + 2) (kC bo bc S11).length = true ∧ splice (kC bo bc S11) (2 + (t.toNat * 21) + 6) [.int .u16 ((refP E f).idx), .int .u32 ((refP E f).gen)] = kC bo bc (S11.setT t.toNat { S11.tcb t.toNat with rep := ⟨(refP E f).idx, (refP E f).gen⟩ })) h25 rfl rfl rfl (by kernel_rfl) ⟨rfl, k_in (by omega), (k_tcb_w (i := t.toNat) (k := 6) (by omega) (Nat.le_of_ble_eq_true rfl) (by omega) rfl)⟩ fun w27 h28 => ?_
    obtain ⟨S26, eS26⟩ : ∃ S9, S9 = (S11.setT t.toNat { S11.tcb t.toNat with rep := ⟨(refP E f).idx, (refP E f).gen⟩ }) := ⟨_, rfl⟩
    rw [← eS26] at h28
    have rS26 : RI S26 := by rw [eS26]; exact rS11.setT ⟨(rS11.t (i := t.toNat) (by omega)).nx, (rS11.t (i := t.toNat) (by omega)).pv, (rS11.t (i := t.toNat) (by omega)).pr, (rS11.t (i := t.toNat) (by omega)).wi, (rS11.t (i := t.toNat) (by omega)).ci, (ref_idx (.inr hf)), (rS11.t (i := t.toNat) (by omega)).ds⟩
    have hkh28 := h25.known
    refine ⟨keepNil, ?_⟩
    clear h25
    refine wpAnyK_done (by kernel_rfl) ?_ _
    try simp only [Exit.then, Exit.inBlock]
    try rw [if_pos trivial]
    exact s_end tabOk tabZ_ok h28 [] (vs := []) (φ := True) rfl (by kernel_rfl) trivial ⟨rfl, (by rw [show settleP S E f t = S26 from (by unfold settleP; dsimp only; (first | rw [if_pos hc4] | rw [if_neg (fun hz => by rw [hz] at hc4; exact absurd hc4 (by decide))] | rw [if_neg (fun hz => by rw [hc4] at hz; exact absurd hz (by decide))] | simp only [hc4, if_true, if_false, Bool.not_true, Bool.not_false]); rw [← eS11]; rw [← eS26])]; exact h28.kn (k := 0) rfl), h28.frame⟩
  ·
    refine wp_seq_k fun K29 hK29 => ?_
    refine nd_start (l := [0, 1, 2, 3, 4, 5, 6]) rfl ?_
    refine nd_batch tabOk tabZ_ok [(0, {}), (1, {}), (2, {}), (3, {}), (4, {k := 0, m := 1, vs := [.int .i16 S.cur]}), (5, {}), (6, {})] [0, 1, 2, 31] (T' := [(0, .pointer (some ⟨kb, 0, none⟩)), (1, .int .i16 f), (2, .int .i16 t), (31, .bool (f != S.cur))]) (φ := (kb = kb ∧ cellsAre (kC bo bc S) 6427 [.int .i16 S.cur]) ∧ True) (rest := []) h3 (by kernel_rfl) rfl ⟨⟨rfl, k_cur⟩, trivial⟩ fun a30 h31 => ?_
    clear h3
    refine nd_done ?_
    refine hK29 _ _ ?_
    clear hK29
    refine c_split h31 (b := (f != S.cur)) rfl (fun hc32 => ?_) (fun hc32 => ?_)
    ·
      have hc32f : f ≠ S.cur := by simpa using hc32
      refine nd_start (l := [0, 1, 2]) rfl ?_
      refine nd_batch tabOk tabZ_ok [(0, {}), (1, {})] [0, 1, 2, 38, 39] (T' := [(0, .pointer (some ⟨kb, 0, none⟩)), (1, .int .i16 f), (2, .int .i16 t), (38, .pointer (some ⟨kb, 0, none⟩)), (39, .int .i16 f)]) (φ := True) (rest := [2]) h31 (by kernel_rfl) rfl trivial fun a33 h34 => ?_
      clear h31
      refine nd_op ?_
      refine op_call h34 rfl rfl rfl (callOk Tryd.func47 (by decide) rfl) (args := [.pointer (some ⟨kb, 0, none⟩), .int .i16 f]) rfl (wake_ok kb bo bc S rS f hf _ (h34.kn (k := 0) rfl)) ?_
      rintro _ w38 ⟨rfl, hb36, hf37⟩
      refine ⟨_, rfl, ?_⟩
      obtain ⟨S35, eS35⟩ : ∃ S9, S9 = wakeP S f := ⟨_, rfl⟩
      rw [← eS35] at hb36
      have rS35 : RI S35 := by rw [eS35]; exact wake_RI rS hf
      have h39 := (h34.setBlk (k := 0) rfl rfl hf37 hb36 (L' := [(kb, ⟨kC bo bc S35, 90, false⟩), (bo, ⟨stC E, 131, true⟩)]) rfl).put (d := some 40) (v := .tuple #[]) (T' := [(40, .tuple #[]), (0, .pointer (some ⟨kb, 0, none⟩)), (1, .int .i16 f), (2, .int .i16 t), (38, .pointer (some ⟨kb, 0, none⟩)), (39, .int .i16 f)]) rfl
      clear h34
      refine nd_done ?_
      try simp only [Exit.then, Exit.inBlock]
      try rw [if_pos trivial]
      exact s_end tabOk tabZ_ok h39 [] (vs := []) (φ := True) rfl (by kernel_rfl) trivial ⟨rfl, (by rw [show settleP S E f t = S35 from (by unfold settleP; dsimp only; (first | rw [if_pos hc4] | rw [if_neg (fun hz => by rw [hz] at hc4; exact absurd hc4 (by decide))] | rw [if_neg (fun hz => by rw [hc4] at hz; exact absurd hz (by decide))] | simp only [hc4, if_true, if_false, Bool.not_true, Bool.not_false]); (first | rw [if_pos hc32f] | rw [if_pos (fun hz => hz hc32f)]); rw [← eS35])]; exact h39.kn (k := 0) rfl), h39.frame⟩
    ·
      have hc32f : f = S.cur := by simpa using hc32
      refine wp_skip ?_
      try simp only [Exit.then, Exit.inBlock]
      try rw [if_pos trivial]
      exact s_end tabOk tabZ_ok h31 [] (vs := []) (φ := True) rfl (by kernel_rfl) trivial ⟨rfl, (by rw [show settleP S E f t = S from (by unfold settleP; dsimp only; (first | rw [if_pos hc4] | rw [if_neg (fun hz => by rw [hz] at hc4; exact absurd hc4 (by decide))] | rw [if_neg (fun hz => by rw [hc4] at hz; exact absurd hz (by decide))] | simp only [hc4, if_true, if_false, Bool.not_true, Bool.not_false]); (first | rw [if_neg hc32f] | rw [if_neg (fun hz => hz hc32f)]))]; exact h31.kn (k := 0) rfl), h31.frame⟩

end Go.Proofs.Qxb6500918aDoor
