/-
  interrupt, line. (Made by program: a symbolic walk that prints its steps.)
-/
import Derived.Test.Qxb6500918aDoorK9
import Derived.Test.Qxb6500918aDoorEq
namespace Go.Proofs.Qxb6500918aDoor
open Go.Sx Go.Kn
set_option maxRecDepth 100000
set_option maxHeartbeats 4000000
set_option linter.unusedVariables false
set_option linter.unusedSimpArgs false

theorem interrupt_ok (kb bo bc : Nat) (nd : Nat → Nat) (S : KP) (rS : RI S) (C : CP) (l : Int) (hl : 0 ≤ l ∧ l < 18446744073709551616) (w : World) (hb : w.heap[kb]? = some (Blk.obj ⟨kC bo bc S, 90, false⟩)) (hc : CapAt w bo bc nd C) (hdkb : kb ∉ capF bo bc nd C) :
    Calls Tryd.prog 48 #[.pointer (some ⟨kb, 0, none⟩), .int .u64 l] w fun e w' => e = .returned (.int .u8 (interruptP S C l).2) ∧ w'.heap[kb]? = some (Blk.obj ⟨kC bo bc (interruptP S C l).1, 90, false⟩) ∧ Fr [kb] w w' := by
  refine enter (n := 42) (K := [kb]) (A := fun w => CapAt w bo bc nd C) (F := (capF bo bc nd C)) (T := [(0, .pointer (some ⟨kb, 0, none⟩)), (1, .int .u64 l)]) (L := [(kb, ⟨kC bo bc S, 90, false⟩)]) (args := [.pointer (some ⟨kb, 0, none⟩), .int .u64 l]) Tryd.func48 rfl rfl rfl rfl (kcons hb knil) (by simp) (kcons (fun _ => by simp) knil) hc CapAt.stable hc.low (kcons (fun _ => hdkb) knil) ?_
  intro a h
  refine wp_seq_k fun K1 hK1 => ?_
  refine nd_start (l := [0]) rfl ?_
  refine nd_batch tabOk tabZ_ok [(0, {})] [0, 1, 4] (T' := [(0, .pointer (some ⟨kb, 0, none⟩)), (1, .int .u64 l), (4, .int .u8 0)]) (φ := True) (rest := []) h (by kernel_rfl) rfl trivial fun a2 h3 => ?_
  clear h
  refine nd_done ?_
  refine hK1 _ _ ?_
  clear hK1
  refine wp_seq_k fun K4 hK4 => ?_
  refine wp_seq_k fun K5 hK5 => ?_
  refine nd_start (l := [0, 1]) rfl ?_
  refine nd_batch tabOk tabZ_ok [(0, {}), (1, {})] [0, 1, 4, 7] (T' := [(0, .pointer (some ⟨kb, 0, none⟩)), (1, .int .u64 l), (4, .int .u8 0), (7, .bool (decide (l ≥ 16)))]) (φ := True) (rest := []) h3 (by kernel_rfl) rfl trivial fun a6 h7 => ?_
  clear h3
  refine nd_done ?_
  refine hK5 _ _ ?_
  clear hK5
  refine c_split h7 (b := decide (l ≥ 16)) rfl (fun hc8 => ?_) (fun hc8 => ?_)
  ·
    have hc8f : l ≥ 16 := by simpa using hc8
    refine wp_seq_k fun K9 hK9 => ?_
    refine nd_start (l := [0]) rfl ?_
    refine nd_batch tabOk tabZ_ok [(0, {})] [0, 1, 4] (T' := [(0, .pointer (some ⟨kb, 0, none⟩)), (1, .int .u64 l), (4, .int .u8 8)]) (φ := True) (rest := []) h7 (by kernel_rfl) rfl trivial fun a10 h11 => ?_
    clear h7
    refine nd_done ?_
    refine hK9 _ _ ?_
    clear hK9
    refine wp_ret ?_
    try simp only [Exit.then, Exit.inBlock]
    try rw [if_pos trivial]
    exact s_ret tabOk tabZ_ok h11 [(.tmp 4, {})] (vs := [.int .u8 8]) (φ := True) rfl (by kernel_rfl) trivial (by rw [show interruptP S C l = (S, 8) from (by unfold interruptP; (try dsimp only); (first | rw [if_pos hc8f] | rw [if_pos (fun hz => hz hc8f)]))]; exact ⟨rfl, h11.kn (k := 0) rfl, h11.frame⟩)
  ·
    have hc8f : ¬ l ≥ 16 := by simpa using hc8
    have hnt0 := rS.irq (i := l.toNat) (by omega)
    have hnt : 0 ≤ (S.irq l.toNat).ntfn.idx ∧ (S.irq l.toNat).ntfn.idx ≤ 65535 := ⟨hnt0.1, by omega⟩
    refine wp_skip ?_
    refine hK4 _ _ ?_
    clear hK4
    refine wp_seq_k fun K12 hK12 => ?_
    refine nd_start (l := [0, 1, 2, 3, 4, 5]) rfl ?_
    refine nd_batch tabOk tabZ_ok [(0, {}), (1, {}), (2, {}), (3, {}), (4, {}), (5, {})] [0, 1, 4, 5] (T' := [(0, .pointer (some ⟨kb, 0, none⟩)), (1, .int .u64 l), (4, .int .u8 0), (5, .pointer (some ⟨kb, 6428 + (l.toNat * 4), none⟩))]) (φ := (0 ≤ l ∧ l < 16) ∧ True) (rest := []) h7 (by kernel_rfl) rfl ⟨⟨by omega, by omega⟩, trivial⟩ fun a13 h14 => ?_
    clear h7
    refine nd_done ?_
    refine hK12 _ _ ?_
    clear hK12
    refine wp_seq_k fun K15 hK15 => ?_
    refine wp_block ?_
    refine wp_seq_k fun K16 hK16 => ?_
    refine dr_start (KB := [kb]) (Bi := [[0], [0], [0], [0], [0], [0], [0], [0], [], [0], [0]]) mixed h14 fun w17 h18 => ?_
    clear h14
    refine dr_batch tabOk tabZ_ok (by repeat (first | with_reducible exact PF.body | with_reducible apply PF.inB | with_reducible apply PF.next)) [(0, {}), (1, {}), (2, {}), (3, {k := 0, m := 1, vs := [.pointer (some ⟨bo, 0, none⟩)], p := 0}), (4, {}), (5, {}), (6, {}), (7, {k := 0, m := 1, vs := [.int .u16 ((S.irq l.toNat).ntfn.idx), .int .u32 ((S.irq l.toNat).ntfn.gen)], p := 0})] [0, 1, 4, 5, 17, 21] (T' := [(0, .pointer (some ⟨kb, 0, none⟩)), (1, .int .u64 l), (4, .int .u8 0), (5, .pointer (some ⟨kb, 6428 + (l.toNat * 4), none⟩)), (17, .pointer (some ⟨bo, 0, none⟩)), (21, .agg #[.int .u16 ((S.irq l.toNat).ntfn.idx), .int .u32 ((S.irq l.toNat).ntfn.gen)])]) (φ := (kb = kb ∧ cellsAre (kC bo bc S) 0 [.pointer (some ⟨bo, 0, none⟩)]) ∧ (kb = kb ∧ cellsAre (kC bo bc S) (6428 + (l.toNat * 4)) [.int .u16 ((S.irq l.toNat).ntfn.idx), .int .u32 ((S.irq l.toNat).ntfn.gen)]) ∧ True) (fuel := 3) h18 (by kernel_rfl) rfl (by kernel_rfl) (by kernel_rfl) ⟨trivial, trivial, trivial, rfl, trivial, trivial, trivial, rfl, trivial⟩ ⟨⟨rfl, k_objs⟩, ⟨rfl, (k_irq (i := l.toNat) (k := 0) (by omega) (by omega) ⟨rfl, rfl, trivial⟩)⟩, trivial⟩ fun a20 h21 => ?_
    clear h18
    refine wpAnyK_one (i := 8) (fuel := 2) (by kernel_rfl) ?_
    refine op_call h21 rfl rfl rfl (callOk Tryd.func53 (by decide) rfl) (args := [.pointer (some ⟨bo, 0, none⟩), .agg #[.int .u16 ((S.irq l.toNat).ntfn.idx), .int .u32 ((S.irq l.toNat).ntfn.gen)]]) rfl (typeOf_ok bo C.ent (S.irq l.toNat).ntfn hnt _ h21.inv.st) ?_
    rintro _ w22 ⟨rfl, hf24⟩
    refine ⟨_, rfl, ?_⟩
    have h23 := (h21.grow hf24).put (d := some 22) (v := .int .u8 (typeOfP C.ent (S.irq l.toNat).ntfn)) (T' := [(22, .int .u8 (typeOfP C.ent (S.irq l.toNat).ntfn)), (0, .pointer (some ⟨kb, 0, none⟩)), (1, .int .u64 l), (4, .int .u8 0), (5, .pointer (some ⟨kb, 6428 + (l.toNat * 4), none⟩)), (17, .pointer (some ⟨bo, 0, none⟩)), (21, .agg #[.int .u16 ((S.irq l.toNat).ntfn.idx), .int .u32 ((S.irq l.toNat).ntfn.gen)])]) rfl
    refine ⟨keepNil, ?_⟩
    clear h21
    refine dr_batch tabOk tabZ_ok (by repeat (first | with_reducible exact PF.body | with_reducible apply PF.inB | with_reducible apply PF.next)) [(9, {}), (10, {})] [0, 1, 4, 5, 13] (T' := [(0, .pointer (some ⟨kb, 0, none⟩)), (1, .int .u64 l), (4, .int .u8 0), (5, .pointer (some ⟨kb, 6428 + (l.toNat * 4), none⟩)), (13, .bool ((typeOfP C.ent (S.irq l.toNat).ntfn) != 5))]) (φ := True) (fuel := 0) h23 (by kernel_rfl) rfl (by kernel_rfl) (by kernel_rfl) ⟨trivial, trivial, trivial⟩ trivial fun a25 h26 => ?_
    clear h23
    refine wpAnyK_done (by kernel_rfl) ?_ _
    refine hK16 _ _ ?_
    clear hK16
    refine c_split h26 (b := ((typeOfP C.ent (S.irq l.toNat).ntfn) != 5)) rfl (fun hc27 => ?_) (fun hc27 => ?_)
    ·
      have hc27f : (typeOfP C.ent (S.irq l.toNat).ntfn) ≠ 5 := by simpa using hc27
      refine wp_seq_k fun K28 hK28 => ?_
      refine nd_start (l := [0]) rfl ?_
      refine nd_batch tabOk tabZ_ok [(0, {})] [0, 1, 5, 4] (T' := [(0, .pointer (some ⟨kb, 0, none⟩)), (1, .int .u64 l), (5, .pointer (some ⟨kb, 6428 + (l.toNat * 4), none⟩)), (4, .int .u8 14)]) (φ := True) (rest := []) h26 (by kernel_rfl) rfl trivial fun a29 h30 => ?_
      clear h26
      refine nd_done ?_
      refine hK28 _ _ ?_
      clear hK28
      refine wp_ret ?_
      try simp only [Exit.then, Exit.inBlock]
      try rw [if_pos trivial]
      exact s_ret tabOk tabZ_ok h30 [(.tmp 4, {})] (vs := [.int .u8 14]) (φ := True) rfl (by kernel_rfl) trivial (by rw [show interruptP S C l = (S, 14) from (by unfold interruptP; (try dsimp only); (first | rw [if_neg hc8f] | rw [if_neg (fun hz => hz hc8f)]); (first | rw [if_pos hc27f] | rw [if_pos (fun hz => hz hc27f)]))]; exact ⟨rfl, h30.kn (k := 0) rfl, h30.frame⟩)
    ·
      have hc27f : (typeOfP C.ent (S.irq l.toNat).ntfn) = 5 := by simpa using hc27
      refine wp_seq_k fun K31 hK31 => ?_
      refine nd_start (l := [0, 1, 2, 3, 4]) rfl ?_
      refine nd_batch tabOk tabZ_ok [(0, {}), (1, {}), (2, {}), (3, {k := 0, m := 1, vs := [.bool ((S.irq l.toNat).masked)]}), (4, {})] [0, 1, 4, 5, 24] (T' := [(0, .pointer (some ⟨kb, 0, none⟩)), (1, .int .u64 l), (4, .int .u8 0), (5, .pointer (some ⟨kb, 6428 + (l.toNat * 4), none⟩)), (24, .bool ((S.irq l.toNat).masked))]) (φ := (kb = kb ∧ cellsAre (kC bo bc S) (6428 + (l.toNat * 4) + 3) [.bool ((S.irq l.toNat).masked)]) ∧ True) (rest := []) h26 (by kernel_rfl) rfl ⟨⟨rfl, (k_irq (i := l.toNat) (k := 3) (by omega) (by omega) ⟨rfl, trivial⟩)⟩, trivial⟩ fun a32 h33 => ?_
      clear h26
      refine nd_done ?_
      refine hK31 _ _ ?_
      clear hK31
      refine c_split h33 (b := (S.irq l.toNat).masked) rfl (fun hc34 => ?_) (fun hc34 => ?_)
      ·
        refine wp_seq_k fun K35 hK35 => ?_
        refine nd_start (l := [0]) rfl ?_
        refine nd_batch tabOk tabZ_ok [(0, {})] [0, 1, 5, 4] (T' := [(0, .pointer (some ⟨kb, 0, none⟩)), (1, .int .u64 l), (5, .pointer (some ⟨kb, 6428 + (l.toNat * 4), none⟩)), (4, .int .u8 15)]) (φ := True) (rest := []) h33 (by kernel_rfl) rfl trivial fun a36 h37 => ?_
        clear h33
        refine nd_done ?_
        refine hK35 _ _ ?_
        clear hK35
        refine wp_ret ?_
        try simp only [Exit.then, Exit.inBlock]
        try rw [if_pos trivial]
        exact s_ret tabOk tabZ_ok h37 [(.tmp 4, {})] (vs := [.int .u8 15]) (φ := True) rfl (by kernel_rfl) trivial (by rw [show interruptP S C l = (S, 15) from (by unfold interruptP; (try dsimp only); (first | rw [if_neg hc8f] | rw [if_neg (fun hz => hz hc8f)]); (first | rw [if_neg hc27f] | rw [if_neg (fun hz => hz hc27f)]); (first | rw [if_pos hc34] | rw [if_neg (fun hz => by rw [hz] at hc34; exact absurd hc34 (by decide))] | rw [if_neg (fun hz => by rw [hc34] at hz; exact absurd hz (by decide))] | rw [if_pos (by simpa using hc34)] | rw [if_neg (by simpa using hc34)]))]; exact ⟨rfl, h37.kn (k := 0) rfl, h37.frame⟩)
      ·
        refine wp_skip ?_
        refine hK15 _ _ ?_
        clear hK15
        refine wp_seq_k fun K38 hK38 => ?_
        refine nd_start (l := [0, 1, 2, 3]) rfl ?_
        refine nd_batch tabOk tabZ_ok [(0, {}), (1, {}), (2, {})] [0, 1, 4, 5, 31] (T' := [(0, .pointer (some ⟨kb, 0, none⟩)), (1, .int .u64 l), (4, .int .u8 0), (5, .pointer (some ⟨kb, 6428 + (l.toNat * 4), none⟩)), (31, .pointer (some ⟨kb, 6428 + (l.toNat * 4) + 3, none⟩))]) (φ := True) (rest := [3]) h33 (by kernel_rfl) rfl trivial fun a39 h40 => ?_
        clear h33
        refine nd_op ?_
        refine op_store tabOk {k := 0, m := 1, vs := kC bo bc (S.setI l.toNat { S.irq l.toNat with masked := true })} (L' := [(kb, ⟨kC bo bc (S.setI l.toNat { S.irq l.toNat with masked := true }), 90, false⟩)]) (φ := kb = kb ∧ Nat.ble (6428 + (l.toNat * 4) + 3 + 1) (kC bo bc S).length = true ∧ splice (kC bo bc S) (6428 + (l.toNat * 4) + 3) [.bool true] = kC bo bc (S.setI l.toNat { S.irq l.toNat with masked := true })) h40 rfl rfl rfl (by kernel_rfl) ⟨rfl, k_in (by omega), (k_irq_w (i := l.toNat) (k := 3) (by omega) (Nat.le_of_ble_eq_true rfl) (by omega) rfl)⟩ fun w42 h43 => ?_
        obtain ⟨S41, eS41⟩ : ∃ S9, S9 = (S.setI l.toNat { S.irq l.toNat with masked := true }) := ⟨_, rfl⟩
        rw [← eS41] at h43
        have rS41 : RI S41 := by rw [eS41]; exact rS.setIrq hnt0
        clear h40
        refine nd_done ?_
        refine hK38 _ _ ?_
        clear hK38
        refine wp_seq_k fun K44 hK44 => ?_
        refine dr_start (KB := [kb]) (Bi := [[0], [0], [0], [0], [0], [0], [0], [0], [0], []]) mixed h43 fun w45 h46 => ?_
        clear h43
        refine dr_batch tabOk tabZ_ok (by repeat (first | with_reducible exact PF.body | with_reducible apply PF.inB | with_reducible apply PF.next)) [(0, {}), (1, {}), (2, {}), (3, {}), (4, {k := 0, m := 1, vs := [.int .u16 ((S41.irq l.toNat).ntfn.idx), .int .u32 ((S41.irq l.toNat).ntfn.gen)], p := 0}), (5, {}), (6, {}), (7, {}), (8, {k := 0, m := 1, vs := [.int .u64 ((S41.irq l.toNat).badge)], p := 0})] [0, 1, 4, 5, 32, 36, 40] (T' := [(0, .pointer (some ⟨kb, 0, none⟩)), (1, .int .u64 l), (4, .int .u8 0), (5, .pointer (some ⟨kb, 6428 + (l.toNat * 4), none⟩)), (32, .pointer (some ⟨kb, 0, none⟩)), (36, .agg #[.int .u16 ((S41.irq l.toNat).ntfn.idx), .int .u32 ((S41.irq l.toNat).ntfn.gen)]), (40, .int .u64 ((S41.irq l.toNat).badge))]) (φ := (kb = kb ∧ cellsAre (kC bo bc S41) (6428 + (l.toNat * 4)) [.int .u16 ((S41.irq l.toNat).ntfn.idx), .int .u32 ((S41.irq l.toNat).ntfn.gen)]) ∧ (kb = kb ∧ cellsAre (kC bo bc S41) (6428 + (l.toNat * 4) + 2) [.int .u64 ((S41.irq l.toNat).badge)]) ∧ True) (fuel := 1) h46 (by kernel_rfl) rfl (by kernel_rfl) (by kernel_rfl) ⟨trivial, trivial, trivial, trivial, rfl, trivial, trivial, trivial, rfl, trivial⟩ ⟨⟨rfl, (k_irq (i := l.toNat) (k := 0) (by omega) (by omega) ⟨rfl, rfl, trivial⟩)⟩, ⟨rfl, (k_irq (i := l.toNat) (k := 2) (by omega) (by omega) ⟨rfl, trivial⟩)⟩, trivial⟩ fun a48 h49 => ?_
        clear h46
        refine wpAnyK_one (i := 9) (fuel := 0) (by kernel_rfl) ?_
        refine op_call h49 rfl rfl rfl (callOk Tryd.func74 (by decide) rfl) (args := [.pointer (some ⟨kb, 0, none⟩), .agg #[.int .u16 ((S41.irq l.toNat).ntfn.idx), .int .u32 ((S41.irq l.toNat).ntfn.gen)], .int .u64 ((S41.irq l.toNat).badge)]) rfl (signal_ok kb bo bc S41 rS41 (S41.irq l.toNat).ntfn (S41.irq l.toNat).badge (rS41.irq (i := l.toNat) (by omega)) _ (h49.kn (k := 0) rfl)) ?_
        rintro _ w53 ⟨rfl, hb51, hf52⟩
        refine ⟨_, rfl, ?_⟩
        obtain ⟨S50, eS50⟩ : ∃ S9, S9 = signalP S41 (S41.irq l.toNat).ntfn (S41.irq l.toNat).badge := ⟨_, rfl⟩
        rw [← eS50] at hb51
        have rS50 : RI S50 := by rw [eS50]; exact signal_RI rS41 (rS41.irq (i := l.toNat) (by omega)) _
        have h54 := (h49.setBlk (k := 0) rfl rfl hf52 hb51 (L' := [(kb, ⟨kC bo bc S50, 90, false⟩)]) rfl).put (d := some 41) (v := .tuple #[]) (T' := [(41, .tuple #[]), (0, .pointer (some ⟨kb, 0, none⟩)), (1, .int .u64 l), (4, .int .u8 0), (5, .pointer (some ⟨kb, 6428 + (l.toNat * 4), none⟩)), (32, .pointer (some ⟨kb, 0, none⟩)), (36, .agg #[.int .u16 ((S41.irq l.toNat).ntfn.idx), .int .u32 ((S41.irq l.toNat).ntfn.gen)]), (40, .int .u64 ((S41.irq l.toNat).badge))]) rfl
        have hkh54 := h49.known
        refine ⟨keepNil, ?_⟩
        clear h49
        refine wpAnyK_done (by kernel_rfl) ?_ _
        refine hK44 _ _ ?_
        clear hK44
        refine wp_seq_k fun K55 hK55 => ?_
        refine nd_start (l := [0]) rfl ?_
        refine nd_batch tabOk tabZ_ok [(0, {})] [0, 1, 5, 4] (T' := [(0, .pointer (some ⟨kb, 0, none⟩)), (1, .int .u64 l), (5, .pointer (some ⟨kb, 6428 + (l.toNat * 4), none⟩)), (4, .int .u8 0)]) (φ := True) (rest := []) h54 (by kernel_rfl) rfl trivial fun a56 h57 => ?_
        clear h54
        refine nd_done ?_
        refine hK55 _ _ ?_
        clear hK55
        refine wp_ret ?_
        try simp only [Exit.then, Exit.inBlock]
        try rw [if_pos trivial]
        exact s_ret tabOk tabZ_ok h57 [(.tmp 4, {})] (vs := [.int .u8 0]) (φ := True) rfl (by kernel_rfl) trivial (by rw [show interruptP S C l = (S50, 0) from (by unfold interruptP; (try dsimp only); (first | rw [if_neg hc8f] | rw [if_neg (fun hz => hz hc8f)]); (first | rw [if_neg hc27f] | rw [if_neg (fun hz => hz hc27f)]); (first | rw [if_pos hc34] | rw [if_neg (fun hz => by rw [hz] at hc34; exact absurd hc34 (by decide))] | rw [if_neg (fun hz => by rw [hc34] at hz; exact absurd hz (by decide))] | rw [if_pos (by simpa using hc34)] | rw [if_neg (by simpa using hc34)]); rw [← eS41]; rw [← eS50])]; exact ⟨rfl, h57.kn (k := 0) rfl, h57.frame⟩)

theorem line_ok (kb bo bc : Nat) (nd : Nat → Nat) (S : KP) (rS : RI S) (C : CP) (hC : CI C) (hcur : 0 ≤ S.cur ∧ S.cur < 256) (ev : Ev) (he : EvOk ev) (xo : Option Addr) (cx : Nat) (w : World) (hb : w.heap[kb]? = some (Blk.obj ⟨kC bo bc S, 90, false⟩)) (hc : CapAt w bo bc nd C) (hdkb : kb ∉ capF bo bc nd C) :
    Calls Tryd.prog 84 #[.pointer (some ⟨kb, 0, none⟩), .agg #[.int .u8 ev.kind, .int .u32 ev.pick, .int .u64 ev.draw, .int .u32 ev.addr, .int .u32 ev.node, .int .u32 ev.dst, .int .u32 ev.xfer, .int .u8 ev.ty, .int .u64 ev.arg, .int .u64 ev.badge, .slice xo ev.ws.length cx]] w fun e w' => e = .returned (.int .u8 (lineP S C ev).2) ∧ w'.heap[kb]? = some (Blk.obj ⟨kC bo bc (lineP S C ev).1, 90, false⟩) ∧ Fr [kb] w w' := by
  have hea := he.arg
  refine enter (n := 55) (K := [kb]) (A := fun w => CapAt w bo bc nd C) (F := (capF bo bc nd C)) (T := [(0, .pointer (some ⟨kb, 0, none⟩)), (1, .agg #[.int .u8 ev.kind, .int .u32 ev.pick, .int .u64 ev.draw, .int .u32 ev.addr, .int .u32 ev.node, .int .u32 ev.dst, .int .u32 ev.xfer, .int .u8 ev.ty, .int .u64 ev.arg, .int .u64 ev.badge, .slice xo ev.ws.length cx])]) (L := [(kb, ⟨kC bo bc S, 90, false⟩)]) (args := [.pointer (some ⟨kb, 0, none⟩), .agg #[.int .u8 ev.kind, .int .u32 ev.pick, .int .u64 ev.draw, .int .u32 ev.addr, .int .u32 ev.node, .int .u32 ev.dst, .int .u32 ev.xfer, .int .u8 ev.ty, .int .u64 ev.arg, .int .u64 ev.badge, .slice xo ev.ws.length cx]]) Tryd.func84 rfl rfl rfl rfl (kcons hb knil) (by simp) (kcons (fun _ => by simp) knil) hc CapAt.stable hc.low (kcons (fun _ => hdkb) knil) ?_
  intro a h
  refine wp_seq_k fun K1 hK1 => ?_
  refine nd_start (l := [0, 1]) rfl ?_
  refine nd_op ?_
  refine op_new tabOk (cells := [.int .u8 ev.kind, .int .u32 ev.pick, .int .u64 ev.draw, .int .u32 ev.addr, .int .u32 ev.node, .int .u32 ev.dst, .int .u32 ev.xfer, .int .u8 ev.ty, .int .u64 ev.arg, .int .u64 ev.badge, .slice xo ev.ws.length cx]) (ty := 35) (ln := none) (L1 := fun b2 => [(kb, ⟨kC bo bc S, 90, false⟩), (b2, ⟨[.int .u8 ev.kind, .int .u32 ev.pick, .int .u64 ev.draw, .int .u32 ev.addr, .int .u32 ev.node, .int .u32 ev.dst, .int .u32 ev.xfer, .int .u8 ev.ty, .int .u64 ev.arg, .int .u64 ev.badge, .slice xo ev.ws.length cx], 35, false⟩)]) h rfl rfl rfl rfl (by kernel_rfl) (fun _ => rfl) fun b2 w3 a4 h5 hf6 hn7 => ?_
  clear h
  refine nd_batch tabOk tabZ_ok [(1, {})] [3, 0, 1, 4] (T' := [(3, .pointer (some ⟨b2, 0, none⟩)), (0, .pointer (some ⟨kb, 0, none⟩)), (1, .agg #[.int .u8 ev.kind, .int .u32 ev.pick, .int .u64 ev.draw, .int .u32 ev.addr, .int .u32 ev.node, .int .u32 ev.dst, .int .u32 ev.xfer, .int .u8 ev.ty, .int .u64 ev.arg, .int .u64 ev.badge, .slice xo ev.ws.length cx]), (4, .int .u8 0)]) (φ := True) (rest := []) h5 (by kernel_rfl) rfl trivial fun a8 h9 => ?_
  clear h5
  refine nd_done ?_
  refine hK1 _ _ ?_
  clear hK1
  refine wp_seq_k fun K10 hK10 => ?_
  refine wp_seq_k fun K11 hK11 => ?_
  refine nd_start (l := [0, 1, 2]) rfl ?_
  refine nd_batch tabOk tabZ_ok [(0, {}), (1, {k := 1}), (2, {})] [3, 0, 1, 4, 11] (T' := [(3, .pointer (some ⟨b2, 0, none⟩)), (0, .pointer (some ⟨kb, 0, none⟩)), (1, .agg #[.int .u8 ev.kind, .int .u32 ev.pick, .int .u64 ev.draw, .int .u32 ev.addr, .int .u32 ev.node, .int .u32 ev.dst, .int .u32 ev.xfer, .int .u8 ev.ty, .int .u64 ev.arg, .int .u64 ev.badge, .slice xo ev.ws.length cx]), (4, .int .u8 0), (11, .bool (decide (ev.arg ≥ 16)))]) (φ := (b2 = b2 ∧ Nat.ble (8 + 1) 11 = true) ∧ True) (rest := []) h9 (by kernel_rfl) rfl ⟨⟨rfl, rfl⟩, trivial⟩ fun a12 h13 => ?_
  clear h9
  refine nd_done ?_
  refine hK11 _ _ ?_
  clear hK11
  refine c_split h13 (b := decide (ev.arg ≥ 16)) rfl (fun hc14 => ?_) (fun hc14 => ?_)
  ·
    have hc14f : ev.arg ≥ 16 := by simpa using hc14
    refine wp_seq_k fun K15 hK15 => ?_
    refine nd_start (l := [0]) rfl ?_
    refine nd_batch tabOk tabZ_ok [(0, {})] [3, 0, 1, 4] (T' := [(3, .pointer (some ⟨b2, 0, none⟩)), (0, .pointer (some ⟨kb, 0, none⟩)), (1, .agg #[.int .u8 ev.kind, .int .u32 ev.pick, .int .u64 ev.draw, .int .u32 ev.addr, .int .u32 ev.node, .int .u32 ev.dst, .int .u32 ev.xfer, .int .u8 ev.ty, .int .u64 ev.arg, .int .u64 ev.badge, .slice xo ev.ws.length cx]), (4, .int .u8 8)]) (φ := True) (rest := []) h13 (by kernel_rfl) rfl trivial fun a16 h17 => ?_
    clear h13
    refine nd_done ?_
    refine hK15 _ _ ?_
    clear hK15
    refine wp_ret ?_
    try simp only [Exit.then, Exit.inBlock]
    try rw [if_pos trivial]
    exact s_ret tabOk tabZ_ok h17 [(.tmp 4, {})] (vs := [.int .u8 8]) (φ := True) rfl (by kernel_rfl) trivial (by rw [show lineP S C ev = (S, 8) from (by unfold lineP; (try dsimp only); (first | rw [if_pos hc14f] | rw [if_pos (fun hz => hz hc14f)]))]; exact ⟨rfl, h17.kn (k := 0) rfl, h17.frame⟩)
  ·
    have hc14f : ¬ ev.arg ≥ 16 := by simpa using hc14
    refine wp_skip ?_
    refine hK10 _ _ ?_
    clear hK10
    refine wp_seq_k fun K18 hK18 => ?_
    refine dr_start (KB := [kb, b2]) (Bi := [[0, 1], [0, 1], [0, 1], [0, 1], [0, 1], [0, 1], [0, 1]]) mixed h13 fun w19 h20 => ?_
    clear h13
    refine dr_batch tabOk tabZ_ok (by repeat (first | with_reducible exact PF.body | with_reducible apply PF.inB | with_reducible apply PF.next)) [(0, {}), (1, {}), (2, {k := 1, p := 1}), (3, {}), (4, {}), (5, {}), (6, {})] [3, 0, 1, 4, 5] (T' := [(3, .pointer (some ⟨b2, 0, none⟩)), (0, .pointer (some ⟨kb, 0, none⟩)), (1, .agg #[.int .u8 ev.kind, .int .u32 ev.pick, .int .u64 ev.draw, .int .u32 ev.addr, .int .u32 ev.node, .int .u32 ev.dst, .int .u32 ev.xfer, .int .u8 ev.ty, .int .u64 ev.arg, .int .u64 ev.badge, .slice xo ev.ws.length cx]), (4, .int .u8 0), (5, .pointer (some ⟨kb, 6428 + (ev.arg.toNat * 4), none⟩))]) (φ := (b2 = b2 ∧ Nat.ble (8 + 1) 11 = true) ∧ (0 ≤ ev.arg ∧ ev.arg < 16) ∧ True) (fuel := 0) h20 (by kernel_rfl) rfl (by kernel_rfl) (by kernel_rfl) ⟨trivial, trivial, rfl, trivial, trivial, trivial, trivial, trivial⟩ ⟨⟨rfl, rfl⟩, ⟨by omega, by omega⟩, trivial⟩ fun a22 h23 => ?_
    clear h20
    refine wpAnyK_done (by kernel_rfl) ?_ _
    refine hK18 _ _ ?_
    clear hK18
    refine wp_seq_k fun K24 hK24 => ?_
    refine wp_seq_k fun K25 hK25 => ?_
    refine nd_start (l := [0, 1, 2]) rfl ?_
    refine nd_batch tabOk tabZ_ok [(0, {}), (1, {k := 1}), (2, {})] [3, 0, 1, 4, 5, 20] (T' := [(3, .pointer (some ⟨b2, 0, none⟩)), (0, .pointer (some ⟨kb, 0, none⟩)), (1, .agg #[.int .u8 ev.kind, .int .u32 ev.pick, .int .u64 ev.draw, .int .u32 ev.addr, .int .u32 ev.node, .int .u32 ev.dst, .int .u32 ev.xfer, .int .u8 ev.ty, .int .u64 ev.arg, .int .u64 ev.badge, .slice xo ev.ws.length cx]), (4, .int .u8 0), (5, .pointer (some ⟨kb, 6428 + (ev.arg.toNat * 4), none⟩)), (20, .bool (ev.kind == 18))]) (φ := (b2 = b2 ∧ Nat.ble (0 + 1) 11 = true) ∧ True) (rest := []) h23 (by kernel_rfl) rfl ⟨⟨rfl, rfl⟩, trivial⟩ fun a26 h27 => ?_
    clear h23
    refine nd_done ?_
    refine hK25 _ _ ?_
    clear hK25
    refine c_split h27 (b := (ev.kind == 18)) rfl (fun hc28 => ?_) (fun hc28 => ?_)
    ·
      have hc28f : ev.kind = 18 := by simpa using hc28
      refine wp_seq_k fun K29 hK29 => ?_
      refine nd_start (l := [0, 1, 2, 3, 4, 5, 6, 7, 8, 9, 10, 11]) rfl ?_
      refine nd_batch tabOk tabZ_ok [(0, {}), (1, {}), (2, {k := 1})] [3, 0, 1, 4, 5, 22, 24] (T' := [(3, .pointer (some ⟨b2, 0, none⟩)), (0, .pointer (some ⟨kb, 0, none⟩)), (1, .agg #[.int .u8 ev.kind, .int .u32 ev.pick, .int .u64 ev.draw, .int .u32 ev.addr, .int .u32 ev.node, .int .u32 ev.dst, .int .u32 ev.xfer, .int .u8 ev.ty, .int .u64 ev.arg, .int .u64 ev.badge, .slice xo ev.ws.length cx]), (4, .int .u8 0), (5, .pointer (some ⟨kb, 6428 + (ev.arg.toNat * 4), none⟩)), (22, .pointer (some ⟨kb, 0, none⟩)), (24, .int .u32 ev.addr)]) (φ := (b2 = b2 ∧ Nat.ble (3 + 1) 11 = true) ∧ True) (rest := [3, 4, 5, 6, 7, 8, 9, 10, 11]) h27 (by kernel_rfl) rfl ⟨⟨rfl, rfl⟩, trivial⟩ fun a30 h31 => ?_
      clear h27
      refine nd_op ?_
      obtain ⟨fc32, fs33, fk34, hfd35⟩ : ∃ c s k, findP S C ev.addr 5 2 = (c, s, k) := ⟨_, _, _, rfl⟩
      refine op_call h31 rfl rfl rfl (callOk Tryd.func79 (by decide) rfl) (args := [.pointer (some ⟨kb, 0, none⟩), .int .u32 ev.addr, .int .u8 5, .int .u8 2]) rfl (find_ok kb bo bc nd S rS C hC ev.addr 5 2 hcur he.addr _ (h31.kn (k := 0) (blk := ⟨kC bo bc S, 90, false⟩) rfl) h31.inv hdkb hfd35) ?_
      rintro _ w36 ⟨rfl, hf38⟩
      refine ⟨_, rfl, ?_⟩
      have h37 := (h31.grow hf38).put (d := some 25) (v := .tuple #[.agg #[.int .u8 fc32.ty, .int .u16 fc32.obj.idx, .int .u32 fc32.obj.gen, .int .u8 fc32.rights, .int .u64 fc32.badge], .int .i64 fs33, .int .u8 fk34]) (T' := [(25, .tuple #[.agg #[.int .u8 fc32.ty, .int .u16 fc32.obj.idx, .int .u32 fc32.obj.gen, .int .u8 fc32.rights, .int .u64 fc32.badge], .int .i64 fs33, .int .u8 fk34]), (3, .pointer (some ⟨b2, 0, none⟩)), (0, .pointer (some ⟨kb, 0, none⟩)), (1, .agg #[.int .u8 ev.kind, .int .u32 ev.pick, .int .u64 ev.draw, .int .u32 ev.addr, .int .u32 ev.node, .int .u32 ev.dst, .int .u32 ev.xfer, .int .u8 ev.ty, .int .u64 ev.arg, .int .u64 ev.badge, .slice xo ev.ws.length cx]), (4, .int .u8 0), (5, .pointer (some ⟨kb, 6428 + (ev.arg.toNat * 4), none⟩)), (22, .pointer (some ⟨kb, 0, none⟩)), (24, .int .u32 ev.addr)]) rfl
      clear h31
      refine nd_batch tabOk tabZ_ok [(4, {}), (5, {}), (6, {}), (7, {})] [3, 0, 1, 4, 5, 26, 27, 28] (T' := [(3, .pointer (some ⟨b2, 0, none⟩)), (0, .pointer (some ⟨kb, 0, none⟩)), (1, .agg #[.int .u8 ev.kind, .int .u32 ev.pick, .int .u64 ev.draw, .int .u32 ev.addr, .int .u32 ev.node, .int .u32 ev.dst, .int .u32 ev.xfer, .int .u8 ev.ty, .int .u64 ev.arg, .int .u64 ev.badge, .slice xo ev.ws.length cx]), (4, .int .u8 0), (5, .pointer (some ⟨kb, 6428 + (ev.arg.toNat * 4), none⟩)), (26, .agg #[.int .u8 fc32.ty, .int .u16 fc32.obj.idx, .int .u32 fc32.obj.gen, .int .u8 fc32.rights, .int .u64 fc32.badge]), (27, .int .i64 fs33), (28, .int .u8 fk34)]) (φ := True) (rest := [8, 9, 10, 11]) h37 (by kernel_rfl) rfl trivial fun a39 h40 => ?_
      clear h37
      refine nd_op ?_
      refine op_new tabOk (cells := [.int .u8 0, .int .u16 0, .int .u32 0, .int .u8 0, .int .u64 0]) (ty := 49) (ln := none) (L1 := fun b41 => [(kb, ⟨kC bo bc S, 90, false⟩), (b2, ⟨[.int .u8 ev.kind, .int .u32 ev.pick, .int .u64 ev.draw, .int .u32 ev.addr, .int .u32 ev.node, .int .u32 ev.dst, .int .u32 ev.xfer, .int .u8 ev.ty, .int .u64 ev.arg, .int .u64 ev.badge, .slice xo ev.ws.length cx], 35, false⟩), (b41, ⟨[.int .u8 0, .int .u16 0, .int .u32 0, .int .u8 0, .int .u64 0], 49, false⟩)]) h40 rfl rfl rfl rfl (by kernel_rfl) (fun _ => rfl) fun b41 w42 a43 h44 hf45 hn46 => ?_
      clear h40
      refine nd_op ?_
      refine op_store tabOk {k := 2} (L' := [(kb, ⟨kC bo bc S, 90, false⟩), (b2, ⟨[.int .u8 ev.kind, .int .u32 ev.pick, .int .u64 ev.draw, .int .u32 ev.addr, .int .u32 ev.node, .int .u32 ev.dst, .int .u32 ev.xfer, .int .u8 ev.ty, .int .u64 ev.arg, .int .u64 ev.badge, .slice xo ev.ws.length cx], 35, false⟩), (b41, ⟨[.int .u8 fc32.ty, .int .u16 fc32.obj.idx, .int .u32 fc32.obj.gen, .int .u8 fc32.rights, .int .u64 fc32.badge], 49, false⟩)]) (φ := b41 = b41 ∧ Nat.ble (0 + 5) 5 = true) h44 rfl rfl rfl (by kernel_rfl) ⟨rfl, rfl⟩ fun w47 h48 => ?_
      clear h44
      refine nd_batch tabOk tabZ_ok [(10, {}), (11, {})] [6, 3, 0, 1, 4, 5, 8] (T' := [(6, .pointer (some ⟨b41, 0, none⟩)), (3, .pointer (some ⟨b2, 0, none⟩)), (0, .pointer (some ⟨kb, 0, none⟩)), (1, .agg #[.int .u8 ev.kind, .int .u32 ev.pick, .int .u64 ev.draw, .int .u32 ev.addr, .int .u32 ev.node, .int .u32 ev.dst, .int .u32 ev.xfer, .int .u8 ev.ty, .int .u64 ev.arg, .int .u64 ev.badge, .slice xo ev.ws.length cx]), (4, .int .u8 0), (5, .pointer (some ⟨kb, 6428 + (ev.arg.toNat * 4), none⟩)), (8, .int .u8 fk34)]) (φ := True) (rest := []) h48 (by kernel_rfl) rfl trivial fun a49 h50 => ?_
      clear h48
      refine nd_done ?_
      refine hK29 _ _ ?_
      clear hK29
      refine wp_seq_k fun K51 hK51 => ?_
      refine wp_seq_k fun K52 hK52 => ?_
      refine nd_start (l := [0, 1]) rfl ?_
      refine nd_batch tabOk tabZ_ok [(0, {}), (1, {})] [6, 3, 0, 1, 4, 5, 8, 30] (T' := [(6, .pointer (some ⟨b41, 0, none⟩)), (3, .pointer (some ⟨b2, 0, none⟩)), (0, .pointer (some ⟨kb, 0, none⟩)), (1, .agg #[.int .u8 ev.kind, .int .u32 ev.pick, .int .u64 ev.draw, .int .u32 ev.addr, .int .u32 ev.node, .int .u32 ev.dst, .int .u32 ev.xfer, .int .u8 ev.ty, .int .u64 ev.arg, .int .u64 ev.badge, .slice xo ev.ws.length cx]), (4, .int .u8 0), (5, .pointer (some ⟨kb, 6428 + (ev.arg.toNat * 4), none⟩)), (8, .int .u8 fk34), (30, .bool (fk34 == 0))]) (φ := True) (rest := []) h50 (by kernel_rfl) rfl trivial fun a53 h54 => ?_
      clear h50
      refine nd_done ?_
      refine hK52 _ _ ?_
      clear hK52
      refine c_split h54 (b := (fk34 == 0)) rfl (fun hc55 => ?_) (fun hc55 => ?_)
      ·
        have hc55f : fk34 = 0 := by simpa using hc55
        obtain ⟨fi56, fj56, hfi56, hfj56, hfp56, hfs56, hfcap56, hft56, hfz56, hfo56⟩ := find_fact rS hC hcur he.addr.1 hfd35 hc55f
        have hxfi56 := find_idx hfo56 (by rw [hft56]; decide)
        refine nd_start (l := [0, 1, 2, 3, 4, 5, 6, 7]) rfl ?_
        refine nd_batch tabOk tabZ_ok [(0, {}), (1, {}), (2, {k := 2}), (3, {}), (4, {k := 2}), (5, {}), (6, {})] [6, 3, 0, 1, 4, 5, 8, 36, 37] (T' := [(6, .pointer (some ⟨b41, 0, none⟩)), (3, .pointer (some ⟨b2, 0, none⟩)), (0, .pointer (some ⟨kb, 0, none⟩)), (1, .agg #[.int .u8 ev.kind, .int .u32 ev.pick, .int .u64 ev.draw, .int .u32 ev.addr, .int .u32 ev.node, .int .u32 ev.dst, .int .u32 ev.xfer, .int .u8 ev.ty, .int .u64 ev.arg, .int .u64 ev.badge, .slice xo ev.ws.length cx]), (4, .int .u8 0), (5, .pointer (some ⟨kb, 6428 + (ev.arg.toNat * 4), none⟩)), (8, .int .u8 fk34), (36, .agg #[.int .u16 fc32.obj.idx, .int .u32 fc32.obj.gen, .int .u64 fc32.badge, .bool false]), (37, .pointer (some ⟨kb, 6428 + (ev.arg.toNat * 4), none⟩))]) (φ := (b41 = b41 ∧ Nat.ble (1 + 2) 5 = true) ∧ (b41 = b41 ∧ Nat.ble (4 + 1) 5 = true) ∧ True) (rest := [7]) h54 (by kernel_rfl) rfl ⟨⟨rfl, rfl⟩, ⟨rfl, rfl⟩, trivial⟩ fun a57 h58 => ?_
        clear h54
        refine nd_op ?_
        refine op_store tabOk {k := 0, m := 1, vs := kC bo bc (S.setI ev.arg.toNat (⟨⟨fc32.obj.idx, fc32.obj.gen⟩, fc32.badge, false⟩ : Irq))} (L' := [(kb, ⟨kC bo bc (S.setI ev.arg.toNat (⟨⟨fc32.obj.idx, fc32.obj.gen⟩, fc32.badge, false⟩ : Irq)), 90, false⟩), (b2, ⟨[.int .u8 ev.kind, .int .u32 ev.pick, .int .u64 ev.draw, .int .u32 ev.addr, .int .u32 ev.node, .int .u32 ev.dst, .int .u32 ev.xfer, .int .u8 ev.ty, .int .u64 ev.arg, .int .u64 ev.badge, .slice xo ev.ws.length cx], 35, false⟩), (b41, ⟨[.int .u8 fc32.ty, .int .u16 fc32.obj.idx, .int .u32 fc32.obj.gen, .int .u8 fc32.rights, .int .u64 fc32.badge], 49, false⟩)]) (φ := kb = kb ∧ Nat.ble (6428 + (ev.arg.toNat * 4) + 4) (kC bo bc S).length = true ∧ splice (kC bo bc S) (6428 + (ev.arg.toNat * 4)) [.int .u16 fc32.obj.idx, .int .u32 fc32.obj.gen, .int .u64 fc32.badge, .bool false] = kC bo bc (S.setI ev.arg.toNat (⟨⟨fc32.obj.idx, fc32.obj.gen⟩, fc32.badge, false⟩ : Irq))) h58 rfl rfl rfl (by kernel_rfl) ⟨rfl, k_in (by omega), (k_irq_w (i := ev.arg.toNat) (k := 0) (by omega) (Nat.le_of_ble_eq_true rfl) (by omega) rfl)⟩ fun w60 h61 => ?_
        obtain ⟨S59, eS59⟩ : ∃ S9, S9 = (S.setI ev.arg.toNat (⟨⟨fc32.obj.idx, fc32.obj.gen⟩, fc32.badge, false⟩ : Irq)) := ⟨_, rfl⟩
        rw [← eS59] at h61
        have rS59 : RI S59 := by rw [eS59]; exact rS.setIrq hxfi56
        clear h58
        refine nd_done ?_
        refine hK51 _ _ ?_
        clear hK51
        refine wp_seq_k fun K62 hK62 => ?_
        refine nd_start (l := [0, 1]) rfl ?_
        refine nd_batch tabOk tabZ_ok [(0, {}), (1, {})] [6, 3, 0, 1, 5, 8, 4] (T' := [(6, .pointer (some ⟨b41, 0, none⟩)), (3, .pointer (some ⟨b2, 0, none⟩)), (0, .pointer (some ⟨kb, 0, none⟩)), (1, .agg #[.int .u8 ev.kind, .int .u32 ev.pick, .int .u64 ev.draw, .int .u32 ev.addr, .int .u32 ev.node, .int .u32 ev.dst, .int .u32 ev.xfer, .int .u8 ev.ty, .int .u64 ev.arg, .int .u64 ev.badge, .slice xo ev.ws.length cx]), (5, .pointer (some ⟨kb, 6428 + (ev.arg.toNat * 4), none⟩)), (8, .int .u8 fk34), (4, .int .u8 fk34)]) (φ := True) (rest := []) h61 (by kernel_rfl) rfl trivial fun a63 h64 => ?_
        clear h61
        refine nd_done ?_
        refine hK62 _ _ ?_
        clear hK62
        refine wp_ret ?_
        try simp only [Exit.then, Exit.inBlock]
        try rw [if_pos trivial]
        exact s_ret tabOk tabZ_ok h64 [(.tmp 4, {})] (vs := [.int .u8 fk34]) (φ := True) rfl (by kernel_rfl) trivial (by rw [show lineP S C ev = (S59, fk34) from (by unfold lineP; (try dsimp only); (first | rw [if_neg hc14f] | rw [if_neg (fun hz => hz hc14f)]); (first | rw [if_pos hc28f] | rw [if_pos (fun hz => hz hc28f)]); rw [hfd35]; (try dsimp only); (first | rw [if_pos hc55f] | rw [if_pos (fun hz => hz hc55f)]); rw [← eS59])]; exact ⟨rfl, h64.kn (k := 0) rfl, h64.frame⟩)
      ·
        have hc55f : fk34 ≠ 0 := by simpa using hc55
        refine wp_skip ?_
        refine hK51 _ _ ?_
        clear hK51
        refine wp_seq_k fun K65 hK65 => ?_
        refine nd_start (l := [0, 1]) rfl ?_
        refine nd_batch tabOk tabZ_ok [(0, {}), (1, {})] [6, 3, 0, 1, 5, 8, 4] (T' := [(6, .pointer (some ⟨b41, 0, none⟩)), (3, .pointer (some ⟨b2, 0, none⟩)), (0, .pointer (some ⟨kb, 0, none⟩)), (1, .agg #[.int .u8 ev.kind, .int .u32 ev.pick, .int .u64 ev.draw, .int .u32 ev.addr, .int .u32 ev.node, .int .u32 ev.dst, .int .u32 ev.xfer, .int .u8 ev.ty, .int .u64 ev.arg, .int .u64 ev.badge, .slice xo ev.ws.length cx]), (5, .pointer (some ⟨kb, 6428 + (ev.arg.toNat * 4), none⟩)), (8, .int .u8 fk34), (4, .int .u8 fk34)]) (φ := True) (rest := []) h54 (by kernel_rfl) rfl trivial fun a66 h67 => ?_
        clear h54
        refine nd_done ?_
        refine hK65 _ _ ?_
        clear hK65
        refine wp_ret ?_
        try simp only [Exit.then, Exit.inBlock]
        try rw [if_pos trivial]
        exact s_ret tabOk tabZ_ok h67 [(.tmp 4, {})] (vs := [.int .u8 fk34]) (φ := True) rfl (by kernel_rfl) trivial (by rw [show lineP S C ev = (S, fk34) from (by unfold lineP; (try dsimp only); (first | rw [if_neg hc14f] | rw [if_neg (fun hz => hz hc14f)]); (first | rw [if_pos hc28f] | rw [if_pos (fun hz => hz hc28f)]); rw [hfd35]; (try dsimp only); (first | rw [if_neg hc55f] | rw [if_neg (fun hz => hz hc55f)]))]; exact ⟨rfl, h67.kn (k := 0) rfl, h67.frame⟩)
    ·
      have hc28f : ev.kind ≠ 18 := by simpa using hc28
      refine wp_skip ?_
      refine hK24 _ _ ?_
      clear hK24
      refine wp_seq_k fun K68 hK68 => ?_
      refine wp_block ?_
      refine wp_seq_k fun K69 hK69 => ?_
      refine nd_start (l := [0, 1, 2, 3, 4, 5, 6]) rfl ?_
      refine nd_batch tabOk tabZ_ok [(0, {}), (1, {}), (2, {}), (3, {k := 0, m := 1, vs := [.int .u16 ((S.irq ev.arg.toNat).ntfn.idx), .int .u32 ((S.irq ev.arg.toNat).ntfn.gen)]}), (4, {}), (5, {vs := [.bool (decide ((S.irq ev.arg.toNat).ntfn = (⟨0, 0⟩ : Rf)))]}), (6, {})] [3, 0, 1, 4, 5, 39] (T' := [(3, .pointer (some ⟨b2, 0, none⟩)), (0, .pointer (some ⟨kb, 0, none⟩)), (1, .agg #[.int .u8 ev.kind, .int .u32 ev.pick, .int .u64 ev.draw, .int .u32 ev.addr, .int .u32 ev.node, .int .u32 ev.dst, .int .u32 ev.xfer, .int .u8 ev.ty, .int .u64 ev.arg, .int .u64 ev.badge, .slice xo ev.ws.length cx]), (4, .int .u8 0), (5, .pointer (some ⟨kb, 6428 + (ev.arg.toNat * 4), none⟩)), (39, .bool (Bool.xor false (decide ((S.irq ev.arg.toNat).ntfn = (⟨0, 0⟩ : Rf)))))]) (φ := (kb = kb ∧ cellsAre (kC bo bc S) (6428 + (ev.arg.toNat * 4)) [.int .u16 ((S.irq ev.arg.toNat).ntfn.idx), .int .u32 ((S.irq ev.arg.toNat).ntfn.gen)]) ∧ EqRun Tryd.prog 39 (.agg #[.int .u16 ((S.irq ev.arg.toNat).ntfn.idx), .int .u32 ((S.irq ev.arg.toNat).ntfn.gen)]) (.agg #[.int .u16 0, .int .u32 0]) (decide ((S.irq ev.arg.toNat).ntfn = (⟨0, 0⟩ : Rf))) ∧ True) (rest := []) h27 (by kernel_rfl) rfl ⟨⟨rfl, (k_irq (i := ev.arg.toNat) (k := 0) (by omega) (by omega) ⟨rfl, rfl, trivial⟩)⟩, (runRf ((S.irq ev.arg.toNat).ntfn) (⟨0, 0⟩ : Rf)), trivial⟩ fun a70 h71 => ?_
      clear h27
      refine nd_done ?_
      refine hK69 _ _ ?_
      clear hK69
      refine c_split h71 (b := (Bool.xor false (decide ((S.irq ev.arg.toNat).ntfn = (⟨0, 0⟩ : Rf))))) rfl (fun hc72 => ?_) (fun hc72 => ?_)
      ·
        have hc72f : (S.irq ev.arg.toNat).ntfn = (⟨0, 0⟩ : Rf) := by simpa using hc72
        refine wp_seq_k fun K73 hK73 => ?_
        refine nd_start (l := [0]) rfl ?_
        refine nd_batch tabOk tabZ_ok [(0, {})] [3, 0, 1, 5, 4] (T' := [(3, .pointer (some ⟨b2, 0, none⟩)), (0, .pointer (some ⟨kb, 0, none⟩)), (1, .agg #[.int .u8 ev.kind, .int .u32 ev.pick, .int .u64 ev.draw, .int .u32 ev.addr, .int .u32 ev.node, .int .u32 ev.dst, .int .u32 ev.xfer, .int .u8 ev.ty, .int .u64 ev.arg, .int .u64 ev.badge, .slice xo ev.ws.length cx]), (5, .pointer (some ⟨kb, 6428 + (ev.arg.toNat * 4), none⟩)), (4, .int .u8 14)]) (φ := True) (rest := []) h71 (by kernel_rfl) rfl trivial fun a74 h75 => ?_
        clear h71
        refine nd_done ?_
        refine hK73 _ _ ?_
        clear hK73
        refine wp_ret ?_
        try simp only [Exit.then, Exit.inBlock]
        try rw [if_pos trivial]
        exact s_ret tabOk tabZ_ok h75 [(.tmp 4, {})] (vs := [.int .u8 14]) (φ := True) rfl (by kernel_rfl) trivial (by rw [show lineP S C ev = (S, 14) from (by unfold lineP; (try dsimp only); (first | rw [if_neg hc14f] | rw [if_neg (fun hz => hz hc14f)]); (first | rw [if_neg hc28f] | rw [if_neg (fun hz => hz hc28f)]); (first | rw [if_pos hc72f] | rw [if_pos (fun hz => hz hc72f)]))]; exact ⟨rfl, h75.kn (k := 0) rfl, h75.frame⟩)
      ·
        have hc72f : ¬ ((S.irq ev.arg.toNat).ntfn = (⟨0, 0⟩ : Rf)) := by simpa using hc72
        refine wp_seq_k fun K76 hK76 => ?_
        refine nd_start (l := [0, 1, 2, 3, 4, 5]) rfl ?_
        refine nd_batch tabOk tabZ_ok [(0, {}), (1, {}), (2, {}), (3, {k := 0, m := 1, vs := [.bool ((S.irq ev.arg.toNat).masked)]}), (4, {}), (5, {})] [3, 0, 1, 4, 5, 46] (T' := [(3, .pointer (some ⟨b2, 0, none⟩)), (0, .pointer (some ⟨kb, 0, none⟩)), (1, .agg #[.int .u8 ev.kind, .int .u32 ev.pick, .int .u64 ev.draw, .int .u32 ev.addr, .int .u32 ev.node, .int .u32 ev.dst, .int .u32 ev.xfer, .int .u8 ev.ty, .int .u64 ev.arg, .int .u64 ev.badge, .slice xo ev.ws.length cx]), (4, .int .u8 0), (5, .pointer (some ⟨kb, 6428 + (ev.arg.toNat * 4), none⟩)), (46, .bool (!((S.irq ev.arg.toNat).masked)))]) (φ := (kb = kb ∧ cellsAre (kC bo bc S) (6428 + (ev.arg.toNat * 4) + 3) [.bool ((S.irq ev.arg.toNat).masked)]) ∧ True) (rest := []) h71 (by kernel_rfl) rfl ⟨⟨rfl, (k_irq (i := ev.arg.toNat) (k := 3) (by omega) (by omega) ⟨rfl, trivial⟩)⟩, trivial⟩ fun a77 h78 => ?_
        clear h71
        refine nd_done ?_
        refine hK76 _ _ ?_
        clear hK76
        refine c_split h78 (b := !((S.irq ev.arg.toNat).masked)) rfl (fun hc79 => ?_) (fun hc79 => ?_)
        ·
          refine wp_seq_k fun K80 hK80 => ?_
          refine nd_start (l := [0]) rfl ?_
          refine nd_batch tabOk tabZ_ok [(0, {})] [3, 0, 1, 5, 4] (T' := [(3, .pointer (some ⟨b2, 0, none⟩)), (0, .pointer (some ⟨kb, 0, none⟩)), (1, .agg #[.int .u8 ev.kind, .int .u32 ev.pick, .int .u64 ev.draw, .int .u32 ev.addr, .int .u32 ev.node, .int .u32 ev.dst, .int .u32 ev.xfer, .int .u8 ev.ty, .int .u64 ev.arg, .int .u64 ev.badge, .slice xo ev.ws.length cx]), (5, .pointer (some ⟨kb, 6428 + (ev.arg.toNat * 4), none⟩)), (4, .int .u8 11)]) (φ := True) (rest := []) h78 (by kernel_rfl) rfl trivial fun a81 h82 => ?_
          clear h78
          refine nd_done ?_
          refine hK80 _ _ ?_
          clear hK80
          refine wp_ret ?_
          try simp only [Exit.then, Exit.inBlock]
          try rw [if_pos trivial]
          exact s_ret tabOk tabZ_ok h82 [(.tmp 4, {})] (vs := [.int .u8 11]) (φ := True) rfl (by kernel_rfl) trivial (by rw [show lineP S C ev = (S, 11) from (by unfold lineP; (try dsimp only); (first | rw [if_neg hc14f] | rw [if_neg (fun hz => hz hc14f)]); (first | rw [if_neg hc28f] | rw [if_neg (fun hz => hz hc28f)]); (first | rw [if_neg hc72f] | rw [if_neg (fun hz => hz hc72f)]); (first | rw [if_pos hc79] | rw [if_neg (fun hz => by rw [hz] at hc79; exact absurd hc79 (by decide))] | rw [if_neg (fun hz => by rw [hc79] at hz; exact absurd hz (by decide))] | rw [if_pos (by simpa using hc79)] | rw [if_neg (by simpa using hc79)]))]; exact ⟨rfl, h82.kn (k := 0) rfl, h82.frame⟩)
        ·
          refine wp_skip ?_
          refine hK68 _ _ ?_
          clear hK68
          refine wp_seq_k fun K83 hK83 => ?_
          refine nd_start (l := [0, 1, 2, 3]) rfl ?_
          refine nd_batch tabOk tabZ_ok [(0, {}), (1, {}), (2, {})] [3, 0, 1, 4, 5, 54] (T' := [(3, .pointer (some ⟨b2, 0, none⟩)), (0, .pointer (some ⟨kb, 0, none⟩)), (1, .agg #[.int .u8 ev.kind, .int .u32 ev.pick, .int .u64 ev.draw, .int .u32 ev.addr, .int .u32 ev.node, .int .u32 ev.dst, .int .u32 ev.xfer, .int .u8 ev.ty, .int .u64 ev.arg, .int .u64 ev.badge, .slice xo ev.ws.length cx]), (4, .int .u8 0), (5, .pointer (some ⟨kb, 6428 + (ev.arg.toNat * 4), none⟩)), (54, .pointer (some ⟨kb, 6428 + (ev.arg.toNat * 4) + 3, none⟩))]) (φ := True) (rest := [3]) h78 (by kernel_rfl) rfl trivial fun a84 h85 => ?_
          clear h78
          refine nd_op ?_
          refine op_store tabOk {k := 0, m := 1, vs := kC bo bc (S.setI ev.arg.toNat { S.irq ev.arg.toNat with masked := false })} (L' := [(kb, ⟨kC bo bc (S.setI ev.arg.toNat { S.irq ev.arg.toNat with masked := false }), 90, false⟩), (b2, ⟨[.int .u8 ev.kind, .int .u32 ev.pick, .int .u64 ev.draw, .int .u32 ev.addr, .int .u32 ev.node, .int .u32 ev.dst, .int .u32 ev.xfer, .int .u8 ev.ty, .int .u64 ev.arg, .int .u64 ev.badge, .slice xo ev.ws.length cx], 35, false⟩)]) (φ := kb = kb ∧ Nat.ble (6428 + (ev.arg.toNat * 4) + 3 + 1) (kC bo bc S).length = true ∧ splice (kC bo bc S) (6428 + (ev.arg.toNat * 4) + 3) [.bool false] = kC bo bc (S.setI ev.arg.toNat { S.irq ev.arg.toNat with masked := false })) h85 rfl rfl rfl (by kernel_rfl) ⟨rfl, k_in (by omega), (k_irq_w (i := ev.arg.toNat) (k := 3) (by omega) (Nat.le_of_ble_eq_true rfl) (by omega) rfl)⟩ fun w87 h88 => ?_
          obtain ⟨S86, eS86⟩ : ∃ S9, S9 = (S.setI ev.arg.toNat { S.irq ev.arg.toNat with masked := false }) := ⟨_, rfl⟩
          rw [← eS86] at h88
          have rS86 : RI S86 := by rw [eS86]; exact rS.setIrq (rS.irq (i := ev.arg.toNat) (by omega))
          clear h85
          refine nd_done ?_
          refine hK83 _ _ ?_
          clear hK83
          refine wp_seq_k fun K89 hK89 => ?_
          refine nd_start (l := [0]) rfl ?_
          refine nd_batch tabOk tabZ_ok [(0, {})] [3, 0, 1, 5, 4] (T' := [(3, .pointer (some ⟨b2, 0, none⟩)), (0, .pointer (some ⟨kb, 0, none⟩)), (1, .agg #[.int .u8 ev.kind, .int .u32 ev.pick, .int .u64 ev.draw, .int .u32 ev.addr, .int .u32 ev.node, .int .u32 ev.dst, .int .u32 ev.xfer, .int .u8 ev.ty, .int .u64 ev.arg, .int .u64 ev.badge, .slice xo ev.ws.length cx]), (5, .pointer (some ⟨kb, 6428 + (ev.arg.toNat * 4), none⟩)), (4, .int .u8 0)]) (φ := True) (rest := []) h88 (by kernel_rfl) rfl trivial fun a90 h91 => ?_
          clear h88
          refine nd_done ?_
          refine hK89 _ _ ?_
          clear hK89
          refine wp_ret ?_
          try simp only [Exit.then, Exit.inBlock]
          try rw [if_pos trivial]
          exact s_ret tabOk tabZ_ok h91 [(.tmp 4, {})] (vs := [.int .u8 0]) (φ := True) rfl (by kernel_rfl) trivial (by rw [show lineP S C ev = (S86, 0) from (by unfold lineP; (try dsimp only); (first | rw [if_neg hc14f] | rw [if_neg (fun hz => hz hc14f)]); (first | rw [if_neg hc28f] | rw [if_neg (fun hz => hz hc28f)]); (first | rw [if_neg hc72f] | rw [if_neg (fun hz => hz hc72f)]); (first | rw [if_pos hc79] | rw [if_neg (fun hz => by rw [hz] at hc79; exact absurd hc79 (by decide))] | rw [if_neg (fun hz => by rw [hc79] at hz; exact absurd hz (by decide))] | rw [if_pos (by simpa using hc79)] | rw [if_neg (by simpa using hc79)]); rw [← eS86])]; exact ⟨rfl, h91.kn (k := 0) rfl, h91.frame⟩)

end Go.Proofs.Qxb6500918aDoor
