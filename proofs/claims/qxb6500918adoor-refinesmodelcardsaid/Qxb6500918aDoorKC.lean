/-
  reply, copyCap. (Made by program: a symbolic walk that prints its steps.)
-/
import Derived.Test.Qxb6500918aDoorKB
namespace Go.Proofs.Qxb6500918aDoor
open Go.Sx Go.Kn
set_option maxRecDepth 100000
set_option maxHeartbeats 4000000
set_option linter.unusedVariables false
set_option linter.unusedSimpArgs false

theorem reply_ok (kb bo bc : Nat) (nd : Nat → Nat) (S : KP) (rS : RI S) (C : CP) (hcur : 0 ≤ S.cur ∧ S.cur < 256) (ev : Ev) (xo : Option Addr) (cx : Nat) (w : World) (hb : w.heap[kb]? = some (Blk.obj ⟨kC bo bc S, 90, false⟩)) (hc : CapAt w bo bc nd C) (hdkb : kb ∉ capF bo bc nd C) (hws : WordsAt [kb] w xo ev.ws) :
    Calls Tryd.prog 78 #[.pointer (some ⟨kb, 0, none⟩), .agg #[.int .u8 ev.kind, .int .u32 ev.pick, .int .u64 ev.draw, .int .u32 ev.addr, .int .u32 ev.node, .int .u32 ev.dst, .int .u32 ev.xfer, .int .u8 ev.ty, .int .u64 ev.arg, .int .u64 ev.badge, .slice xo ev.ws.length cx]] w fun e w' => e = .returned (.int .u8 (replyP S C ev).2) ∧ w'.heap[kb]? = some (Blk.obj ⟨kC bo bc (replyP S C ev).1, 90, false⟩) ∧ Fr [kb] w w' := by
  have hri := (rS.t (i := S.cur.toNat) (by omega)).ri
  have hne : kb ≠ bo := fun hq => hdkb (mem_capF.2 (.inl hq))
  refine enter (n := 93) (K := [kb]) (A := fun w => CapAt w bo bc nd C) (F := (capF bo bc nd C)) (T := [(0, .pointer (some ⟨kb, 0, none⟩)), (1, .agg #[.int .u8 ev.kind, .int .u32 ev.pick, .int .u64 ev.draw, .int .u32 ev.addr, .int .u32 ev.node, .int .u32 ev.dst, .int .u32 ev.xfer, .int .u8 ev.ty, .int .u64 ev.arg, .int .u64 ev.badge, .slice xo ev.ws.length cx])]) (L := [(kb, ⟨kC bo bc S, 90, false⟩)]) (args := [.pointer (some ⟨kb, 0, none⟩), .agg #[.int .u8 ev.kind, .int .u32 ev.pick, .int .u64 ev.draw, .int .u32 ev.addr, .int .u32 ev.node, .int .u32 ev.dst, .int .u32 ev.xfer, .int .u8 ev.ty, .int .u64 ev.arg, .int .u64 ev.badge, .slice xo ev.ws.length cx]]) Tryd.func78 rfl rfl rfl rfl (kcons hb knil) (by simp) (kcons (fun _ => by simp) knil) hc CapAt.stable hc.low (kcons (fun _ => hdkb) knil) ?_
  intro a h
  refine wp_seq_k fun K1 hK1 => ?_
  refine nd_start (l := [0, 1]) rfl ?_
  refine nd_op ?_
  refine op_new tabOk (cells := [.int .u8 ev.kind, .int .u32 ev.pick, .int .u64 ev.draw, .int .u32 ev.addr, .int .u32 ev.node, .int .u32 ev.dst, .int .u32 ev.xfer, .int .u8 ev.ty, .int .u64 ev.arg, .int .u64 ev.badge, .slice xo ev.ws.length cx]) (ty := 35) (ln := none) (L1 := fun b2 => [(kb, ⟨kC bo bc S, 90, false⟩), (b2, ⟨[.int .u8 ev.kind, .int .u32 ev.pick, .int .u64 ev.draw, .int .u32 ev.addr, .int .u32 ev.node, .int .u32 ev.dst, .int .u32 ev.xfer, .int .u8 ev.ty, .int .u64 ev.arg, .int .u64 ev.badge, .slice xo ev.ws.length cx], 35, false⟩)]) h rfl rfl rfl rfl (by kernel_rfl) (fun _ => rfl) fun b2 w3 a4 h5 hf6 hn7 => ?_
  clear h
  refine nd_batch tabOk tabZ_ok [(1, {})] [3, 0, 1, 4] (T' := [(3, .pointer (some ⟨b2, 0, none⟩)), (0, .pointer (some ⟨kb, 0, none⟩)), (1, .agg #[.int .u8 ev.kind, .int .u32 ev.pick, .int .u64 ev.draw, .int .u32 ev.addr, .int .u32 ev.node, .int .u32 ev.dst, .int .u32 ev.xfer, .int .u8 ev.ty, .int .u64 ev.arg, .int .u64 ev.badge, .slice xo ev.ws.length cx]), (4, .int .u8 0)]) (φ := True) (rest := []) h5 (by kernel_rfl) rfl trivial fun a8 h9 => ?_
  clear h5
  refine nd_done ?_
  refine hK1 _ _ ?_
  clear hK1
  refine wp_seq_k fun K10 hK10 => ?_
  refine dr_start (KB := [kb, b2]) (Bi := [[0, 1], [0, 1], [0, 1], [0, 1], [0, 1], [0, 1], [0, 1], [0, 1], [0, 1]]) mixed h9 fun w11 h12 => ?_
  clear h9
  refine dr_batch tabOk tabZ_ok (by repeat (first | with_reducible exact PF.body | with_reducible apply PF.inB | with_reducible apply PF.next)) [(0, {}), (1, {}), (2, {}), (3, {}), (4, {k := 0, m := 1, vs := [.int .i16 S.cur], p := 0}), (5, {}), (6, {}), (7, {}), (8, {})] [3, 0, 1, 4, 5] (T' := [(3, .pointer (some ⟨b2, 0, none⟩)), (0, .pointer (some ⟨kb, 0, none⟩)), (1, .agg #[.int .u8 ev.kind, .int .u32 ev.pick, .int .u64 ev.draw, .int .u32 ev.addr, .int .u32 ev.node, .int .u32 ev.dst, .int .u32 ev.xfer, .int .u8 ev.ty, .int .u64 ev.arg, .int .u64 ev.badge, .slice xo ev.ws.length cx]), (4, .int .u8 0), (5, .pointer (some ⟨kb, 2 + (S.cur.toNat * 21), none⟩))]) (φ := (kb = kb ∧ cellsAre (kC bo bc S) 6427 [.int .i16 S.cur]) ∧ (0 ≤ S.cur ∧ S.cur < 256) ∧ True) (fuel := 0) h12 (by kernel_rfl) rfl (by kernel_rfl) (by kernel_rfl) ⟨trivial, trivial, trivial, trivial, rfl, trivial, trivial, trivial, trivial, trivial⟩ ⟨⟨rfl, k_cur⟩, ⟨by omega, by omega⟩, trivial⟩ fun a14 h15 => ?_
  clear h12
  refine wpAnyK_done (by kernel_rfl) ?_ _
  refine hK10 _ _ ?_
  clear hK10
  refine wp_seq_k fun K16 hK16 => ?_
  refine wp_seq_k fun K17 hK17 => ?_
  refine nd_start (l := [0, 1, 2, 3, 4, 5, 6]) rfl ?_
  refine nd_batch tabOk tabZ_ok [(0, {}), (1, {}), (2, {}), (3, {}), (4, {k := 0, m := 1, vs := [.int .u16 ((S.tcb S.cur.toNat).rep.idx), .int .u32 ((S.tcb S.cur.toNat).rep.gen)]}), (5, {}), (6, {vs := [.bool (decide ((S.tcb S.cur.toNat).rep = (⟨0, 0⟩ : Rf)))]})] [3, 0, 1, 4, 5, 22] (T' := [(3, .pointer (some ⟨b2, 0, none⟩)), (0, .pointer (some ⟨kb, 0, none⟩)), (1, .agg #[.int .u8 ev.kind, .int .u32 ev.pick, .int .u64 ev.draw, .int .u32 ev.addr, .int .u32 ev.node, .int .u32 ev.dst, .int .u32 ev.xfer, .int .u8 ev.ty, .int .u64 ev.arg, .int .u64 ev.badge, .slice xo ev.ws.length cx]), (4, .int .u8 0), (5, .pointer (some ⟨kb, 2 + (S.cur.toNat * 21), none⟩)), (22, .bool (Bool.xor false (decide ((S.tcb S.cur.toNat).rep = (⟨0, 0⟩ : Rf)))))]) (φ := (kb = kb ∧ cellsAre (kC bo bc S) (2 + (S.cur.toNat * 21) + 6) [.int .u16 ((S.tcb S.cur.toNat).rep.idx), .int .u32 ((S.tcb S.cur.toNat).rep.gen)]) ∧ EqRun Tryd.prog 39 (.agg #[.int .u16 ((S.tcb S.cur.toNat).rep.idx), .int .u32 ((S.tcb S.cur.toNat).rep.gen)]) (.agg #[.int .u16 0, .int .u32 0]) (decide ((S.tcb S.cur.toNat).rep = (⟨0, 0⟩ : Rf))) ∧ True) (rest := []) h15 (by kernel_rfl) rfl ⟨⟨rfl, (k_tcb (i := S.cur.toNat) (k := 6) (by omega) (by omega) ⟨rfl, rfl, trivial⟩)⟩, (runRf ((S.tcb S.cur.toNat).rep) (⟨0, 0⟩ : Rf)), trivial⟩ fun a18 h19 => ?_
  clear h15
  refine nd_done ?_
  refine hK17 _ _ ?_
  clear hK17
  refine c_split h19 (b := (Bool.xor false (decide ((S.tcb S.cur.toNat).rep = (⟨0, 0⟩ : Rf))))) rfl (fun hc20 => ?_) (fun hc20 => ?_)
  ·
    have hc20f : (S.tcb S.cur.toNat).rep = (⟨0, 0⟩ : Rf) := by simpa using hc20
    refine wp_seq_k fun K21 hK21 => ?_
    refine nd_start (l := [0]) rfl ?_
    refine nd_batch tabOk tabZ_ok [(0, {})] [3, 0, 1, 5, 4] (T' := [(3, .pointer (some ⟨b2, 0, none⟩)), (0, .pointer (some ⟨kb, 0, none⟩)), (1, .agg #[.int .u8 ev.kind, .int .u32 ev.pick, .int .u64 ev.draw, .int .u32 ev.addr, .int .u32 ev.node, .int .u32 ev.dst, .int .u32 ev.xfer, .int .u8 ev.ty, .int .u64 ev.arg, .int .u64 ev.badge, .slice xo ev.ws.length cx]), (5, .pointer (some ⟨kb, 2 + (S.cur.toNat * 21), none⟩)), (4, .int .u8 12)]) (φ := True) (rest := []) h19 (by kernel_rfl) rfl trivial fun a22 h23 => ?_
    clear h19
    refine nd_done ?_
    refine hK21 _ _ ?_
    clear hK21
    refine wp_ret ?_
    try simp only [Exit.then, Exit.inBlock]
    try rw [if_pos trivial]
    exact s_ret tabOk tabZ_ok h23 [(.tmp 4, {})] (vs := [.int .u8 12]) (φ := True) rfl (by kernel_rfl) trivial (by rw [show replyP S C ev = (S, 12) from (by unfold replyP; (try dsimp only); (first | rw [if_pos hc20f] | rw [if_pos (fun hz => hz hc20f)]))]; exact ⟨rfl, h23.kn (k := 0) rfl, h23.frame⟩)
  ·
    have hc20f : ¬ ((S.tcb S.cur.toNat).rep = (⟨0, 0⟩ : Rf)) := by simpa using hc20
    refine wp_skip ?_
    refine hK16 _ _ ?_
    clear hK16
    refine wp_seq_k fun K24 hK24 => ?_
    refine wp_seq_k fun K25 hK25 => ?_
    refine nd_start (l := [0, 1, 2, 3]) rfl ?_
    refine nd_batch tabOk tabZ_ok [(0, {}), (1, {k := 1}), (2, {}), (3, {})] [3, 0, 1, 4, 5, 26] (T' := [(3, .pointer (some ⟨b2, 0, none⟩)), (0, .pointer (some ⟨kb, 0, none⟩)), (1, .agg #[.int .u8 ev.kind, .int .u32 ev.pick, .int .u64 ev.draw, .int .u32 ev.addr, .int .u32 ev.node, .int .u32 ev.dst, .int .u32 ev.xfer, .int .u8 ev.ty, .int .u64 ev.arg, .int .u64 ev.badge, .slice xo ev.ws.length cx]), (4, .int .u8 0), (5, .pointer (some ⟨kb, 2 + (S.cur.toNat * 21), none⟩)), (26, .bool (decide (((ev.ws.length : Nat) : Int) > 4)))]) (φ := (b2 = b2 ∧ Nat.ble (10 + 1) 11 = true) ∧ True) (rest := []) h19 (by kernel_rfl) rfl ⟨⟨rfl, rfl⟩, trivial⟩ fun a26 h27 => ?_
    clear h19
    refine nd_done ?_
    refine hK25 _ _ ?_
    clear hK25
    refine c_split h27 (b := decide (((ev.ws.length : Nat) : Int) > 4)) rfl (fun hc28 => ?_) (fun hc28 => ?_)
    ·
      have hc28f : ((ev.ws.length : Nat) : Int) > 4 := by simpa using hc28
      refine wp_seq_k fun K29 hK29 => ?_
      refine nd_start (l := [0]) rfl ?_
      refine nd_batch tabOk tabZ_ok [(0, {})] [3, 0, 1, 5, 4] (T' := [(3, .pointer (some ⟨b2, 0, none⟩)), (0, .pointer (some ⟨kb, 0, none⟩)), (1, .agg #[.int .u8 ev.kind, .int .u32 ev.pick, .int .u64 ev.draw, .int .u32 ev.addr, .int .u32 ev.node, .int .u32 ev.dst, .int .u32 ev.xfer, .int .u8 ev.ty, .int .u64 ev.arg, .int .u64 ev.badge, .slice xo ev.ws.length cx]), (5, .pointer (some ⟨kb, 2 + (S.cur.toNat * 21), none⟩)), (4, .int .u8 8)]) (φ := True) (rest := []) h27 (by kernel_rfl) rfl trivial fun a30 h31 => ?_
      clear h27
      refine nd_done ?_
      refine hK29 _ _ ?_
      clear hK29
      refine wp_ret ?_
      try simp only [Exit.then, Exit.inBlock]
      try rw [if_pos trivial]
      exact s_ret tabOk tabZ_ok h31 [(.tmp 4, {})] (vs := [.int .u8 8]) (φ := True) rfl (by kernel_rfl) trivial (by rw [show replyP S C ev = (S, 8) from (by unfold replyP; (try dsimp only); (first | rw [if_neg hc20f] | rw [if_neg (fun hz => hz hc20f)]); (first | rw [if_pos hc28f] | rw [if_pos (fun hz => hz hc28f)]))]; exact ⟨rfl, h31.kn (k := 0) rfl, h31.frame⟩)
    ·
      have hc28f : ¬ ((ev.ws.length : Nat) : Int) > 4 := by simpa using hc28
      refine wp_skip ?_
      refine hK24 _ _ ?_
      clear hK24
      refine wp_seq_k fun K32 hK32 => ?_
      refine nd_start (l := [0, 1, 2, 3, 4, 5, 6, 7]) rfl ?_
      refine nd_batch tabOk tabZ_ok [(0, {}), (1, {}), (2, {}), (3, {}), (4, {}), (5, {k := 0, m := 1, vs := [.int .u16 ((S.tcb S.cur.toNat).rep.idx)]}), (6, {}), (7, {})] [3, 0, 1, 4, 5, 6] (T' := [(3, .pointer (some ⟨b2, 0, none⟩)), (0, .pointer (some ⟨kb, 0, none⟩)), (1, .agg #[.int .u8 ev.kind, .int .u32 ev.pick, .int .u64 ev.draw, .int .u32 ev.addr, .int .u32 ev.node, .int .u32 ev.dst, .int .u32 ev.xfer, .int .u8 ev.ty, .int .u64 ev.arg, .int .u64 ev.badge, .slice xo ev.ws.length cx]), (4, .int .u8 0), (5, .pointer (some ⟨kb, 2 + (S.cur.toNat * 21), none⟩)), (6, .int .i16 ((S.tcb S.cur.toNat).rep.idx))]) (φ := (kb = kb ∧ cellsAre (kC bo bc S) (2 + (S.cur.toNat * 21) + 6) [.int .u16 ((S.tcb S.cur.toNat).rep.idx)]) ∧ inR .i16 ((S.tcb S.cur.toNat).rep.idx) ∧ True) (rest := []) h27 (by kernel_rfl) rfl ⟨⟨rfl, (k_tcb (i := S.cur.toNat) (k := 6) (by omega) (by omega) ⟨rfl, trivial⟩)⟩, ⟨by omega, by omega⟩, trivial⟩ fun a33 h34 => ?_
      clear h27
      refine nd_done ?_
      refine hK32 _ _ ?_
      clear hK32
      refine wp_seq_k fun K35 hK35 => ?_
      refine nd_start (l := [0, 1, 2, 3, 4, 5]) rfl ?_
      refine nd_batch tabOk tabZ_ok [(0, {}), (1, {}), (2, {}), (3, {}), (4, {}), (5, {})] [3, 0, 1, 4, 5, 6, 7] (T' := [(3, .pointer (some ⟨b2, 0, none⟩)), (0, .pointer (some ⟨kb, 0, none⟩)), (1, .agg #[.int .u8 ev.kind, .int .u32 ev.pick, .int .u64 ev.draw, .int .u32 ev.addr, .int .u32 ev.node, .int .u32 ev.dst, .int .u32 ev.xfer, .int .u8 ev.ty, .int .u64 ev.arg, .int .u64 ev.badge, .slice xo ev.ws.length cx]), (4, .int .u8 0), (5, .pointer (some ⟨kb, 2 + (S.cur.toNat * 21), none⟩)), (6, .int .i16 ((S.tcb S.cur.toNat).rep.idx)), (7, .pointer (some ⟨kb, 2 + ((((S.tcb S.cur.toNat).rep.idx).toNat) * 21), none⟩))]) (φ := (0 ≤ ((S.tcb S.cur.toNat).rep.idx) ∧ ((S.tcb S.cur.toNat).rep.idx) < 256) ∧ True) (rest := []) h34 (by kernel_rfl) rfl ⟨⟨by omega, by omega⟩, trivial⟩ fun a36 h37 => ?_
      clear h34
      refine nd_done ?_
      refine hK35 _ _ ?_
      clear hK35
      refine wp_seq_k fun K38 hK38 => ?_
      refine wp_seq_k fun K39 hK39 => ?_
      rcases Bool.eq_false_or_eq_true (((typeOfP C.ent (S.tcb S.cur.toNat).rep) != 3)) with hb40 | hb40
      ·
        have hb40f : (typeOfP C.ent (S.tcb S.cur.toNat).rep) ≠ 3 := by simpa using hb40
        refine dr_start (KB := [kb, b2]) (Bi := [[0, 1], [0, 1], [0, 1], [0, 1], [0, 1], [0, 1], [0, 1], [0, 1], [0, 1], [], [0, 1], [0, 1], [0, 1], [0, 1], [0, 1], [0, 1], [0, 1], [0, 1], [0, 1], [0, 1], [0, 1], [0, 1], [0, 1], [0, 1], [0, 1], [0, 1], [0, 1], [0, 1], [0, 1], [0, 1], [0], [0, 1], [0, 1]]) mixed h37 fun w41 h42 => ?_
        clear h37
        refine dr_batch tabOk tabZ_ok (by repeat (first | with_reducible exact PF.body | with_reducible apply PF.inB | with_reducible apply PF.next)) [(0, {}), (1, {}), (2, {}), (3, {k := 0, m := 1, vs := [.pointer (some ⟨bo, 0, none⟩)], p := 0}), (4, {}), (5, {}), (6, {}), (7, {}), (8, {k := 0, m := 1, vs := [.int .u16 ((S.tcb S.cur.toNat).rep.idx), .int .u32 ((S.tcb S.cur.toNat).rep.gen)], p := 0})] [3, 0, 1, 4, 5, 6, 7, 42, 47] (T' := [(3, .pointer (some ⟨b2, 0, none⟩)), (0, .pointer (some ⟨kb, 0, none⟩)), (1, .agg #[.int .u8 ev.kind, .int .u32 ev.pick, .int .u64 ev.draw, .int .u32 ev.addr, .int .u32 ev.node, .int .u32 ev.dst, .int .u32 ev.xfer, .int .u8 ev.ty, .int .u64 ev.arg, .int .u64 ev.badge, .slice xo ev.ws.length cx]), (4, .int .u8 0), (5, .pointer (some ⟨kb, 2 + (S.cur.toNat * 21), none⟩)), (6, .int .i16 ((S.tcb S.cur.toNat).rep.idx)), (7, .pointer (some ⟨kb, 2 + ((((S.tcb S.cur.toNat).rep.idx).toNat) * 21), none⟩)), (42, .pointer (some ⟨bo, 0, none⟩)), (47, .agg #[.int .u16 ((S.tcb S.cur.toNat).rep.idx), .int .u32 ((S.tcb S.cur.toNat).rep.gen)])]) (φ := (kb = kb ∧ cellsAre (kC bo bc S) 0 [.pointer (some ⟨bo, 0, none⟩)]) ∧ (kb = kb ∧ cellsAre (kC bo bc S) (2 + (S.cur.toNat * 21) + 6) [.int .u16 ((S.tcb S.cur.toNat).rep.idx), .int .u32 ((S.tcb S.cur.toNat).rep.gen)]) ∧ True) (fuel := 24) h42 (by kernel_rfl) rfl (by kernel_rfl) (by kernel_rfl) ⟨trivial, trivial, trivial, rfl, trivial, trivial, trivial, trivial, rfl, trivial⟩ ⟨⟨rfl, k_objs⟩, ⟨rfl, (k_tcb (i := S.cur.toNat) (k := 6) (by omega) (by omega) ⟨rfl, rfl, trivial⟩)⟩, trivial⟩ fun a44 h45 => ?_
        clear h42
        refine wpAnyK_one (i := 9) (fuel := 23) (by kernel_rfl) ?_
        refine op_call h45 rfl rfl rfl (callOk Tryd.func53 (by decide) rfl) (args := [.pointer (some ⟨bo, 0, none⟩), .agg #[.int .u16 ((S.tcb S.cur.toNat).rep.idx), .int .u32 ((S.tcb S.cur.toNat).rep.gen)]]) rfl (typeOf_ok bo C.ent (S.tcb S.cur.toNat).rep ⟨hri.1, by omega⟩ _ h45.inv.st) ?_
        rintro _ w46 ⟨rfl, hf48⟩
        refine ⟨_, rfl, ?_⟩
        have h47 := (h45.grow hf48).put (d := some 48) (v := .int .u8 (typeOfP C.ent (S.tcb S.cur.toNat).rep)) (T' := [(48, .int .u8 (typeOfP C.ent (S.tcb S.cur.toNat).rep)), (3, .pointer (some ⟨b2, 0, none⟩)), (0, .pointer (some ⟨kb, 0, none⟩)), (1, .agg #[.int .u8 ev.kind, .int .u32 ev.pick, .int .u64 ev.draw, .int .u32 ev.addr, .int .u32 ev.node, .int .u32 ev.dst, .int .u32 ev.xfer, .int .u8 ev.ty, .int .u64 ev.arg, .int .u64 ev.badge, .slice xo ev.ws.length cx]), (4, .int .u8 0), (5, .pointer (some ⟨kb, 2 + (S.cur.toNat * 21), none⟩)), (6, .int .i16 ((S.tcb S.cur.toNat).rep.idx)), (7, .pointer (some ⟨kb, 2 + ((((S.tcb S.cur.toNat).rep.idx).toNat) * 21), none⟩)), (42, .pointer (some ⟨bo, 0, none⟩)), (47, .agg #[.int .u16 ((S.tcb S.cur.toNat).rep.idx), .int .u32 ((S.tcb S.cur.toNat).rep.gen)])]) rfl
        refine ⟨keepNil, ?_⟩
        clear h45
        refine dr_batch tabOk tabZ_ok (by repeat (first | with_reducible exact PF.body | with_reducible apply PF.inB | with_reducible apply PF.next)) [(10, {f := 2}), (11, {}), (12, {}), (13, {}), (14, {}), (15, {}), (16, {k := 0, p := 0}), (17, {}), (18, {}), (19, {}), (20, {}), (21, {}), (22, {}), (23, {}), (24, {k := 0, p := 0}), (25, {}), (26, {}), (27, {}), (28, {}), (29, {k := 0, p := 0})] [3, 0, 1, 4, 5, 6, 7, 58, 63, 64, 68] (T' := [(3, .pointer (some ⟨b2, 0, none⟩)), (0, .pointer (some ⟨kb, 0, none⟩)), (1, .agg #[.int .u8 ev.kind, .int .u32 ev.pick, .int .u64 ev.draw, .int .u32 ev.addr, .int .u32 ev.node, .int .u32 ev.dst, .int .u32 ev.xfer, .int .u8 ev.ty, .int .u64 ev.arg, .int .u64 ev.badge, .slice xo ev.ws.length cx]), (4, .int .u8 0), (5, .pointer (some ⟨kb, 2 + (S.cur.toNat * 21), none⟩)), (6, .int .i16 ((S.tcb S.cur.toNat).rep.idx)), (7, .pointer (some ⟨kb, 2 + ((((S.tcb S.cur.toNat).rep.idx).toNat) * 21), none⟩)), (58, .bool true), (63, .tuple #[]), (64, .tuple #[]), (68, .tuple #[])]) (φ := (((typeOfP C.ent (S.tcb S.cur.toNat).rep) != 3)) = true ∧ True) (fuel := 3) h47 (by kernel_rfl) rfl (by kernel_rfl) (by kernel_rfl) ⟨trivial, trivial, trivial, trivial, trivial, trivial, rfl, trivial, trivial, trivial, trivial, trivial, trivial, trivial, rfl, trivial, trivial, trivial, trivial, rfl, trivial⟩ ⟨hb40, trivial⟩ fun a49 h50 => ?_
        clear h47
        refine dr_batch tabOk tabZ_ok (by repeat (first | with_reducible exact PF.body | with_reducible apply PF.inB | with_reducible apply PF.next)) [(30, {})] [3, 0, 1, 4, 5, 6, 7, 58, 63, 69] (T' := [(3, .pointer (some ⟨b2, 0, none⟩)), (0, .pointer (some ⟨kb, 0, none⟩)), (1, .agg #[.int .u8 ev.kind, .int .u32 ev.pick, .int .u64 ev.draw, .int .u32 ev.addr, .int .u32 ev.node, .int .u32 ev.dst, .int .u32 ev.xfer, .int .u8 ev.ty, .int .u64 ev.arg, .int .u64 ev.badge, .slice xo ev.ws.length cx]), (4, .int .u8 0), (5, .pointer (some ⟨kb, 2 + (S.cur.toNat * 21), none⟩)), (6, .int .i16 ((S.tcb S.cur.toNat).rep.idx)), (7, .pointer (some ⟨kb, 2 + ((((S.tcb S.cur.toNat).rep.idx).toNat) * 21), none⟩)), (58, .bool true), (63, .tuple #[]), (69, .tuple #[])]) (φ := True) (fuel := 2) h50 (by kernel_rfl) rfl (by kernel_rfl) (by kernel_rfl) ⟨trivial, trivial⟩ trivial fun a51 h52 => ?_
        clear h50
        refine dr_batch tabOk tabZ_ok (by repeat (first | with_reducible exact PF.body | with_reducible apply PF.inB | with_reducible apply PF.next)) [(31, {}), (32, {})] [3, 0, 1, 4, 5, 6, 7, 71] (T' := [(3, .pointer (some ⟨b2, 0, none⟩)), (0, .pointer (some ⟨kb, 0, none⟩)), (1, .agg #[.int .u8 ev.kind, .int .u32 ev.pick, .int .u64 ev.draw, .int .u32 ev.addr, .int .u32 ev.node, .int .u32 ev.dst, .int .u32 ev.xfer, .int .u8 ev.ty, .int .u64 ev.arg, .int .u64 ev.badge, .slice xo ev.ws.length cx]), (4, .int .u8 0), (5, .pointer (some ⟨kb, 2 + (S.cur.toNat * 21), none⟩)), (6, .int .i16 ((S.tcb S.cur.toNat).rep.idx)), (7, .pointer (some ⟨kb, 2 + ((((S.tcb S.cur.toNat).rep.idx).toNat) * 21), none⟩)), (71, .bool true)]) (φ := True) (fuel := 0) h52 (by kernel_rfl) rfl (by kernel_rfl) (by kernel_rfl) ⟨trivial, trivial, trivial⟩ trivial fun a53 h54 => ?_
        clear h52
        refine wpAnyK_done (by kernel_rfl) ?_ _
        refine hK39 _ _ ?_
        clear hK39
        refine c_true h54 rfl ?_
        refine wp_seq_k fun K55 hK55 => ?_
        refine nd_start (l := [0]) rfl ?_
        refine nd_batch tabOk tabZ_ok [(0, {})] [3, 0, 1, 5, 6, 7, 4] (T' := [(3, .pointer (some ⟨b2, 0, none⟩)), (0, .pointer (some ⟨kb, 0, none⟩)), (1, .agg #[.int .u8 ev.kind, .int .u32 ev.pick, .int .u64 ev.draw, .int .u32 ev.addr, .int .u32 ev.node, .int .u32 ev.dst, .int .u32 ev.xfer, .int .u8 ev.ty, .int .u64 ev.arg, .int .u64 ev.badge, .slice xo ev.ws.length cx]), (5, .pointer (some ⟨kb, 2 + (S.cur.toNat * 21), none⟩)), (6, .int .i16 ((S.tcb S.cur.toNat).rep.idx)), (7, .pointer (some ⟨kb, 2 + ((((S.tcb S.cur.toNat).rep.idx).toNat) * 21), none⟩)), (4, .int .u8 13)]) (φ := True) (rest := []) h54 (by kernel_rfl) rfl trivial fun a56 h57 => ?_
        clear h54
        refine nd_done ?_
        refine hK55 _ _ ?_
        clear hK55
        refine wp_ret ?_
        try simp only [Exit.then, Exit.inBlock]
        try rw [if_pos trivial]
        exact s_ret tabOk tabZ_ok h57 [(.tmp 4, {})] (vs := [.int .u8 13]) (φ := True) rfl (by kernel_rfl) trivial (by rw [show replyP S C ev = (S, 13) from (by unfold replyP; (try dsimp only); (first | rw [if_neg hc20f] | rw [if_neg (fun hz => hz hc20f)]); (first | rw [if_neg hc28f] | rw [if_neg (fun hz => hz hc28f)]); rw [if_pos (.inl hb40f)])]; exact ⟨rfl, h57.kn (k := 0) rfl, h57.frame⟩)
      ·
        have hb40f : (typeOfP C.ent (S.tcb S.cur.toNat).rep) = 3 := by simpa using hb40
        rcases Bool.eq_false_or_eq_true (((S.tcb (((S.tcb S.cur.toNat).rep.idx).toNat)).st != 6)) with hb58 | hb58
        ·
          have hb58f : (S.tcb (((S.tcb S.cur.toNat).rep.idx).toNat)).st ≠ 6 := by simpa using hb58
          refine dr_start (KB := [kb, b2]) (Bi := [[0, 1], [0, 1], [0, 1], [0, 1], [0, 1], [0, 1], [0, 1], [0, 1], [0, 1], [], [0, 1], [0, 1], [0, 1], [0, 1], [0, 1], [0, 1], [0, 1], [0, 1], [0, 1], [0, 1], [0, 1], [0, 1], [0, 1], [0, 1], [0, 1], [0, 1], [0, 1], [0, 1], [0, 1], [0, 1], [0], [0, 1], [0, 1]]) mixed h37 fun w59 h60 => ?_
          clear h37
          refine dr_batch tabOk tabZ_ok (by repeat (first | with_reducible exact PF.body | with_reducible apply PF.inB | with_reducible apply PF.next)) [(0, {}), (1, {}), (2, {}), (3, {k := 0, m := 1, vs := [.pointer (some ⟨bo, 0, none⟩)], p := 0}), (4, {}), (5, {}), (6, {}), (7, {}), (8, {k := 0, m := 1, vs := [.int .u16 ((S.tcb S.cur.toNat).rep.idx), .int .u32 ((S.tcb S.cur.toNat).rep.gen)], p := 0})] [3, 0, 1, 4, 5, 6, 7, 42, 47] (T' := [(3, .pointer (some ⟨b2, 0, none⟩)), (0, .pointer (some ⟨kb, 0, none⟩)), (1, .agg #[.int .u8 ev.kind, .int .u32 ev.pick, .int .u64 ev.draw, .int .u32 ev.addr, .int .u32 ev.node, .int .u32 ev.dst, .int .u32 ev.xfer, .int .u8 ev.ty, .int .u64 ev.arg, .int .u64 ev.badge, .slice xo ev.ws.length cx]), (4, .int .u8 0), (5, .pointer (some ⟨kb, 2 + (S.cur.toNat * 21), none⟩)), (6, .int .i16 ((S.tcb S.cur.toNat).rep.idx)), (7, .pointer (some ⟨kb, 2 + ((((S.tcb S.cur.toNat).rep.idx).toNat) * 21), none⟩)), (42, .pointer (some ⟨bo, 0, none⟩)), (47, .agg #[.int .u16 ((S.tcb S.cur.toNat).rep.idx), .int .u32 ((S.tcb S.cur.toNat).rep.gen)])]) (φ := (kb = kb ∧ cellsAre (kC bo bc S) 0 [.pointer (some ⟨bo, 0, none⟩)]) ∧ (kb = kb ∧ cellsAre (kC bo bc S) (2 + (S.cur.toNat * 21) + 6) [.int .u16 ((S.tcb S.cur.toNat).rep.idx), .int .u32 ((S.tcb S.cur.toNat).rep.gen)]) ∧ True) (fuel := 24) h60 (by kernel_rfl) rfl (by kernel_rfl) (by kernel_rfl) ⟨trivial, trivial, trivial, rfl, trivial, trivial, trivial, trivial, rfl, trivial⟩ ⟨⟨rfl, k_objs⟩, ⟨rfl, (k_tcb (i := S.cur.toNat) (k := 6) (by omega) (by omega) ⟨rfl, rfl, trivial⟩)⟩, trivial⟩ fun a62 h63 => ?_
          clear h60
          refine wpAnyK_one (i := 9) (fuel := 23) (by kernel_rfl) ?_
          refine op_call h63 rfl rfl rfl (callOk Tryd.func53 (by decide) rfl) (args := [.pointer (some ⟨bo, 0, none⟩), .agg #[.int .u16 ((S.tcb S.cur.toNat).rep.idx), .int .u32 ((S.tcb S.cur.toNat).rep.gen)]]) rfl (typeOf_ok bo C.ent (S.tcb S.cur.toNat).rep ⟨hri.1, by omega⟩ _ h63.inv.st) ?_
          rintro _ w64 ⟨rfl, hf66⟩
          refine ⟨_, rfl, ?_⟩
          have h65 := (h63.grow hf66).put (d := some 48) (v := .int .u8 (typeOfP C.ent (S.tcb S.cur.toNat).rep)) (T' := [(48, .int .u8 (typeOfP C.ent (S.tcb S.cur.toNat).rep)), (3, .pointer (some ⟨b2, 0, none⟩)), (0, .pointer (some ⟨kb, 0, none⟩)), (1, .agg #[.int .u8 ev.kind, .int .u32 ev.pick, .int .u64 ev.draw, .int .u32 ev.addr, .int .u32 ev.node, .int .u32 ev.dst, .int .u32 ev.xfer, .int .u8 ev.ty, .int .u64 ev.arg, .int .u64 ev.badge, .slice xo ev.ws.length cx]), (4, .int .u8 0), (5, .pointer (some ⟨kb, 2 + (S.cur.toNat * 21), none⟩)), (6, .int .i16 ((S.tcb S.cur.toNat).rep.idx)), (7, .pointer (some ⟨kb, 2 + ((((S.tcb S.cur.toNat).rep.idx).toNat) * 21), none⟩)), (42, .pointer (some ⟨bo, 0, none⟩)), (47, .agg #[.int .u16 ((S.tcb S.cur.toNat).rep.idx), .int .u32 ((S.tcb S.cur.toNat).rep.gen)])]) rfl
          refine ⟨keepNil, ?_⟩
          clear h63
          refine dr_batch tabOk tabZ_ok (by repeat (first | with_reducible exact PF.body | with_reducible apply PF.inB | with_reducible apply PF.next)) [(10, {f := 1}), (11, {}), (12, {}), (13, {}), (14, {}), (15, {}), (16, {k := 0, m := 1, vs := [.int .u8 ((S.tcb (((S.tcb S.cur.toNat).rep.idx).toNat)).st)], p := 0}), (17, {f := 2}), (18, {}), (19, {}), (20, {}), (21, {}), (22, {}), (23, {}), (24, {k := 0, p := 0}), (25, {}), (26, {}), (27, {}), (28, {}), (29, {k := 0, p := 0})] [3, 0, 1, 4, 5, 6, 7, 58, 63, 64, 68] (T' := [(3, .pointer (some ⟨b2, 0, none⟩)), (0, .pointer (some ⟨kb, 0, none⟩)), (1, .agg #[.int .u8 ev.kind, .int .u32 ev.pick, .int .u64 ev.draw, .int .u32 ev.addr, .int .u32 ev.node, .int .u32 ev.dst, .int .u32 ev.xfer, .int .u8 ev.ty, .int .u64 ev.arg, .int .u64 ev.badge, .slice xo ev.ws.length cx]), (4, .int .u8 0), (5, .pointer (some ⟨kb, 2 + (S.cur.toNat * 21), none⟩)), (6, .int .i16 ((S.tcb S.cur.toNat).rep.idx)), (7, .pointer (some ⟨kb, 2 + ((((S.tcb S.cur.toNat).rep.idx).toNat) * 21), none⟩)), (58, .bool true), (63, .tuple #[]), (64, .tuple #[]), (68, .tuple #[])]) (φ := (((typeOfP C.ent (S.tcb S.cur.toNat).rep) != 3)) = false ∧ (kb = kb ∧ cellsAre (kC bo bc S) (2 + ((((S.tcb S.cur.toNat).rep.idx).toNat) * 21)) [.int .u8 ((S.tcb (((S.tcb S.cur.toNat).rep.idx).toNat)).st)]) ∧ (((S.tcb (((S.tcb S.cur.toNat).rep.idx).toNat)).st != 6)) = true ∧ True) (fuel := 3) h65 (by kernel_rfl) rfl (by kernel_rfl) (by kernel_rfl) ⟨trivial, trivial, trivial, trivial, trivial, trivial, rfl, trivial, trivial, trivial, trivial, trivial, trivial, trivial, rfl, trivial, trivial, trivial, trivial, rfl, trivial⟩ ⟨hb40, ⟨rfl, (k_tcb (i := (((S.tcb S.cur.toNat).rep.idx).toNat)) (k := 0) (by omega) (by omega) ⟨rfl, trivial⟩)⟩, hb58, trivial⟩ fun a67 h68 => ?_
          clear h65
          refine dr_batch tabOk tabZ_ok (by repeat (first | with_reducible exact PF.body | with_reducible apply PF.inB | with_reducible apply PF.next)) [(30, {})] [3, 0, 1, 4, 5, 6, 7, 58, 63, 69] (T' := [(3, .pointer (some ⟨b2, 0, none⟩)), (0, .pointer (some ⟨kb, 0, none⟩)), (1, .agg #[.int .u8 ev.kind, .int .u32 ev.pick, .int .u64 ev.draw, .int .u32 ev.addr, .int .u32 ev.node, .int .u32 ev.dst, .int .u32 ev.xfer, .int .u8 ev.ty, .int .u64 ev.arg, .int .u64 ev.badge, .slice xo ev.ws.length cx]), (4, .int .u8 0), (5, .pointer (some ⟨kb, 2 + (S.cur.toNat * 21), none⟩)), (6, .int .i16 ((S.tcb S.cur.toNat).rep.idx)), (7, .pointer (some ⟨kb, 2 + ((((S.tcb S.cur.toNat).rep.idx).toNat) * 21), none⟩)), (58, .bool true), (63, .tuple #[]), (69, .tuple #[])]) (φ := True) (fuel := 2) h68 (by kernel_rfl) rfl (by kernel_rfl) (by kernel_rfl) ⟨trivial, trivial⟩ trivial fun a69 h70 => ?_
          clear h68
          refine dr_batch tabOk tabZ_ok (by repeat (first | with_reducible exact PF.body | with_reducible apply PF.inB | with_reducible apply PF.next)) [(31, {}), (32, {})] [3, 0, 1, 4, 5, 6, 7, 71] (T' := [(3, .pointer (some ⟨b2, 0, none⟩)), (0, .pointer (some ⟨kb, 0, none⟩)), (1, .agg #[.int .u8 ev.kind, .int .u32 ev.pick, .int .u64 ev.draw, .int .u32 ev.addr, .int .u32 ev.node, .int .u32 ev.dst, .int .u32 ev.xfer, .int .u8 ev.ty, .int .u64 ev.arg, .int .u64 ev.badge, .slice xo ev.ws.length cx]), (4, .int .u8 0), (5, .pointer (some ⟨kb, 2 + (S.cur.toNat * 21), none⟩)), (6, .int .i16 ((S.tcb S.cur.toNat).rep.idx)), (7, .pointer (some ⟨kb, 2 + ((((S.tcb S.cur.toNat).rep.idx).toNat) * 21), none⟩)), (71, .bool true)]) (φ := True) (fuel := 0) h70 (by kernel_rfl) rfl (by kernel_rfl) (by kernel_rfl) ⟨trivial, trivial, trivial⟩ trivial fun a71 h72 => ?_
          clear h70
          refine wpAnyK_done (by kernel_rfl) ?_ _
          refine hK39 _ _ ?_
          clear hK39
          refine c_true h72 rfl ?_
          refine wp_seq_k fun K73 hK73 => ?_
          refine nd_start (l := [0]) rfl ?_
          refine nd_batch tabOk tabZ_ok [(0, {})] [3, 0, 1, 5, 6, 7, 4] (T' := [(3, .pointer (some ⟨b2, 0, none⟩)), (0, .pointer (some ⟨kb, 0, none⟩)), (1, .agg #[.int .u8 ev.kind, .int .u32 ev.pick, .int .u64 ev.draw, .int .u32 ev.addr, .int .u32 ev.node, .int .u32 ev.dst, .int .u32 ev.xfer, .int .u8 ev.ty, .int .u64 ev.arg, .int .u64 ev.badge, .slice xo ev.ws.length cx]), (5, .pointer (some ⟨kb, 2 + (S.cur.toNat * 21), none⟩)), (6, .int .i16 ((S.tcb S.cur.toNat).rep.idx)), (7, .pointer (some ⟨kb, 2 + ((((S.tcb S.cur.toNat).rep.idx).toNat) * 21), none⟩)), (4, .int .u8 13)]) (φ := True) (rest := []) h72 (by kernel_rfl) rfl trivial fun a74 h75 => ?_
          clear h72
          refine nd_done ?_
          refine hK73 _ _ ?_
          clear hK73
          refine wp_ret ?_
          try simp only [Exit.then, Exit.inBlock]
          try rw [if_pos trivial]
          exact s_ret tabOk tabZ_ok h75 [(.tmp 4, {})] (vs := [.int .u8 13]) (φ := True) rfl (by kernel_rfl) trivial (by rw [show replyP S C ev = (S, 13) from (by unfold replyP; (try dsimp only); (first | rw [if_neg hc20f] | rw [if_neg (fun hz => hz hc20f)]); (first | rw [if_neg hc28f] | rw [if_neg (fun hz => hz hc28f)]); rw [if_pos (.inr (.inl hb58f))])]; exact ⟨rfl, h75.kn (k := 0) rfl, h75.frame⟩)
        ·
          have hb58f : (S.tcb (((S.tcb S.cur.toNat).rep.idx).toNat)).st = 6 := by simpa using hb58
          refine dr_start (KB := [kb, b2]) (Bi := [[0, 1], [0, 1], [0, 1], [0, 1], [0, 1], [0, 1], [0, 1], [0, 1], [0, 1], [], [0, 1], [0, 1], [0, 1], [0, 1], [0, 1], [0, 1], [0, 1], [0, 1], [0, 1], [0, 1], [0, 1], [0, 1], [0, 1], [0, 1], [0, 1], [0, 1], [0, 1], [0, 1], [0, 1], [0, 1], [0], [0, 1], [0, 1]]) mixed h37 fun w76 h77 => ?_
          clear h37
          refine dr_batch tabOk tabZ_ok (by repeat (first | with_reducible exact PF.body | with_reducible apply PF.inB | with_reducible apply PF.next)) [(0, {}), (1, {}), (2, {}), (3, {k := 0, m := 1, vs := [.pointer (some ⟨bo, 0, none⟩)], p := 0}), (4, {}), (5, {}), (6, {}), (7, {}), (8, {k := 0, m := 1, vs := [.int .u16 ((S.tcb S.cur.toNat).rep.idx), .int .u32 ((S.tcb S.cur.toNat).rep.gen)], p := 0})] [3, 0, 1, 4, 5, 6, 7, 42, 47] (T' := [(3, .pointer (some ⟨b2, 0, none⟩)), (0, .pointer (some ⟨kb, 0, none⟩)), (1, .agg #[.int .u8 ev.kind, .int .u32 ev.pick, .int .u64 ev.draw, .int .u32 ev.addr, .int .u32 ev.node, .int .u32 ev.dst, .int .u32 ev.xfer, .int .u8 ev.ty, .int .u64 ev.arg, .int .u64 ev.badge, .slice xo ev.ws.length cx]), (4, .int .u8 0), (5, .pointer (some ⟨kb, 2 + (S.cur.toNat * 21), none⟩)), (6, .int .i16 ((S.tcb S.cur.toNat).rep.idx)), (7, .pointer (some ⟨kb, 2 + ((((S.tcb S.cur.toNat).rep.idx).toNat) * 21), none⟩)), (42, .pointer (some ⟨bo, 0, none⟩)), (47, .agg #[.int .u16 ((S.tcb S.cur.toNat).rep.idx), .int .u32 ((S.tcb S.cur.toNat).rep.gen)])]) (φ := (kb = kb ∧ cellsAre (kC bo bc S) 0 [.pointer (some ⟨bo, 0, none⟩)]) ∧ (kb = kb ∧ cellsAre (kC bo bc S) (2 + (S.cur.toNat * 21) + 6) [.int .u16 ((S.tcb S.cur.toNat).rep.idx), .int .u32 ((S.tcb S.cur.toNat).rep.gen)]) ∧ True) (fuel := 24) h77 (by kernel_rfl) rfl (by kernel_rfl) (by kernel_rfl) ⟨trivial, trivial, trivial, rfl, trivial, trivial, trivial, trivial, rfl, trivial⟩ ⟨⟨rfl, k_objs⟩, ⟨rfl, (k_tcb (i := S.cur.toNat) (k := 6) (by omega) (by omega) ⟨rfl, rfl, trivial⟩)⟩, trivial⟩ fun a79 h80 => ?_
          clear h77
          refine wpAnyK_one (i := 9) (fuel := 23) (by kernel_rfl) ?_
          refine op_call h80 rfl rfl rfl (callOk Tryd.func53 (by decide) rfl) (args := [.pointer (some ⟨bo, 0, none⟩), .agg #[.int .u16 ((S.tcb S.cur.toNat).rep.idx), .int .u32 ((S.tcb S.cur.toNat).rep.gen)]]) rfl (typeOf_ok bo C.ent (S.tcb S.cur.toNat).rep ⟨hri.1, by omega⟩ _ h80.inv.st) ?_
          rintro _ w81 ⟨rfl, hf83⟩
          refine ⟨_, rfl, ?_⟩
          have h82 := (h80.grow hf83).put (d := some 48) (v := .int .u8 (typeOfP C.ent (S.tcb S.cur.toNat).rep)) (T' := [(48, .int .u8 (typeOfP C.ent (S.tcb S.cur.toNat).rep)), (3, .pointer (some ⟨b2, 0, none⟩)), (0, .pointer (some ⟨kb, 0, none⟩)), (1, .agg #[.int .u8 ev.kind, .int .u32 ev.pick, .int .u64 ev.draw, .int .u32 ev.addr, .int .u32 ev.node, .int .u32 ev.dst, .int .u32 ev.xfer, .int .u8 ev.ty, .int .u64 ev.arg, .int .u64 ev.badge, .slice xo ev.ws.length cx]), (4, .int .u8 0), (5, .pointer (some ⟨kb, 2 + (S.cur.toNat * 21), none⟩)), (6, .int .i16 ((S.tcb S.cur.toNat).rep.idx)), (7, .pointer (some ⟨kb, 2 + ((((S.tcb S.cur.toNat).rep.idx).toNat) * 21), none⟩)), (42, .pointer (some ⟨bo, 0, none⟩)), (47, .agg #[.int .u16 ((S.tcb S.cur.toNat).rep.idx), .int .u32 ((S.tcb S.cur.toNat).rep.gen)])]) rfl
          refine ⟨keepNil, ?_⟩
          clear h80
          refine dr_batch tabOk tabZ_ok (by repeat (first | with_reducible exact PF.body | with_reducible apply PF.inB | with_reducible apply PF.next)) [(10, {f := 1}), (11, {}), (12, {}), (13, {}), (14, {}), (15, {}), (16, {k := 0, m := 1, vs := [.int .u8 ((S.tcb (((S.tcb S.cur.toNat).rep.idx).toNat)).st)], p := 0}), (17, {f := 1}), (18, {}), (19, {}), (20, {}), (21, {}), (22, {}), (23, {}), (24, {k := 0, m := 1, vs := [.int .u16 ((S.tcb (((S.tcb S.cur.toNat).rep.idx).toNat)).wait.idx), .int .u32 ((S.tcb (((S.tcb S.cur.toNat).rep.idx).toNat)).wait.gen)], p := 0}), (25, {}), (26, {}), (27, {}), (28, {}), (29, {k := 0, m := 1, vs := [.int .i16 S.cur], p := 0})] [3, 0, 1, 4, 5, 6, 7, 58, 63, 64, 68] (T' := [(3, .pointer (some ⟨b2, 0, none⟩)), (0, .pointer (some ⟨kb, 0, none⟩)), (1, .agg #[.int .u8 ev.kind, .int .u32 ev.pick, .int .u64 ev.draw, .int .u32 ev.addr, .int .u32 ev.node, .int .u32 ev.dst, .int .u32 ev.xfer, .int .u8 ev.ty, .int .u64 ev.arg, .int .u64 ev.badge, .slice xo ev.ws.length cx]), (4, .int .u8 0), (5, .pointer (some ⟨kb, 2 + (S.cur.toNat * 21), none⟩)), (6, .int .i16 ((S.tcb S.cur.toNat).rep.idx)), (7, .pointer (some ⟨kb, 2 + ((((S.tcb S.cur.toNat).rep.idx).toNat) * 21), none⟩)), (58, .bool false), (63, .agg #[.int .u16 ((S.tcb (((S.tcb S.cur.toNat).rep.idx).toNat)).wait.idx), .int .u32 ((S.tcb (((S.tcb S.cur.toNat).rep.idx).toNat)).wait.gen)]), (64, .pointer (some ⟨kb, 0, none⟩)), (68, .int .i16 S.cur)]) (φ := (((typeOfP C.ent (S.tcb S.cur.toNat).rep) != 3)) = false ∧ (kb = kb ∧ cellsAre (kC bo bc S) (2 + ((((S.tcb S.cur.toNat).rep.idx).toNat) * 21)) [.int .u8 ((S.tcb (((S.tcb S.cur.toNat).rep.idx).toNat)).st)]) ∧ (((S.tcb (((S.tcb S.cur.toNat).rep.idx).toNat)).st != 6)) = false ∧ (kb = kb ∧ cellsAre (kC bo bc S) (2 + ((((S.tcb S.cur.toNat).rep.idx).toNat) * 21) + 2) [.int .u16 ((S.tcb (((S.tcb S.cur.toNat).rep.idx).toNat)).wait.idx), .int .u32 ((S.tcb (((S.tcb S.cur.toNat).rep.idx).toNat)).wait.gen)]) ∧ (kb = kb ∧ cellsAre (kC bo bc S) 6427 [.int .i16 S.cur]) ∧ True) (fuel := 3) h82 (by kernel_rfl) rfl (by kernel_rfl) (by kernel_rfl) ⟨trivial, trivial, trivial, trivial, trivial, trivial, rfl, trivial, trivial, trivial, trivial, trivial, trivial, trivial, rfl, trivial, trivial, trivial, trivial, rfl, trivial⟩ ⟨hb40, ⟨rfl, (k_tcb (i := (((S.tcb S.cur.toNat).rep.idx).toNat)) (k := 0) (by omega) (by omega) ⟨rfl, trivial⟩)⟩, hb58, ⟨rfl, (k_tcb (i := (((S.tcb S.cur.toNat).rep.idx).toNat)) (k := 2) (by omega) (by omega) ⟨rfl, rfl, trivial⟩)⟩, ⟨rfl, k_cur⟩, trivial⟩ fun a84 h85 => ?_
          clear h82
          refine wpAnyK_one (i := 30) (fuel := 2) (by kernel_rfl) ?_
          refine op_call h85 rfl rfl rfl (callOk Tryd.func51 (by decide) rfl) (args := [.pointer (some ⟨kb, 0, none⟩), .int .i16 S.cur]) rfl (ref_ok kb bo bc S C.ent S.cur (.inr hcur) _ (h85.kn (k := 0) (blk := ⟨kC bo bc S, 90, false⟩) rfl) h85.inv.st hne) ?_
          rintro _ w86 ⟨rfl, hf88⟩
          refine ⟨_, rfl, ?_⟩
          have h87 := (h85.grow hf88).put (d := some 69) (v := .agg #[.int .u16 ((refP C.ent S.cur).idx), .int .u32 ((refP C.ent S.cur).gen)]) (T' := [(69, .agg #[.int .u16 ((refP C.ent S.cur).idx), .int .u32 ((refP C.ent S.cur).gen)]), (3, .pointer (some ⟨b2, 0, none⟩)), (0, .pointer (some ⟨kb, 0, none⟩)), (1, .agg #[.int .u8 ev.kind, .int .u32 ev.pick, .int .u64 ev.draw, .int .u32 ev.addr, .int .u32 ev.node, .int .u32 ev.dst, .int .u32 ev.xfer, .int .u8 ev.ty, .int .u64 ev.arg, .int .u64 ev.badge, .slice xo ev.ws.length cx]), (4, .int .u8 0), (5, .pointer (some ⟨kb, 2 + (S.cur.toNat * 21), none⟩)), (6, .int .i16 ((S.tcb S.cur.toNat).rep.idx)), (7, .pointer (some ⟨kb, 2 + ((((S.tcb S.cur.toNat).rep.idx).toNat) * 21), none⟩)), (58, .bool false), (63, .agg #[.int .u16 ((S.tcb (((S.tcb S.cur.toNat).rep.idx).toNat)).wait.idx), .int .u32 ((S.tcb (((S.tcb S.cur.toNat).rep.idx).toNat)).wait.gen)]), (64, .pointer (some ⟨kb, 0, none⟩)), (68, .int .i16 S.cur)]) rfl
          refine ⟨(h85.keepFr hf88 (kcons (by simp) knil)), ?_⟩
          clear h85
          refine dr_batch tabOk tabZ_ok (by repeat (first | with_reducible exact PF.body | with_reducible apply PF.inB | with_reducible apply PF.next)) [(31, {vs := [.bool (decide ((S.tcb (((S.tcb S.cur.toNat).rep.idx).toNat)).wait = (refP C.ent S.cur)))]}), (32, {})] [3, 0, 1, 4, 5, 6, 7, 71] (T' := [(3, .pointer (some ⟨b2, 0, none⟩)), (0, .pointer (some ⟨kb, 0, none⟩)), (1, .agg #[.int .u8 ev.kind, .int .u32 ev.pick, .int .u64 ev.draw, .int .u32 ev.addr, .int .u32 ev.node, .int .u32 ev.dst, .int .u32 ev.xfer, .int .u8 ev.ty, .int .u64 ev.arg, .int .u64 ev.badge, .slice xo ev.ws.length cx]), (4, .int .u8 0), (5, .pointer (some ⟨kb, 2 + (S.cur.toNat * 21), none⟩)), (6, .int .i16 ((S.tcb S.cur.toNat).rep.idx)), (7, .pointer (some ⟨kb, 2 + ((((S.tcb S.cur.toNat).rep.idx).toNat) * 21), none⟩)), (71, .bool (Bool.xor true (decide ((S.tcb (((S.tcb S.cur.toNat).rep.idx).toNat)).wait = (refP C.ent S.cur)))))]) (φ := EqRun Tryd.prog 39 (.agg #[.int .u16 ((S.tcb (((S.tcb S.cur.toNat).rep.idx).toNat)).wait.idx), .int .u32 ((S.tcb (((S.tcb S.cur.toNat).rep.idx).toNat)).wait.gen)]) (.agg #[.int .u16 ((refP C.ent S.cur).idx), .int .u32 ((refP C.ent S.cur).gen)]) (decide ((S.tcb (((S.tcb S.cur.toNat).rep.idx).toNat)).wait = (refP C.ent S.cur))) ∧ True) (fuel := 0) h87 (by kernel_rfl) rfl (by kernel_rfl) (by kernel_rfl) ⟨trivial, trivial, trivial⟩ ⟨(runRf ((S.tcb (((S.tcb S.cur.toNat).rep.idx).toNat)).wait) (refP C.ent S.cur)), trivial⟩ fun a89 h90 => ?_
          clear h87
          refine wpAnyK_done (by kernel_rfl) ?_ _
          refine hK39 _ _ ?_
          clear hK39
          refine c_split h90 (b := (Bool.xor true (decide ((S.tcb (((S.tcb S.cur.toNat).rep.idx).toNat)).wait = (refP C.ent S.cur))))) rfl (fun hc91 => ?_) (fun hc91 => ?_)
          ·
            have hc91f : ¬ ((S.tcb (((S.tcb S.cur.toNat).rep.idx).toNat)).wait = (refP C.ent S.cur)) := by simpa using hc91
            refine wp_seq_k fun K92 hK92 => ?_
            refine nd_start (l := [0]) rfl ?_
            refine nd_batch tabOk tabZ_ok [(0, {})] [3, 0, 1, 5, 6, 7, 4] (T' := [(3, .pointer (some ⟨b2, 0, none⟩)), (0, .pointer (some ⟨kb, 0, none⟩)), (1, .agg #[.int .u8 ev.kind, .int .u32 ev.pick, .int .u64 ev.draw, .int .u32 ev.addr, .int .u32 ev.node, .int .u32 ev.dst, .int .u32 ev.xfer, .int .u8 ev.ty, .int .u64 ev.arg, .int .u64 ev.badge, .slice xo ev.ws.length cx]), (5, .pointer (some ⟨kb, 2 + (S.cur.toNat * 21), none⟩)), (6, .int .i16 ((S.tcb S.cur.toNat).rep.idx)), (7, .pointer (some ⟨kb, 2 + ((((S.tcb S.cur.toNat).rep.idx).toNat) * 21), none⟩)), (4, .int .u8 13)]) (φ := True) (rest := []) h90 (by kernel_rfl) rfl trivial fun a93 h94 => ?_
            clear h90
            refine nd_done ?_
            refine hK92 _ _ ?_
            clear hK92
            refine wp_ret ?_
            try simp only [Exit.then, Exit.inBlock]
            try rw [if_pos trivial]
            exact s_ret tabOk tabZ_ok h94 [(.tmp 4, {})] (vs := [.int .u8 13]) (φ := True) rfl (by kernel_rfl) trivial (by rw [show replyP S C ev = (S, 13) from (by unfold replyP; (try dsimp only); (first | rw [if_neg hc20f] | rw [if_neg (fun hz => hz hc20f)]); (first | rw [if_neg hc28f] | rw [if_neg (fun hz => hz hc28f)]); rw [if_pos (.inr (.inr hc91f))])]; exact ⟨rfl, h94.kn (k := 0) rfl, h94.frame⟩)
          ·
            have hc91f : (S.tcb (((S.tcb S.cur.toNat).rep.idx).toNat)).wait = (refP C.ent S.cur) := by simpa using hc91
            refine wp_skip ?_
            refine hK38 _ _ ?_
            clear hK38
            refine wp_seq_k fun K95 hK95 => ?_
            refine nd_start (l := [0, 1, 2, 3, 4]) rfl ?_
            refine nd_batch tabOk tabZ_ok [(0, {}), (1, {}), (2, {}), (3, {k := 1})] [3, 0, 1, 4, 5, 6, 7, 72, 73, 75] (T' := [(3, .pointer (some ⟨b2, 0, none⟩)), (0, .pointer (some ⟨kb, 0, none⟩)), (1, .agg #[.int .u8 ev.kind, .int .u32 ev.pick, .int .u64 ev.draw, .int .u32 ev.addr, .int .u32 ev.node, .int .u32 ev.dst, .int .u32 ev.xfer, .int .u8 ev.ty, .int .u64 ev.arg, .int .u64 ev.badge, .slice xo ev.ws.length cx]), (4, .int .u8 0), (5, .pointer (some ⟨kb, 2 + (S.cur.toNat * 21), none⟩)), (6, .int .i16 ((S.tcb S.cur.toNat).rep.idx)), (7, .pointer (some ⟨kb, 2 + ((((S.tcb S.cur.toNat).rep.idx).toNat) * 21), none⟩)), (72, .pointer (some ⟨kb, 0, none⟩)), (73, .int .i16 ((S.tcb S.cur.toNat).rep.idx)), (75, .slice xo ev.ws.length cx)]) (φ := (b2 = b2 ∧ Nat.ble (10 + 1) 11 = true) ∧ True) (rest := [4]) h90 (by kernel_rfl) rfl ⟨⟨rfl, rfl⟩, trivial⟩ fun a96 h97 => ?_
            clear h90
            refine nd_op ?_
            refine op_call h97 rfl rfl rfl (callOk Tryd.func102 (by decide) rfl) (args := [.pointer (some ⟨kb, 0, none⟩), .int .i16 ((S.tcb S.cur.toNat).rep.idx), .slice xo ev.ws.length cx]) rfl (load_ok kb bo bc S rS ((S.tcb S.cur.toNat).rep.idx) hri xo cx ev.ws (by omega) _ (h97.kn (k := 0) rfl) ((hws.fr h97.frame).mono (fun _ hb => hb))) ?_
            rintro _ w101 ⟨rfl, hb99, hf100⟩
            refine ⟨_, rfl, ?_⟩
            obtain ⟨S98, eS98⟩ : ∃ S9, S9 = loadP S ((S.tcb S.cur.toNat).rep.idx) ev.ws := ⟨_, rfl⟩
            rw [← eS98] at hb99
            have rS98 : RI S98 := by rw [eS98]; exact load_RI rS hri ev.ws
            have h102 := (h97.setBlk (k := 0) rfl rfl hf100 hb99 (L' := [(kb, ⟨kC bo bc S98, 90, false⟩), (b2, ⟨[.int .u8 ev.kind, .int .u32 ev.pick, .int .u64 ev.draw, .int .u32 ev.addr, .int .u32 ev.node, .int .u32 ev.dst, .int .u32 ev.xfer, .int .u8 ev.ty, .int .u64 ev.arg, .int .u64 ev.badge, .slice xo ev.ws.length cx], 35, false⟩)]) rfl).put (d := some 76) (v := .tuple #[]) (T' := [(76, .tuple #[]), (3, .pointer (some ⟨b2, 0, none⟩)), (0, .pointer (some ⟨kb, 0, none⟩)), (1, .agg #[.int .u8 ev.kind, .int .u32 ev.pick, .int .u64 ev.draw, .int .u32 ev.addr, .int .u32 ev.node, .int .u32 ev.dst, .int .u32 ev.xfer, .int .u8 ev.ty, .int .u64 ev.arg, .int .u64 ev.badge, .slice xo ev.ws.length cx]), (4, .int .u8 0), (5, .pointer (some ⟨kb, 2 + (S.cur.toNat * 21), none⟩)), (6, .int .i16 ((S.tcb S.cur.toNat).rep.idx)), (7, .pointer (some ⟨kb, 2 + ((((S.tcb S.cur.toNat).rep.idx).toNat) * 21), none⟩)), (72, .pointer (some ⟨kb, 0, none⟩)), (73, .int .i16 ((S.tcb S.cur.toNat).rep.idx)), (75, .slice xo ev.ws.length cx)]) rfl
            clear h97
            refine nd_done ?_
            refine hK95 _ _ ?_
            clear hK95
            refine wp_seq_k fun K103 hK103 => ?_
            refine nd_start (l := [0, 1, 2, 3, 4, 5, 6, 7, 8, 9]) rfl ?_
            refine nd_batch tabOk tabZ_ok [(0, {}), (1, {}), (2, {}), (3, {}), (4, {})] [3, 0, 1, 4, 5, 6, 7, 78, 81] (T' := [(3, .pointer (some ⟨b2, 0, none⟩)), (0, .pointer (some ⟨kb, 0, none⟩)), (1, .agg #[.int .u8 ev.kind, .int .u32 ev.pick, .int .u64 ev.draw, .int .u32 ev.addr, .int .u32 ev.node, .int .u32 ev.dst, .int .u32 ev.xfer, .int .u8 ev.ty, .int .u64 ev.arg, .int .u64 ev.badge, .slice xo ev.ws.length cx]), (4, .int .u8 0), (5, .pointer (some ⟨kb, 2 + (S.cur.toNat * 21), none⟩)), (6, .int .i16 ((S.tcb S.cur.toNat).rep.idx)), (7, .pointer (some ⟨kb, 2 + ((((S.tcb S.cur.toNat).rep.idx).toNat) * 21), none⟩)), (78, .pointer (some ⟨kb, 2 + ((((S.tcb S.cur.toNat).rep.idx).toNat) * 21), none⟩)), (81, .pointer (some ⟨kb, 2 + ((((S.tcb S.cur.toNat).rep.idx).toNat) * 21) + 8, none⟩))]) (φ := True) (rest := [5, 6, 7, 8, 9]) h102 (by kernel_rfl) rfl trivial fun a104 h105 => ?_
            clear h102
            refine nd_op ?_
            refine op_store tabOk {k := 0, m := 1, vs := kC bo bc (S98.setT (((S.tcb S.cur.toNat).rep.idx).toNat) { S98.tcb (((S.tcb S.cur.toNat).rep.idx).toNat) with badge := 0 })} (L' := [(kb, ⟨kC bo bc (S98.setT (((S.tcb S.cur.toNat).rep.idx).toNat) { S98.tcb (((S.tcb S.cur.toNat).rep.idx).toNat) with badge := 0 }), 90, false⟩), (b2, ⟨[.int .u8 ev.kind, .int .u32 ev.pick, .int .u64 ev.draw, .int .u32 ev.addr, .int .u32 ev.node, .int .u32 ev.dst, .int .u32 ev.xfer, .int .u8 ev.ty, .int .u64 ev.arg, .int .u64 ev.badge, .slice xo ev.ws.length cx], 35, false⟩)]) (φ := kb = kb ∧ Nat.ble (2 + ((((S.tcb S.cur.toNat).rep.idx).toNat) * 21) + 8 + 1) (kC bo bc S98).length = true ∧ splice (kC bo bc S98) (2 + ((((S.tcb S.cur.toNat).rep.idx).toNat) * 21) + 8) [.int .u64 0] = kC bo bc (S98.setT (((S.tcb S.cur.toNat).rep.idx).toNat) { S98.tcb (((S.tcb S.cur.toNat).rep.idx).toNat) with badge := 0 })) h105 rfl rfl rfl (by kernel_rfl) ⟨rfl, k_in (by omega), (k_tcb_w (i := (((S.tcb S.cur.toNat).rep.idx).toNat)) (k := 8) (by omega) (Nat.le_of_ble_eq_true rfl) (by omega) rfl)⟩ fun w107 h108 => ?_
            obtain ⟨S106, eS106⟩ : ∃ S9, S9 = (S98.setT (((S.tcb S.cur.toNat).rep.idx).toNat) { S98.tcb (((S.tcb S.cur.toNat).rep.idx).toNat) with badge := 0 }) := ⟨_, rfl⟩
            rw [← eS106] at h108
            have rS106 : RI S106 := by rw [eS106]; exact rS98.setT ⟨(rS98.t (i := (((S.tcb S.cur.toNat).rep.idx).toNat)) (by omega)).nx, (rS98.t (i := (((S.tcb S.cur.toNat).rep.idx).toNat)) (by omega)).pv, (rS98.t (i := (((S.tcb S.cur.toNat).rep.idx).toNat)) (by omega)).pr, (rS98.t (i := (((S.tcb S.cur.toNat).rep.idx).toNat)) (by omega)).wi, (rS98.t (i := (((S.tcb S.cur.toNat).rep.idx).toNat)) (by omega)).ci, (rS98.t (i := (((S.tcb S.cur.toNat).rep.idx).toNat)) (by omega)).ri, (rS98.t (i := (((S.tcb S.cur.toNat).rep.idx).toNat)) (by omega)).ds⟩
            clear h105
            refine nd_batch tabOk tabZ_ok [(6, {}), (7, {}), (8, {})] [3, 0, 1, 4, 5, 6, 7, 84] (T' := [(3, .pointer (some ⟨b2, 0, none⟩)), (0, .pointer (some ⟨kb, 0, none⟩)), (1, .agg #[.int .u8 ev.kind, .int .u32 ev.pick, .int .u64 ev.draw, .int .u32 ev.addr, .int .u32 ev.node, .int .u32 ev.dst, .int .u32 ev.xfer, .int .u8 ev.ty, .int .u64 ev.arg, .int .u64 ev.badge, .slice xo ev.ws.length cx]), (4, .int .u8 0), (5, .pointer (some ⟨kb, 2 + (S.cur.toNat * 21), none⟩)), (6, .int .i16 ((S.tcb S.cur.toNat).rep.idx)), (7, .pointer (some ⟨kb, 2 + ((((S.tcb S.cur.toNat).rep.idx).toNat) * 21), none⟩)), (84, .pointer (some ⟨kb, 2 + ((((S.tcb S.cur.toNat).rep.idx).toNat) * 21) + 14, none⟩))]) (φ := True) (rest := [9]) h108 (by kernel_rfl) rfl trivial fun a109 h110 => ?_
            clear h108
            refine nd_op ?_
            refine op_store tabOk {k := 0, m := 1, vs := kC bo bc (S106.setT (((S.tcb S.cur.toNat).rep.idx).toNat) { S106.tcb (((S.tcb S.cur.toNat).rep.idx).toNat) with got := 0 })} (L' := [(kb, ⟨kC bo bc (S106.setT (((S.tcb S.cur.toNat).rep.idx).toNat) { S106.tcb (((S.tcb S.cur.toNat).rep.idx).toNat) with got := 0 }), 90, false⟩), (b2, ⟨[.int .u8 ev.kind, .int .u32 ev.pick, .int .u64 ev.draw, .int .u32 ev.addr, .int .u32 ev.node, .int .u32 ev.dst, .int .u32 ev.xfer, .int .u8 ev.ty, .int .u64 ev.arg, .int .u64 ev.badge, .slice xo ev.ws.length cx], 35, false⟩)]) (φ := kb = kb ∧ Nat.ble (2 + ((((S.tcb S.cur.toNat).rep.idx).toNat) * 21) + 14 + 1) (kC bo bc S106).length = true ∧ splice (kC bo bc S106) (2 + ((((S.tcb S.cur.toNat).rep.idx).toNat) * 21) + 14) [.int .u8 0] = kC bo bc (S106.setT (((S.tcb S.cur.toNat).rep.idx).toNat) { S106.tcb (((S.tcb S.cur.toNat).rep.idx).toNat) with got := 0 })) h110 rfl rfl rfl (by kernel_rfl) ⟨rfl, k_in (by omega), (k_tcb_w (i := (((S.tcb S.cur.toNat).rep.idx).toNat)) (k := 14) (by omega) (Nat.le_of_ble_eq_true rfl) (by omega) rfl)⟩ fun w112 h113 => ?_
            obtain ⟨S111, eS111⟩ : ∃ S9, S9 = (S106.setT (((S.tcb S.cur.toNat).rep.idx).toNat) { S106.tcb (((S.tcb S.cur.toNat).rep.idx).toNat) with got := 0 }) := ⟨_, rfl⟩
            rw [← eS111] at h113
            have rS111 : RI S111 := by rw [eS111]; exact rS106.setT ⟨(rS106.t (i := (((S.tcb S.cur.toNat).rep.idx).toNat)) (by omega)).nx, (rS106.t (i := (((S.tcb S.cur.toNat).rep.idx).toNat)) (by omega)).pv, (rS106.t (i := (((S.tcb S.cur.toNat).rep.idx).toNat)) (by omega)).pr, (rS106.t (i := (((S.tcb S.cur.toNat).rep.idx).toNat)) (by omega)).wi, (rS106.t (i := (((S.tcb S.cur.toNat).rep.idx).toNat)) (by omega)).ci, (rS106.t (i := (((S.tcb S.cur.toNat).rep.idx).toNat)) (by omega)).ri, (rS106.t (i := (((S.tcb S.cur.toNat).rep.idx).toNat)) (by omega)).ds⟩
            clear h110
            refine nd_done ?_
            refine hK103 _ _ ?_
            clear hK103
            refine wp_seq_k fun K114 hK114 => ?_
            refine nd_start (l := [0, 1, 2]) rfl ?_
            refine nd_batch tabOk tabZ_ok [(0, {}), (1, {})] [3, 0, 1, 4, 5, 6, 7, 85, 86] (T' := [(3, .pointer (some ⟨b2, 0, none⟩)), (0, .pointer (some ⟨kb, 0, none⟩)), (1, .agg #[.int .u8 ev.kind, .int .u32 ev.pick, .int .u64 ev.draw, .int .u32 ev.addr, .int .u32 ev.node, .int .u32 ev.dst, .int .u32 ev.xfer, .int .u8 ev.ty, .int .u64 ev.arg, .int .u64 ev.badge, .slice xo ev.ws.length cx]), (4, .int .u8 0), (5, .pointer (some ⟨kb, 2 + (S.cur.toNat * 21), none⟩)), (6, .int .i16 ((S.tcb S.cur.toNat).rep.idx)), (7, .pointer (some ⟨kb, 2 + ((((S.tcb S.cur.toNat).rep.idx).toNat) * 21), none⟩)), (85, .pointer (some ⟨kb, 0, none⟩)), (86, .int .i16 ((S.tcb S.cur.toNat).rep.idx))]) (φ := True) (rest := [2]) h113 (by kernel_rfl) rfl trivial fun a115 h116 => ?_
            clear h113
            refine nd_op ?_
            refine op_call h116 rfl rfl rfl (callOk Tryd.func47 (by decide) rfl) (args := [.pointer (some ⟨kb, 0, none⟩), .int .i16 ((S.tcb S.cur.toNat).rep.idx)]) rfl (wake_ok kb bo bc S111 rS111 ((S.tcb S.cur.toNat).rep.idx) hri _ (h116.kn (k := 0) rfl)) ?_
            rintro _ w120 ⟨rfl, hb118, hf119⟩
            refine ⟨_, rfl, ?_⟩
            obtain ⟨S117, eS117⟩ : ∃ S9, S9 = wakeP S111 ((S.tcb S.cur.toNat).rep.idx) := ⟨_, rfl⟩
            rw [← eS117] at hb118
            have rS117 : RI S117 := by rw [eS117]; exact wake_RI rS111 hri
            have h121 := (h116.setBlk (k := 0) rfl rfl hf119 hb118 (L' := [(kb, ⟨kC bo bc S117, 90, false⟩), (b2, ⟨[.int .u8 ev.kind, .int .u32 ev.pick, .int .u64 ev.draw, .int .u32 ev.addr, .int .u32 ev.node, .int .u32 ev.dst, .int .u32 ev.xfer, .int .u8 ev.ty, .int .u64 ev.arg, .int .u64 ev.badge, .slice xo ev.ws.length cx], 35, false⟩)]) rfl).put (d := some 87) (v := .tuple #[]) (T' := [(87, .tuple #[]), (3, .pointer (some ⟨b2, 0, none⟩)), (0, .pointer (some ⟨kb, 0, none⟩)), (1, .agg #[.int .u8 ev.kind, .int .u32 ev.pick, .int .u64 ev.draw, .int .u32 ev.addr, .int .u32 ev.node, .int .u32 ev.dst, .int .u32 ev.xfer, .int .u8 ev.ty, .int .u64 ev.arg, .int .u64 ev.badge, .slice xo ev.ws.length cx]), (4, .int .u8 0), (5, .pointer (some ⟨kb, 2 + (S.cur.toNat * 21), none⟩)), (6, .int .i16 ((S.tcb S.cur.toNat).rep.idx)), (7, .pointer (some ⟨kb, 2 + ((((S.tcb S.cur.toNat).rep.idx).toNat) * 21), none⟩)), (85, .pointer (some ⟨kb, 0, none⟩)), (86, .int .i16 ((S.tcb S.cur.toNat).rep.idx))]) rfl
            clear h116
            refine nd_done ?_
            refine hK114 _ _ ?_
            clear hK114
            refine wp_seq_k fun K122 hK122 => ?_
            refine nd_start (l := [0, 1, 2, 3, 4, 5]) rfl ?_
            refine nd_batch tabOk tabZ_ok [(0, {}), (1, {}), (2, {}), (3, {}), (4, {})] [3, 0, 1, 4, 5, 6, 7, 89, 92] (T' := [(3, .pointer (some ⟨b2, 0, none⟩)), (0, .pointer (some ⟨kb, 0, none⟩)), (1, .agg #[.int .u8 ev.kind, .int .u32 ev.pick, .int .u64 ev.draw, .int .u32 ev.addr, .int .u32 ev.node, .int .u32 ev.dst, .int .u32 ev.xfer, .int .u8 ev.ty, .int .u64 ev.arg, .int .u64 ev.badge, .slice xo ev.ws.length cx]), (4, .int .u8 0), (5, .pointer (some ⟨kb, 2 + (S.cur.toNat * 21), none⟩)), (6, .int .i16 ((S.tcb S.cur.toNat).rep.idx)), (7, .pointer (some ⟨kb, 2 + ((((S.tcb S.cur.toNat).rep.idx).toNat) * 21), none⟩)), (89, .agg #[.int .u16 0, .int .u32 0]), (92, .pointer (some ⟨kb, 2 + (S.cur.toNat * 21) + 6, none⟩))]) (φ := True) (rest := [5]) h121 (by kernel_rfl) rfl trivial fun a123 h124 => ?_
            clear h121
            refine nd_op ?_
            refine op_store tabOk {k := 0, m := 1, vs := kC bo bc (S117.setT S.cur.toNat { S117.tcb S.cur.toNat with rep := ⟨0, 0⟩ })} (L' := [(kb, ⟨kC bo bc (S117.setT S.cur.toNat { S117.tcb S.cur.toNat with rep := ⟨0, 0⟩ }), 90, false⟩), (b2, ⟨[.int .u8 ev.kind, .int .u32 ev.pick, .int .u64 ev.draw, .int .u32 ev.addr, .int .u32 ev.node, .int .u32 ev.dst, .int .u32 ev.xfer, .int .u8 ev.ty, .int .u64 ev.arg, .int .u64 ev.badge, .slice xo ev.ws.length cx], 35, false⟩)]) (φ := kb = kb ∧ Nat.ble (2 + (S.cur.toNat * 21) + 6 + 2) (kC bo bc S117).length = true ∧ splice (kC bo bc S117) (2 + (S.cur.toNat * 21) + 6) [.int .u16 0, .int .u32 0] = kC bo bc (S117.setT S.cur.toNat { S117.tcb S.cur.toNat with rep := ⟨0, 0⟩ })) h124 rfl rfl rfl (by kernel_rfl) ⟨rfl, k_in (by omega), (k_tcb_w (i := S.cur.toNat) (k := 6) (by omega) (Nat.le_of_ble_eq_true rfl) (by omega) rfl)⟩ fun w126 h127 => ?_
            obtain ⟨S125, eS125⟩ : ∃ S9, S9 = (S117.setT S.cur.toNat { S117.tcb S.cur.toNat with rep := ⟨0, 0⟩ }) := ⟨_, rfl⟩
            rw [← eS125] at h127
            have rS125 : RI S125 := by rw [eS125]; exact rS117.setT ⟨(rS117.t (i := S.cur.toNat) (by omega)).nx, (rS117.t (i := S.cur.toNat) (by omega)).pv, (rS117.t (i := S.cur.toNat) (by omega)).pr, (rS117.t (i := S.cur.toNat) (by omega)).wi, (rS117.t (i := S.cur.toNat) (by omega)).ci, z256, (rS117.t (i := S.cur.toNat) (by omega)).ds⟩
            clear h124
            refine nd_done ?_
            refine hK122 _ _ ?_
            clear hK122
            refine wp_seq_k fun K128 hK128 => ?_
            refine nd_start (l := [0]) rfl ?_
            refine nd_batch tabOk tabZ_ok [(0, {})] [3, 0, 1, 5, 6, 7, 4] (T' := [(3, .pointer (some ⟨b2, 0, none⟩)), (0, .pointer (some ⟨kb, 0, none⟩)), (1, .agg #[.int .u8 ev.kind, .int .u32 ev.pick, .int .u64 ev.draw, .int .u32 ev.addr, .int .u32 ev.node, .int .u32 ev.dst, .int .u32 ev.xfer, .int .u8 ev.ty, .int .u64 ev.arg, .int .u64 ev.badge, .slice xo ev.ws.length cx]), (5, .pointer (some ⟨kb, 2 + (S.cur.toNat * 21), none⟩)), (6, .int .i16 ((S.tcb S.cur.toNat).rep.idx)), (7, .pointer (some ⟨kb, 2 + ((((S.tcb S.cur.toNat).rep.idx).toNat) * 21), none⟩)), (4, .int .u8 0)]) (φ := True) (rest := []) h127 (by kernel_rfl) rfl trivial fun a129 h130 => ?_
            clear h127
            refine nd_done ?_
            refine hK128 _ _ ?_
            clear hK128
            refine wp_ret ?_
            try simp only [Exit.then, Exit.inBlock]
            try rw [if_pos trivial]
            exact s_ret tabOk tabZ_ok h130 [(.tmp 4, {})] (vs := [.int .u8 0]) (φ := True) rfl (by kernel_rfl) trivial (by rw [show replyP S C ev = (S125, 0) from (by unfold replyP; (try dsimp only); (first | rw [if_neg hc20f] | rw [if_neg (fun hz => hz hc20f)]); (first | rw [if_neg hc28f] | rw [if_neg (fun hz => hz hc28f)]); rw [if_neg (fun hz => hz.elim (fun h => h hb40f) (fun h => h.elim (fun h => h hb58f) (fun h => h hc91f)))]; rw [← eS98]; rw [← eS106]; rw [← eS111]; rw [← eS117]; rw [← eS125])]; exact ⟨rfl, h130.kn (k := 0) rfl, h130.frame⟩)

theorem copyCap_ok (kb bo bc : Nat) (nd : Nat → Nat) (S : KP) (rS : RI S) (C : CP) (hC : CI C) (hcur : 0 ≤ S.cur ∧ S.cur < 256) (ev : Ev) (he : EvOk ev) (xo : Option Addr) (cx : Nat) (w : World) (hb : w.heap[kb]? = some (Blk.obj ⟨kC bo bc S, 90, false⟩)) (hc : CapAt w bo bc nd C) (hdkb : kb ∉ capF bo bc nd C) :
    Calls Tryd.prog 82 #[.pointer (some ⟨kb, 0, none⟩), .agg #[.int .u8 ev.kind, .int .u32 ev.pick, .int .u64 ev.draw, .int .u32 ev.addr, .int .u32 ev.node, .int .u32 ev.dst, .int .u32 ev.xfer, .int .u8 ev.ty, .int .u64 ev.arg, .int .u64 ev.badge, .slice xo ev.ws.length cx]] w fun e w' => e = .returned (.int .u8 (copyCapP S C ev).2) ∧ CapAt w' bo bc nd (copyCapP S C ev).1 ∧ Fr (capF bo bc nd C) w w' := by
  have hcia := he.addr
  have hcid := he.dst
  refine enter (n := 72) (K := (capF bo bc nd C)) (A := fun w => CapAt w bo bc nd C) (F := (capF bo bc nd C)) (T := [(0, .pointer (some ⟨kb, 0, none⟩)), (1, .agg #[.int .u8 ev.kind, .int .u32 ev.pick, .int .u64 ev.draw, .int .u32 ev.addr, .int .u32 ev.node, .int .u32 ev.dst, .int .u32 ev.xfer, .int .u8 ev.ty, .int .u64 ev.arg, .int .u64 ev.badge, .slice xo ev.ws.length cx])]) (L := [(kb, ⟨kC bo bc S, 90, true⟩)]) (args := [.pointer (some ⟨kb, 0, none⟩), .agg #[.int .u8 ev.kind, .int .u32 ev.pick, .int .u64 ev.draw, .int .u32 ev.addr, .int .u32 ev.node, .int .u32 ev.dst, .int .u32 ev.xfer, .int .u8 ev.ty, .int .u64 ev.arg, .int .u64 ev.badge, .slice xo ev.ws.length cx]]) Tryd.func82 rfl rfl rfl rfl (kcons hb knil) (by simp) (kcons (by intro hq; cases hq) knil) hc CapAt.stable hc.low (kcons (by intro hq; cases hq) knil) ?_
  intro a h
  refine wp_seq_k fun K1 hK1 => ?_
  refine nd_start (l := [0, 1]) rfl ?_
  refine nd_op ?_
  refine op_new tabOk (cells := [.int .u8 ev.kind, .int .u32 ev.pick, .int .u64 ev.draw, .int .u32 ev.addr, .int .u32 ev.node, .int .u32 ev.dst, .int .u32 ev.xfer, .int .u8 ev.ty, .int .u64 ev.arg, .int .u64 ev.badge, .slice xo ev.ws.length cx]) (ty := 35) (ln := none) (L1 := fun b2 => [(kb, ⟨kC bo bc S, 90, true⟩), (b2, ⟨[.int .u8 ev.kind, .int .u32 ev.pick, .int .u64 ev.draw, .int .u32 ev.addr, .int .u32 ev.node, .int .u32 ev.dst, .int .u32 ev.xfer, .int .u8 ev.ty, .int .u64 ev.arg, .int .u64 ev.badge, .slice xo ev.ws.length cx], 35, false⟩)]) h rfl rfl rfl rfl (by kernel_rfl) (fun _ => rfl) fun b2 w3 a4 h5 hf6 hn7 => ?_
  clear h
  refine nd_batch tabOk tabZ_ok [(1, {})] [3, 0, 1, 4] (T' := [(3, .pointer (some ⟨b2, 0, none⟩)), (0, .pointer (some ⟨kb, 0, none⟩)), (1, .agg #[.int .u8 ev.kind, .int .u32 ev.pick, .int .u64 ev.draw, .int .u32 ev.addr, .int .u32 ev.node, .int .u32 ev.dst, .int .u32 ev.xfer, .int .u8 ev.ty, .int .u64 ev.arg, .int .u64 ev.badge, .slice xo ev.ws.length cx]), (4, .int .u8 0)]) (φ := True) (rest := []) h5 (by kernel_rfl) rfl trivial fun a8 h9 => ?_
  clear h5
  refine nd_done ?_
  refine hK1 _ _ ?_
  clear hK1
  refine wp_seq_k fun K10 hK10 => ?_
  refine dr_start (KB := [kb, b2]) (Bi := [[0, 1], [0, 1], [0, 1], [0, 1], [0, 1], [0, 1], [0, 1], [0, 1], [0, 1], [0, 1], [0, 1], [0, 1], [0, 1], [0, 1], [0, 1], [0, 1], [0, 1], [], [0, 1], [0, 1], [0, 1], [0, 1], [0, 1]]) mixed h9 fun w11 h12 => ?_
  clear h9
  refine dr_batch tabOk tabZ_ok (by repeat (first | with_reducible exact PF.body | with_reducible apply PF.inB | with_reducible apply PF.next)) [(0, {}), (1, {}), (2, {}), (3, {k := 0, m := 1, vs := [.pointer (some ⟨bc, 0, none⟩)], p := 0}), (4, {}), (5, {}), (6, {}), (7, {}), (8, {k := 0, m := 1, vs := [.int .i16 S.cur], p := 0}), (9, {}), (10, {}), (11, {}), (12, {}), (13, {}), (14, {k := 0, m := 1, vs := [.int .u16 ((S.tcb S.cur.toNat).cs.idx), .int .u32 ((S.tcb S.cur.toNat).cs.gen)], p := 0}), (15, {}), (16, {k := 1, p := 1})] [3, 0, 1, 4, 14, 25, 27] (T' := [(3, .pointer (some ⟨b2, 0, none⟩)), (0, .pointer (some ⟨kb, 0, none⟩)), (1, .agg #[.int .u8 ev.kind, .int .u32 ev.pick, .int .u64 ev.draw, .int .u32 ev.addr, .int .u32 ev.node, .int .u32 ev.dst, .int .u32 ev.xfer, .int .u8 ev.ty, .int .u64 ev.arg, .int .u64 ev.badge, .slice xo ev.ws.length cx]), (4, .int .u8 0), (14, .pointer (some ⟨bc, 0, none⟩)), (25, .agg #[.int .u16 ((S.tcb S.cur.toNat).cs.idx), .int .u32 ((S.tcb S.cur.toNat).cs.gen)]), (27, .int .u32 ev.addr)]) (φ := (kb = kb ∧ cellsAre (kC bo bc S) 1 [.pointer (some ⟨bc, 0, none⟩)]) ∧ (kb = kb ∧ cellsAre (kC bo bc S) 6427 [.int .i16 S.cur]) ∧ (0 ≤ S.cur ∧ S.cur < 256) ∧ (kb = kb ∧ cellsAre (kC bo bc S) (2 + (S.cur.toNat * 21) + 4) [.int .u16 ((S.tcb S.cur.toNat).cs.idx), .int .u32 ((S.tcb S.cur.toNat).cs.gen)]) ∧ (b2 = b2 ∧ Nat.ble (3 + 1) 11 = true) ∧ True) (fuel := 6) h12 (by kernel_rfl) rfl (by kernel_rfl) (by kernel_rfl) ⟨trivial, trivial, trivial, rfl, trivial, trivial, trivial, trivial, rfl, trivial, trivial, trivial, trivial, trivial, rfl, trivial, rfl, trivial⟩ ⟨⟨rfl, k_caps⟩, ⟨rfl, k_cur⟩, ⟨by omega, by omega⟩, ⟨rfl, (k_tcb (i := S.cur.toNat) (k := 4) (by omega) (by omega) ⟨rfl, rfl, trivial⟩)⟩, ⟨rfl, rfl⟩, trivial⟩ fun a14 h15 => ?_
  clear h12
  refine wpAnyK_one (i := 17) (fuel := 5) (by kernel_rfl) ?_
  obtain ⟨ls16, lk17, el18⟩ : ∃ s k, lookP C.ent (S.tcb S.cur.toNat).cs ev.addr = (s, k) := ⟨_, _, rfl⟩
  have hlr19 := (rS.t (i := S.cur.toNat) (by omega)).ci
  refine op_call h15 rfl rfl rfl (callOk Tryd.func39 (by decide) rfl) (args := [.pointer (some ⟨bc, 0, none⟩), .agg #[.int .u16 ((S.tcb S.cur.toNat).cs.idx), .int .u32 ((S.tcb S.cur.toNat).cs.gen)], .int .u32 ev.addr]) rfl (lookupE (E := C.ent) bo bc nd C.pres (S.tcb S.cur.toNat).cs ev.addr ⟨hlr19.1, by omega⟩ he.addr _ h15.inv.sp h15.inv.st h15.inv.ap.symm el18) ?_
  rintro _ w20 ⟨rfl, hf22⟩
  refine ⟨_, rfl, ?_⟩
  have h21 := (h15.grow hf22).put (d := some 28) (v := .tuple #[.int .i64 ls16, .int .u8 lk17]) (T' := [(28, .tuple #[.int .i64 ls16, .int .u8 lk17]), (3, .pointer (some ⟨b2, 0, none⟩)), (0, .pointer (some ⟨kb, 0, none⟩)), (1, .agg #[.int .u8 ev.kind, .int .u32 ev.pick, .int .u64 ev.draw, .int .u32 ev.addr, .int .u32 ev.node, .int .u32 ev.dst, .int .u32 ev.xfer, .int .u8 ev.ty, .int .u64 ev.arg, .int .u64 ev.badge, .slice xo ev.ws.length cx]), (4, .int .u8 0), (14, .pointer (some ⟨bc, 0, none⟩)), (25, .agg #[.int .u16 ((S.tcb S.cur.toNat).cs.idx), .int .u32 ((S.tcb S.cur.toNat).cs.gen)]), (27, .int .u32 ev.addr)]) rfl
  refine ⟨keepNil, ?_⟩
  clear h15
  refine dr_batch tabOk tabZ_ok (by repeat (first | with_reducible exact PF.body | with_reducible apply PF.inB | with_reducible apply PF.next)) [(18, {}), (19, {}), (20, {}), (21, {}), (22, {})] [3, 0, 1, 4, 5, 6] (T' := [(3, .pointer (some ⟨b2, 0, none⟩)), (0, .pointer (some ⟨kb, 0, none⟩)), (1, .agg #[.int .u8 ev.kind, .int .u32 ev.pick, .int .u64 ev.draw, .int .u32 ev.addr, .int .u32 ev.node, .int .u32 ev.dst, .int .u32 ev.xfer, .int .u8 ev.ty, .int .u64 ev.arg, .int .u64 ev.badge, .slice xo ev.ws.length cx]), (4, .int .u8 0), (5, .int .i64 ls16), (6, .int .u8 lk17)]) (φ := True) (fuel := 0) h21 (by kernel_rfl) rfl (by kernel_rfl) (by kernel_rfl) ⟨trivial, trivial, trivial, trivial, trivial, trivial⟩ trivial fun a23 h24 => ?_
  clear h21
  refine wpAnyK_done (by kernel_rfl) ?_ _
  refine hK10 _ _ ?_
  clear hK10
  refine wp_seq_k fun K25 hK25 => ?_
  refine wp_seq_k fun K26 hK26 => ?_
  refine nd_start (l := [0, 1]) rfl ?_
  refine nd_batch tabOk tabZ_ok [(0, {}), (1, {})] [3, 0, 1, 4, 5, 6, 32] (T' := [(3, .pointer (some ⟨b2, 0, none⟩)), (0, .pointer (some ⟨kb, 0, none⟩)), (1, .agg #[.int .u8 ev.kind, .int .u32 ev.pick, .int .u64 ev.draw, .int .u32 ev.addr, .int .u32 ev.node, .int .u32 ev.dst, .int .u32 ev.xfer, .int .u8 ev.ty, .int .u64 ev.arg, .int .u64 ev.badge, .slice xo ev.ws.length cx]), (4, .int .u8 0), (5, .int .i64 ls16), (6, .int .u8 lk17), (32, .bool (lk17 != 0))]) (φ := True) (rest := []) h24 (by kernel_rfl) rfl trivial fun a27 h28 => ?_
  clear h24
  refine nd_done ?_
  refine hK26 _ _ ?_
  clear hK26
  refine c_split h28 (b := (lk17 != 0)) rfl (fun hc29 => ?_) (fun hc29 => ?_)
  ·
    have hc29f : lk17 ≠ 0 := by simpa using hc29
    refine wp_seq_k fun K30 hK30 => ?_
    refine nd_start (l := [0, 1]) rfl ?_
    refine nd_batch tabOk tabZ_ok [(0, {}), (1, {})] [3, 0, 1, 5, 6, 4] (T' := [(3, .pointer (some ⟨b2, 0, none⟩)), (0, .pointer (some ⟨kb, 0, none⟩)), (1, .agg #[.int .u8 ev.kind, .int .u32 ev.pick, .int .u64 ev.draw, .int .u32 ev.addr, .int .u32 ev.node, .int .u32 ev.dst, .int .u32 ev.xfer, .int .u8 ev.ty, .int .u64 ev.arg, .int .u64 ev.badge, .slice xo ev.ws.length cx]), (5, .int .i64 ls16), (6, .int .u8 lk17), (4, .int .u8 lk17)]) (φ := True) (rest := []) h28 (by kernel_rfl) rfl trivial fun a31 h32 => ?_
    clear h28
    refine nd_done ?_
    refine hK30 _ _ ?_
    clear hK30
    refine wp_ret ?_
    try simp only [Exit.then, Exit.inBlock]
    try rw [if_pos trivial]
    exact s_ret tabOk tabZ_ok h32 [(.tmp 4, {})] (vs := [.int .u8 lk17]) (φ := True) rfl (by kernel_rfl) trivial (by rw [show copyCapP S C ev = (C, lk17) from (by unfold copyCapP; (try dsimp only); rw [el18]; (try dsimp only); (first | rw [if_pos hc29f] | rw [if_pos (fun hz => hz hc29f)]))]; exact ⟨rfl, h32.inv, h32.frame⟩)
  ·
    have hc29f : lk17 = 0 := by simpa using hc29
    refine wp_skip ?_
    refine hK25 _ _ ?_
    clear hK25
    refine wp_seq_k fun K33 hK33 => ?_
    refine nd_start (l := [0, 1, 2, 3, 4, 5, 6, 7, 8, 9, 10, 11]) rfl ?_
    refine nd_batch tabOk tabZ_ok [(0, {}), (1, {}), (2, {k := 1})] [3, 0, 1, 4, 5, 6, 35, 37] (T' := [(3, .pointer (some ⟨b2, 0, none⟩)), (0, .pointer (some ⟨kb, 0, none⟩)), (1, .agg #[.int .u8 ev.kind, .int .u32 ev.pick, .int .u64 ev.draw, .int .u32 ev.addr, .int .u32 ev.node, .int .u32 ev.dst, .int .u32 ev.xfer, .int .u8 ev.ty, .int .u64 ev.arg, .int .u64 ev.badge, .slice xo ev.ws.length cx]), (4, .int .u8 0), (5, .int .i64 ls16), (6, .int .u8 lk17), (35, .pointer (some ⟨kb, 0, none⟩)), (37, .int .u32 ev.node)]) (φ := (b2 = b2 ∧ Nat.ble (4 + 1) 11 = true) ∧ True) (rest := [3, 4, 5, 6, 7, 8, 9, 10, 11]) h28 (by kernel_rfl) rfl ⟨⟨rfl, rfl⟩, trivial⟩ fun a34 h35 => ?_
    clear h28
    refine nd_op ?_
    obtain ⟨fc36, fs37, fk38, hfd39⟩ : ∃ c s k, findP S C ev.node 2 2 = (c, s, k) := ⟨_, _, _, rfl⟩
    refine op_call h35 rfl rfl rfl (callOk Tryd.func79 (by decide) rfl) (args := [.pointer (some ⟨kb, 0, none⟩), .int .u32 ev.node, .int .u8 2, .int .u8 2]) rfl (find_ok kb bo bc nd S rS C hC ev.node 2 2 hcur he.node _ (h35.kn (k := 0) (blk := ⟨kC bo bc S, 90, true⟩) rfl) h35.inv hdkb hfd39) ?_
    rintro _ w40 ⟨rfl, hf42⟩
    refine ⟨_, rfl, ?_⟩
    have h41 := (h35.grow hf42).put (d := some 38) (v := .tuple #[.agg #[.int .u8 fc36.ty, .int .u16 fc36.obj.idx, .int .u32 fc36.obj.gen, .int .u8 fc36.rights, .int .u64 fc36.badge], .int .i64 fs37, .int .u8 fk38]) (T' := [(38, .tuple #[.agg #[.int .u8 fc36.ty, .int .u16 fc36.obj.idx, .int .u32 fc36.obj.gen, .int .u8 fc36.rights, .int .u64 fc36.badge], .int .i64 fs37, .int .u8 fk38]), (3, .pointer (some ⟨b2, 0, none⟩)), (0, .pointer (some ⟨kb, 0, none⟩)), (1, .agg #[.int .u8 ev.kind, .int .u32 ev.pick, .int .u64 ev.draw, .int .u32 ev.addr, .int .u32 ev.node, .int .u32 ev.dst, .int .u32 ev.xfer, .int .u8 ev.ty, .int .u64 ev.arg, .int .u64 ev.badge, .slice xo ev.ws.length cx]), (4, .int .u8 0), (5, .int .i64 ls16), (6, .int .u8 lk17), (35, .pointer (some ⟨kb, 0, none⟩)), (37, .int .u32 ev.node)]) rfl
    clear h35
    refine nd_batch tabOk tabZ_ok [(4, {}), (5, {}), (6, {}), (7, {})] [3, 0, 1, 4, 5, 6, 39, 40, 41] (T' := [(3, .pointer (some ⟨b2, 0, none⟩)), (0, .pointer (some ⟨kb, 0, none⟩)), (1, .agg #[.int .u8 ev.kind, .int .u32 ev.pick, .int .u64 ev.draw, .int .u32 ev.addr, .int .u32 ev.node, .int .u32 ev.dst, .int .u32 ev.xfer, .int .u8 ev.ty, .int .u64 ev.arg, .int .u64 ev.badge, .slice xo ev.ws.length cx]), (4, .int .u8 0), (5, .int .i64 ls16), (6, .int .u8 lk17), (39, .agg #[.int .u8 fc36.ty, .int .u16 fc36.obj.idx, .int .u32 fc36.obj.gen, .int .u8 fc36.rights, .int .u64 fc36.badge]), (40, .int .i64 fs37), (41, .int .u8 fk38)]) (φ := True) (rest := [8, 9, 10, 11]) h41 (by kernel_rfl) rfl trivial fun a43 h44 => ?_
    clear h41
    refine nd_op ?_
    refine op_new tabOk (cells := [.int .u8 0, .int .u16 0, .int .u32 0, .int .u8 0, .int .u64 0]) (ty := 49) (ln := none) (L1 := fun b45 => [(kb, ⟨kC bo bc S, 90, true⟩), (b2, ⟨[.int .u8 ev.kind, .int .u32 ev.pick, .int .u64 ev.draw, .int .u32 ev.addr, .int .u32 ev.node, .int .u32 ev.dst, .int .u32 ev.xfer, .int .u8 ev.ty, .int .u64 ev.arg, .int .u64 ev.badge, .slice xo ev.ws.length cx], 35, false⟩), (b45, ⟨[.int .u8 0, .int .u16 0, .int .u32 0, .int .u8 0, .int .u64 0], 49, false⟩)]) h44 rfl rfl rfl rfl (by kernel_rfl) (fun _ => rfl) fun b45 w46 a47 h48 hf49 hn50 => ?_
    clear h44
    refine nd_op ?_
    refine op_store tabOk {k := 2} (L' := [(kb, ⟨kC bo bc S, 90, true⟩), (b2, ⟨[.int .u8 ev.kind, .int .u32 ev.pick, .int .u64 ev.draw, .int .u32 ev.addr, .int .u32 ev.node, .int .u32 ev.dst, .int .u32 ev.xfer, .int .u8 ev.ty, .int .u64 ev.arg, .int .u64 ev.badge, .slice xo ev.ws.length cx], 35, false⟩), (b45, ⟨[.int .u8 fc36.ty, .int .u16 fc36.obj.idx, .int .u32 fc36.obj.gen, .int .u8 fc36.rights, .int .u64 fc36.badge], 49, false⟩)]) (φ := b45 = b45 ∧ Nat.ble (0 + 5) 5 = true) h48 rfl rfl rfl (by kernel_rfl) ⟨rfl, rfl⟩ fun w51 h52 => ?_
    clear h48
    refine nd_batch tabOk tabZ_ok [(10, {}), (11, {})] [7, 3, 0, 1, 4, 5, 6] (T' := [(7, .pointer (some ⟨b45, 0, none⟩)), (3, .pointer (some ⟨b2, 0, none⟩)), (0, .pointer (some ⟨kb, 0, none⟩)), (1, .agg #[.int .u8 ev.kind, .int .u32 ev.pick, .int .u64 ev.draw, .int .u32 ev.addr, .int .u32 ev.node, .int .u32 ev.dst, .int .u32 ev.xfer, .int .u8 ev.ty, .int .u64 ev.arg, .int .u64 ev.badge, .slice xo ev.ws.length cx]), (4, .int .u8 0), (5, .int .i64 ls16), (6, .int .u8 fk38)]) (φ := True) (rest := []) h52 (by kernel_rfl) rfl trivial fun a53 h54 => ?_
    clear h52
    refine nd_done ?_
    refine hK33 _ _ ?_
    clear hK33
    refine wp_seq_k fun K55 hK55 => ?_
    refine wp_seq_k fun K56 hK56 => ?_
    refine nd_start (l := [0, 1]) rfl ?_
    refine nd_batch tabOk tabZ_ok [(0, {}), (1, {})] [7, 3, 0, 1, 4, 5, 6, 43] (T' := [(7, .pointer (some ⟨b45, 0, none⟩)), (3, .pointer (some ⟨b2, 0, none⟩)), (0, .pointer (some ⟨kb, 0, none⟩)), (1, .agg #[.int .u8 ev.kind, .int .u32 ev.pick, .int .u64 ev.draw, .int .u32 ev.addr, .int .u32 ev.node, .int .u32 ev.dst, .int .u32 ev.xfer, .int .u8 ev.ty, .int .u64 ev.arg, .int .u64 ev.badge, .slice xo ev.ws.length cx]), (4, .int .u8 0), (5, .int .i64 ls16), (6, .int .u8 fk38), (43, .bool (fk38 != 0))]) (φ := True) (rest := []) h54 (by kernel_rfl) rfl trivial fun a57 h58 => ?_
    clear h54
    refine nd_done ?_
    refine hK56 _ _ ?_
    clear hK56
    refine c_split h58 (b := (fk38 != 0)) rfl (fun hc59 => ?_) (fun hc59 => ?_)
    ·
      have hc59f : fk38 ≠ 0 := by simpa using hc59
      refine wp_seq_k fun K60 hK60 => ?_
      refine nd_start (l := [0, 1]) rfl ?_
      refine nd_batch tabOk tabZ_ok [(0, {}), (1, {})] [7, 3, 0, 1, 5, 6, 4] (T' := [(7, .pointer (some ⟨b45, 0, none⟩)), (3, .pointer (some ⟨b2, 0, none⟩)), (0, .pointer (some ⟨kb, 0, none⟩)), (1, .agg #[.int .u8 ev.kind, .int .u32 ev.pick, .int .u64 ev.draw, .int .u32 ev.addr, .int .u32 ev.node, .int .u32 ev.dst, .int .u32 ev.xfer, .int .u8 ev.ty, .int .u64 ev.arg, .int .u64 ev.badge, .slice xo ev.ws.length cx]), (5, .int .i64 ls16), (6, .int .u8 fk38), (4, .int .u8 fk38)]) (φ := True) (rest := []) h58 (by kernel_rfl) rfl trivial fun a61 h62 => ?_
      clear h58
      refine nd_done ?_
      refine hK60 _ _ ?_
      clear hK60
      refine wp_ret ?_
      try simp only [Exit.then, Exit.inBlock]
      try rw [if_pos trivial]
      exact s_ret tabOk tabZ_ok h62 [(.tmp 4, {})] (vs := [.int .u8 fk38]) (φ := True) rfl (by kernel_rfl) trivial (by rw [show copyCapP S C ev = (C, fk38) from (by unfold copyCapP; (try dsimp only); rw [el18]; (try dsimp only); (first | rw [if_neg hc29f] | rw [if_neg (fun hz => hz hc29f)]); rw [hfd39]; (try dsimp only); (first | rw [if_pos hc59f] | rw [if_pos (fun hz => hz hc59f)]))]; exact ⟨rfl, h62.inv, h62.frame⟩)
    ·
      have hc59f : fk38 = 0 := by simpa using hc59
      obtain ⟨fi63, fj63, hfi63, hfj63, hfp63, hfs63, hfcap63, hft63, hfz63, hfo63⟩ := find_fact rS hC hcur he.node.1 hfd39 hc59f
      have hxfi63 := find_idx hfo63 (by rw [hft63]; decide)
      refine wp_skip ?_
      refine hK55 _ _ ?_
      clear hK55
      refine wp_seq_k fun K64 hK64 => ?_
      refine dr_start (KB := [kb, b2, b45]) (Bi := [[0, 1, 2], [0, 1, 2], [0, 1, 2], [0, 1, 2], [0, 1, 2], [0, 1, 2], [0, 1, 2], [0, 1, 2], [], [0, 1, 2], [0, 1, 2], [0, 1, 2], [0, 1, 2], [0, 1, 2]]) mixed h58 fun w65 h66 => ?_
      clear h58
      refine dr_batch tabOk tabZ_ok (by repeat (first | with_reducible exact PF.body | with_reducible apply PF.inB | with_reducible apply PF.next)) [(0, {}), (1, {}), (2, {}), (3, {k := 0, m := 1, vs := [.pointer (some ⟨bc, 0, none⟩)], p := 0}), (4, {}), (5, {k := 2, p := 2}), (6, {}), (7, {k := 1, p := 1})] [7, 3, 0, 1, 4, 5, 6, 49, 51, 53] (T' := [(7, .pointer (some ⟨b45, 0, none⟩)), (3, .pointer (some ⟨b2, 0, none⟩)), (0, .pointer (some ⟨kb, 0, none⟩)), (1, .agg #[.int .u8 ev.kind, .int .u32 ev.pick, .int .u64 ev.draw, .int .u32 ev.addr, .int .u32 ev.node, .int .u32 ev.dst, .int .u32 ev.xfer, .int .u8 ev.ty, .int .u64 ev.arg, .int .u64 ev.badge, .slice xo ev.ws.length cx]), (4, .int .u8 0), (5, .int .i64 ls16), (6, .int .u8 fk38), (49, .pointer (some ⟨bc, 0, none⟩)), (51, .agg #[.int .u16 fc36.obj.idx, .int .u32 fc36.obj.gen]), (53, .int .u32 ev.dst)]) (φ := (kb = kb ∧ cellsAre (kC bo bc S) 1 [.pointer (some ⟨bc, 0, none⟩)]) ∧ (b45 = b45 ∧ Nat.ble (1 + 2) 5 = true) ∧ (b2 = b2 ∧ Nat.ble (5 + 1) 11 = true) ∧ True) (fuel := 6) h66 (by kernel_rfl) rfl (by kernel_rfl) (by kernel_rfl) ⟨trivial, trivial, trivial, rfl, trivial, rfl, trivial, rfl, trivial⟩ ⟨⟨rfl, k_caps⟩, ⟨rfl, rfl⟩, ⟨rfl, rfl⟩, trivial⟩ fun a68 h69 => ?_
      clear h66
      refine wpAnyK_one (i := 8) (fuel := 5) (by kernel_rfl) ?_
      obtain ⟨ls70, lk71, el72⟩ : ∃ s k, lookP C.ent fc36.obj ev.dst = (s, k) := ⟨_, _, rfl⟩
      have hlr73 := hxfi63
      refine op_call h69 rfl rfl rfl (callOk Tryd.func39 (by decide) rfl) (args := [.pointer (some ⟨bc, 0, none⟩), .agg #[.int .u16 fc36.obj.idx, .int .u32 fc36.obj.gen], .int .u32 ev.dst]) rfl (lookupE (E := C.ent) bo bc nd C.pres fc36.obj ev.dst ⟨hlr73.1, by omega⟩ he.dst _ h69.inv.sp h69.inv.st h69.inv.ap.symm el72) ?_
      rintro _ w74 ⟨rfl, hf76⟩
      refine ⟨_, rfl, ?_⟩
      have h75 := (h69.grow hf76).put (d := some 54) (v := .tuple #[.int .i64 ls70, .int .u8 lk71]) (T' := [(54, .tuple #[.int .i64 ls70, .int .u8 lk71]), (7, .pointer (some ⟨b45, 0, none⟩)), (3, .pointer (some ⟨b2, 0, none⟩)), (0, .pointer (some ⟨kb, 0, none⟩)), (1, .agg #[.int .u8 ev.kind, .int .u32 ev.pick, .int .u64 ev.draw, .int .u32 ev.addr, .int .u32 ev.node, .int .u32 ev.dst, .int .u32 ev.xfer, .int .u8 ev.ty, .int .u64 ev.arg, .int .u64 ev.badge, .slice xo ev.ws.length cx]), (4, .int .u8 0), (5, .int .i64 ls16), (6, .int .u8 fk38), (49, .pointer (some ⟨bc, 0, none⟩)), (51, .agg #[.int .u16 fc36.obj.idx, .int .u32 fc36.obj.gen]), (53, .int .u32 ev.dst)]) rfl
      refine ⟨keepNil, ?_⟩
      clear h69
      refine dr_batch tabOk tabZ_ok (by repeat (first | with_reducible exact PF.body | with_reducible apply PF.inB | with_reducible apply PF.next)) [(9, {}), (10, {}), (11, {}), (12, {}), (13, {})] [7, 3, 0, 1, 4, 5, 9, 6] (T' := [(7, .pointer (some ⟨b45, 0, none⟩)), (3, .pointer (some ⟨b2, 0, none⟩)), (0, .pointer (some ⟨kb, 0, none⟩)), (1, .agg #[.int .u8 ev.kind, .int .u32 ev.pick, .int .u64 ev.draw, .int .u32 ev.addr, .int .u32 ev.node, .int .u32 ev.dst, .int .u32 ev.xfer, .int .u8 ev.ty, .int .u64 ev.arg, .int .u64 ev.badge, .slice xo ev.ws.length cx]), (4, .int .u8 0), (5, .int .i64 ls16), (9, .int .i64 ls70), (6, .int .u8 lk71)]) (φ := True) (fuel := 0) h75 (by kernel_rfl) rfl (by kernel_rfl) (by kernel_rfl) ⟨trivial, trivial, trivial, trivial, trivial, trivial⟩ trivial fun a77 h78 => ?_
      clear h75
      refine wpAnyK_done (by kernel_rfl) ?_ _
      refine hK64 _ _ ?_
      clear hK64
      refine wp_seq_k fun K79 hK79 => ?_
      refine wp_seq_k fun K80 hK80 => ?_
      refine nd_start (l := [0, 1]) rfl ?_
      refine nd_batch tabOk tabZ_ok [(0, {}), (1, {})] [7, 3, 0, 1, 4, 5, 9, 6, 58] (T' := [(7, .pointer (some ⟨b45, 0, none⟩)), (3, .pointer (some ⟨b2, 0, none⟩)), (0, .pointer (some ⟨kb, 0, none⟩)), (1, .agg #[.int .u8 ev.kind, .int .u32 ev.pick, .int .u64 ev.draw, .int .u32 ev.addr, .int .u32 ev.node, .int .u32 ev.dst, .int .u32 ev.xfer, .int .u8 ev.ty, .int .u64 ev.arg, .int .u64 ev.badge, .slice xo ev.ws.length cx]), (4, .int .u8 0), (5, .int .i64 ls16), (9, .int .i64 ls70), (6, .int .u8 lk71), (58, .bool (lk71 != 0))]) (φ := True) (rest := []) h78 (by kernel_rfl) rfl trivial fun a81 h82 => ?_
      clear h78
      refine nd_done ?_
      refine hK80 _ _ ?_
      clear hK80
      refine c_split h82 (b := (lk71 != 0)) rfl (fun hc83 => ?_) (fun hc83 => ?_)
      ·
        have hc83f : lk71 ≠ 0 := by simpa using hc83
        refine wp_seq_k fun K84 hK84 => ?_
        refine nd_start (l := [0, 1]) rfl ?_
        refine nd_batch tabOk tabZ_ok [(0, {}), (1, {})] [7, 3, 0, 1, 5, 9, 6, 4] (T' := [(7, .pointer (some ⟨b45, 0, none⟩)), (3, .pointer (some ⟨b2, 0, none⟩)), (0, .pointer (some ⟨kb, 0, none⟩)), (1, .agg #[.int .u8 ev.kind, .int .u32 ev.pick, .int .u64 ev.draw, .int .u32 ev.addr, .int .u32 ev.node, .int .u32 ev.dst, .int .u32 ev.xfer, .int .u8 ev.ty, .int .u64 ev.arg, .int .u64 ev.badge, .slice xo ev.ws.length cx]), (5, .int .i64 ls16), (9, .int .i64 ls70), (6, .int .u8 lk71), (4, .int .u8 lk71)]) (φ := True) (rest := []) h82 (by kernel_rfl) rfl trivial fun a85 h86 => ?_
        clear h82
        refine nd_done ?_
        refine hK84 _ _ ?_
        clear hK84
        refine wp_ret ?_
        try simp only [Exit.then, Exit.inBlock]
        try rw [if_pos trivial]
        exact s_ret tabOk tabZ_ok h86 [(.tmp 4, {})] (vs := [.int .u8 lk71]) (φ := True) rfl (by kernel_rfl) trivial (by rw [show copyCapP S C ev = (C, lk71) from (by unfold copyCapP; (try dsimp only); rw [el18]; (try dsimp only); (first | rw [if_neg hc29f] | rw [if_neg (fun hz => hz hc29f)]); rw [hfd39]; (try dsimp only); (first | rw [if_neg hc59f] | rw [if_neg (fun hz => hz hc59f)]); rw [el72]; (try dsimp only); (first | rw [if_pos hc83f] | rw [if_pos (fun hz => hz hc83f)]))]; exact ⟨rfl, h86.inv, h86.frame⟩)
      ·
        have hc83f : lk71 = 0 := by simpa using hc83
        refine wp_skip ?_
        refine hK79 _ _ ?_
        clear hK79
        refine wp_seq_k fun K87 hK87 => ?_
        refine dr_start (KB := [kb, b2, b45]) (Bi := [[0, 1, 2], [0, 1, 2], [0, 1, 2], [0, 1, 2], [0, 1, 2], [0, 1, 2], [0, 1, 2], [0, 1, 2], [0, 1, 2], [0, 1, 2], [0, 1, 2], [], [0, 1, 2]]) mixed h82 fun w88 h89 => ?_
        clear h82
        refine dr_batch tabOk tabZ_ok (by repeat (first | with_reducible exact PF.body | with_reducible apply PF.inB | with_reducible apply PF.next)) [(0, {}), (1, {}), (2, {}), (3, {k := 0, m := 1, vs := [.pointer (some ⟨bc, 0, none⟩)], p := 0}), (4, {}), (5, {}), (6, {}), (7, {k := 1, p := 1}), (8, {m := 1}), (9, {}), (10, {k := 1, p := 1})] [7, 3, 0, 1, 4, 5, 9, 6, 63, 64, 65, 68, 70] (T' := [(7, .pointer (some ⟨b45, 0, none⟩)), (3, .pointer (some ⟨b2, 0, none⟩)), (0, .pointer (some ⟨kb, 0, none⟩)), (1, .agg #[.int .u8 ev.kind, .int .u32 ev.pick, .int .u64 ev.draw, .int .u32 ev.addr, .int .u32 ev.node, .int .u32 ev.dst, .int .u32 ev.xfer, .int .u8 ev.ty, .int .u64 ev.arg, .int .u64 ev.badge, .slice xo ev.ws.length cx]), (4, .int .u8 0), (5, .int .i64 ls16), (9, .int .i64 ls70), (6, .int .u8 lk71), (63, .pointer (some ⟨bc, 0, none⟩)), (64, .int .i64 ls70), (65, .int .i64 ls16), (68, .int .u8 (IntKind.wrap .u8 ev.arg)), (70, .int .u64 ev.badge)]) (φ := (kb = kb ∧ cellsAre (kC bo bc S) 1 [.pointer (some ⟨bc, 0, none⟩)]) ∧ (b2 = b2 ∧ Nat.ble (8 + 1) 11 = true) ∧ (b2 = b2 ∧ Nat.ble (9 + 1) 11 = true) ∧ True) (fuel := 2) h89 (by kernel_rfl) rfl (by kernel_rfl) (by kernel_rfl) ⟨trivial, trivial, trivial, rfl, trivial, trivial, trivial, rfl, trivial, trivial, rfl, trivial⟩ ⟨⟨rfl, k_caps⟩, ⟨rfl, rfl⟩, ⟨rfl, rfl⟩, trivial⟩ fun a91 h92 => ?_
        clear h89
        refine wpAnyK_one (i := 11) (fuel := 1) (by kernel_rfl) ?_
        obtain ⟨li93, lj93, hli93, hlj93, hlp93, hls93⟩ := look_fact hC hlr19.1 he.addr.1 el18 hc29f
        obtain ⟨li94, lj94, hli94, hlj94, hlp94, hls94⟩ := look_fact hC hlr73.1 he.dst.1 el72 hc83f
        obtain ⟨dc95, dk96, ed97⟩ : ∃ c k, deriveP C.cel ls70.toNat ls16.toNat (IntKind.wrap .u8 ev.arg) ev.badge = (c, k) := ⟨_, _, rfl⟩
        refine op_call h92 rfl rfl rfl (callOk Tryd.func94 (by decide) rfl) (args := [.pointer (some ⟨bc, 0, none⟩), .int .i64 ls70, .int .i64 ls16, .int .u8 (IntKind.wrap .u8 ev.arg), .int .u64 ev.badge]) rfl (deriveE bo bc nd C hli93 hlj93 hlp93 hls93 hli94 hlj94 hlp94 hls94 (IntKind.wrap .u8 ev.arg) ev.badge _ h92.inv ed97) ?_
        rintro _ w99 ⟨rfl, hcr101, hf100⟩
        refine ⟨_, rfl, ?_⟩
        obtain ⟨C98, eC98⟩ : ∃ C9, C9 = ({ C with cel := dc95 } : CP) := ⟨_, rfl⟩
        rw [← eC98] at hcr101
        have pC98 : capF bo bc nd C98 = capF bo bc nd C := by rw [eC98]; rfl
        have h102 := (h92.callF hf100 (fun _ hb => hb) (fun b hb => .inl hb) (A' := fun w => CapAt w bo bc nd C98) (F' := capF bo bc nd C98) (kcons (fun _ => hdkb) (kcons (by intro hq; cases hq) (kcons (by intro hq; cases hq) knil))) hcr101 CapAt.stable hcr101.low (fun b hb => .inl (by rw [pC98] at hb; exact hb))).put (d := some 71) (v := .int .u8 dk96) (T' := [(71, .int .u8 dk96), (7, .pointer (some ⟨b45, 0, none⟩)), (3, .pointer (some ⟨b2, 0, none⟩)), (0, .pointer (some ⟨kb, 0, none⟩)), (1, .agg #[.int .u8 ev.kind, .int .u32 ev.pick, .int .u64 ev.draw, .int .u32 ev.addr, .int .u32 ev.node, .int .u32 ev.dst, .int .u32 ev.xfer, .int .u8 ev.ty, .int .u64 ev.arg, .int .u64 ev.badge, .slice xo ev.ws.length cx]), (4, .int .u8 0), (5, .int .i64 ls16), (9, .int .i64 ls70), (6, .int .u8 lk71), (63, .pointer (some ⟨bc, 0, none⟩)), (64, .int .i64 ls70), (65, .int .i64 ls16), (68, .int .u8 (IntKind.wrap .u8 ev.arg)), (70, .int .u64 ev.badge)]) rfl
        have hkh102 := h92.known
        refine ⟨keepNil, ?_⟩
        clear h92
        refine dr_batch tabOk tabZ_ok (by repeat (first | with_reducible exact PF.body | with_reducible apply PF.inB | with_reducible apply PF.next)) [(12, {})] [7, 3, 0, 1, 5, 9, 6, 4] (T' := [(7, .pointer (some ⟨b45, 0, none⟩)), (3, .pointer (some ⟨b2, 0, none⟩)), (0, .pointer (some ⟨kb, 0, none⟩)), (1, .agg #[.int .u8 ev.kind, .int .u32 ev.pick, .int .u64 ev.draw, .int .u32 ev.addr, .int .u32 ev.node, .int .u32 ev.dst, .int .u32 ev.xfer, .int .u8 ev.ty, .int .u64 ev.arg, .int .u64 ev.badge, .slice xo ev.ws.length cx]), (5, .int .i64 ls16), (9, .int .i64 ls70), (6, .int .u8 lk71), (4, .int .u8 dk96)]) (φ := True) (fuel := 0) h102 (by kernel_rfl) rfl (by kernel_rfl) (by kernel_rfl) ⟨trivial, trivial⟩ trivial fun a103 h104 => ?_
        clear h102
        refine wpAnyK_done (by kernel_rfl) ?_ _
        refine hK87 _ _ ?_
        clear hK87
        refine wp_ret ?_
        try simp only [Exit.then, Exit.inBlock]
        try rw [if_pos trivial]
        exact s_ret tabOk tabZ_ok h104 [(.tmp 4, {})] (vs := [.int .u8 dk96]) (φ := True) rfl (by kernel_rfl) trivial (by rw [show copyCapP S C ev = (C98, dk96) from (by unfold copyCapP; (try dsimp only); rw [el18]; (try dsimp only); (first | rw [if_neg hc29f] | rw [if_neg (fun hz => hz hc29f)]); rw [hfd39]; (try dsimp only); (first | rw [if_neg hc59f] | rw [if_neg (fun hz => hz hc59f)]); rw [el72]; (try dsimp only); (first | rw [if_neg hc83f] | rw [if_neg (fun hz => hz hc83f)]); rw [ed97]; (try dsimp only); rw [← eC98])]; exact ⟨rfl, h104.inv, h104.frame⟩)

end Go.Proofs.Qxb6500918aDoor
