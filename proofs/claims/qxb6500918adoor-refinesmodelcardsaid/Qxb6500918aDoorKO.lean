/-
  drop. (Made by program: a symbolic walk that prints its steps.)
-/
import Derived.Test.Qxb6500918aDoorKN
namespace Go.Proofs.Qxb6500918aDoor
open Go.Sx Go.Kn
set_option maxRecDepth 100000
set_option maxHeartbeats 4000000
set_option linter.unusedVariables false
set_option linter.unusedSimpArgs false

theorem cpC_len (c : Cp) : (cpC c).length = 5 := rfl

theorem drop_ok (kb bo bc : Nat) (nd : Nat → Nat) (S : KP) (rS : RI S) (C : CP) (lS : LI S) (hC : CI C) (hcur : 0 ≤ S.cur ∧ S.cur < 256) (ev : Ev) (he : EvOk ev) (xo : Option Addr) (cx : Nat) (w : World) (hb : w.heap[kb]? = some (Blk.obj ⟨kC bo bc S, 90, false⟩)) (hc : CapAt w bo bc nd C) (hdkb : kb ∉ capF bo bc nd C) (hg : CellsAt w 1 0 (tcbC noT)) (hgs : 1 < w.heap.size) (hgk : 1 ≠ kb) (hgc : 1 ∉ capF bo bc nd C) :
    Calls Tryd.prog 83 #[.pointer (some ⟨kb, 0, none⟩), .agg #[.int .u8 ev.kind, .int .u32 ev.pick, .int .u64 ev.draw, .int .u32 ev.addr, .int .u32 ev.node, .int .u32 ev.dst, .int .u32 ev.xfer, .int .u8 ev.ty, .int .u64 ev.arg, .int .u64 ev.badge, .slice xo ev.ws.length cx]] w fun e w' => e = .returned (.int .u8 (dropP S C ev).2.2) ∧ w'.heap[kb]? = some (Blk.obj ⟨kC bo bc (dropP S C ev).1, 90, false⟩) ∧ CapAt w' bo bc nd (dropP S C ev).2.1 ∧ (∀ x ∈ capF bo bc nd (dropP S C ev).2.1, x ∈ capF bo bc nd C) ∧ Fr (kb :: capF bo bc nd C) w w' := by
  have hcia := he.addr
  refine enter (n := 67) (K := (kb :: capF bo bc nd C)) (A := fun w => CapAt w bo bc nd C) (F := (capF bo bc nd C)) (T := [(0, .pointer (some ⟨kb, 0, none⟩)), (1, .agg #[.int .u8 ev.kind, .int .u32 ev.pick, .int .u64 ev.draw, .int .u32 ev.addr, .int .u32 ev.node, .int .u32 ev.dst, .int .u32 ev.xfer, .int .u8 ev.ty, .int .u64 ev.arg, .int .u64 ev.badge, .slice xo ev.ws.length cx])]) (L := [(kb, ⟨kC bo bc S, 90, false⟩)]) (args := [.pointer (some ⟨kb, 0, none⟩), .agg #[.int .u8 ev.kind, .int .u32 ev.pick, .int .u64 ev.draw, .int .u32 ev.addr, .int .u32 ev.node, .int .u32 ev.dst, .int .u32 ev.xfer, .int .u8 ev.ty, .int .u64 ev.arg, .int .u64 ev.badge, .slice xo ev.ws.length cx]]) Tryd.func83 rfl rfl rfl rfl (kcons hb knil) (by simp) (kcons (fun _ => by simp) knil) hc CapAt.stable hc.low (kcons (fun _ => hdkb) knil) ?_
  intro a h
  refine wp_seq_k fun K1 hK1 => ?_
  refine nd_start (l := [0, 1]) rfl ?_
  refine nd_op ?_
  refine op_new tabOk (cells := [.int .u8 ev.kind, .int .u32 ev.pick, .int .u64 ev.draw, .int .u32 ev.addr, .int .u32 ev.node, .int .u32 ev.dst, .int .u32 ev.xfer, .int .u8 ev.ty, .int .u64 ev.arg, .int .u64 ev.badge, .slice xo ev.ws.length cx]) (ty := 35) (ln := none) (L1 := fun b2 => [(kb, ⟨kC bo bc S, 90, false⟩), (b2, ⟨[.int .u8 ev.kind, .int .u32 ev.pick, .int .u64 ev.draw, .int .u32 ev.addr, .int .u32 ev.node, .int .u32 ev.dst, .int .u32 ev.xfer, .int .u8 ev.ty, .int .u64 ev.arg, .int .u64 ev.badge, .slice xo ev.ws.length cx], 35, false⟩)]) h rfl rfl rfl rfl (by kernel_rfl) (fun _ => rfl) fun b2 w3 a4 h5 hf6 hn7 => ?_
  clear h
  refine nd_batch tabOk tabZ_ok [(1, {})] [3, 0, 1, 4] (T' := [(3, .pointer (some ⟨b2, 0, none⟩)), (0, .pointer (some ⟨kb, 0, none⟩)), (1, .agg #[.int .u8 ev.kind, .int .u32 ev.pick, .int .u64 ev.draw, .int .u32 ev.addr, .int .u32 ev.node, .int .u32 ev.dst, .int .u32 ev.xfer, .int .u8 ev.ty, .int .u64 ev.arg, .int .u64 ev.badge, .slice xo ev.ws.length cx]), (4, .int .u8 0)]) (φ := True) (rest := []) h5 (by kernel_rfl) rfl trivial fun a8 h9 => ?_
  clear h5
  refine nd_done ?_
  refine hK1 _ _ ?_
  clear hK1
  refine wp_seq_k fun K10 hK10 => ?_
  refine dr_start (KB := [kb, b2]) (Bi := [[0, 1], [0, 1], [0, 1], [0, 1], [0, 1], [0, 1], [0, 1], [0, 1], [0, 1], [0, 1], [0, 1], [0, 1], [0, 1], [0, 1], [0, 1], [0, 1], [0, 1], [], [0, 1], [0, 1], [0, 1], [0, 1], [0, 1]]) mixed h9 fun w11 h12 => ?_
  clear h9
  refine dr_batch tabOk tabZ_ok (by repeat (first | with_reducible exact PF.body | with_reducible apply PF.inB | with_reducible apply PF.next)) [(0, {}), (1, {}), (2, {}), (3, {k := 0, m := 1, vs := [.pointer (some ⟨bc, 0, none⟩)], p := 0}), (4, {}), (5, {}), (6, {}), (7, {}), (8, {k := 0, m := 1, vs := [.int .i16 S.cur], p := 0}), (9, {}), (10, {}), (11, {}), (12, {}), (13, {}), (14, {k := 0, m := 1, vs := [.int .u16 ((S.tcb S.cur.toNat).cs.idx), .int .u32 ((S.tcb S.cur.toNat).cs.gen)], p := 0}), (15, {}), (16, {k := 1, p := 1})] [3, 0, 1, 4, 14, 25, 27] (T' := [(3, .pointer (some ⟨b2, 0, none⟩)), (0, .pointer (some ⟨kb, 0, none⟩)), (1, .agg #[.int .u8 ev.kind, .int .u32 ev.pick, .int .u64 ev.draw, .int .u32 ev.addr, .int .u32 ev.node, .int .u32 ev.dst, .int .u32 ev.xfer, .int .u8 ev.ty, .int .u64 ev.arg, .int .u64 ev.badge, .slice xo ev.ws.length cx]), (4, .int .u8 0), (14, .pointer (some ⟨bc, 0, none⟩)), (25, .agg #[.int .u16 ((S.tcb S.cur.toNat).cs.idx), .int .u32 ((S.tcb S.cur.toNat).cs.gen)]), (27, .int .u32 ev.addr)]) (φ := (kb = kb ∧ cellsAre (kC bo bc S) 1 [.pointer (some ⟨bc, 0, none⟩)]) ∧ (kb = kb ∧ cellsAre (kC bo bc S) 6427 [.int .i16 S.cur]) ∧ (0 ≤ S.cur ∧ S.cur < 256) ∧ (kb = kb ∧ cellsAre (kC bo bc S) (2 + (S.cur.toNat * 21) + 4) [.int .u16 ((S.tcb S.cur.toNat).cs.idx), .int .u32 ((S.tcb S.cur.toNat).cs.gen)]) ∧ (b2 = b2 ∧ Nat.ble (3 + 1) 11 = true) ∧ True) (fuel := 6) h12 (by kernel_rfl) rfl (by kernel_rfl) (by kernel_rfl) ⟨trivial, trivial, trivial, rfl, trivial, trivial, trivial, trivial, rfl, trivial, trivial, trivial, trivial, trivial, rfl, trivial, rfl, trivial⟩ ⟨⟨rfl, k_caps⟩, ⟨rfl, k_cur⟩, ⟨by omega, by omega⟩, ⟨rfl, (k_tcb (i := S.cur.toNat) (k := 4) (by omega) (by omega) ⟨rfl, rfl, trivial⟩)⟩, ⟨rfl, rfl⟩, trivial⟩ fun a14 h15 => ?_
  clear h12
  refine wpAnyK_one (i := 17) (fuel := 5) (by kernel_rfl) ?_
  obtain ⟨ls16, lk17, el18⟩ : ∃ s k, lookP C.ent (S.tcb S.cur.toNat).cs ev.addr = (s, k) := ⟨_, _, rfl⟩
  have hlr19 := (rS.t (i := S.cur.toNat) (by omega)).ci
  refine op_call h15 rfl rfl rfl (callOk Tryd.func39 (by decide) rfl) (args := [.pointer (some ⟨bc, 0, none⟩), .agg #[.int .u16 ((S.tcb S.cur.toNat).cs.idx), .int .u32 ((S.tcb S.cur.toNat).cs.gen)], .int .u32 ev.addr]) rfl (lookupE (E := C.ent) bo bc nd C.pres (S.tcb S.cur.toNat).cs ev.addr ⟨hlr19.1, by omega⟩ he.addr _ h15.inv.sp h15.inv.st h15.inv.ap.symm el18) ?_
  rintro _ w20 ⟨rfl, hf22⟩
  refine ⟨_, rfl, ?_⟩
  have h21 := (h15.grow hf22).put (d := some 28) (v := .tuple #[.int .i64 ls16, .int .u8 lk17]) (T' := [(28, .tuple #[.int .i64 ls16, .int .u8 lk17]), (3, .pointer (some ⟨b2, 0, none⟩)), (0, .pointer (some ⟨kb, 0, none⟩)), (1, .agg #[.int .u8 ev.kind, .int .u32 ev.pick, .int .u64 ev.draw, .int .u32 ev.addr, .int .u32 ev.node, .int .u32 ev.dst, .int .u32 ev.xfer, .int .u8 ev.ty, .int .u64 ev.arg, .int .u64 ev.badge, .slice xo ev.ws.length cx]), (4, .int .u8 0), (14, .pointer (some ⟨bc, 0, none⟩)), (25, .agg #[.int .u16 ((S.tcb S.cur.toNat).cs.idx), .int .u32 ((S.tcb S.cur.toNat).cs.gen)]), (27, .int .u32 ev.addr)]) rfl
  refine ⟨keepNil, ?_⟩
  clear h15
  refine dr_batch tabOk tabZ_ok (by repeat (first | with_reducible exact PF.body | with_reducible apply PF.inB | with_reducible apply PF.next)) [(18, {}), (19, {}), (20, {}), (21, {}), (22, {})] [3, 0, 1, 4, 5, 6] (T' := [(3, .pointer (some ⟨b2, 0, none⟩)), (0, .pointer (some ⟨kb, 0, none⟩)), (1, .agg #[.int .u8 ev.kind, .int .u32 ev.pick, .int .u64 ev.draw, .int .u32 ev.addr, .int .u32 ev.node, .int .u32 ev.dst, .int .u32 ev.xfer, .int .u8 ev.ty, .int .u64 ev.arg, .int .u64 ev.badge, .slice xo ev.ws.length cx]), (4, .int .u8 0), (5, .int .i64 ls16), (6, .int .u8 lk17)]) (φ := True) (fuel := 0) h21 (by kernel_rfl) rfl (by kernel_rfl) (by kernel_rfl) ⟨trivial, trivial, trivial, trivial, trivial, trivial⟩ trivial fun a23 h24 => ?_
  clear h21
  refine wpAnyK_done (by kernel_rfl) ?_ _
  refine hK10 _ _ ?_
  clear hK10
  refine wp_seq_k fun K25 hK25 => ?_
  refine wp_seq_k fun K26 hK26 => ?_
  refine nd_start (l := [0, 1]) rfl ?_
  refine nd_batch tabOk tabZ_ok [(0, {}), (1, {})] [3, 0, 1, 4, 5, 6, 32] (T' := [(3, .pointer (some ⟨b2, 0, none⟩)), (0, .pointer (some ⟨kb, 0, none⟩)), (1, .agg #[.int .u8 ev.kind, .int .u32 ev.pick, .int .u64 ev.draw, .int .u32 ev.addr, .int .u32 ev.node, .int .u32 ev.dst, .int .u32 ev.xfer, .int .u8 ev.ty, .int .u64 ev.arg, .int .u64 ev.badge, .slice xo ev.ws.length cx]), (4, .int .u8 0), (5, .int .i64 ls16), (6, .int .u8 lk17), (32, .bool (lk17 != 0))]) (φ := True) (rest := []) h24 (by kernel_rfl) rfl trivial fun a27 h28 => ?_
  clear h24
  refine nd_done ?_
  refine hK26 _ _ ?_
  clear hK26
  refine c_split h28 (b := (lk17 != 0)) rfl (fun hc29 => ?_) (fun hc29 => ?_)
  ·
    have hc29f : lk17 ≠ 0 := by simpa using hc29
    refine wp_seq_k fun K30 hK30 => ?_
    refine nd_start (l := [0, 1]) rfl ?_
    refine nd_batch tabOk tabZ_ok [(0, {}), (1, {})] [3, 0, 1, 5, 6, 4] (T' := [(3, .pointer (some ⟨b2, 0, none⟩)), (0, .pointer (some ⟨kb, 0, none⟩)), (1, .agg #[.int .u8 ev.kind, .int .u32 ev.pick, .int .u64 ev.draw, .int .u32 ev.addr, .int .u32 ev.node, .int .u32 ev.dst, .int .u32 ev.xfer, .int .u8 ev.ty, .int .u64 ev.arg, .int .u64 ev.badge, .slice xo ev.ws.length cx]), (5, .int .i64 ls16), (6, .int .u8 lk17), (4, .int .u8 lk17)]) (φ := True) (rest := []) h28 (by kernel_rfl) rfl trivial fun a31 h32 => ?_
    clear h28
    refine nd_done ?_
    refine hK30 _ _ ?_
    clear hK30
    refine wp_ret ?_
    try simp only [Exit.then, Exit.inBlock]
    try rw [if_pos trivial]
    exact s_ret tabOk tabZ_ok h32 [(.tmp 4, {})] (vs := [.int .u8 lk17]) (φ := True) rfl (by kernel_rfl) trivial (by rw [show dropP S C ev = (S, C, lk17) from (by unfold dropP; (try dsimp only); rw [el18]; (try dsimp only); (first | rw [if_pos hc29f] | rw [if_pos (fun hz => hz hc29f)]))]; exact ⟨rfl, h32.kn (k := 0) rfl, h32.inv, (fun _ hq => hq), h32.frame⟩)
  ·
    have hc29f : lk17 = 0 := by simpa using hc29
    obtain ⟨li33, lj33, hli33, hlj33, hlp33, hls33⟩ := look_fact hC hlr19.1 he.addr.1 el18 hc29f
    refine wp_skip ?_
    refine hK25 _ _ ?_
    clear hK25
    refine wp_seq_k fun K34 hK34 => ?_
    refine wp_seq_k fun K35 hK35 => ?_
    refine nd_start (l := [0, 1, 2, 3, 4, 5, 6, 7]) rfl ?_
    refine nd_batch tabOk tabZ_ok [(0, {}), (1, {}), (2, {}), (3, {k := 0, m := 1, vs := [.pointer (some ⟨bc, 0, none⟩)]}), (4, {})] [3, 0, 1, 4, 5, 6, 37, 38] (T' := [(3, .pointer (some ⟨b2, 0, none⟩)), (0, .pointer (some ⟨kb, 0, none⟩)), (1, .agg #[.int .u8 ev.kind, .int .u32 ev.pick, .int .u64 ev.draw, .int .u32 ev.addr, .int .u32 ev.node, .int .u32 ev.dst, .int .u32 ev.xfer, .int .u8 ev.ty, .int .u64 ev.arg, .int .u64 ev.badge, .slice xo ev.ws.length cx]), (4, .int .u8 0), (5, .int .i64 ls16), (6, .int .u8 lk17), (37, .pointer (some ⟨bc, 0, none⟩)), (38, .int .i64 ls16)]) (φ := (kb = kb ∧ cellsAre (kC bo bc S) 1 [.pointer (some ⟨bc, 0, none⟩)]) ∧ True) (rest := [5, 6, 7]) h28 (by kernel_rfl) rfl ⟨⟨rfl, k_caps⟩, trivial⟩ fun a36 h37 => ?_
    clear h28
    refine nd_op ?_
    refine op_call h37 rfl rfl rfl (callOk Tryd.func62 (by decide) rfl) (args := [.pointer (some ⟨bc, 0, none⟩), .int .i64 ls16]) rfl (atE bo bc nd C hli33 hlj33 hlp33 hls33 _ h37.inv) ?_
    rintro _ w38 ⟨rfl, hf40⟩
    refine ⟨_, rfl, ?_⟩
    have h39 := (h37.grow hf40).put (d := some 39) (v := .agg #[.int .u8 ((C.cel ls16.toNat).cap.ty), .int .u16 ((C.cel ls16.toNat).cap.obj.idx), .int .u32 ((C.cel ls16.toNat).cap.obj.gen), .int .u8 ((C.cel ls16.toNat).cap.rights), .int .u64 ((C.cel ls16.toNat).cap.badge)]) (T' := [(39, .agg #[.int .u8 ((C.cel ls16.toNat).cap.ty), .int .u16 ((C.cel ls16.toNat).cap.obj.idx), .int .u32 ((C.cel ls16.toNat).cap.obj.gen), .int .u8 ((C.cel ls16.toNat).cap.rights), .int .u64 ((C.cel ls16.toNat).cap.badge)]), (3, .pointer (some ⟨b2, 0, none⟩)), (0, .pointer (some ⟨kb, 0, none⟩)), (1, .agg #[.int .u8 ev.kind, .int .u32 ev.pick, .int .u64 ev.draw, .int .u32 ev.addr, .int .u32 ev.node, .int .u32 ev.dst, .int .u32 ev.xfer, .int .u8 ev.ty, .int .u64 ev.arg, .int .u64 ev.badge, .slice xo ev.ws.length cx]), (4, .int .u8 0), (5, .int .i64 ls16), (6, .int .u8 lk17), (37, .pointer (some ⟨bc, 0, none⟩)), (38, .int .i64 ls16)]) rfl
    clear h37
    refine nd_batch tabOk tabZ_ok [(6, {}), (7, {})] [3, 0, 1, 4, 5, 6, 41] (T' := [(3, .pointer (some ⟨b2, 0, none⟩)), (0, .pointer (some ⟨kb, 0, none⟩)), (1, .agg #[.int .u8 ev.kind, .int .u32 ev.pick, .int .u64 ev.draw, .int .u32 ev.addr, .int .u32 ev.node, .int .u32 ev.dst, .int .u32 ev.xfer, .int .u8 ev.ty, .int .u64 ev.arg, .int .u64 ev.badge, .slice xo ev.ws.length cx]), (4, .int .u8 0), (5, .int .i64 ls16), (6, .int .u8 lk17), (41, .bool ((C.cel ls16.toNat).cap.ty == 0))]) (φ := True) (rest := []) h39 (by kernel_rfl) rfl trivial fun a41 h42 => ?_
    clear h39
    refine nd_done ?_
    refine hK35 _ _ ?_
    clear hK35
    refine c_split h42 (b := ((C.cel ls16.toNat).cap.ty == 0)) rfl (fun hc43 => ?_) (fun hc43 => ?_)
    ·
      have hc43f : (C.cel ls16.toNat).cap.ty = 0 := by simpa using hc43
      refine wp_seq_k fun K44 hK44 => ?_
      refine nd_start (l := [0]) rfl ?_
      refine nd_batch tabOk tabZ_ok [(0, {})] [3, 0, 1, 5, 6, 4] (T' := [(3, .pointer (some ⟨b2, 0, none⟩)), (0, .pointer (some ⟨kb, 0, none⟩)), (1, .agg #[.int .u8 ev.kind, .int .u32 ev.pick, .int .u64 ev.draw, .int .u32 ev.addr, .int .u32 ev.node, .int .u32 ev.dst, .int .u32 ev.xfer, .int .u8 ev.ty, .int .u64 ev.arg, .int .u64 ev.badge, .slice xo ev.ws.length cx]), (5, .int .i64 ls16), (6, .int .u8 lk17), (4, .int .u8 3)]) (φ := True) (rest := []) h42 (by kernel_rfl) rfl trivial fun a45 h46 => ?_
      clear h42
      refine nd_done ?_
      refine hK44 _ _ ?_
      clear hK44
      refine wp_ret ?_
      try simp only [Exit.then, Exit.inBlock]
      try rw [if_pos trivial]
      exact s_ret tabOk tabZ_ok h46 [(.tmp 4, {})] (vs := [.int .u8 3]) (φ := True) rfl (by kernel_rfl) trivial (by rw [show dropP S C ev = (S, C, 3) from (by unfold dropP; (try dsimp only); rw [el18]; (try dsimp only); (first | rw [if_neg hc29f] | rw [if_neg (fun hz => hz hc29f)]); (first | rw [if_pos hc43f] | rw [if_pos (fun hz => hz hc43f)]))]; exact ⟨rfl, h46.kn (k := 0) rfl, h46.inv, (fun _ hq => hq), h46.frame⟩)
    ·
      have hc43f : (C.cel ls16.toNat).cap.ty ≠ 0 := by simpa using hc43
      refine wp_skip ?_
      refine hK34 _ _ ?_
      clear hK34
      refine wp_seq_k fun K47 hK47 => ?_
      refine nd_start (l := [0]) rfl ?_
      refine nd_batch tabOk tabZ_ok [(0, {})] [3, 0, 1, 4, 5, 6, 7] (T' := [(3, .pointer (some ⟨b2, 0, none⟩)), (0, .pointer (some ⟨kb, 0, none⟩)), (1, .agg #[.int .u8 ev.kind, .int .u32 ev.pick, .int .u64 ev.draw, .int .u32 ev.addr, .int .u32 ev.node, .int .u32 ev.dst, .int .u32 ev.xfer, .int .u8 ev.ty, .int .u64 ev.arg, .int .u64 ev.badge, .slice xo ev.ws.length cx]), (4, .int .u8 0), (5, .int .i64 ls16), (6, .int .u8 lk17), (7, .slice none 0 0)]) (φ := True) (rest := []) h42 (by kernel_rfl) rfl trivial fun a48 h49 => ?_
      clear h42
      refine nd_done ?_
      refine hK47 _ _ ?_
      clear hK47
      refine wp_seq_k fun K50 hK50 => ?_
      refine wp_seq_k fun K51 hK51 => ?_
      refine nd_start (l := [0, 1, 2]) rfl ?_
      refine nd_batch tabOk tabZ_ok [(0, {}), (1, {k := 1}), (2, {})] [3, 0, 1, 4, 5, 6, 7, 44] (T' := [(3, .pointer (some ⟨b2, 0, none⟩)), (0, .pointer (some ⟨kb, 0, none⟩)), (1, .agg #[.int .u8 ev.kind, .int .u32 ev.pick, .int .u64 ev.draw, .int .u32 ev.addr, .int .u32 ev.node, .int .u32 ev.dst, .int .u32 ev.xfer, .int .u8 ev.ty, .int .u64 ev.arg, .int .u64 ev.badge, .slice xo ev.ws.length cx]), (4, .int .u8 0), (5, .int .i64 ls16), (6, .int .u8 lk17), (7, .slice none 0 0), (44, .bool (ev.kind == 13))]) (φ := (b2 = b2 ∧ Nat.ble (0 + 1) 11 = true) ∧ True) (rest := []) h49 (by kernel_rfl) rfl ⟨⟨rfl, rfl⟩, trivial⟩ fun a52 h53 => ?_
      clear h49
      refine nd_done ?_
      refine hK51 _ _ ?_
      clear hK51
      refine c_split h53 (b := (ev.kind == 13)) rfl (fun hc54 => ?_) (fun hc54 => ?_)
      ·
        have hc54f : ev.kind = 13 := by simpa using hc54
        refine nd_start (l := [0, 1, 2, 3, 4, 5, 6]) rfl ?_
        refine nd_batch tabOk tabZ_ok [(0, {}), (1, {}), (2, {}), (3, {k := 0, m := 1, vs := [.pointer (some ⟨bc, 0, none⟩)]}), (4, {})] [3, 0, 1, 4, 5, 6, 7, 48, 49] (T' := [(3, .pointer (some ⟨b2, 0, none⟩)), (0, .pointer (some ⟨kb, 0, none⟩)), (1, .agg #[.int .u8 ev.kind, .int .u32 ev.pick, .int .u64 ev.draw, .int .u32 ev.addr, .int .u32 ev.node, .int .u32 ev.dst, .int .u32 ev.xfer, .int .u8 ev.ty, .int .u64 ev.arg, .int .u64 ev.badge, .slice xo ev.ws.length cx]), (4, .int .u8 0), (5, .int .i64 ls16), (6, .int .u8 lk17), (7, .slice none 0 0), (48, .pointer (some ⟨bc, 0, none⟩)), (49, .int .i64 ls16)]) (φ := (kb = kb ∧ cellsAre (kC bo bc S) 1 [.pointer (some ⟨bc, 0, none⟩)]) ∧ True) (rest := [5, 6]) h53 (by kernel_rfl) rfl ⟨⟨rfl, k_caps⟩, trivial⟩ fun a55 h56 => ?_
        clear h53
        refine nd_op ?_
        have hih := revoke_ok bo bc nd C hC ls16 _ h56.inv
        have hdo := rev_ok ls16 4097 C [] hC (fun _ hq => by cases hq)
        have hdead := hdo.dead
        have hdlen : _ ≤ 4096 := Nat.le_trans (Nat.le_trans (Nat.le_add_right _ _) hdo.len) (by have := cnt_le (C := C); simp; omega)
        obtain ⟨Cd, ld, ed⟩ : ∃ a b, revokeP 4097 C ls16 [] = (a, b) := ⟨_, _, rfl⟩
        rw [ed] at hih hdead hdlen
        refine op_call h56 rfl rfl rfl (callOk Tryd.func96 (by decide) rfl) (args := [.pointer (some ⟨bc, 0, none⟩), .int .i64 ls16]) rfl hih ?_
        rintro _ w57 ⟨od, cd, Fd, rfl, hRd, hnd, hsd, hfd⟩
        refine ⟨_, rfl, ?_⟩
        dsimp only at hRd hsd hdead hdlen ⊢
        have h58 := (h56.callF hfd (fun _ hb => hb) (fun b hb => .inl (List.mem_cons_of_mem _ hb)) (A' := CRow bo bc nd Cd ld od cd Fd) (F' := capF bo bc nd Cd ++ Fd) (kcons (by intro hq; cases hq) (kcons (by intro hq; cases hq) knil)) hRd CRow.stable hRd.low (fun b hb => (List.mem_append.1 hb).elim (fun h => .inl (hsd b h)) (fun h => .inr (hnd b h)))).put (d := some 50) (v := .slice od ld.length cd) (T' := [(50, .slice od ld.length cd), (3, .pointer (some ⟨b2, 0, none⟩)), (0, .pointer (some ⟨kb, 0, none⟩)), (1, .agg #[.int .u8 ev.kind, .int .u32 ev.pick, .int .u64 ev.draw, .int .u32 ev.addr, .int .u32 ev.node, .int .u32 ev.dst, .int .u32 ev.xfer, .int .u8 ev.ty, .int .u64 ev.arg, .int .u64 ev.badge, .slice xo ev.ws.length cx]), (4, .int .u8 0), (5, .int .i64 ls16), (6, .int .u8 lk17), (7, .slice none 0 0), (48, .pointer (some ⟨bc, 0, none⟩)), (49, .int .i64 ls16)]) rfl
        clear h56
        refine nd_batch tabOk tabZ_ok [(6, {})] [3, 0, 1, 4, 5, 6, 7] (T' := [(3, .pointer (some ⟨b2, 0, none⟩)), (0, .pointer (some ⟨kb, 0, none⟩)), (1, .agg #[.int .u8 ev.kind, .int .u32 ev.pick, .int .u64 ev.draw, .int .u32 ev.addr, .int .u32 ev.node, .int .u32 ev.dst, .int .u32 ev.xfer, .int .u8 ev.ty, .int .u64 ev.arg, .int .u64 ev.badge, .slice xo ev.ws.length cx]), (4, .int .u8 0), (5, .int .i64 ls16), (6, .int .u8 lk17), (7, .slice od ld.length cd)]) (φ := True) (rest := []) h58 (by kernel_rfl) rfl trivial fun a59 h60 => ?_
        clear h58
        refine nd_done ?_
        refine hK50 _ _ ?_
        clear hK50
        refine wp_seq_k fun K61 hK61 => ?_
        refine wp_seq_k fun K62 hK62 => ?_
        refine nd_start (l := [0, 1, 2]) rfl ?_
        refine nd_batch tabOk tabZ_ok [(0, {}), (1, {}), (2, {})] [3, 0, 1, 4, 5, 6, 7, 57, 58, 59] (T' := [(3, .pointer (some ⟨b2, 0, none⟩)), (0, .pointer (some ⟨kb, 0, none⟩)), (1, .agg #[.int .u8 ev.kind, .int .u32 ev.pick, .int .u64 ev.draw, .int .u32 ev.addr, .int .u32 ev.node, .int .u32 ev.dst, .int .u32 ev.xfer, .int .u8 ev.ty, .int .u64 ev.arg, .int .u64 ev.badge, .slice xo ev.ws.length cx]), (4, .int .u8 0), (5, .int .i64 ls16), (6, .int .u8 lk17), (7, .slice od ld.length cd), (57, .slice od ld.length cd), (58, .int .i64 ((ld.length : Nat) : Int)), (59, .int .i64 0)]) (φ := True) (rest := []) h60 (by kernel_rfl) rfl trivial fun a63 h64 => ?_
        clear h60
        refine nd_done ?_
        refine hK62 _ _ ?_
        clear hK62
        refine wp_block ?_
        refine wp_loop_ghost (fun g ga gw => ∃ (Sk : KP) (i : Int), ((g : Int) = ld.length - i) ∧ (0 ≤ i ∧ i ≤ ld.length) ∧ (RI Sk) ∧ (LI Sk) ∧ (Sk = buryAll S (ld.take i.toNat)) ∧ St ⟨67, kb :: capF bo bc nd C, w, CRow bo bc nd Cd ld od cd Fd, capF bo bc nd Cd ++ Fd⟩ [(3, .pointer (some ⟨b2, 0, none⟩)), (0, .pointer (some ⟨kb, 0, none⟩)), (57, .slice od ld.length cd), (58, .int .i64 ((ld.length : Nat) : Int)), (59, .int .i64 i)] [(kb, ⟨kC bo bc Sk, 90, false⟩), (b2, ⟨[.int .u8 ev.kind, .int .u32 ev.pick, .int .u64 ev.draw, .int .u32 ev.addr, .int .u32 ev.node, .int .u32 ev.dst, .int .u32 ev.xfer, .int .u8 ev.ty, .int .u64 ev.arg, .int .u64 ev.badge, .slice xo ev.ws.length cx], 35, false⟩)] ga gw) ld.length ⟨S, 0, by simp, ⟨by simp, by simp⟩, rS, lS, rfl, (h64.slotsMono (restr_spec (keep := [3, 0, 57, 58, 59]) rfl))⟩ ?_
        clear h64
        rintro g a65 w66 ⟨Sk, i, hi68, hi69, hi70, hi71, hi72, h67⟩
        have hig := hi68
        have hi0 := hi69
        have rSk := hi70
        have lSk := hi71
        have eSk := hi72
        refine wp_seq_k fun K73 hK73 => ?_
        refine nd_start (l := [0]) rfl ?_
        refine nd_batch tabOk tabZ_ok [(0, {})] [3, 0, 57, 58, 59, 60] (T' := [(3, .pointer (some ⟨b2, 0, none⟩)), (0, .pointer (some ⟨kb, 0, none⟩)), (57, .slice od ld.length cd), (58, .int .i64 ((ld.length : Nat) : Int)), (59, .int .i64 i), (60, .bool (decide (i < ((ld.length : Nat) : Int))))]) (φ := True) (rest := []) h67 (by kernel_rfl) rfl trivial fun a74 h75 => ?_
        clear h67
        refine nd_done ?_
        refine hK73 _ _ ?_
        clear hK73
        refine wp_seq_k fun K76 hK76 => ?_
        refine c_split h75 (b := decide (i < ((ld.length : Nat) : Int))) rfl (fun hc77 => ?_) (fun hc77 => ?_)
        ·
          have hc77f : i < ((ld.length : Nat) : Int) := by simpa using hc77
          obtain ⟨x, hx⟩ : ∃ x, ld[i.toNat]? = some x := ⟨ld[i.toNat]'(by omega), by simp⟩
          have hxd := hdead x (List.mem_of_getElem? hx)
          obtain ⟨b78, cs79, ho9, hb9, hcs9, hF9, hcap9, hlen9⟩ := rl_open h75.inv.row cpC_len hx
          subst ho9 hF9
          have h80 := h75.open_ hb9 (h75.notinL (List.mem_append_right _ (by simp)) (kcons (by intro hq; cases hq) (kcons (by intro hq; cases hq) knil)))
          clear h75
          obtain ⟨Qk, hQk⟩ := lSk
          refine wp_skip ?_
          refine hK76 _ _ ?_
          clear hK76
          refine wp_seq_k fun K81 hK81 => ?_
          refine wp_block ?_
          refine wp_seq_k fun K82 hK82 => ?_
          refine nd_start (l := [0, 1, 2, 3]) rfl ?_
          refine nd_batch tabOk tabZ_ok [(0, {}), (1, {k := 2, m := 1, vs := [.int .u8 x.ty, .int .u16 x.obj.idx, .int .u32 x.obj.gen, .int .u8 x.rights, .int .u64 x.badge]})] [3, 0, 57, 58, 59, 62] (T' := [(3, .pointer (some ⟨b2, 0, none⟩)), (0, .pointer (some ⟨kb, 0, none⟩)), (57, .slice (some ⟨b78, 0, none⟩) ld.length cd), (58, .int .i64 ((ld.length : Nat) : Int)), (59, .int .i64 i), (62, .agg #[.int .u8 x.ty, .int .u16 x.obj.idx, .int .u32 x.obj.gen, .int .u8 x.rights, .int .u64 x.badge])]) (φ := (0 ≤ i ∧ i < ((ld.length : Nat) : Int)) ∧ (b78 = b78 ∧ cellsAre cs79 (0 + (i.toNat * 5)) [.int .u8 x.ty, .int .u16 x.obj.idx, .int .u32 x.obj.gen, .int .u8 x.rights, .int .u64 x.badge]) ∧ True) (rest := [2, 3]) h80 (by kernel_rfl) rfl ⟨⟨by omega, by omega⟩, ⟨rfl, (by rw [Nat.zero_add]; exact hcs9)⟩, trivial⟩ fun a83 h84 => ?_
          clear h80
          refine nd_op ?_
          refine op_new tabOk (cells := [.int .u8 0, .int .u16 0, .int .u32 0, .int .u8 0, .int .u64 0]) (ty := 49) (ln := none) (L1 := fun b85 => [(kb, ⟨kC bo bc Sk, 90, false⟩), (b2, ⟨[.int .u8 ev.kind, .int .u32 ev.pick, .int .u64 ev.draw, .int .u32 ev.addr, .int .u32 ev.node, .int .u32 ev.dst, .int .u32 ev.xfer, .int .u8 ev.ty, .int .u64 ev.arg, .int .u64 ev.badge, .slice xo ev.ws.length cx], 35, false⟩), (b78, ⟨cs79, 49, true⟩), (b85, ⟨[.int .u8 0, .int .u16 0, .int .u32 0, .int .u8 0, .int .u64 0], 49, false⟩)]) h84 rfl rfl rfl rfl (by kernel_rfl) (fun _ => rfl) fun b85 w86 a87 h88 hf89 hn90 => ?_
          clear h84
          refine nd_op ?_
          refine op_store tabOk {k := 3} (L' := [(kb, ⟨kC bo bc Sk, 90, false⟩), (b2, ⟨[.int .u8 ev.kind, .int .u32 ev.pick, .int .u64 ev.draw, .int .u32 ev.addr, .int .u32 ev.node, .int .u32 ev.dst, .int .u32 ev.xfer, .int .u8 ev.ty, .int .u64 ev.arg, .int .u64 ev.badge, .slice xo ev.ws.length cx], 35, false⟩), (b78, ⟨cs79, 49, true⟩), (b85, ⟨[.int .u8 x.ty, .int .u16 x.obj.idx, .int .u32 x.obj.gen, .int .u8 x.rights, .int .u64 x.badge], 49, false⟩)]) (φ := b85 = b85 ∧ Nat.ble (0 + 5) 5 = true) h88 rfl rfl rfl (by kernel_rfl) ⟨rfl, rfl⟩ fun w91 h92 => ?_
          clear h88
          refine nd_done ?_
          refine hK82 _ _ ?_
          clear hK82
          refine nd_start (l := [0, 1, 2]) rfl ?_
          refine nd_batch tabOk tabZ_ok [(0, {}), (1, {k := 3})] [9, 3, 0, 57, 58, 59, 63, 64] (T' := [(9, .pointer (some ⟨b85, 0, none⟩)), (3, .pointer (some ⟨b2, 0, none⟩)), (0, .pointer (some ⟨kb, 0, none⟩)), (57, .slice (some ⟨b78, 0, none⟩) ld.length cd), (58, .int .i64 ((ld.length : Nat) : Int)), (59, .int .i64 i), (63, .pointer (some ⟨kb, 0, none⟩)), (64, .agg #[.int .u8 x.ty, .int .u16 x.obj.idx, .int .u32 x.obj.gen, .int .u8 x.rights, .int .u64 x.badge])]) (φ := (b85 = b85 ∧ Nat.ble (0 + 5) 5 = true) ∧ True) (rest := [2]) h92 (by kernel_rfl) rfl ⟨⟨rfl, rfl⟩, trivial⟩ fun a93 h94 => ?_
          clear h92
          refine nd_op ?_
          refine op_call h94 rfl rfl rfl (callOk Tryd.func106 (by decide) rfl) (args := [.pointer (some ⟨kb, 0, none⟩), .agg #[.int .u8 x.ty, .int .u16 x.obj.idx, .int .u32 x.obj.gen, .int .u8 x.rights, .int .u64 x.badge]]) rfl (bury_walk kb bo bc Sk rSk Qk hQk x hxd.2.2 _ (h94.kn (k := 0) rfl) (cellsK hg h94.frame hgs (by simp; exact ⟨hgk, hgc⟩)) (Nat.lt_of_lt_of_le hgs h94.frame.size) hgk) ?_
          rintro _ w98 ⟨rfl, hb96, hf97⟩
          refine ⟨_, rfl, ?_⟩
          obtain ⟨S95, eS95⟩ : ∃ S9, S9 = buryP Sk x := ⟨_, rfl⟩
          rw [← eS95] at hb96
          have rS95 : RI S95 := by rw [eS95]; exact (bury_ok rSk ⟨Qk, hQk⟩ hxd.2.2).1
          have h99 := (h94.setBlk (k := 0) rfl rfl hf97 hb96 (L' := [(kb, ⟨kC bo bc S95, 90, false⟩), (b2, ⟨[.int .u8 ev.kind, .int .u32 ev.pick, .int .u64 ev.draw, .int .u32 ev.addr, .int .u32 ev.node, .int .u32 ev.dst, .int .u32 ev.xfer, .int .u8 ev.ty, .int .u64 ev.arg, .int .u64 ev.badge, .slice xo ev.ws.length cx], 35, false⟩), (b78, ⟨cs79, 49, true⟩), (b85, ⟨[.int .u8 x.ty, .int .u16 x.obj.idx, .int .u32 x.obj.gen, .int .u8 x.rights, .int .u64 x.badge], 49, false⟩)]) rfl).put (d := some 65) (v := .tuple #[]) (T' := [(65, .tuple #[]), (9, .pointer (some ⟨b85, 0, none⟩)), (3, .pointer (some ⟨b2, 0, none⟩)), (0, .pointer (some ⟨kb, 0, none⟩)), (57, .slice (some ⟨b78, 0, none⟩) ld.length cd), (58, .int .i64 ((ld.length : Nat) : Int)), (59, .int .i64 i), (63, .pointer (some ⟨kb, 0, none⟩)), (64, .agg #[.int .u8 x.ty, .int .u16 x.obj.idx, .int .u32 x.obj.gen, .int .u8 x.rights, .int .u64 x.badge])]) rfl
          clear h94
          refine nd_done ?_
          refine hK81 _ _ ?_
          clear hK81
          refine nd_start (l := [0, 1]) rfl ?_
          refine nd_batch tabOk tabZ_ok [(0, {}), (1, {})] [9, 3, 0, 57, 58, 59] (T' := [(9, .pointer (some ⟨b85, 0, none⟩)), (3, .pointer (some ⟨b2, 0, none⟩)), (0, .pointer (some ⟨kb, 0, none⟩)), (57, .slice (some ⟨b78, 0, none⟩) ld.length cd), (58, .int .i64 ((ld.length : Nat) : Int)), (59, .int .i64 (i + 1))]) (φ := inR .i64 (i + 1) ∧ True) (rest := []) h99 (by kernel_rfl) rfl ⟨⟨by omega, by omega⟩, trivial⟩ fun a100 h101 => ?_
          clear h99
          refine nd_done ?_
          have h102 := h101.memMono (L' := [(kb, ⟨kC bo bc S95, 90, false⟩), (b2, ⟨[.int .u8 ev.kind, .int .u32 ev.pick, .int .u64 ev.draw, .int .u32 ev.addr, .int .u32 ev.node, .int .u32 ev.dst, .int .u32 ev.xfer, .int .u8 ev.ty, .int .u64 ev.arg, .int .u64 ev.badge, .slice xo ev.ws.length cx], 35, false⟩)]) (List.Sublist.cons_cons _ (List.Sublist.cons_cons _ (List.Sublist.cons _ (List.Sublist.cons _ List.Sublist.slnil))))
          clear h101
          exact ⟨(g - 1), by omega, S95, (i + 1), by omega, ⟨by omega, by omega⟩, rS95, (by rw [eS95]; exact (bury_ok rSk ⟨Qk, hQk⟩ hxd.2.2).2), (by rw [show (i + 1).toNat = i.toNat + 1 by omega, List.take_add_one, hx, eS95, eSk]; simp [buryAll]), (h102.slotsMono (restr_spec (keep := [3, 0, 57, 58, 59]) rfl))⟩
        ·
          have hc77f : ¬ i < ((ld.length : Nat) : Int) := by simpa using hc77
          rw [show i.toNat = ld.length by omega, List.take_length] at eSk
          have eSk2 := eSk.symm
          refine wp_exit ?_
          refine hK61 _ _ ?_
          clear hK61
          refine wp_seq_k fun K103 hK103 => ?_
          refine nd_start (l := [0]) rfl ?_
          refine nd_batch tabOk tabZ_ok [(0, {})] [3, 0, 57, 58, 59, 4] (T' := [(3, .pointer (some ⟨b2, 0, none⟩)), (0, .pointer (some ⟨kb, 0, none⟩)), (57, .slice od ld.length cd), (58, .int .i64 ((ld.length : Nat) : Int)), (59, .int .i64 i), (4, .int .u8 0)]) (φ := True) (rest := []) h75 (by kernel_rfl) rfl trivial fun a104 h105 => ?_
          clear h75
          refine nd_done ?_
          refine hK103 _ _ ?_
          clear hK103
          refine wp_ret ?_
          try simp only [Exit.then, Exit.inBlock]
          try rw [if_pos trivial]
          exact s_ret tabOk tabZ_ok h105 [(.tmp 4, {})] (vs := [.int .u8 0]) (φ := True) rfl (by kernel_rfl) trivial (by rw [show dropP S C ev = (Sk, Cd, 0) from (by unfold dropP; (try dsimp only); rw [el18]; (try dsimp only); (first | rw [if_neg hc29f] | rw [if_neg (fun hz => hz hc29f)]); (first | rw [if_neg hc43f] | rw [if_neg (fun hz => hz hc43f)]); (first | rw [if_pos hc54f] | rw [if_pos (fun hz => hz hc54f)]); rw [ed]; (try dsimp only); rw [eSk2])]; exact ⟨rfl, h105.kn (k := 0) rfl, h105.inv.cap, hsd, h105.frame⟩)
      ·
        have hc54f : ev.kind ≠ 13 := by simpa using hc54
        refine nd_start (l := [0, 1, 2, 3, 4, 5, 6]) rfl ?_
        refine nd_batch tabOk tabZ_ok [(0, {}), (1, {}), (2, {}), (3, {k := 0, m := 1, vs := [.pointer (some ⟨bc, 0, none⟩)]}), (4, {})] [3, 0, 1, 4, 5, 6, 7, 54, 55] (T' := [(3, .pointer (some ⟨b2, 0, none⟩)), (0, .pointer (some ⟨kb, 0, none⟩)), (1, .agg #[.int .u8 ev.kind, .int .u32 ev.pick, .int .u64 ev.draw, .int .u32 ev.addr, .int .u32 ev.node, .int .u32 ev.dst, .int .u32 ev.xfer, .int .u8 ev.ty, .int .u64 ev.arg, .int .u64 ev.badge, .slice xo ev.ws.length cx]), (4, .int .u8 0), (5, .int .i64 ls16), (6, .int .u8 lk17), (7, .slice none 0 0), (54, .pointer (some ⟨bc, 0, none⟩)), (55, .int .i64 ls16)]) (φ := (kb = kb ∧ cellsAre (kC bo bc S) 1 [.pointer (some ⟨bc, 0, none⟩)]) ∧ True) (rest := [5, 6]) h53 (by kernel_rfl) rfl ⟨⟨rfl, k_caps⟩, trivial⟩ fun a106 h107 => ?_
        clear h53
        refine nd_op ?_
        have hih := delete_ok bo bc 4097 nd C (li33 * 16 + lj33) hC (by have := cnt_le (C := C); omega) (by omega) (by rw [show (li33 * 16 + lj33) / 16 = li33 by omega]; exact hlp33) _ h107.inv
        have hdo := del_ok 4097 C (li33 * 16 + lj33) hC (by have := cnt_le (C := C); omega) (by omega) (by rw [show (li33 * 16 + lj33) / 16 = li33 by omega]; exact hlp33)
        rw [show deleteP 4097 C (li33 * 16 + lj33) = deleteP 4097 C ls16.toNat by rw [hls33, Int.toNat_natCast]] at hih hdo
        rw [← hls33] at hih
        have hdead := hdo.dead
        have hdlen : _ ≤ 4096 := Nat.le_trans (Nat.le_trans (Nat.le_add_right _ _) hdo.len) (cnt_le (C := C))
        obtain ⟨Cd, ld, ed⟩ : ∃ a b, deleteP 4097 C ls16.toNat = (a, b) := ⟨_, _, rfl⟩
        rw [ed] at hih hdead hdlen
        refine op_call h107 rfl rfl rfl (callOk Tryd.func95 (by decide) rfl) (args := [.pointer (some ⟨bc, 0, none⟩), .int .i64 ls16]) rfl hih ?_
        rintro _ w108 ⟨od, cd, Fd, rfl, hRd, hnd, hsd, hfd⟩
        refine ⟨_, rfl, ?_⟩
        dsimp only at hRd hsd hdead hdlen ⊢
        have h109 := (h107.callF hfd (fun _ hb => hb) (fun b hb => .inl (List.mem_cons_of_mem _ hb)) (A' := CRow bo bc nd Cd ld od cd Fd) (F' := capF bo bc nd Cd ++ Fd) (kcons (by intro hq; cases hq) (kcons (by intro hq; cases hq) knil)) hRd CRow.stable hRd.low (fun b hb => (List.mem_append.1 hb).elim (fun h => .inl (hsd b h)) (fun h => .inr (hnd b h)))).put (d := some 56) (v := .slice od ld.length cd) (T' := [(56, .slice od ld.length cd), (3, .pointer (some ⟨b2, 0, none⟩)), (0, .pointer (some ⟨kb, 0, none⟩)), (1, .agg #[.int .u8 ev.kind, .int .u32 ev.pick, .int .u64 ev.draw, .int .u32 ev.addr, .int .u32 ev.node, .int .u32 ev.dst, .int .u32 ev.xfer, .int .u8 ev.ty, .int .u64 ev.arg, .int .u64 ev.badge, .slice xo ev.ws.length cx]), (4, .int .u8 0), (5, .int .i64 ls16), (6, .int .u8 lk17), (7, .slice none 0 0), (54, .pointer (some ⟨bc, 0, none⟩)), (55, .int .i64 ls16)]) rfl
        clear h107
        refine nd_batch tabOk tabZ_ok [(6, {})] [3, 0, 1, 4, 5, 6, 7] (T' := [(3, .pointer (some ⟨b2, 0, none⟩)), (0, .pointer (some ⟨kb, 0, none⟩)), (1, .agg #[.int .u8 ev.kind, .int .u32 ev.pick, .int .u64 ev.draw, .int .u32 ev.addr, .int .u32 ev.node, .int .u32 ev.dst, .int .u32 ev.xfer, .int .u8 ev.ty, .int .u64 ev.arg, .int .u64 ev.badge, .slice xo ev.ws.length cx]), (4, .int .u8 0), (5, .int .i64 ls16), (6, .int .u8 lk17), (7, .slice od ld.length cd)]) (φ := True) (rest := []) h109 (by kernel_rfl) rfl trivial fun a110 h111 => ?_
        clear h109
        refine nd_done ?_
        refine hK50 _ _ ?_
        clear hK50
        refine wp_seq_k fun K112 hK112 => ?_
        refine wp_seq_k fun K113 hK113 => ?_
        refine nd_start (l := [0, 1, 2]) rfl ?_
        refine nd_batch tabOk tabZ_ok [(0, {}), (1, {}), (2, {})] [3, 0, 1, 4, 5, 6, 7, 57, 58, 59] (T' := [(3, .pointer (some ⟨b2, 0, none⟩)), (0, .pointer (some ⟨kb, 0, none⟩)), (1, .agg #[.int .u8 ev.kind, .int .u32 ev.pick, .int .u64 ev.draw, .int .u32 ev.addr, .int .u32 ev.node, .int .u32 ev.dst, .int .u32 ev.xfer, .int .u8 ev.ty, .int .u64 ev.arg, .int .u64 ev.badge, .slice xo ev.ws.length cx]), (4, .int .u8 0), (5, .int .i64 ls16), (6, .int .u8 lk17), (7, .slice od ld.length cd), (57, .slice od ld.length cd), (58, .int .i64 ((ld.length : Nat) : Int)), (59, .int .i64 0)]) (φ := True) (rest := []) h111 (by kernel_rfl) rfl trivial fun a114 h115 => ?_
        clear h111
        refine nd_done ?_
        refine hK113 _ _ ?_
        clear hK113
        refine wp_block ?_
        refine wp_loop_ghost (fun g ga gw => ∃ (Sk : KP) (i : Int), ((g : Int) = ld.length - i) ∧ (0 ≤ i ∧ i ≤ ld.length) ∧ (RI Sk) ∧ (LI Sk) ∧ (Sk = buryAll S (ld.take i.toNat)) ∧ St ⟨67, kb :: capF bo bc nd C, w, CRow bo bc nd Cd ld od cd Fd, capF bo bc nd Cd ++ Fd⟩ [(3, .pointer (some ⟨b2, 0, none⟩)), (0, .pointer (some ⟨kb, 0, none⟩)), (57, .slice od ld.length cd), (58, .int .i64 ((ld.length : Nat) : Int)), (59, .int .i64 i)] [(kb, ⟨kC bo bc Sk, 90, false⟩), (b2, ⟨[.int .u8 ev.kind, .int .u32 ev.pick, .int .u64 ev.draw, .int .u32 ev.addr, .int .u32 ev.node, .int .u32 ev.dst, .int .u32 ev.xfer, .int .u8 ev.ty, .int .u64 ev.arg, .int .u64 ev.badge, .slice xo ev.ws.length cx], 35, false⟩)] ga gw) ld.length ⟨S, 0, by simp, ⟨by simp, by simp⟩, rS, lS, rfl, (h115.slotsMono (restr_spec (keep := [3, 0, 57, 58, 59]) rfl))⟩ ?_
        clear h115
        rintro g a116 w117 ⟨Sk, i, hi119, hi120, hi121, hi122, hi123, h118⟩
        have hig := hi119
        have hi0 := hi120
        have rSk := hi121
        have lSk := hi122
        have eSk := hi123
        refine wp_seq_k fun K124 hK124 => ?_
        refine nd_start (l := [0]) rfl ?_
        refine nd_batch tabOk tabZ_ok [(0, {})] [3, 0, 57, 58, 59, 60] (T' := [(3, .pointer (some ⟨b2, 0, none⟩)), (0, .pointer (some ⟨kb, 0, none⟩)), (57, .slice od ld.length cd), (58, .int .i64 ((ld.length : Nat) : Int)), (59, .int .i64 i), (60, .bool (decide (i < ((ld.length : Nat) : Int))))]) (φ := True) (rest := []) h118 (by kernel_rfl) rfl trivial fun a125 h126 => ?_
        clear h118
        refine nd_done ?_
        refine hK124 _ _ ?_
        clear hK124
        refine wp_seq_k fun K127 hK127 => ?_
        refine c_split h126 (b := decide (i < ((ld.length : Nat) : Int))) rfl (fun hc128 => ?_) (fun hc128 => ?_)
        ·
          have hc128f : i < ((ld.length : Nat) : Int) := by simpa using hc128
          obtain ⟨x, hx⟩ : ∃ x, ld[i.toNat]? = some x := ⟨ld[i.toNat]'(by omega), by simp⟩
          have hxd := hdead x (List.mem_of_getElem? hx)
          obtain ⟨b129, cs130, ho9, hb9, hcs9, hF9, hcap9, hlen9⟩ := rl_open h126.inv.row cpC_len hx
          subst ho9 hF9
          have h131 := h126.open_ hb9 (h126.notinL (List.mem_append_right _ (by simp)) (kcons (by intro hq; cases hq) (kcons (by intro hq; cases hq) knil)))
          clear h126
          obtain ⟨Qk, hQk⟩ := lSk
          refine wp_skip ?_
          refine hK127 _ _ ?_
          clear hK127
          refine wp_seq_k fun K132 hK132 => ?_
          refine wp_block ?_
          refine wp_seq_k fun K133 hK133 => ?_
          refine nd_start (l := [0, 1, 2, 3]) rfl ?_
          refine nd_batch tabOk tabZ_ok [(0, {}), (1, {k := 2, m := 1, vs := [.int .u8 x.ty, .int .u16 x.obj.idx, .int .u32 x.obj.gen, .int .u8 x.rights, .int .u64 x.badge]})] [3, 0, 57, 58, 59, 62] (T' := [(3, .pointer (some ⟨b2, 0, none⟩)), (0, .pointer (some ⟨kb, 0, none⟩)), (57, .slice (some ⟨b129, 0, none⟩) ld.length cd), (58, .int .i64 ((ld.length : Nat) : Int)), (59, .int .i64 i), (62, .agg #[.int .u8 x.ty, .int .u16 x.obj.idx, .int .u32 x.obj.gen, .int .u8 x.rights, .int .u64 x.badge])]) (φ := (0 ≤ i ∧ i < ((ld.length : Nat) : Int)) ∧ (b129 = b129 ∧ cellsAre cs130 (0 + (i.toNat * 5)) [.int .u8 x.ty, .int .u16 x.obj.idx, .int .u32 x.obj.gen, .int .u8 x.rights, .int .u64 x.badge]) ∧ True) (rest := [2, 3]) h131 (by kernel_rfl) rfl ⟨⟨by omega, by omega⟩, ⟨rfl, (by rw [Nat.zero_add]; exact hcs9)⟩, trivial⟩ fun a134 h135 => ?_
          clear h131
          refine nd_op ?_
          refine op_new tabOk (cells := [.int .u8 0, .int .u16 0, .int .u32 0, .int .u8 0, .int .u64 0]) (ty := 49) (ln := none) (L1 := fun b136 => [(kb, ⟨kC bo bc Sk, 90, false⟩), (b2, ⟨[.int .u8 ev.kind, .int .u32 ev.pick, .int .u64 ev.draw, .int .u32 ev.addr, .int .u32 ev.node, .int .u32 ev.dst, .int .u32 ev.xfer, .int .u8 ev.ty, .int .u64 ev.arg, .int .u64 ev.badge, .slice xo ev.ws.length cx], 35, false⟩), (b129, ⟨cs130, 49, true⟩), (b136, ⟨[.int .u8 0, .int .u16 0, .int .u32 0, .int .u8 0, .int .u64 0], 49, false⟩)]) h135 rfl rfl rfl rfl (by kernel_rfl) (fun _ => rfl) fun b136 w137 a138 h139 hf140 hn141 => ?_
          clear h135
          refine nd_op ?_
          refine op_store tabOk {k := 3} (L' := [(kb, ⟨kC bo bc Sk, 90, false⟩), (b2, ⟨[.int .u8 ev.kind, .int .u32 ev.pick, .int .u64 ev.draw, .int .u32 ev.addr, .int .u32 ev.node, .int .u32 ev.dst, .int .u32 ev.xfer, .int .u8 ev.ty, .int .u64 ev.arg, .int .u64 ev.badge, .slice xo ev.ws.length cx], 35, false⟩), (b129, ⟨cs130, 49, true⟩), (b136, ⟨[.int .u8 x.ty, .int .u16 x.obj.idx, .int .u32 x.obj.gen, .int .u8 x.rights, .int .u64 x.badge], 49, false⟩)]) (φ := b136 = b136 ∧ Nat.ble (0 + 5) 5 = true) h139 rfl rfl rfl (by kernel_rfl) ⟨rfl, rfl⟩ fun w142 h143 => ?_
          clear h139
          refine nd_done ?_
          refine hK133 _ _ ?_
          clear hK133
          refine nd_start (l := [0, 1, 2]) rfl ?_
          refine nd_batch tabOk tabZ_ok [(0, {}), (1, {k := 3})] [9, 3, 0, 57, 58, 59, 63, 64] (T' := [(9, .pointer (some ⟨b136, 0, none⟩)), (3, .pointer (some ⟨b2, 0, none⟩)), (0, .pointer (some ⟨kb, 0, none⟩)), (57, .slice (some ⟨b129, 0, none⟩) ld.length cd), (58, .int .i64 ((ld.length : Nat) : Int)), (59, .int .i64 i), (63, .pointer (some ⟨kb, 0, none⟩)), (64, .agg #[.int .u8 x.ty, .int .u16 x.obj.idx, .int .u32 x.obj.gen, .int .u8 x.rights, .int .u64 x.badge])]) (φ := (b136 = b136 ∧ Nat.ble (0 + 5) 5 = true) ∧ True) (rest := [2]) h143 (by kernel_rfl) rfl ⟨⟨rfl, rfl⟩, trivial⟩ fun a144 h145 => ?_
          clear h143
          refine nd_op ?_
          refine op_call h145 rfl rfl rfl (callOk Tryd.func106 (by decide) rfl) (args := [.pointer (some ⟨kb, 0, none⟩), .agg #[.int .u8 x.ty, .int .u16 x.obj.idx, .int .u32 x.obj.gen, .int .u8 x.rights, .int .u64 x.badge]]) rfl (bury_walk kb bo bc Sk rSk Qk hQk x hxd.2.2 _ (h145.kn (k := 0) rfl) (cellsK hg h145.frame hgs (by simp; exact ⟨hgk, hgc⟩)) (Nat.lt_of_lt_of_le hgs h145.frame.size) hgk) ?_
          rintro _ w149 ⟨rfl, hb147, hf148⟩
          refine ⟨_, rfl, ?_⟩
          obtain ⟨S146, eS146⟩ : ∃ S9, S9 = buryP Sk x := ⟨_, rfl⟩
          rw [← eS146] at hb147
          have rS146 : RI S146 := by rw [eS146]; exact (bury_ok rSk ⟨Qk, hQk⟩ hxd.2.2).1
          have h150 := (h145.setBlk (k := 0) rfl rfl hf148 hb147 (L' := [(kb, ⟨kC bo bc S146, 90, false⟩), (b2, ⟨[.int .u8 ev.kind, .int .u32 ev.pick, .int .u64 ev.draw, .int .u32 ev.addr, .int .u32 ev.node, .int .u32 ev.dst, .int .u32 ev.xfer, .int .u8 ev.ty, .int .u64 ev.arg, .int .u64 ev.badge, .slice xo ev.ws.length cx], 35, false⟩), (b129, ⟨cs130, 49, true⟩), (b136, ⟨[.int .u8 x.ty, .int .u16 x.obj.idx, .int .u32 x.obj.gen, .int .u8 x.rights, .int .u64 x.badge], 49, false⟩)]) rfl).put (d := some 65) (v := .tuple #[]) (T' := [(65, .tuple #[]), (9, .pointer (some ⟨b136, 0, none⟩)), (3, .pointer (some ⟨b2, 0, none⟩)), (0, .pointer (some ⟨kb, 0, none⟩)), (57, .slice (some ⟨b129, 0, none⟩) ld.length cd), (58, .int .i64 ((ld.length : Nat) : Int)), (59, .int .i64 i), (63, .pointer (some ⟨kb, 0, none⟩)), (64, .agg #[.int .u8 x.ty, .int .u16 x.obj.idx, .int .u32 x.obj.gen, .int .u8 x.rights, .int .u64 x.badge])]) rfl
          clear h145
          refine nd_done ?_
          refine hK132 _ _ ?_
          clear hK132
          refine nd_start (l := [0, 1]) rfl ?_
          refine nd_batch tabOk tabZ_ok [(0, {}), (1, {})] [9, 3, 0, 57, 58, 59] (T' := [(9, .pointer (some ⟨b136, 0, none⟩)), (3, .pointer (some ⟨b2, 0, none⟩)), (0, .pointer (some ⟨kb, 0, none⟩)), (57, .slice (some ⟨b129, 0, none⟩) ld.length cd), (58, .int .i64 ((ld.length : Nat) : Int)), (59, .int .i64 (i + 1))]) (φ := inR .i64 (i + 1) ∧ True) (rest := []) h150 (by kernel_rfl) rfl ⟨⟨by omega, by omega⟩, trivial⟩ fun a151 h152 => ?_
          clear h150
          refine nd_done ?_
          have h153 := h152.memMono (L' := [(kb, ⟨kC bo bc S146, 90, false⟩), (b2, ⟨[.int .u8 ev.kind, .int .u32 ev.pick, .int .u64 ev.draw, .int .u32 ev.addr, .int .u32 ev.node, .int .u32 ev.dst, .int .u32 ev.xfer, .int .u8 ev.ty, .int .u64 ev.arg, .int .u64 ev.badge, .slice xo ev.ws.length cx], 35, false⟩)]) (List.Sublist.cons_cons _ (List.Sublist.cons_cons _ (List.Sublist.cons _ (List.Sublist.cons _ List.Sublist.slnil))))
          clear h152
          exact ⟨(g - 1), by omega, S146, (i + 1), by omega, ⟨by omega, by omega⟩, rS146, (by rw [eS146]; exact (bury_ok rSk ⟨Qk, hQk⟩ hxd.2.2).2), (by rw [show (i + 1).toNat = i.toNat + 1 by omega, List.take_add_one, hx, eS146, eSk]; simp [buryAll]), (h153.slotsMono (restr_spec (keep := [3, 0, 57, 58, 59]) rfl))⟩
        ·
          have hc128f : ¬ i < ((ld.length : Nat) : Int) := by simpa using hc128
          rw [show i.toNat = ld.length by omega, List.take_length] at eSk
          have eSk2 := eSk.symm
          refine wp_exit ?_
          refine hK112 _ _ ?_
          clear hK112
          refine wp_seq_k fun K154 hK154 => ?_
          refine nd_start (l := [0]) rfl ?_
          refine nd_batch tabOk tabZ_ok [(0, {})] [3, 0, 57, 58, 59, 4] (T' := [(3, .pointer (some ⟨b2, 0, none⟩)), (0, .pointer (some ⟨kb, 0, none⟩)), (57, .slice od ld.length cd), (58, .int .i64 ((ld.length : Nat) : Int)), (59, .int .i64 i), (4, .int .u8 0)]) (φ := True) (rest := []) h126 (by kernel_rfl) rfl trivial fun a155 h156 => ?_
          clear h126
          refine nd_done ?_
          refine hK154 _ _ ?_
          clear hK154
          refine wp_ret ?_
          try simp only [Exit.then, Exit.inBlock]
          try rw [if_pos trivial]
          exact s_ret tabOk tabZ_ok h156 [(.tmp 4, {})] (vs := [.int .u8 0]) (φ := True) rfl (by kernel_rfl) trivial (by rw [show dropP S C ev = (Sk, Cd, 0) from (by unfold dropP; (try dsimp only); rw [el18]; (try dsimp only); (first | rw [if_neg hc29f] | rw [if_neg (fun hz => hz hc29f)]); (first | rw [if_neg hc43f] | rw [if_neg (fun hz => hz hc43f)]); (first | rw [if_neg hc54f] | rw [if_neg (fun hz => hz hc54f)]); rw [ed]; (try dsimp only); rw [eSk2])]; exact ⟨rfl, h156.kn (k := 0) rfl, h156.inv.cap, hsd, h156.frame⟩)

end Go.Proofs.Qxb6500918aDoor
