/-
  wait, control. (Made by program: a symbolic walk that prints its steps.)
-/
import Derived.Test.Qxb6500918aDoorKA
namespace Go.Proofs.Qxb6500918aDoor
open Go.Sx Go.Kn
set_option maxRecDepth 100000
set_option maxHeartbeats 4000000
set_option linter.unusedVariables false
set_option linter.unusedSimpArgs false

theorem wait_ok (kb bo bc : Nat) (nd : Nat → Nat) (S : KP) (rS : RI S) (C : CP) (hC : CI C) (hcur : 0 ≤ S.cur ∧ S.cur < 256) (ev : Ev) (he : EvOk ev) (xo : Option Addr) (cx : Nat) (bt : Nat) (hkt : kb ≠ bt) (ou : Outp) (w : World) (hb : w.heap[kb]? = some (Blk.obj ⟨kC bo bc S, 90, false⟩)) (hc : CapAt w bo bc nd C) (hdkb : kb ∉ capF bo bc nd C) (ho : w.heap[bt]? = some (Blk.obj ⟨outC ou, 42, false⟩)) (hdbt : bt ∉ capF bo bc nd C) :
    Calls Tryd.prog 80 #[.pointer (some ⟨kb, 0, none⟩), .agg #[.int .u8 ev.kind, .int .u32 ev.pick, .int .u64 ev.draw, .int .u32 ev.addr, .int .u32 ev.node, .int .u32 ev.dst, .int .u32 ev.xfer, .int .u8 ev.ty, .int .u64 ev.arg, .int .u64 ev.badge, .slice xo ev.ws.length cx], .pointer (some ⟨bt, 0, none⟩)] w fun e w' => e = .returned (.int .u8 (waitP S C ev ou).2.2) ∧ w'.heap[kb]? = some (Blk.obj ⟨kC bo bc (waitP S C ev ou).1, 90, false⟩) ∧ w'.heap[bt]? = some (Blk.obj ⟨outC (waitP S C ev ou).2.1, 42, false⟩) ∧ Fr [kb, bt] w w' := by
  refine enter (n := 66) (K := [kb, bt]) (A := fun w => CapAt w bo bc nd C) (F := (capF bo bc nd C)) (T := [(0, .pointer (some ⟨kb, 0, none⟩)), (1, .agg #[.int .u8 ev.kind, .int .u32 ev.pick, .int .u64 ev.draw, .int .u32 ev.addr, .int .u32 ev.node, .int .u32 ev.dst, .int .u32 ev.xfer, .int .u8 ev.ty, .int .u64 ev.arg, .int .u64 ev.badge, .slice xo ev.ws.length cx]), (2, .pointer (some ⟨bt, 0, none⟩))]) (L := [(kb, ⟨kC bo bc S, 90, false⟩), (bt, ⟨outC ou, 42, false⟩)]) (args := [.pointer (some ⟨kb, 0, none⟩), .agg #[.int .u8 ev.kind, .int .u32 ev.pick, .int .u64 ev.draw, .int .u32 ev.addr, .int .u32 ev.node, .int .u32 ev.dst, .int .u32 ev.xfer, .int .u8 ev.ty, .int .u64 ev.arg, .int .u64 ev.badge, .slice xo ev.ws.length cx], .pointer (some ⟨bt, 0, none⟩)]) Tryd.func80 rfl rfl rfl rfl (kcons hb (kcons ho knil)) (by simp; exact hkt) (kcons (fun _ => by simp) (kcons (fun _ => by simp) knil)) hc CapAt.stable hc.low (kcons (fun _ => hdkb) (kcons (fun _ => hdbt) knil)) ?_
  intro a h
  refine wp_seq_k fun K1 hK1 => ?_
  refine nd_start (l := [0, 1]) rfl ?_
  refine nd_op ?_
  refine op_new tabOk (cells := [.int .u8 ev.kind, .int .u32 ev.pick, .int .u64 ev.draw, .int .u32 ev.addr, .int .u32 ev.node, .int .u32 ev.dst, .int .u32 ev.xfer, .int .u8 ev.ty, .int .u64 ev.arg, .int .u64 ev.badge, .slice xo ev.ws.length cx]) (ty := 35) (ln := none) (L1 := fun b2 => [(kb, ⟨kC bo bc S, 90, false⟩), (bt, ⟨outC ou, 42, false⟩), (b2, ⟨[.int .u8 ev.kind, .int .u32 ev.pick, .int .u64 ev.draw, .int .u32 ev.addr, .int .u32 ev.node, .int .u32 ev.dst, .int .u32 ev.xfer, .int .u8 ev.ty, .int .u64 ev.arg, .int .u64 ev.badge, .slice xo ev.ws.length cx], 35, false⟩)]) h rfl rfl rfl rfl (by kernel_rfl) (fun _ => rfl) fun b2 w3 a4 h5 hf6 hn7 => ?_
  clear h
  refine nd_batch tabOk tabZ_ok [(1, {})] [4, 0, 1, 2, 6] (T' := [(4, .pointer (some ⟨b2, 0, none⟩)), (0, .pointer (some ⟨kb, 0, none⟩)), (1, .agg #[.int .u8 ev.kind, .int .u32 ev.pick, .int .u64 ev.draw, .int .u32 ev.addr, .int .u32 ev.node, .int .u32 ev.dst, .int .u32 ev.xfer, .int .u8 ev.ty, .int .u64 ev.arg, .int .u64 ev.badge, .slice xo ev.ws.length cx]), (2, .pointer (some ⟨bt, 0, none⟩)), (6, .int .u8 0)]) (φ := True) (rest := []) h5 (by kernel_rfl) rfl trivial fun a8 h9 => ?_
  clear h5
  refine nd_done ?_
  refine hK1 _ _ ?_
  clear hK1
  refine wp_seq_k fun K10 hK10 => ?_
  refine nd_start (l := [0, 1, 2, 3, 4, 5, 6, 7, 8, 9, 10, 11]) rfl ?_
  refine nd_batch tabOk tabZ_ok [(0, {}), (1, {}), (2, {k := 2})] [4, 0, 1, 2, 6, 11, 13] (T' := [(4, .pointer (some ⟨b2, 0, none⟩)), (0, .pointer (some ⟨kb, 0, none⟩)), (1, .agg #[.int .u8 ev.kind, .int .u32 ev.pick, .int .u64 ev.draw, .int .u32 ev.addr, .int .u32 ev.node, .int .u32 ev.dst, .int .u32 ev.xfer, .int .u8 ev.ty, .int .u64 ev.arg, .int .u64 ev.badge, .slice xo ev.ws.length cx]), (2, .pointer (some ⟨bt, 0, none⟩)), (6, .int .u8 0), (11, .pointer (some ⟨kb, 0, none⟩)), (13, .int .u32 ev.addr)]) (φ := (b2 = b2 ∧ Nat.ble (3 + 1) 11 = true) ∧ True) (rest := [3, 4, 5, 6, 7, 8, 9, 10, 11]) h9 (by kernel_rfl) rfl ⟨⟨rfl, rfl⟩, trivial⟩ fun a11 h12 => ?_
  clear h9
  refine nd_op ?_
  obtain ⟨fc13, fs14, fk15, hfd16⟩ : ∃ c s k, findP S C ev.addr 5 1 = (c, s, k) := ⟨_, _, _, rfl⟩
  refine op_call h12 rfl rfl rfl (callOk Tryd.func79 (by decide) rfl) (args := [.pointer (some ⟨kb, 0, none⟩), .int .u32 ev.addr, .int .u8 5, .int .u8 1]) rfl (find_ok kb bo bc nd S rS C hC ev.addr 5 1 hcur he.addr _ (h12.kn (k := 0) (blk := ⟨kC bo bc S, 90, false⟩) rfl) h12.inv hdkb hfd16) ?_
  rintro _ w17 ⟨rfl, hf19⟩
  refine ⟨_, rfl, ?_⟩
  have h18 := (h12.grow hf19).put (d := some 14) (v := .tuple #[.agg #[.int .u8 fc13.ty, .int .u16 fc13.obj.idx, .int .u32 fc13.obj.gen, .int .u8 fc13.rights, .int .u64 fc13.badge], .int .i64 fs14, .int .u8 fk15]) (T' := [(14, .tuple #[.agg #[.int .u8 fc13.ty, .int .u16 fc13.obj.idx, .int .u32 fc13.obj.gen, .int .u8 fc13.rights, .int .u64 fc13.badge], .int .i64 fs14, .int .u8 fk15]), (4, .pointer (some ⟨b2, 0, none⟩)), (0, .pointer (some ⟨kb, 0, none⟩)), (1, .agg #[.int .u8 ev.kind, .int .u32 ev.pick, .int .u64 ev.draw, .int .u32 ev.addr, .int .u32 ev.node, .int .u32 ev.dst, .int .u32 ev.xfer, .int .u8 ev.ty, .int .u64 ev.arg, .int .u64 ev.badge, .slice xo ev.ws.length cx]), (2, .pointer (some ⟨bt, 0, none⟩)), (6, .int .u8 0), (11, .pointer (some ⟨kb, 0, none⟩)), (13, .int .u32 ev.addr)]) rfl
  clear h12
  refine nd_batch tabOk tabZ_ok [(4, {}), (5, {}), (6, {}), (7, {})] [4, 0, 1, 2, 6, 15, 16, 17] (T' := [(4, .pointer (some ⟨b2, 0, none⟩)), (0, .pointer (some ⟨kb, 0, none⟩)), (1, .agg #[.int .u8 ev.kind, .int .u32 ev.pick, .int .u64 ev.draw, .int .u32 ev.addr, .int .u32 ev.node, .int .u32 ev.dst, .int .u32 ev.xfer, .int .u8 ev.ty, .int .u64 ev.arg, .int .u64 ev.badge, .slice xo ev.ws.length cx]), (2, .pointer (some ⟨bt, 0, none⟩)), (6, .int .u8 0), (15, .agg #[.int .u8 fc13.ty, .int .u16 fc13.obj.idx, .int .u32 fc13.obj.gen, .int .u8 fc13.rights, .int .u64 fc13.badge]), (16, .int .i64 fs14), (17, .int .u8 fk15)]) (φ := True) (rest := [8, 9, 10, 11]) h18 (by kernel_rfl) rfl trivial fun a20 h21 => ?_
  clear h18
  refine nd_op ?_
  refine op_new tabOk (cells := [.int .u8 0, .int .u16 0, .int .u32 0, .int .u8 0, .int .u64 0]) (ty := 49) (ln := none) (L1 := fun b22 => [(kb, ⟨kC bo bc S, 90, false⟩), (bt, ⟨outC ou, 42, false⟩), (b2, ⟨[.int .u8 ev.kind, .int .u32 ev.pick, .int .u64 ev.draw, .int .u32 ev.addr, .int .u32 ev.node, .int .u32 ev.dst, .int .u32 ev.xfer, .int .u8 ev.ty, .int .u64 ev.arg, .int .u64 ev.badge, .slice xo ev.ws.length cx], 35, false⟩), (b22, ⟨[.int .u8 0, .int .u16 0, .int .u32 0, .int .u8 0, .int .u64 0], 49, false⟩)]) h21 rfl rfl rfl rfl (by kernel_rfl) (fun _ => rfl) fun b22 w23 a24 h25 hf26 hn27 => ?_
  clear h21
  refine nd_op ?_
  refine op_store tabOk {k := 3} (L' := [(kb, ⟨kC bo bc S, 90, false⟩), (bt, ⟨outC ou, 42, false⟩), (b2, ⟨[.int .u8 ev.kind, .int .u32 ev.pick, .int .u64 ev.draw, .int .u32 ev.addr, .int .u32 ev.node, .int .u32 ev.dst, .int .u32 ev.xfer, .int .u8 ev.ty, .int .u64 ev.arg, .int .u64 ev.badge, .slice xo ev.ws.length cx], 35, false⟩), (b22, ⟨[.int .u8 fc13.ty, .int .u16 fc13.obj.idx, .int .u32 fc13.obj.gen, .int .u8 fc13.rights, .int .u64 fc13.badge], 49, false⟩)]) (φ := b22 = b22 ∧ Nat.ble (0 + 5) 5 = true) h25 rfl rfl rfl (by kernel_rfl) ⟨rfl, rfl⟩ fun w28 h29 => ?_
  clear h25
  refine nd_batch tabOk tabZ_ok [(10, {}), (11, {})] [7, 4, 0, 1, 2, 6, 9] (T' := [(7, .pointer (some ⟨b22, 0, none⟩)), (4, .pointer (some ⟨b2, 0, none⟩)), (0, .pointer (some ⟨kb, 0, none⟩)), (1, .agg #[.int .u8 ev.kind, .int .u32 ev.pick, .int .u64 ev.draw, .int .u32 ev.addr, .int .u32 ev.node, .int .u32 ev.dst, .int .u32 ev.xfer, .int .u8 ev.ty, .int .u64 ev.arg, .int .u64 ev.badge, .slice xo ev.ws.length cx]), (2, .pointer (some ⟨bt, 0, none⟩)), (6, .int .u8 0), (9, .int .u8 fk15)]) (φ := True) (rest := []) h29 (by kernel_rfl) rfl trivial fun a30 h31 => ?_
  clear h29
  refine nd_done ?_
  refine hK10 _ _ ?_
  clear hK10
  refine wp_seq_k fun K32 hK32 => ?_
  refine wp_seq_k fun K33 hK33 => ?_
  refine nd_start (l := [0, 1]) rfl ?_
  refine nd_batch tabOk tabZ_ok [(0, {}), (1, {})] [7, 4, 0, 1, 2, 6, 9, 19] (T' := [(7, .pointer (some ⟨b22, 0, none⟩)), (4, .pointer (some ⟨b2, 0, none⟩)), (0, .pointer (some ⟨kb, 0, none⟩)), (1, .agg #[.int .u8 ev.kind, .int .u32 ev.pick, .int .u64 ev.draw, .int .u32 ev.addr, .int .u32 ev.node, .int .u32 ev.dst, .int .u32 ev.xfer, .int .u8 ev.ty, .int .u64 ev.arg, .int .u64 ev.badge, .slice xo ev.ws.length cx]), (2, .pointer (some ⟨bt, 0, none⟩)), (6, .int .u8 0), (9, .int .u8 fk15), (19, .bool (fk15 != 0))]) (φ := True) (rest := []) h31 (by kernel_rfl) rfl trivial fun a34 h35 => ?_
  clear h31
  refine nd_done ?_
  refine hK33 _ _ ?_
  clear hK33
  refine c_split h35 (b := (fk15 != 0)) rfl (fun hc36 => ?_) (fun hc36 => ?_)
  ·
    have hc36f : fk15 ≠ 0 := by simpa using hc36
    refine wp_seq_k fun K37 hK37 => ?_
    refine nd_start (l := [0, 1]) rfl ?_
    refine nd_batch tabOk tabZ_ok [(0, {}), (1, {})] [7, 4, 0, 1, 2, 9, 6] (T' := [(7, .pointer (some ⟨b22, 0, none⟩)), (4, .pointer (some ⟨b2, 0, none⟩)), (0, .pointer (some ⟨kb, 0, none⟩)), (1, .agg #[.int .u8 ev.kind, .int .u32 ev.pick, .int .u64 ev.draw, .int .u32 ev.addr, .int .u32 ev.node, .int .u32 ev.dst, .int .u32 ev.xfer, .int .u8 ev.ty, .int .u64 ev.arg, .int .u64 ev.badge, .slice xo ev.ws.length cx]), (2, .pointer (some ⟨bt, 0, none⟩)), (9, .int .u8 fk15), (6, .int .u8 fk15)]) (φ := True) (rest := []) h35 (by kernel_rfl) rfl trivial fun a38 h39 => ?_
    clear h35
    refine nd_done ?_
    refine hK37 _ _ ?_
    clear hK37
    refine wp_ret ?_
    try simp only [Exit.then, Exit.inBlock]
    try rw [if_pos trivial]
    exact s_ret tabOk tabZ_ok h39 [(.tmp 6, {})] (vs := [.int .u8 fk15]) (φ := True) rfl (by kernel_rfl) trivial (by rw [show waitP S C ev ou = (S, ou, fk15) from (by unfold waitP; (try dsimp only); rw [hfd16]; (try dsimp only); (first | rw [if_pos hc36f] | rw [if_pos (fun hz => hz hc36f)]))]; exact ⟨rfl, h39.kn (k := 0) rfl, h39.kn (k := 1) rfl, h39.frame⟩)
  ·
    have hc36f : fk15 = 0 := by simpa using hc36
    obtain ⟨fi40, fj40, hfi40, hfj40, hfp40, hfs40, hfcap40, hft40, hfz40, hfo40⟩ := find_fact rS hC hcur he.addr.1 hfd16 hc36f
    have hxfi40 := find_idx hfo40 (by rw [hft40]; decide)
    refine wp_skip ?_
    refine hK32 _ _ ?_
    clear hK32
    refine wp_seq_k fun K41 hK41 => ?_
    refine wp_seq_k fun K42 hK42 => ?_
    refine dr_start (KB := [kb, bt, b2, b22]) (Bi := [[0, 1, 2, 3], [0, 1, 2, 3], [0, 1, 2, 3], [0, 1, 2, 3], [0, 1, 2, 3], [0, 1, 2, 3], [0, 1, 2, 3], [0, 1, 2, 3], [0, 1, 2, 3]]) mixed h35 fun w43 h44 => ?_
    clear h35
    refine dr_batch tabOk tabZ_ok (by repeat (first | with_reducible exact PF.body | with_reducible apply PF.inB | with_reducible apply PF.next)) [(0, {}), (1, {}), (2, {}), (3, {k := 3, p := 3}), (4, {}), (5, {}), (6, {}), (7, {k := 0, m := 1, vs := [.int .u64 (S.word fc13.obj.idx.toNat)], p := 0}), (8, {})] [7, 4, 0, 1, 2, 6, 9, 29] (T' := [(7, .pointer (some ⟨b22, 0, none⟩)), (4, .pointer (some ⟨b2, 0, none⟩)), (0, .pointer (some ⟨kb, 0, none⟩)), (1, .agg #[.int .u8 ev.kind, .int .u32 ev.pick, .int .u64 ev.draw, .int .u32 ev.addr, .int .u32 ev.node, .int .u32 ev.dst, .int .u32 ev.xfer, .int .u8 ev.ty, .int .u64 ev.arg, .int .u64 ev.badge, .slice xo ev.ws.length cx]), (2, .pointer (some ⟨bt, 0, none⟩)), (6, .int .u8 0), (9, .int .u8 fk15), (29, .bool ((S.word fc13.obj.idx.toNat) == 0))]) (φ := (b22 = b22 ∧ Nat.ble (1 + 1) 5 = true) ∧ (0 ≤ fc13.obj.idx ∧ fc13.obj.idx < 256) ∧ (kb = kb ∧ cellsAre (kC bo bc S) (6146 + (fc13.obj.idx.toNat * 1)) [.int .u64 (S.word fc13.obj.idx.toNat)]) ∧ True) (fuel := 0) h44 (by kernel_rfl) rfl (by kernel_rfl) (by kernel_rfl) ⟨trivial, trivial, trivial, rfl, trivial, trivial, trivial, rfl, trivial, trivial⟩ ⟨⟨rfl, rfl⟩, ⟨by omega, by omega⟩, ⟨rfl, (k_word (i := fc13.obj.idx.toNat) (k := 0) (by omega) (by omega) ⟨rfl, trivial⟩)⟩, trivial⟩ fun a46 h47 => ?_
    clear h44
    refine wpAnyK_done (by kernel_rfl) ?_ _
    refine hK42 _ _ ?_
    clear hK42
    refine c_split h47 (b := ((S.word fc13.obj.idx.toNat) == 0)) rfl (fun hc48 => ?_) (fun hc48 => ?_)
    ·
      have hc48f : (S.word fc13.obj.idx.toNat) = 0 := by simpa using hc48
      refine wp_seq_k fun K49 hK49 => ?_
      refine dr_start (KB := [kb, bt, b2, b22]) (Bi := [[0, 1, 2, 3], [0, 1, 2, 3], [0, 1, 2, 3], [0, 1, 2, 3], [0, 1, 2, 3], [0, 1, 2, 3], [0, 1, 2, 3], []]) mixed h47 fun w50 h51 => ?_
      clear h47
      refine dr_batch tabOk tabZ_ok (by repeat (first | with_reducible exact PF.body | with_reducible apply PF.inB | with_reducible apply PF.next)) [(0, {}), (1, {}), (2, {}), (3, {}), (4, {k := 0, m := 1, vs := [.int .i16 S.cur], p := 0}), (5, {}), (6, {k := 3, p := 3})] [7, 4, 0, 1, 2, 6, 9, 30, 34, 36] (T' := [(7, .pointer (some ⟨b22, 0, none⟩)), (4, .pointer (some ⟨b2, 0, none⟩)), (0, .pointer (some ⟨kb, 0, none⟩)), (1, .agg #[.int .u8 ev.kind, .int .u32 ev.pick, .int .u64 ev.draw, .int .u32 ev.addr, .int .u32 ev.node, .int .u32 ev.dst, .int .u32 ev.xfer, .int .u8 ev.ty, .int .u64 ev.arg, .int .u64 ev.badge, .slice xo ev.ws.length cx]), (2, .pointer (some ⟨bt, 0, none⟩)), (6, .int .u8 0), (9, .int .u8 fk15), (30, .pointer (some ⟨kb, 0, none⟩)), (34, .int .i16 S.cur), (36, .agg #[.int .u16 fc13.obj.idx, .int .u32 fc13.obj.gen])]) (φ := (kb = kb ∧ cellsAre (kC bo bc S) 6427 [.int .i16 S.cur]) ∧ (b22 = b22 ∧ Nat.ble (1 + 2) 5 = true) ∧ True) (fuel := 1) h51 (by kernel_rfl) rfl (by kernel_rfl) (by kernel_rfl) ⟨trivial, trivial, trivial, trivial, rfl, trivial, rfl, trivial⟩ ⟨⟨rfl, k_cur⟩, ⟨rfl, rfl⟩, trivial⟩ fun a53 h54 => ?_
      clear h51
      refine wpAnyK_one (i := 7) (fuel := 0) (by kernel_rfl) ?_
      refine op_call h54 rfl rfl rfl (callOk Tryd.func103 (by decide) rfl) (args := [.pointer (some ⟨kb, 0, none⟩), .int .i16 S.cur, .int .u8 5, .agg #[.int .u16 fc13.obj.idx, .int .u32 fc13.obj.gen]]) rfl (block_ok kb bo bc S rS S.cur 5 fc13.obj hcur hxfi40 _ (h54.kn (k := 0) rfl)) ?_
      rintro _ w58 ⟨rfl, hb56, hf57⟩
      refine ⟨_, rfl, ?_⟩
      obtain ⟨S55, eS55⟩ : ∃ S9, S9 = blockP S S.cur 5 fc13.obj := ⟨_, rfl⟩
      rw [← eS55] at hb56
      have rS55 : RI S55 := by rw [eS55]; exact block_RI rS hcur hxfi40
      have h59 := (h54.setBlk (k := 0) rfl rfl hf57 hb56 (L' := [(kb, ⟨kC bo bc S55, 90, false⟩), (bt, ⟨outC ou, 42, false⟩), (b2, ⟨[.int .u8 ev.kind, .int .u32 ev.pick, .int .u64 ev.draw, .int .u32 ev.addr, .int .u32 ev.node, .int .u32 ev.dst, .int .u32 ev.xfer, .int .u8 ev.ty, .int .u64 ev.arg, .int .u64 ev.badge, .slice xo ev.ws.length cx], 35, false⟩), (b22, ⟨[.int .u8 fc13.ty, .int .u16 fc13.obj.idx, .int .u32 fc13.obj.gen, .int .u8 fc13.rights, .int .u64 fc13.badge], 49, false⟩)]) rfl).put (d := some 37) (v := .tuple #[]) (T' := [(37, .tuple #[]), (7, .pointer (some ⟨b22, 0, none⟩)), (4, .pointer (some ⟨b2, 0, none⟩)), (0, .pointer (some ⟨kb, 0, none⟩)), (1, .agg #[.int .u8 ev.kind, .int .u32 ev.pick, .int .u64 ev.draw, .int .u32 ev.addr, .int .u32 ev.node, .int .u32 ev.dst, .int .u32 ev.xfer, .int .u8 ev.ty, .int .u64 ev.arg, .int .u64 ev.badge, .slice xo ev.ws.length cx]), (2, .pointer (some ⟨bt, 0, none⟩)), (6, .int .u8 0), (9, .int .u8 fk15), (30, .pointer (some ⟨kb, 0, none⟩)), (34, .int .i16 S.cur), (36, .agg #[.int .u16 fc13.obj.idx, .int .u32 fc13.obj.gen])]) rfl
      have hkh59 := h54.known
      refine ⟨keepNil, ?_⟩
      clear h54
      refine wpAnyK_done (by kernel_rfl) ?_ _
      refine hK49 _ _ ?_
      clear hK49
      refine wp_seq_k fun K60 hK60 => ?_
      refine nd_start (l := [0]) rfl ?_
      refine nd_batch tabOk tabZ_ok [(0, {})] [7, 4, 0, 1, 2, 9, 6] (T' := [(7, .pointer (some ⟨b22, 0, none⟩)), (4, .pointer (some ⟨b2, 0, none⟩)), (0, .pointer (some ⟨kb, 0, none⟩)), (1, .agg #[.int .u8 ev.kind, .int .u32 ev.pick, .int .u64 ev.draw, .int .u32 ev.addr, .int .u32 ev.node, .int .u32 ev.dst, .int .u32 ev.xfer, .int .u8 ev.ty, .int .u64 ev.arg, .int .u64 ev.badge, .slice xo ev.ws.length cx]), (2, .pointer (some ⟨bt, 0, none⟩)), (9, .int .u8 fk15), (6, .int .u8 0)]) (φ := True) (rest := []) h59 (by kernel_rfl) rfl trivial fun a61 h62 => ?_
      clear h59
      refine nd_done ?_
      refine hK60 _ _ ?_
      clear hK60
      refine wp_ret ?_
      try simp only [Exit.then, Exit.inBlock]
      try rw [if_pos trivial]
      exact s_ret tabOk tabZ_ok h62 [(.tmp 6, {})] (vs := [.int .u8 0]) (φ := True) rfl (by kernel_rfl) trivial (by rw [show waitP S C ev ou = (S55, ou, 0) from (by unfold waitP; (try dsimp only); rw [hfd16]; (try dsimp only); (first | rw [if_neg hc36f] | rw [if_neg (fun hz => hz hc36f)]); (first | rw [if_pos hc48f] | rw [if_pos (fun hz => hz hc48f)]); rw [← eS55])]; exact ⟨rfl, h62.kn (k := 0) rfl, h62.kn (k := 1) rfl, h62.frame⟩)
    ·
      have hc48f : (S.word fc13.obj.idx.toNat) ≠ 0 := by simpa using hc48
      refine wp_skip ?_
      refine hK41 _ _ ?_
      clear hK41
      refine wp_seq_k fun K63 hK63 => ?_
      refine dr_start (KB := [kb, bt, b2, b22]) (Bi := [[0, 1, 2, 3], [0, 1, 2, 3], [0, 1, 2, 3], [0, 1, 2, 3], [0, 1, 2, 3], [0, 1, 2, 3], [0, 1, 2, 3], [0, 1, 2, 3], [0, 1, 2, 3], [0, 1, 2, 3], [0, 1, 2, 3], [0, 1, 2, 3], [0, 1, 2, 3], [0, 1, 2, 3], [0, 1, 2, 3], [0, 1, 2, 3], [0, 1, 2, 3], [0, 1, 2, 3], [0, 1, 2, 3], [0, 1, 2, 3], [0, 1, 2, 3], [0, 1, 2, 3], [3], [0, 1, 2, 3], [0, 1, 2, 3], [0, 1, 2, 3], []]) mixed h47 fun w64 h65 => ?_
      clear h47
      refine dr_batch tabOk tabZ_ok (by repeat (first | with_reducible exact PF.body | with_reducible apply PF.inB | with_reducible apply PF.next)) [(0, {}), (1, {}), (2, {}), (3, {}), (4, {k := 0, m := 1, vs := [.int .i16 S.cur], p := 0}), (5, {}), (6, {}), (7, {}), (8, {k := 3, p := 3}), (9, {}), (10, {}), (11, {}), (12, {k := 3, p := 3}), (13, {}), (14, {}), (15, {}), (16, {k := 0, m := 1, vs := [.int .u64 (S.word fc13.obj.idx.toNat)], p := 0}), (17, {}), (18, {}), (19, {}), (20, {}), (21, {}), (23, {}), (24, {})] [7, 4, 0, 1, 2, 6, 9, 46, 54, 59, 61] (T' := [(7, .pointer (some ⟨b22, 0, none⟩)), (4, .pointer (some ⟨b2, 0, none⟩)), (0, .pointer (some ⟨kb, 0, none⟩)), (1, .agg #[.int .u8 ev.kind, .int .u32 ev.pick, .int .u64 ev.draw, .int .u32 ev.addr, .int .u32 ev.node, .int .u32 ev.dst, .int .u32 ev.xfer, .int .u8 ev.ty, .int .u64 ev.arg, .int .u64 ev.badge, .slice xo ev.ws.length cx]), (2, .pointer (some ⟨bt, 0, none⟩)), (6, .int .u8 0), (9, .int .u8 fk15), (46, .int .u16 fc13.obj.idx), (54, .int .u64 (S.word fc13.obj.idx.toNat)), (59, .pointer (some ⟨kb, 2 + (S.cur.toNat * 21) + 8, none⟩)), (61, .pointer (some ⟨kb, 6146, none⟩))]) (φ := (kb = kb ∧ cellsAre (kC bo bc S) 6427 [.int .i16 S.cur]) ∧ (b22 = b22 ∧ Nat.ble (1 + 1) 5 = true) ∧ (b22 = b22 ∧ Nat.ble (1 + 1) 5 = true) ∧ (0 ≤ fc13.obj.idx ∧ fc13.obj.idx < 256) ∧ (kb = kb ∧ cellsAre (kC bo bc S) (6146 + (fc13.obj.idx.toNat * 1)) [.int .u64 (S.word fc13.obj.idx.toNat)]) ∧ (0 ≤ S.cur ∧ S.cur < 256) ∧ True) (fuel := 3) h65 (by kernel_rfl) rfl (by kernel_rfl) (by kernel_rfl) ⟨trivial, trivial, trivial, trivial, rfl, trivial, trivial, trivial, rfl, trivial, trivial, trivial, rfl, trivial, trivial, trivial, rfl, trivial, trivial, trivial, trivial, trivial, trivial, trivial, trivial⟩ ⟨⟨rfl, k_cur⟩, ⟨rfl, rfl⟩, ⟨rfl, rfl⟩, ⟨by omega, by omega⟩, ⟨rfl, (k_word (i := fc13.obj.idx.toNat) (k := 0) (by omega) (by omega) ⟨rfl, trivial⟩)⟩, ⟨by omega, by omega⟩, trivial⟩ fun a67 h68 => ?_
      clear h65
      refine wpAnyK_one (i := 22) (fuel := 2) (by kernel_rfl) ?_
      refine op_store tabOk {k := 0, m := 1, vs := kC bo bc (S.setT S.cur.toNat { S.tcb S.cur.toNat with badge := (S.word fc13.obj.idx.toNat) })} (L' := [(kb, ⟨kC bo bc (S.setT S.cur.toNat { S.tcb S.cur.toNat with badge := (S.word fc13.obj.idx.toNat) }), 90, false⟩), (bt, ⟨outC ou, 42, false⟩), (b2, ⟨[.int .u8 ev.kind, .int .u32 ev.pick, .int .u64 ev.draw, .int .u32 ev.addr, .int .u32 ev.node, .int .u32 ev.dst, .int .u32 ev.xfer, .int .u8 ev.ty, .int .u64 ev.arg, .int .u64 ev.badge, .slice xo ev.ws.length cx], 35, false⟩), (b22, ⟨[.int .u8 fc13.ty, .int .u16 fc13.obj.idx, .int .u32 fc13.obj.gen, .int .u8 fc13.rights, .int .u64 fc13.badge], 49, false⟩)]) (φ := kb = kb ∧ Nat.ble (2 + (S.cur.toNat * 21) + 8 + 1) (kC bo bc S).length = true ∧ splice (kC bo bc S) (2 + (S.cur.toNat * 21) + 8) [.int .u64 (S.word fc13.obj.idx.toNat)] = kC bo bc (S.setT S.cur.toNat { S.tcb S.cur.toNat with badge := (S.word fc13.obj.idx.toNat) })) h68 rfl rfl rfl (by kernel_rfl) ⟨rfl, k_in (by omega), (k_tcb_w (i := S.cur.toNat) (k := 8) (by omega) (Nat.le_of_ble_eq_true rfl) (by omega) rfl)⟩ fun w70 h71 => ?_
      obtain ⟨S69, eS69⟩ : ∃ S9, S9 = (S.setT S.cur.toNat { S.tcb S.cur.toNat with badge := (S.word fc13.obj.idx.toNat) }) := ⟨_, rfl⟩
      rw [← eS69] at h71
      have rS69 : RI S69 := by rw [eS69]; exact rS.setT ⟨(rS.t (i := S.cur.toNat) (by omega)).nx, (rS.t (i := S.cur.toNat) (by omega)).pv, (rS.t (i := S.cur.toNat) (by omega)).pr, (rS.t (i := S.cur.toNat) (by omega)).wi, (rS.t (i := S.cur.toNat) (by omega)).ci, (rS.t (i := S.cur.toNat) (by omega)).ri, (rS.t (i := S.cur.toNat) (by omega)).ds⟩
      have hkh71 := h68.known
      refine ⟨(keepOf hkh71 h71.known (kcons (keepAt (q := 3) (q' := 3) rfl rfl) knil)), ?_⟩
      clear h68
      refine dr_batch tabOk tabZ_ok (by repeat (first | with_reducible exact PF.body | with_reducible apply PF.inB | with_reducible apply PF.next)) [(25, {})] [7, 4, 0, 1, 2, 6, 9, 62] (T' := [(7, .pointer (some ⟨b22, 0, none⟩)), (4, .pointer (some ⟨b2, 0, none⟩)), (0, .pointer (some ⟨kb, 0, none⟩)), (1, .agg #[.int .u8 ev.kind, .int .u32 ev.pick, .int .u64 ev.draw, .int .u32 ev.addr, .int .u32 ev.node, .int .u32 ev.dst, .int .u32 ev.xfer, .int .u8 ev.ty, .int .u64 ev.arg, .int .u64 ev.badge, .slice xo ev.ws.length cx]), (2, .pointer (some ⟨bt, 0, none⟩)), (6, .int .u8 0), (9, .int .u8 fk15), (62, .pointer (some ⟨kb, 6146 + (fc13.obj.idx.toNat * 1), none⟩))]) (φ := (0 ≤ fc13.obj.idx ∧ fc13.obj.idx < 256) ∧ True) (fuel := 1) h71 (by kernel_rfl) rfl (by kernel_rfl) (by kernel_rfl) ⟨trivial, trivial⟩ ⟨⟨by omega, by omega⟩, trivial⟩ fun a72 h73 => ?_
      clear h71
      refine wpAnyK_one (i := 26) (fuel := 0) (by kernel_rfl) ?_
      refine op_store tabOk {k := 0, m := 1, vs := kC bo bc ({ S69 with word := upd S69.word fc13.obj.idx.toNat 0 })} (L' := [(kb, ⟨kC bo bc ({ S69 with word := upd S69.word fc13.obj.idx.toNat 0 }), 90, false⟩), (bt, ⟨outC ou, 42, false⟩), (b2, ⟨[.int .u8 ev.kind, .int .u32 ev.pick, .int .u64 ev.draw, .int .u32 ev.addr, .int .u32 ev.node, .int .u32 ev.dst, .int .u32 ev.xfer, .int .u8 ev.ty, .int .u64 ev.arg, .int .u64 ev.badge, .slice xo ev.ws.length cx], 35, false⟩), (b22, ⟨[.int .u8 fc13.ty, .int .u16 fc13.obj.idx, .int .u32 fc13.obj.gen, .int .u8 fc13.rights, .int .u64 fc13.badge], 49, false⟩)]) (φ := kb = kb ∧ Nat.ble (6146 + (fc13.obj.idx.toNat * 1) + 1) (kC bo bc S69).length = true ∧ splice (kC bo bc S69) (6146 + (fc13.obj.idx.toNat * 1)) [.int .u64 0] = kC bo bc ({ S69 with word := upd S69.word fc13.obj.idx.toNat 0 })) h73 rfl rfl rfl (by kernel_rfl) ⟨rfl, k_in (by omega), (k_word_w (i := fc13.obj.idx.toNat) (k := 0) (by omega) (Nat.le_of_ble_eq_true rfl) (by omega) rfl)⟩ fun w75 h76 => ?_
      obtain ⟨S74, eS74⟩ : ∃ S9, S9 = { S69 with word := upd S69.word fc13.obj.idx.toNat 0 } := ⟨_, rfl⟩
      rw [← eS74] at h76
      have rS74 : RI S74 := by rw [eS74]; exact rS69.setWord _
      have hkh76 := h73.known
      refine ⟨keepNil, ?_⟩
      clear h73
      refine wpAnyK_done (by kernel_rfl) ?_ _
      refine hK63 _ _ ?_
      clear hK63
      refine wp_seq_k fun K77 hK77 => ?_
      refine nd_start (l := [0, 1, 2]) rfl ?_
      refine nd_batch tabOk tabZ_ok [(0, {}), (1, {})] [7, 4, 0, 1, 2, 6, 9, 63, 64] (T' := [(7, .pointer (some ⟨b22, 0, none⟩)), (4, .pointer (some ⟨b2, 0, none⟩)), (0, .pointer (some ⟨kb, 0, none⟩)), (1, .agg #[.int .u8 ev.kind, .int .u32 ev.pick, .int .u64 ev.draw, .int .u32 ev.addr, .int .u32 ev.node, .int .u32 ev.dst, .int .u32 ev.xfer, .int .u8 ev.ty, .int .u64 ev.arg, .int .u64 ev.badge, .slice xo ev.ws.length cx]), (2, .pointer (some ⟨bt, 0, none⟩)), (6, .int .u8 0), (9, .int .u8 fk15), (63, .pointer (some ⟨kb, 0, none⟩)), (64, .pointer (some ⟨bt, 0, none⟩))]) (φ := True) (rest := [2]) h76 (by kernel_rfl) rfl trivial fun a78 h79 => ?_
      clear h76
      refine nd_op ?_
      refine op_call h79 rfl rfl rfl (callOk Tryd.func75 (by decide) rfl) (args := [.pointer (some ⟨kb, 0, none⟩), .pointer (some ⟨bt, 0, none⟩)]) rfl (report_ok kb bo bc S74 rS74 bt hkt ou (by rw [eS74, eS69]; exact hcur) _ (h79.kn (k := 0) (blk := ⟨kC bo bc S74, 90, false⟩) rfl) (h79.kn (k := 1) (blk := ⟨outC ou, 42, false⟩) rfl)) ?_
      rintro _ w83 ⟨rfl, hb81, hf82⟩
      refine ⟨_, rfl, ?_⟩
      obtain ⟨ou80, eou80⟩ : ∃ o9, o9 = reportP S74 ou := ⟨_, rfl⟩
      rw [← eou80] at hb81
      have h84 := (h79.setBlk (k := 1) rfl rfl hf82 hb81 (L' := [(kb, ⟨kC bo bc S74, 90, false⟩), (bt, ⟨outC ou80, 42, false⟩), (b2, ⟨[.int .u8 ev.kind, .int .u32 ev.pick, .int .u64 ev.draw, .int .u32 ev.addr, .int .u32 ev.node, .int .u32 ev.dst, .int .u32 ev.xfer, .int .u8 ev.ty, .int .u64 ev.arg, .int .u64 ev.badge, .slice xo ev.ws.length cx], 35, false⟩), (b22, ⟨[.int .u8 fc13.ty, .int .u16 fc13.obj.idx, .int .u32 fc13.obj.gen, .int .u8 fc13.rights, .int .u64 fc13.badge], 49, false⟩)]) rfl).put (d := some 65) (v := .tuple #[]) (T' := [(65, .tuple #[]), (7, .pointer (some ⟨b22, 0, none⟩)), (4, .pointer (some ⟨b2, 0, none⟩)), (0, .pointer (some ⟨kb, 0, none⟩)), (1, .agg #[.int .u8 ev.kind, .int .u32 ev.pick, .int .u64 ev.draw, .int .u32 ev.addr, .int .u32 ev.node, .int .u32 ev.dst, .int .u32 ev.xfer, .int .u8 ev.ty, .int .u64 ev.arg, .int .u64 ev.badge, .slice xo ev.ws.length cx]), (2, .pointer (some ⟨bt, 0, none⟩)), (6, .int .u8 0), (9, .int .u8 fk15), (63, .pointer (some ⟨kb, 0, none⟩)), (64, .pointer (some ⟨bt, 0, none⟩))]) rfl
      clear h79
      refine nd_done ?_
      refine hK77 _ _ ?_
      clear hK77
      refine wp_seq_k fun K85 hK85 => ?_
      refine nd_start (l := [0]) rfl ?_
      refine nd_batch tabOk tabZ_ok [(0, {})] [7, 4, 0, 1, 2, 9, 6] (T' := [(7, .pointer (some ⟨b22, 0, none⟩)), (4, .pointer (some ⟨b2, 0, none⟩)), (0, .pointer (some ⟨kb, 0, none⟩)), (1, .agg #[.int .u8 ev.kind, .int .u32 ev.pick, .int .u64 ev.draw, .int .u32 ev.addr, .int .u32 ev.node, .int .u32 ev.dst, .int .u32 ev.xfer, .int .u8 ev.ty, .int .u64 ev.arg, .int .u64 ev.badge, .slice xo ev.ws.length cx]), (2, .pointer (some ⟨bt, 0, none⟩)), (9, .int .u8 fk15), (6, .int .u8 0)]) (φ := True) (rest := []) h84 (by kernel_rfl) rfl trivial fun a86 h87 => ?_
      clear h84
      refine nd_done ?_
      refine hK85 _ _ ?_
      clear hK85
      refine wp_ret ?_
      try simp only [Exit.then, Exit.inBlock]
      try rw [if_pos trivial]
      exact s_ret tabOk tabZ_ok h87 [(.tmp 6, {})] (vs := [.int .u8 0]) (φ := True) rfl (by kernel_rfl) trivial (by rw [show waitP S C ev ou = (S74, ou80, 0) from (by unfold waitP; (try dsimp only); rw [hfd16]; (try dsimp only); (first | rw [if_neg hc36f] | rw [if_neg (fun hz => hz hc36f)]); (first | rw [if_neg hc48f] | rw [if_neg (fun hz => hz hc48f)]); rw [← eS69]; rw [← eS74]; rw [← eou80])]; exact ⟨rfl, h87.kn (k := 0) rfl, h87.kn (k := 1) rfl, h87.frame⟩)

theorem control_ok (kb bo bc : Nat) (nd : Nat → Nat) (S : KP) (rS : RI S) (C : CP) (hC : CI C) (hcur : 0 ≤ S.cur ∧ S.cur < 256) (ev : Ev) (he : EvOk ev) (xo : Option Addr) (cx : Nat) (w : World) (hb : w.heap[kb]? = some (Blk.obj ⟨kC bo bc S, 90, false⟩)) (hc : CapAt w bo bc nd C) (hdkb : kb ∉ capF bo bc nd C) :
    Calls Tryd.prog 85 #[.pointer (some ⟨kb, 0, none⟩), .agg #[.int .u8 ev.kind, .int .u32 ev.pick, .int .u64 ev.draw, .int .u32 ev.addr, .int .u32 ev.node, .int .u32 ev.dst, .int .u32 ev.xfer, .int .u8 ev.ty, .int .u64 ev.arg, .int .u64 ev.badge, .slice xo ev.ws.length cx]] w fun e w' => e = .returned (.int .u8 (controlP S C ev).2) ∧ w'.heap[kb]? = some (Blk.obj ⟨kC bo bc (controlP S C ev).1, 90, false⟩) ∧ Fr [kb] w w' := by
  have hea := he.arg
  refine enter (n := 107) (K := [kb]) (A := fun w => CapAt w bo bc nd C) (F := (capF bo bc nd C)) (T := [(0, .pointer (some ⟨kb, 0, none⟩)), (1, .agg #[.int .u8 ev.kind, .int .u32 ev.pick, .int .u64 ev.draw, .int .u32 ev.addr, .int .u32 ev.node, .int .u32 ev.dst, .int .u32 ev.xfer, .int .u8 ev.ty, .int .u64 ev.arg, .int .u64 ev.badge, .slice xo ev.ws.length cx])]) (L := [(kb, ⟨kC bo bc S, 90, false⟩)]) (args := [.pointer (some ⟨kb, 0, none⟩), .agg #[.int .u8 ev.kind, .int .u32 ev.pick, .int .u64 ev.draw, .int .u32 ev.addr, .int .u32 ev.node, .int .u32 ev.dst, .int .u32 ev.xfer, .int .u8 ev.ty, .int .u64 ev.arg, .int .u64 ev.badge, .slice xo ev.ws.length cx]]) Tryd.func85 rfl rfl rfl rfl (kcons hb knil) (by simp) (kcons (fun _ => by simp) knil) hc CapAt.stable hc.low (kcons (fun _ => hdkb) knil) ?_
  intro a h
  refine wp_seq_k fun K1 hK1 => ?_
  refine nd_start (l := [0, 1]) rfl ?_
  refine nd_op ?_
  refine op_new tabOk (cells := [.int .u8 ev.kind, .int .u32 ev.pick, .int .u64 ev.draw, .int .u32 ev.addr, .int .u32 ev.node, .int .u32 ev.dst, .int .u32 ev.xfer, .int .u8 ev.ty, .int .u64 ev.arg, .int .u64 ev.badge, .slice xo ev.ws.length cx]) (ty := 35) (ln := none) (L1 := fun b2 => [(kb, ⟨kC bo bc S, 90, false⟩), (b2, ⟨[.int .u8 ev.kind, .int .u32 ev.pick, .int .u64 ev.draw, .int .u32 ev.addr, .int .u32 ev.node, .int .u32 ev.dst, .int .u32 ev.xfer, .int .u8 ev.ty, .int .u64 ev.arg, .int .u64 ev.badge, .slice xo ev.ws.length cx], 35, false⟩)]) h rfl rfl rfl rfl (by kernel_rfl) (fun _ => rfl) fun b2 w3 a4 h5 hf6 hn7 => ?_
  clear h
  refine nd_batch tabOk tabZ_ok [(1, {})] [3, 0, 1, 4] (T' := [(3, .pointer (some ⟨b2, 0, none⟩)), (0, .pointer (some ⟨kb, 0, none⟩)), (1, .agg #[.int .u8 ev.kind, .int .u32 ev.pick, .int .u64 ev.draw, .int .u32 ev.addr, .int .u32 ev.node, .int .u32 ev.dst, .int .u32 ev.xfer, .int .u8 ev.ty, .int .u64 ev.arg, .int .u64 ev.badge, .slice xo ev.ws.length cx]), (4, .int .u8 0)]) (φ := True) (rest := []) h5 (by kernel_rfl) rfl trivial fun a8 h9 => ?_
  clear h5
  refine nd_done ?_
  refine hK1 _ _ ?_
  clear hK1
  refine wp_seq_k fun K10 hK10 => ?_
  refine nd_start (l := [0, 1, 2, 3, 4, 5, 6, 7, 8, 9, 10, 11]) rfl ?_
  refine nd_batch tabOk tabZ_ok [(0, {}), (1, {}), (2, {k := 1})] [3, 0, 1, 4, 14, 16] (T' := [(3, .pointer (some ⟨b2, 0, none⟩)), (0, .pointer (some ⟨kb, 0, none⟩)), (1, .agg #[.int .u8 ev.kind, .int .u32 ev.pick, .int .u64 ev.draw, .int .u32 ev.addr, .int .u32 ev.node, .int .u32 ev.dst, .int .u32 ev.xfer, .int .u8 ev.ty, .int .u64 ev.arg, .int .u64 ev.badge, .slice xo ev.ws.length cx]), (4, .int .u8 0), (14, .pointer (some ⟨kb, 0, none⟩)), (16, .int .u32 ev.addr)]) (φ := (b2 = b2 ∧ Nat.ble (3 + 1) 11 = true) ∧ True) (rest := [3, 4, 5, 6, 7, 8, 9, 10, 11]) h9 (by kernel_rfl) rfl ⟨⟨rfl, rfl⟩, trivial⟩ fun a11 h12 => ?_
  clear h9
  refine nd_op ?_
  obtain ⟨fc13, fs14, fk15, hfd16⟩ : ∃ c s k, findP S C ev.addr 3 2 = (c, s, k) := ⟨_, _, _, rfl⟩
  refine op_call h12 rfl rfl rfl (callOk Tryd.func79 (by decide) rfl) (args := [.pointer (some ⟨kb, 0, none⟩), .int .u32 ev.addr, .int .u8 3, .int .u8 2]) rfl (find_ok kb bo bc nd S rS C hC ev.addr 3 2 hcur he.addr _ (h12.kn (k := 0) (blk := ⟨kC bo bc S, 90, false⟩) rfl) h12.inv hdkb hfd16) ?_
  rintro _ w17 ⟨rfl, hf19⟩
  refine ⟨_, rfl, ?_⟩
  have h18 := (h12.grow hf19).put (d := some 17) (v := .tuple #[.agg #[.int .u8 fc13.ty, .int .u16 fc13.obj.idx, .int .u32 fc13.obj.gen, .int .u8 fc13.rights, .int .u64 fc13.badge], .int .i64 fs14, .int .u8 fk15]) (T' := [(17, .tuple #[.agg #[.int .u8 fc13.ty, .int .u16 fc13.obj.idx, .int .u32 fc13.obj.gen, .int .u8 fc13.rights, .int .u64 fc13.badge], .int .i64 fs14, .int .u8 fk15]), (3, .pointer (some ⟨b2, 0, none⟩)), (0, .pointer (some ⟨kb, 0, none⟩)), (1, .agg #[.int .u8 ev.kind, .int .u32 ev.pick, .int .u64 ev.draw, .int .u32 ev.addr, .int .u32 ev.node, .int .u32 ev.dst, .int .u32 ev.xfer, .int .u8 ev.ty, .int .u64 ev.arg, .int .u64 ev.badge, .slice xo ev.ws.length cx]), (4, .int .u8 0), (14, .pointer (some ⟨kb, 0, none⟩)), (16, .int .u32 ev.addr)]) rfl
  clear h12
  refine nd_batch tabOk tabZ_ok [(4, {}), (5, {}), (6, {}), (7, {})] [3, 0, 1, 4, 18, 19, 20] (T' := [(3, .pointer (some ⟨b2, 0, none⟩)), (0, .pointer (some ⟨kb, 0, none⟩)), (1, .agg #[.int .u8 ev.kind, .int .u32 ev.pick, .int .u64 ev.draw, .int .u32 ev.addr, .int .u32 ev.node, .int .u32 ev.dst, .int .u32 ev.xfer, .int .u8 ev.ty, .int .u64 ev.arg, .int .u64 ev.badge, .slice xo ev.ws.length cx]), (4, .int .u8 0), (18, .agg #[.int .u8 fc13.ty, .int .u16 fc13.obj.idx, .int .u32 fc13.obj.gen, .int .u8 fc13.rights, .int .u64 fc13.badge]), (19, .int .i64 fs14), (20, .int .u8 fk15)]) (φ := True) (rest := [8, 9, 10, 11]) h18 (by kernel_rfl) rfl trivial fun a20 h21 => ?_
  clear h18
  refine nd_op ?_
  refine op_new tabOk (cells := [.int .u8 0, .int .u16 0, .int .u32 0, .int .u8 0, .int .u64 0]) (ty := 49) (ln := none) (L1 := fun b22 => [(kb, ⟨kC bo bc S, 90, false⟩), (b2, ⟨[.int .u8 ev.kind, .int .u32 ev.pick, .int .u64 ev.draw, .int .u32 ev.addr, .int .u32 ev.node, .int .u32 ev.dst, .int .u32 ev.xfer, .int .u8 ev.ty, .int .u64 ev.arg, .int .u64 ev.badge, .slice xo ev.ws.length cx], 35, false⟩), (b22, ⟨[.int .u8 0, .int .u16 0, .int .u32 0, .int .u8 0, .int .u64 0], 49, false⟩)]) h21 rfl rfl rfl rfl (by kernel_rfl) (fun _ => rfl) fun b22 w23 a24 h25 hf26 hn27 => ?_
  clear h21
  refine nd_op ?_
  refine op_store tabOk {k := 2} (L' := [(kb, ⟨kC bo bc S, 90, false⟩), (b2, ⟨[.int .u8 ev.kind, .int .u32 ev.pick, .int .u64 ev.draw, .int .u32 ev.addr, .int .u32 ev.node, .int .u32 ev.dst, .int .u32 ev.xfer, .int .u8 ev.ty, .int .u64 ev.arg, .int .u64 ev.badge, .slice xo ev.ws.length cx], 35, false⟩), (b22, ⟨[.int .u8 fc13.ty, .int .u16 fc13.obj.idx, .int .u32 fc13.obj.gen, .int .u8 fc13.rights, .int .u64 fc13.badge], 49, false⟩)]) (φ := b22 = b22 ∧ Nat.ble (0 + 5) 5 = true) h25 rfl rfl rfl (by kernel_rfl) ⟨rfl, rfl⟩ fun w28 h29 => ?_
  clear h25
  refine nd_batch tabOk tabZ_ok [(10, {}), (11, {})] [5, 3, 0, 1, 4, 7] (T' := [(5, .pointer (some ⟨b22, 0, none⟩)), (3, .pointer (some ⟨b2, 0, none⟩)), (0, .pointer (some ⟨kb, 0, none⟩)), (1, .agg #[.int .u8 ev.kind, .int .u32 ev.pick, .int .u64 ev.draw, .int .u32 ev.addr, .int .u32 ev.node, .int .u32 ev.dst, .int .u32 ev.xfer, .int .u8 ev.ty, .int .u64 ev.arg, .int .u64 ev.badge, .slice xo ev.ws.length cx]), (4, .int .u8 0), (7, .int .u8 fk15)]) (φ := True) (rest := []) h29 (by kernel_rfl) rfl trivial fun a30 h31 => ?_
  clear h29
  refine nd_done ?_
  refine hK10 _ _ ?_
  clear hK10
  refine wp_seq_k fun K32 hK32 => ?_
  refine wp_seq_k fun K33 hK33 => ?_
  refine nd_start (l := [0, 1]) rfl ?_
  refine nd_batch tabOk tabZ_ok [(0, {}), (1, {})] [5, 3, 0, 1, 4, 7, 22] (T' := [(5, .pointer (some ⟨b22, 0, none⟩)), (3, .pointer (some ⟨b2, 0, none⟩)), (0, .pointer (some ⟨kb, 0, none⟩)), (1, .agg #[.int .u8 ev.kind, .int .u32 ev.pick, .int .u64 ev.draw, .int .u32 ev.addr, .int .u32 ev.node, .int .u32 ev.dst, .int .u32 ev.xfer, .int .u8 ev.ty, .int .u64 ev.arg, .int .u64 ev.badge, .slice xo ev.ws.length cx]), (4, .int .u8 0), (7, .int .u8 fk15), (22, .bool (fk15 != 0))]) (φ := True) (rest := []) h31 (by kernel_rfl) rfl trivial fun a34 h35 => ?_
  clear h31
  refine nd_done ?_
  refine hK33 _ _ ?_
  clear hK33
  refine c_split h35 (b := (fk15 != 0)) rfl (fun hc36 => ?_) (fun hc36 => ?_)
  ·
    have hc36f : fk15 ≠ 0 := by simpa using hc36
    refine wp_seq_k fun K37 hK37 => ?_
    refine nd_start (l := [0, 1]) rfl ?_
    refine nd_batch tabOk tabZ_ok [(0, {}), (1, {})] [5, 3, 0, 1, 7, 4] (T' := [(5, .pointer (some ⟨b22, 0, none⟩)), (3, .pointer (some ⟨b2, 0, none⟩)), (0, .pointer (some ⟨kb, 0, none⟩)), (1, .agg #[.int .u8 ev.kind, .int .u32 ev.pick, .int .u64 ev.draw, .int .u32 ev.addr, .int .u32 ev.node, .int .u32 ev.dst, .int .u32 ev.xfer, .int .u8 ev.ty, .int .u64 ev.arg, .int .u64 ev.badge, .slice xo ev.ws.length cx]), (7, .int .u8 fk15), (4, .int .u8 fk15)]) (φ := True) (rest := []) h35 (by kernel_rfl) rfl trivial fun a38 h39 => ?_
    clear h35
    refine nd_done ?_
    refine hK37 _ _ ?_
    clear hK37
    refine wp_ret ?_
    try simp only [Exit.then, Exit.inBlock]
    try rw [if_pos trivial]
    exact s_ret tabOk tabZ_ok h39 [(.tmp 4, {})] (vs := [.int .u8 fk15]) (φ := True) rfl (by kernel_rfl) trivial (by rw [show controlP S C ev = (S, fk15) from (by unfold controlP; (try dsimp only); rw [hfd16]; (try dsimp only); (first | rw [if_pos hc36f] | rw [if_pos (fun hz => hz hc36f)]))]; exact ⟨rfl, h39.kn (k := 0) rfl, h39.frame⟩)
  ·
    have hc36f : fk15 = 0 := by simpa using hc36
    obtain ⟨fi40, fj40, hfi40, hfj40, hfp40, hfs40, hfcap40, hft40, hfz40, hfo40⟩ := find_fact rS hC hcur he.addr.1 hfd16 hc36f
    have hxfi40 := find_idx hfo40 (by rw [hft40]; decide)
    refine wp_skip ?_
    refine hK32 _ _ ?_
    clear hK32
    refine wp_seq_k fun K41 hK41 => ?_
    refine nd_start (l := [0, 1, 2, 3, 4]) rfl ?_
    refine nd_batch tabOk tabZ_ok [(0, {}), (1, {}), (2, {k := 2}), (3, {}), (4, {})] [5, 3, 0, 1, 4, 7, 8] (T' := [(5, .pointer (some ⟨b22, 0, none⟩)), (3, .pointer (some ⟨b2, 0, none⟩)), (0, .pointer (some ⟨kb, 0, none⟩)), (1, .agg #[.int .u8 ev.kind, .int .u32 ev.pick, .int .u64 ev.draw, .int .u32 ev.addr, .int .u32 ev.node, .int .u32 ev.dst, .int .u32 ev.xfer, .int .u8 ev.ty, .int .u64 ev.arg, .int .u64 ev.badge, .slice xo ev.ws.length cx]), (4, .int .u8 0), (7, .int .u8 fk15), (8, .int .i16 fc13.obj.idx)]) (φ := (b22 = b22 ∧ Nat.ble (1 + 1) 5 = true) ∧ inR .i16 fc13.obj.idx ∧ True) (rest := []) h35 (by kernel_rfl) rfl ⟨⟨rfl, rfl⟩, ⟨by omega, by omega⟩, trivial⟩ fun a42 h43 => ?_
    clear h35
    refine nd_done ?_
    refine hK41 _ _ ?_
    clear hK41
    refine wp_seq_k fun K44 hK44 => ?_
    refine nd_start (l := [0, 1, 2, 3, 4, 5]) rfl ?_
    refine nd_batch tabOk tabZ_ok [(0, {}), (1, {}), (2, {}), (3, {}), (4, {}), (5, {})] [5, 3, 0, 1, 4, 7, 8, 9] (T' := [(5, .pointer (some ⟨b22, 0, none⟩)), (3, .pointer (some ⟨b2, 0, none⟩)), (0, .pointer (some ⟨kb, 0, none⟩)), (1, .agg #[.int .u8 ev.kind, .int .u32 ev.pick, .int .u64 ev.draw, .int .u32 ev.addr, .int .u32 ev.node, .int .u32 ev.dst, .int .u32 ev.xfer, .int .u8 ev.ty, .int .u64 ev.arg, .int .u64 ev.badge, .slice xo ev.ws.length cx]), (4, .int .u8 0), (7, .int .u8 fk15), (8, .int .i16 fc13.obj.idx), (9, .pointer (some ⟨kb, 2 + (fc13.obj.idx.toNat * 21), none⟩))]) (φ := (0 ≤ fc13.obj.idx ∧ fc13.obj.idx < 256) ∧ True) (rest := []) h43 (by kernel_rfl) rfl ⟨⟨by omega, by omega⟩, trivial⟩ fun a45 h46 => ?_
    clear h43
    refine nd_done ?_
    refine hK44 _ _ ?_
    clear hK44
    refine wp_seq_k fun K47 hK47 => ?_
    refine wp_seq_k fun K48 hK48 => ?_
    refine nd_start (l := [0, 1]) rfl ?_
    refine nd_batch tabOk tabZ_ok [(0, {}), (1, {k := 1})] [5, 3, 0, 1, 4, 7, 8, 9, 34] (T' := [(5, .pointer (some ⟨b22, 0, none⟩)), (3, .pointer (some ⟨b2, 0, none⟩)), (0, .pointer (some ⟨kb, 0, none⟩)), (1, .agg #[.int .u8 ev.kind, .int .u32 ev.pick, .int .u64 ev.draw, .int .u32 ev.addr, .int .u32 ev.node, .int .u32 ev.dst, .int .u32 ev.xfer, .int .u8 ev.ty, .int .u64 ev.arg, .int .u64 ev.badge, .slice xo ev.ws.length cx]), (4, .int .u8 0), (7, .int .u8 fk15), (8, .int .i16 fc13.obj.idx), (9, .pointer (some ⟨kb, 2 + (fc13.obj.idx.toNat * 21), none⟩)), (34, .int .u8 ev.kind)]) (φ := (b2 = b2 ∧ Nat.ble (0 + 1) 11 = true) ∧ True) (rest := []) h46 (by kernel_rfl) rfl ⟨⟨rfl, rfl⟩, trivial⟩ fun a49 h50 => ?_
    clear h46
    refine nd_done ?_
    refine hK48 _ _ ?_
    clear hK48
    refine wp_block ?_
    refine wp_seq_k fun K51 hK51 => ?_
    refine nd_start (l := [0, 1]) rfl ?_
    refine nd_batch tabOk tabZ_ok [(0, {}), (1, {})] [5, 3, 0, 1, 4, 7, 8, 9, 34, 35] (T' := [(5, .pointer (some ⟨b22, 0, none⟩)), (3, .pointer (some ⟨b2, 0, none⟩)), (0, .pointer (some ⟨kb, 0, none⟩)), (1, .agg #[.int .u8 ev.kind, .int .u32 ev.pick, .int .u64 ev.draw, .int .u32 ev.addr, .int .u32 ev.node, .int .u32 ev.dst, .int .u32 ev.xfer, .int .u8 ev.ty, .int .u64 ev.arg, .int .u64 ev.badge, .slice xo ev.ws.length cx]), (4, .int .u8 0), (7, .int .u8 fk15), (8, .int .i16 fc13.obj.idx), (9, .pointer (some ⟨kb, 2 + (fc13.obj.idx.toNat * 21), none⟩)), (34, .int .u8 ev.kind), (35, .bool (ev.kind == 14))]) (φ := True) (rest := []) h50 (by kernel_rfl) rfl trivial fun a52 h53 => ?_
    clear h50
    refine nd_done ?_
    refine hK51 _ _ ?_
    clear hK51
    refine c_split h53 (b := (ev.kind == 14)) rfl (fun hc54 => ?_) (fun hc54 => ?_)
    ·
      have hc54f : ev.kind = 14 := by simpa using hc54
      refine wp_seq_k fun K55 hK55 => ?_
      refine nd_start (l := [0, 1, 2, 3, 4, 5, 6, 7, 8, 9, 10, 11]) rfl ?_
      refine nd_batch tabOk tabZ_ok [(0, {}), (1, {}), (2, {k := 1})] [5, 3, 0, 1, 4, 7, 8, 9, 34, 38, 40] (T' := [(5, .pointer (some ⟨b22, 0, none⟩)), (3, .pointer (some ⟨b2, 0, none⟩)), (0, .pointer (some ⟨kb, 0, none⟩)), (1, .agg #[.int .u8 ev.kind, .int .u32 ev.pick, .int .u64 ev.draw, .int .u32 ev.addr, .int .u32 ev.node, .int .u32 ev.dst, .int .u32 ev.xfer, .int .u8 ev.ty, .int .u64 ev.arg, .int .u64 ev.badge, .slice xo ev.ws.length cx]), (4, .int .u8 0), (7, .int .u8 fk15), (8, .int .i16 fc13.obj.idx), (9, .pointer (some ⟨kb, 2 + (fc13.obj.idx.toNat * 21), none⟩)), (34, .int .u8 ev.kind), (38, .pointer (some ⟨kb, 0, none⟩)), (40, .int .u32 ev.node)]) (φ := (b2 = b2 ∧ Nat.ble (4 + 1) 11 = true) ∧ True) (rest := [3, 4, 5, 6, 7, 8, 9, 10, 11]) h53 (by kernel_rfl) rfl ⟨⟨rfl, rfl⟩, trivial⟩ fun a56 h57 => ?_
      clear h53
      refine nd_op ?_
      obtain ⟨fc58, fs59, fk60, hfd61⟩ : ∃ c s k, findP S C ev.node 2 1 = (c, s, k) := ⟨_, _, _, rfl⟩
      refine op_call h57 rfl rfl rfl (callOk Tryd.func79 (by decide) rfl) (args := [.pointer (some ⟨kb, 0, none⟩), .int .u32 ev.node, .int .u8 2, .int .u8 1]) rfl (find_ok kb bo bc nd S rS C hC ev.node 2 1 hcur he.node _ (h57.kn (k := 0) (blk := ⟨kC bo bc S, 90, false⟩) rfl) h57.inv hdkb hfd61) ?_
      rintro _ w62 ⟨rfl, hf64⟩
      refine ⟨_, rfl, ?_⟩
      have h63 := (h57.grow hf64).put (d := some 41) (v := .tuple #[.agg #[.int .u8 fc58.ty, .int .u16 fc58.obj.idx, .int .u32 fc58.obj.gen, .int .u8 fc58.rights, .int .u64 fc58.badge], .int .i64 fs59, .int .u8 fk60]) (T' := [(41, .tuple #[.agg #[.int .u8 fc58.ty, .int .u16 fc58.obj.idx, .int .u32 fc58.obj.gen, .int .u8 fc58.rights, .int .u64 fc58.badge], .int .i64 fs59, .int .u8 fk60]), (5, .pointer (some ⟨b22, 0, none⟩)), (3, .pointer (some ⟨b2, 0, none⟩)), (0, .pointer (some ⟨kb, 0, none⟩)), (1, .agg #[.int .u8 ev.kind, .int .u32 ev.pick, .int .u64 ev.draw, .int .u32 ev.addr, .int .u32 ev.node, .int .u32 ev.dst, .int .u32 ev.xfer, .int .u8 ev.ty, .int .u64 ev.arg, .int .u64 ev.badge, .slice xo ev.ws.length cx]), (4, .int .u8 0), (7, .int .u8 fk15), (8, .int .i16 fc13.obj.idx), (9, .pointer (some ⟨kb, 2 + (fc13.obj.idx.toNat * 21), none⟩)), (34, .int .u8 ev.kind), (38, .pointer (some ⟨kb, 0, none⟩)), (40, .int .u32 ev.node)]) rfl
      clear h57
      refine nd_batch tabOk tabZ_ok [(4, {}), (5, {}), (6, {}), (7, {})] [5, 3, 0, 1, 4, 7, 8, 9, 34, 42, 43, 44] (T' := [(5, .pointer (some ⟨b22, 0, none⟩)), (3, .pointer (some ⟨b2, 0, none⟩)), (0, .pointer (some ⟨kb, 0, none⟩)), (1, .agg #[.int .u8 ev.kind, .int .u32 ev.pick, .int .u64 ev.draw, .int .u32 ev.addr, .int .u32 ev.node, .int .u32 ev.dst, .int .u32 ev.xfer, .int .u8 ev.ty, .int .u64 ev.arg, .int .u64 ev.badge, .slice xo ev.ws.length cx]), (4, .int .u8 0), (7, .int .u8 fk15), (8, .int .i16 fc13.obj.idx), (9, .pointer (some ⟨kb, 2 + (fc13.obj.idx.toNat * 21), none⟩)), (34, .int .u8 ev.kind), (42, .agg #[.int .u8 fc58.ty, .int .u16 fc58.obj.idx, .int .u32 fc58.obj.gen, .int .u8 fc58.rights, .int .u64 fc58.badge]), (43, .int .i64 fs59), (44, .int .u8 fk60)]) (φ := True) (rest := [8, 9, 10, 11]) h63 (by kernel_rfl) rfl trivial fun a65 h66 => ?_
      clear h63
      refine nd_op ?_
      refine op_new tabOk (cells := [.int .u8 0, .int .u16 0, .int .u32 0, .int .u8 0, .int .u64 0]) (ty := 49) (ln := none) (L1 := fun b67 => [(kb, ⟨kC bo bc S, 90, false⟩), (b2, ⟨[.int .u8 ev.kind, .int .u32 ev.pick, .int .u64 ev.draw, .int .u32 ev.addr, .int .u32 ev.node, .int .u32 ev.dst, .int .u32 ev.xfer, .int .u8 ev.ty, .int .u64 ev.arg, .int .u64 ev.badge, .slice xo ev.ws.length cx], 35, false⟩), (b22, ⟨[.int .u8 fc13.ty, .int .u16 fc13.obj.idx, .int .u32 fc13.obj.gen, .int .u8 fc13.rights, .int .u64 fc13.badge], 49, false⟩), (b67, ⟨[.int .u8 0, .int .u16 0, .int .u32 0, .int .u8 0, .int .u64 0], 49, false⟩)]) h66 rfl rfl rfl rfl (by kernel_rfl) (fun _ => rfl) fun b67 w68 a69 h70 hf71 hn72 => ?_
      clear h66
      refine nd_op ?_
      refine op_store tabOk {k := 3} (L' := [(kb, ⟨kC bo bc S, 90, false⟩), (b2, ⟨[.int .u8 ev.kind, .int .u32 ev.pick, .int .u64 ev.draw, .int .u32 ev.addr, .int .u32 ev.node, .int .u32 ev.dst, .int .u32 ev.xfer, .int .u8 ev.ty, .int .u64 ev.arg, .int .u64 ev.badge, .slice xo ev.ws.length cx], 35, false⟩), (b22, ⟨[.int .u8 fc13.ty, .int .u16 fc13.obj.idx, .int .u32 fc13.obj.gen, .int .u8 fc13.rights, .int .u64 fc13.badge], 49, false⟩), (b67, ⟨[.int .u8 fc58.ty, .int .u16 fc58.obj.idx, .int .u32 fc58.obj.gen, .int .u8 fc58.rights, .int .u64 fc58.badge], 49, false⟩)]) (φ := b67 = b67 ∧ Nat.ble (0 + 5) 5 = true) h70 rfl rfl rfl (by kernel_rfl) ⟨rfl, rfl⟩ fun w73 h74 => ?_
      clear h70
      refine nd_batch tabOk tabZ_ok [(10, {}), (11, {})] [10, 5, 3, 0, 1, 4, 7, 8, 9, 34, 12] (T' := [(10, .pointer (some ⟨b67, 0, none⟩)), (5, .pointer (some ⟨b22, 0, none⟩)), (3, .pointer (some ⟨b2, 0, none⟩)), (0, .pointer (some ⟨kb, 0, none⟩)), (1, .agg #[.int .u8 ev.kind, .int .u32 ev.pick, .int .u64 ev.draw, .int .u32 ev.addr, .int .u32 ev.node, .int .u32 ev.dst, .int .u32 ev.xfer, .int .u8 ev.ty, .int .u64 ev.arg, .int .u64 ev.badge, .slice xo ev.ws.length cx]), (4, .int .u8 0), (7, .int .u8 fk15), (8, .int .i16 fc13.obj.idx), (9, .pointer (some ⟨kb, 2 + (fc13.obj.idx.toNat * 21), none⟩)), (34, .int .u8 ev.kind), (12, .int .u8 fk60)]) (φ := True) (rest := []) h74 (by kernel_rfl) rfl trivial fun a75 h76 => ?_
      clear h74
      refine nd_done ?_
      refine hK55 _ _ ?_
      clear hK55
      refine wp_seq_k fun K77 hK77 => ?_
      refine wp_seq_k fun K78 hK78 => ?_
      refine nd_start (l := [0, 1]) rfl ?_
      refine nd_batch tabOk tabZ_ok [(0, {}), (1, {})] [10, 5, 3, 0, 1, 4, 7, 8, 9, 34, 12, 46] (T' := [(10, .pointer (some ⟨b67, 0, none⟩)), (5, .pointer (some ⟨b22, 0, none⟩)), (3, .pointer (some ⟨b2, 0, none⟩)), (0, .pointer (some ⟨kb, 0, none⟩)), (1, .agg #[.int .u8 ev.kind, .int .u32 ev.pick, .int .u64 ev.draw, .int .u32 ev.addr, .int .u32 ev.node, .int .u32 ev.dst, .int .u32 ev.xfer, .int .u8 ev.ty, .int .u64 ev.arg, .int .u64 ev.badge, .slice xo ev.ws.length cx]), (4, .int .u8 0), (7, .int .u8 fk15), (8, .int .i16 fc13.obj.idx), (9, .pointer (some ⟨kb, 2 + (fc13.obj.idx.toNat * 21), none⟩)), (34, .int .u8 ev.kind), (12, .int .u8 fk60), (46, .bool (fk60 != 0))]) (φ := True) (rest := []) h76 (by kernel_rfl) rfl trivial fun a79 h80 => ?_
      clear h76
      refine nd_done ?_
      refine hK78 _ _ ?_
      clear hK78
      refine c_split h80 (b := (fk60 != 0)) rfl (fun hc81 => ?_) (fun hc81 => ?_)
      ·
        have hc81f : fk60 ≠ 0 := by simpa using hc81
        refine wp_seq_k fun K82 hK82 => ?_
        refine nd_start (l := [0, 1]) rfl ?_
        refine nd_batch tabOk tabZ_ok [(0, {}), (1, {})] [10, 5, 3, 0, 1, 7, 8, 9, 34, 12, 4] (T' := [(10, .pointer (some ⟨b67, 0, none⟩)), (5, .pointer (some ⟨b22, 0, none⟩)), (3, .pointer (some ⟨b2, 0, none⟩)), (0, .pointer (some ⟨kb, 0, none⟩)), (1, .agg #[.int .u8 ev.kind, .int .u32 ev.pick, .int .u64 ev.draw, .int .u32 ev.addr, .int .u32 ev.node, .int .u32 ev.dst, .int .u32 ev.xfer, .int .u8 ev.ty, .int .u64 ev.arg, .int .u64 ev.badge, .slice xo ev.ws.length cx]), (7, .int .u8 fk15), (8, .int .i16 fc13.obj.idx), (9, .pointer (some ⟨kb, 2 + (fc13.obj.idx.toNat * 21), none⟩)), (34, .int .u8 ev.kind), (12, .int .u8 fk60), (4, .int .u8 fk60)]) (φ := True) (rest := []) h80 (by kernel_rfl) rfl trivial fun a83 h84 => ?_
        clear h80
        refine nd_done ?_
        refine hK82 _ _ ?_
        clear hK82
        refine wp_ret ?_
        try simp only [Exit.then, Exit.inBlock]
        try rw [if_pos trivial]
        exact s_ret tabOk tabZ_ok h84 [(.tmp 4, {})] (vs := [.int .u8 fk60]) (φ := True) rfl (by kernel_rfl) trivial (by rw [show controlP S C ev = (S, fk60) from (by unfold controlP; (try dsimp only); rw [hfd16]; (try dsimp only); (first | rw [if_neg hc36f] | rw [if_neg (fun hz => hz hc36f)]); (first | rw [if_pos hc54f] | rw [if_pos (fun hz => hz hc54f)]); rw [hfd61]; (try dsimp only); (first | rw [if_pos hc81f] | rw [if_pos (fun hz => hz hc81f)]))]; exact ⟨rfl, h84.kn (k := 0) rfl, h84.frame⟩)
      ·
        have hc81f : fk60 = 0 := by simpa using hc81
        obtain ⟨fi85, fj85, hfi85, hfj85, hfp85, hfs85, hfcap85, hft85, hfz85, hfo85⟩ := find_fact rS hC hcur he.node.1 hfd61 hc81f
        have hxfi85 := find_idx hfo85 (by rw [hft85]; decide)
        refine wp_skip ?_
        refine hK77 _ _ ?_
        clear hK77
        refine nd_start (l := [0, 1, 2, 3, 4, 5, 6]) rfl ?_
        refine nd_batch tabOk tabZ_ok [(0, {}), (1, {}), (2, {k := 3}), (3, {}), (4, {}), (5, {})] [10, 5, 3, 0, 1, 4, 7, 8, 9, 34, 12, 50, 53] (T' := [(10, .pointer (some ⟨b67, 0, none⟩)), (5, .pointer (some ⟨b22, 0, none⟩)), (3, .pointer (some ⟨b2, 0, none⟩)), (0, .pointer (some ⟨kb, 0, none⟩)), (1, .agg #[.int .u8 ev.kind, .int .u32 ev.pick, .int .u64 ev.draw, .int .u32 ev.addr, .int .u32 ev.node, .int .u32 ev.dst, .int .u32 ev.xfer, .int .u8 ev.ty, .int .u64 ev.arg, .int .u64 ev.badge, .slice xo ev.ws.length cx]), (4, .int .u8 0), (7, .int .u8 fk15), (8, .int .i16 fc13.obj.idx), (9, .pointer (some ⟨kb, 2 + (fc13.obj.idx.toNat * 21), none⟩)), (34, .int .u8 ev.kind), (12, .int .u8 fk60), (50, .agg #[.int .u16 fc58.obj.idx, .int .u32 fc58.obj.gen]), (53, .pointer (some ⟨kb, 2 + (fc13.obj.idx.toNat * 21) + 4, none⟩))]) (φ := (b67 = b67 ∧ Nat.ble (1 + 2) 5 = true) ∧ True) (rest := [6]) h80 (by kernel_rfl) rfl ⟨⟨rfl, rfl⟩, trivial⟩ fun a86 h87 => ?_
        clear h80
        refine nd_op ?_
        refine op_store tabOk {k := 0, m := 1, vs := kC bo bc (S.setT fc13.obj.idx.toNat { S.tcb fc13.obj.idx.toNat with cs := ⟨fc58.obj.idx, fc58.obj.gen⟩ })} (L' := [(kb, ⟨kC bo bc (S.setT fc13.obj.idx.toNat { S.tcb fc13.obj.idx.toNat with cs := ⟨fc58.obj.idx, fc58.obj.gen⟩ }), 90, false⟩), (b2, ⟨[.int .u8 ev.kind, .int .u32 ev.pick, .int .u64 ev.draw, .int .u32 ev.addr, .int .u32 ev.node, .int .u32 ev.dst, .int .u32 ev.xfer, .int .u8 ev.ty, .int .u64 ev.arg, .int .u64 ev.badge, .slice xo ev.ws.length cx], 35, false⟩), (b22, ⟨[.int .u8 fc13.ty, .int .u16 fc13.obj.idx, .int .u32 fc13.obj.gen, .int .u8 fc13.rights, .int .u64 fc13.badge], 49, false⟩), (b67, ⟨[.int .u8 fc58.ty, .int .u16 fc58.obj.idx, .int .u32 fc58.obj.gen, .int .u8 fc58.rights, .int .u64 fc58.badge], 49, false⟩)]) (φ := kb = kb ∧ Nat.ble (2 + (fc13.obj.idx.toNat * 21) + 4 + 2) (kC bo bc S).length = true ∧ splice (kC bo bc S) (2 + (fc13.obj.idx.toNat * 21) + 4) [.int .u16 fc58.obj.idx, .int .u32 fc58.obj.gen] = kC bo bc (S.setT fc13.obj.idx.toNat { S.tcb fc13.obj.idx.toNat with cs := ⟨fc58.obj.idx, fc58.obj.gen⟩ })) h87 rfl rfl rfl (by kernel_rfl) ⟨rfl, k_in (by omega), (k_tcb_w (i := fc13.obj.idx.toNat) (k := 4) (by omega) (Nat.le_of_ble_eq_true rfl) (by omega) rfl)⟩ fun w89 h90 => ?_
        obtain ⟨S88, eS88⟩ : ∃ S9, S9 = (S.setT fc13.obj.idx.toNat { S.tcb fc13.obj.idx.toNat with cs := ⟨fc58.obj.idx, fc58.obj.gen⟩ }) := ⟨_, rfl⟩
        rw [← eS88] at h90
        have rS88 : RI S88 := by rw [eS88]; exact rS.setT ⟨(rS.t (i := fc13.obj.idx.toNat) (by omega)).nx, (rS.t (i := fc13.obj.idx.toNat) (by omega)).pv, (rS.t (i := fc13.obj.idx.toNat) (by omega)).pr, (rS.t (i := fc13.obj.idx.toNat) (by omega)).wi, hxfi85, (rS.t (i := fc13.obj.idx.toNat) (by omega)).ri, (rS.t (i := fc13.obj.idx.toNat) (by omega)).ds⟩
        clear h87
        refine nd_done ?_
        refine hK47 _ _ ?_
        clear hK47
        refine wp_seq_k fun K91 hK91 => ?_
        refine nd_start (l := [0]) rfl ?_
        refine nd_batch tabOk tabZ_ok [(0, {})] [10, 5, 3, 0, 1, 7, 8, 9, 34, 12, 4] (T' := [(10, .pointer (some ⟨b67, 0, none⟩)), (5, .pointer (some ⟨b22, 0, none⟩)), (3, .pointer (some ⟨b2, 0, none⟩)), (0, .pointer (some ⟨kb, 0, none⟩)), (1, .agg #[.int .u8 ev.kind, .int .u32 ev.pick, .int .u64 ev.draw, .int .u32 ev.addr, .int .u32 ev.node, .int .u32 ev.dst, .int .u32 ev.xfer, .int .u8 ev.ty, .int .u64 ev.arg, .int .u64 ev.badge, .slice xo ev.ws.length cx]), (7, .int .u8 fk15), (8, .int .i16 fc13.obj.idx), (9, .pointer (some ⟨kb, 2 + (fc13.obj.idx.toNat * 21), none⟩)), (34, .int .u8 ev.kind), (12, .int .u8 fk60), (4, .int .u8 0)]) (φ := True) (rest := []) h90 (by kernel_rfl) rfl trivial fun a92 h93 => ?_
        clear h90
        refine nd_done ?_
        refine hK91 _ _ ?_
        clear hK91
        refine wp_ret ?_
        try simp only [Exit.then, Exit.inBlock]
        try rw [if_pos trivial]
        exact s_ret tabOk tabZ_ok h93 [(.tmp 4, {})] (vs := [.int .u8 0]) (φ := True) rfl (by kernel_rfl) trivial (by rw [show controlP S C ev = (S88, 0) from (by unfold controlP; (try dsimp only); rw [hfd16]; (try dsimp only); (first | rw [if_neg hc36f] | rw [if_neg (fun hz => hz hc36f)]); (first | rw [if_pos hc54f] | rw [if_pos (fun hz => hz hc54f)]); rw [hfd61]; (try dsimp only); (first | rw [if_neg hc81f] | rw [if_neg (fun hz => hz hc81f)]); rw [← eS88])]; exact ⟨rfl, h93.kn (k := 0) rfl, h93.frame⟩)
    ·
      have hc54f : ev.kind ≠ 14 := by simpa using hc54
      refine wp_seq_k fun K94 hK94 => ?_
      refine nd_start (l := [0, 1]) rfl ?_
      refine nd_batch tabOk tabZ_ok [(0, {}), (1, {})] [5, 3, 0, 1, 4, 7, 8, 9, 34, 54] (T' := [(5, .pointer (some ⟨b22, 0, none⟩)), (3, .pointer (some ⟨b2, 0, none⟩)), (0, .pointer (some ⟨kb, 0, none⟩)), (1, .agg #[.int .u8 ev.kind, .int .u32 ev.pick, .int .u64 ev.draw, .int .u32 ev.addr, .int .u32 ev.node, .int .u32 ev.dst, .int .u32 ev.xfer, .int .u8 ev.ty, .int .u64 ev.arg, .int .u64 ev.badge, .slice xo ev.ws.length cx]), (4, .int .u8 0), (7, .int .u8 fk15), (8, .int .i16 fc13.obj.idx), (9, .pointer (some ⟨kb, 2 + (fc13.obj.idx.toNat * 21), none⟩)), (34, .int .u8 ev.kind), (54, .bool (ev.kind == 15))]) (φ := True) (rest := []) h53 (by kernel_rfl) rfl trivial fun a95 h96 => ?_
      clear h53
      refine nd_done ?_
      refine hK94 _ _ ?_
      clear hK94
      refine c_split h96 (b := (ev.kind == 15)) rfl (fun hc97 => ?_) (fun hc97 => ?_)
      ·
        have hc97f : ev.kind = 15 := by simpa using hc97
        refine wp_seq_k fun K98 hK98 => ?_
        refine wp_seq_k fun K99 hK99 => ?_
        refine nd_start (l := [0, 1, 2]) rfl ?_
        refine nd_batch tabOk tabZ_ok [(0, {}), (1, {k := 1}), (2, {})] [5, 3, 0, 1, 4, 7, 8, 9, 34, 58] (T' := [(5, .pointer (some ⟨b22, 0, none⟩)), (3, .pointer (some ⟨b2, 0, none⟩)), (0, .pointer (some ⟨kb, 0, none⟩)), (1, .agg #[.int .u8 ev.kind, .int .u32 ev.pick, .int .u64 ev.draw, .int .u32 ev.addr, .int .u32 ev.node, .int .u32 ev.dst, .int .u32 ev.xfer, .int .u8 ev.ty, .int .u64 ev.arg, .int .u64 ev.badge, .slice xo ev.ws.length cx]), (4, .int .u8 0), (7, .int .u8 fk15), (8, .int .i16 fc13.obj.idx), (9, .pointer (some ⟨kb, 2 + (fc13.obj.idx.toNat * 21), none⟩)), (34, .int .u8 ev.kind), (58, .bool (decide (ev.arg ≥ 8)))]) (φ := (b2 = b2 ∧ Nat.ble (8 + 1) 11 = true) ∧ True) (rest := []) h96 (by kernel_rfl) rfl ⟨⟨rfl, rfl⟩, trivial⟩ fun a100 h101 => ?_
        clear h96
        refine nd_done ?_
        refine hK99 _ _ ?_
        clear hK99
        refine c_split h101 (b := decide (ev.arg ≥ 8)) rfl (fun hc102 => ?_) (fun hc102 => ?_)
        ·
          have hc102f : ev.arg ≥ 8 := by simpa using hc102
          refine wp_seq_k fun K103 hK103 => ?_
          refine nd_start (l := [0]) rfl ?_
          refine nd_batch tabOk tabZ_ok [(0, {})] [5, 3, 0, 1, 7, 8, 9, 34, 4] (T' := [(5, .pointer (some ⟨b22, 0, none⟩)), (3, .pointer (some ⟨b2, 0, none⟩)), (0, .pointer (some ⟨kb, 0, none⟩)), (1, .agg #[.int .u8 ev.kind, .int .u32 ev.pick, .int .u64 ev.draw, .int .u32 ev.addr, .int .u32 ev.node, .int .u32 ev.dst, .int .u32 ev.xfer, .int .u8 ev.ty, .int .u64 ev.arg, .int .u64 ev.badge, .slice xo ev.ws.length cx]), (7, .int .u8 fk15), (8, .int .i16 fc13.obj.idx), (9, .pointer (some ⟨kb, 2 + (fc13.obj.idx.toNat * 21), none⟩)), (34, .int .u8 ev.kind), (4, .int .u8 8)]) (φ := True) (rest := []) h101 (by kernel_rfl) rfl trivial fun a104 h105 => ?_
          clear h101
          refine nd_done ?_
          refine hK103 _ _ ?_
          clear hK103
          refine wp_ret ?_
          try simp only [Exit.then, Exit.inBlock]
          try rw [if_pos trivial]
          exact s_ret tabOk tabZ_ok h105 [(.tmp 4, {})] (vs := [.int .u8 8]) (φ := True) rfl (by kernel_rfl) trivial (by rw [show controlP S C ev = (S, 8) from (by unfold controlP; (try dsimp only); rw [hfd16]; (try dsimp only); (first | rw [if_neg hc36f] | rw [if_neg (fun hz => hz hc36f)]); (first | rw [if_neg hc54f] | rw [if_neg (fun hz => hz hc54f)]); (first | rw [if_pos hc97f] | rw [if_pos (fun hz => hz hc97f)]); (first | rw [if_pos hc102f] | rw [if_pos (fun hz => hz hc102f)]))]; exact ⟨rfl, h105.kn (k := 0) rfl, h105.frame⟩)
        ·
          have hc102f : ¬ ev.arg ≥ 8 := by simpa using hc102
          refine wp_skip ?_
          refine hK98 _ _ ?_
          clear hK98
          refine wp_seq_k fun K106 hK106 => ?_
          refine wp_seq_k fun K107 hK107 => ?_
          refine nd_start (l := [0, 1, 2, 3, 4, 5]) rfl ?_
          refine nd_batch tabOk tabZ_ok [(0, {}), (1, {}), (2, {}), (3, {}), (4, {k := 0, m := 1, vs := [.int .u8 ((S.tcb fc13.obj.idx.toNat).st)]}), (5, {})] [5, 3, 0, 1, 4, 7, 8, 9, 34, 64] (T' := [(5, .pointer (some ⟨b22, 0, none⟩)), (3, .pointer (some ⟨b2, 0, none⟩)), (0, .pointer (some ⟨kb, 0, none⟩)), (1, .agg #[.int .u8 ev.kind, .int .u32 ev.pick, .int .u64 ev.draw, .int .u32 ev.addr, .int .u32 ev.node, .int .u32 ev.dst, .int .u32 ev.xfer, .int .u8 ev.ty, .int .u64 ev.arg, .int .u64 ev.badge, .slice xo ev.ws.length cx]), (4, .int .u8 0), (7, .int .u8 fk15), (8, .int .i16 fc13.obj.idx), (9, .pointer (some ⟨kb, 2 + (fc13.obj.idx.toNat * 21), none⟩)), (34, .int .u8 ev.kind), (64, .bool ((S.tcb fc13.obj.idx.toNat).st != 1))]) (φ := (kb = kb ∧ cellsAre (kC bo bc S) (2 + (fc13.obj.idx.toNat * 21)) [.int .u8 ((S.tcb fc13.obj.idx.toNat).st)]) ∧ True) (rest := []) h101 (by kernel_rfl) rfl ⟨⟨rfl, (k_tcb (i := fc13.obj.idx.toNat) (k := 0) (by omega) (by omega) ⟨rfl, trivial⟩)⟩, trivial⟩ fun a108 h109 => ?_
          clear h101
          refine nd_done ?_
          refine hK107 _ _ ?_
          clear hK107
          refine c_split h109 (b := ((S.tcb fc13.obj.idx.toNat).st != 1)) rfl (fun hc110 => ?_) (fun hc110 => ?_)
          ·
            have hc110f : (S.tcb fc13.obj.idx.toNat).st ≠ 1 := by simpa using hc110
            refine wp_seq_k fun K111 hK111 => ?_
            refine nd_start (l := [0, 1, 2, 3, 4, 5, 6, 7]) rfl ?_
            refine nd_batch tabOk tabZ_ok [(0, {}), (1, {}), (2, {k := 1}), (3, {}), (4, {}), (5, {}), (6, {})] [5, 3, 0, 1, 4, 7, 8, 9, 34, 68, 71] (T' := [(5, .pointer (some ⟨b22, 0, none⟩)), (3, .pointer (some ⟨b2, 0, none⟩)), (0, .pointer (some ⟨kb, 0, none⟩)), (1, .agg #[.int .u8 ev.kind, .int .u32 ev.pick, .int .u64 ev.draw, .int .u32 ev.addr, .int .u32 ev.node, .int .u32 ev.dst, .int .u32 ev.xfer, .int .u8 ev.ty, .int .u64 ev.arg, .int .u64 ev.badge, .slice xo ev.ws.length cx]), (4, .int .u8 0), (7, .int .u8 fk15), (8, .int .i16 fc13.obj.idx), (9, .pointer (some ⟨kb, 2 + (fc13.obj.idx.toNat * 21), none⟩)), (34, .int .u8 ev.kind), (68, .int .u8 ev.arg), (71, .pointer (some ⟨kb, 2 + (fc13.obj.idx.toNat * 21) + 1, none⟩))]) (φ := (b2 = b2 ∧ Nat.ble (8 + 1) 11 = true) ∧ inR .u8 ev.arg ∧ True) (rest := [7]) h109 (by kernel_rfl) rfl ⟨⟨rfl, rfl⟩, ⟨by omega, by omega⟩, trivial⟩ fun a112 h113 => ?_
            clear h109
            refine nd_op ?_
            refine op_store tabOk {k := 0, m := 1, vs := kC bo bc (S.setT fc13.obj.idx.toNat { S.tcb fc13.obj.idx.toNat with prio := ev.arg })} (L' := [(kb, ⟨kC bo bc (S.setT fc13.obj.idx.toNat { S.tcb fc13.obj.idx.toNat with prio := ev.arg }), 90, false⟩), (b2, ⟨[.int .u8 ev.kind, .int .u32 ev.pick, .int .u64 ev.draw, .int .u32 ev.addr, .int .u32 ev.node, .int .u32 ev.dst, .int .u32 ev.xfer, .int .u8 ev.ty, .int .u64 ev.arg, .int .u64 ev.badge, .slice xo ev.ws.length cx], 35, false⟩), (b22, ⟨[.int .u8 fc13.ty, .int .u16 fc13.obj.idx, .int .u32 fc13.obj.gen, .int .u8 fc13.rights, .int .u64 fc13.badge], 49, false⟩)]) (φ := kb = kb ∧ Nat.ble (2 + (fc13.obj.idx.toNat * 21) + 1 + 1) (kC bo bc S).length = true ∧ splice (kC bo bc S) (2 + (fc13.obj.idx.toNat * 21) + 1) [.int .u8 ev.arg] = kC bo bc (S.setT fc13.obj.idx.toNat { S.tcb fc13.obj.idx.toNat with prio := ev.arg })) h113 rfl rfl rfl (by kernel_rfl) ⟨rfl, k_in (by omega), (k_tcb_w (i := fc13.obj.idx.toNat) (k := 1) (by omega) (Nat.le_of_ble_eq_true rfl) (by omega) rfl)⟩ fun w115 h116 => ?_
            obtain ⟨S114, eS114⟩ : ∃ S9, S9 = (S.setT fc13.obj.idx.toNat { S.tcb fc13.obj.idx.toNat with prio := ev.arg }) := ⟨_, rfl⟩
            rw [← eS114] at h116
            have rS114 : RI S114 := by rw [eS114]; exact rS.setT ⟨(rS.t (i := fc13.obj.idx.toNat) (by omega)).nx, (rS.t (i := fc13.obj.idx.toNat) (by omega)).pv, (show 0 ≤ ev.arg ∧ ev.arg < 8 by omega), (rS.t (i := fc13.obj.idx.toNat) (by omega)).wi, (rS.t (i := fc13.obj.idx.toNat) (by omega)).ci, (rS.t (i := fc13.obj.idx.toNat) (by omega)).ri, (rS.t (i := fc13.obj.idx.toNat) (by omega)).ds⟩
            clear h113
            refine nd_done ?_
            refine hK111 _ _ ?_
            clear hK111
            refine wp_exit ?_
            refine hK47 _ _ ?_
            clear hK47
            refine wp_seq_k fun K117 hK117 => ?_
            refine nd_start (l := [0]) rfl ?_
            refine nd_batch tabOk tabZ_ok [(0, {})] [5, 3, 0, 1, 7, 8, 9, 34, 4] (T' := [(5, .pointer (some ⟨b22, 0, none⟩)), (3, .pointer (some ⟨b2, 0, none⟩)), (0, .pointer (some ⟨kb, 0, none⟩)), (1, .agg #[.int .u8 ev.kind, .int .u32 ev.pick, .int .u64 ev.draw, .int .u32 ev.addr, .int .u32 ev.node, .int .u32 ev.dst, .int .u32 ev.xfer, .int .u8 ev.ty, .int .u64 ev.arg, .int .u64 ev.badge, .slice xo ev.ws.length cx]), (7, .int .u8 fk15), (8, .int .i16 fc13.obj.idx), (9, .pointer (some ⟨kb, 2 + (fc13.obj.idx.toNat * 21), none⟩)), (34, .int .u8 ev.kind), (4, .int .u8 0)]) (φ := True) (rest := []) h116 (by kernel_rfl) rfl trivial fun a118 h119 => ?_
            clear h116
            refine nd_done ?_
            refine hK117 _ _ ?_
            clear hK117
            refine wp_ret ?_
            try simp only [Exit.then, Exit.inBlock]
            try rw [if_pos trivial]
            exact s_ret tabOk tabZ_ok h119 [(.tmp 4, {})] (vs := [.int .u8 0]) (φ := True) rfl (by kernel_rfl) trivial (by rw [show controlP S C ev = (S114, 0) from (by unfold controlP; (try dsimp only); rw [hfd16]; (try dsimp only); (first | rw [if_neg hc36f] | rw [if_neg (fun hz => hz hc36f)]); (first | rw [if_neg hc54f] | rw [if_neg (fun hz => hz hc54f)]); (first | rw [if_pos hc97f] | rw [if_pos (fun hz => hz hc97f)]); (first | rw [if_neg hc102f] | rw [if_neg (fun hz => hz hc102f)]); (first | rw [if_pos hc110f] | rw [if_pos (fun hz => hz hc110f)]); rw [← eS114])]; exact ⟨rfl, h119.kn (k := 0) rfl, h119.frame⟩)
          ·
            have hc110f : (S.tcb fc13.obj.idx.toNat).st = 1 := by simpa using hc110
            refine wp_skip ?_
            refine hK106 _ _ ?_
            clear hK106
            refine wp_seq_k fun K120 hK120 => ?_
            refine nd_start (l := [0, 1, 2]) rfl ?_
            refine nd_batch tabOk tabZ_ok [(0, {}), (1, {})] [5, 3, 0, 1, 4, 7, 8, 9, 34, 72, 73] (T' := [(5, .pointer (some ⟨b22, 0, none⟩)), (3, .pointer (some ⟨b2, 0, none⟩)), (0, .pointer (some ⟨kb, 0, none⟩)), (1, .agg #[.int .u8 ev.kind, .int .u32 ev.pick, .int .u64 ev.draw, .int .u32 ev.addr, .int .u32 ev.node, .int .u32 ev.dst, .int .u32 ev.xfer, .int .u8 ev.ty, .int .u64 ev.arg, .int .u64 ev.badge, .slice xo ev.ws.length cx]), (4, .int .u8 0), (7, .int .u8 fk15), (8, .int .i16 fc13.obj.idx), (9, .pointer (some ⟨kb, 2 + (fc13.obj.idx.toNat * 21), none⟩)), (34, .int .u8 ev.kind), (72, .pointer (some ⟨kb, 0, none⟩)), (73, .int .i16 fc13.obj.idx)]) (φ := True) (rest := [2]) h109 (by kernel_rfl) rfl trivial fun a121 h122 => ?_
            clear h109
            refine nd_op ?_
            refine op_call h122 rfl rfl rfl (callOk Tryd.func72 (by decide) rfl) (args := [.pointer (some ⟨kb, 0, none⟩), .int .i16 fc13.obj.idx]) rfl (leave_ok kb bo bc S rS fc13.obj.idx hxfi40 _ (h122.kn (k := 0) rfl)) ?_
            rintro _ w126 ⟨rfl, hb124, hf125⟩
            refine ⟨_, rfl, ?_⟩
            obtain ⟨S123, eS123⟩ : ∃ S9, S9 = leaveP S fc13.obj.idx := ⟨_, rfl⟩
            rw [← eS123] at hb124
            have rS123 : RI S123 := by rw [eS123]; exact leave_RI rS hxfi40
            have h127 := (h122.setBlk (k := 0) rfl rfl hf125 hb124 (L' := [(kb, ⟨kC bo bc S123, 90, false⟩), (b2, ⟨[.int .u8 ev.kind, .int .u32 ev.pick, .int .u64 ev.draw, .int .u32 ev.addr, .int .u32 ev.node, .int .u32 ev.dst, .int .u32 ev.xfer, .int .u8 ev.ty, .int .u64 ev.arg, .int .u64 ev.badge, .slice xo ev.ws.length cx], 35, false⟩), (b22, ⟨[.int .u8 fc13.ty, .int .u16 fc13.obj.idx, .int .u32 fc13.obj.gen, .int .u8 fc13.rights, .int .u64 fc13.badge], 49, false⟩)]) rfl).put (d := some 74) (v := .tuple #[]) (T' := [(74, .tuple #[]), (5, .pointer (some ⟨b22, 0, none⟩)), (3, .pointer (some ⟨b2, 0, none⟩)), (0, .pointer (some ⟨kb, 0, none⟩)), (1, .agg #[.int .u8 ev.kind, .int .u32 ev.pick, .int .u64 ev.draw, .int .u32 ev.addr, .int .u32 ev.node, .int .u32 ev.dst, .int .u32 ev.xfer, .int .u8 ev.ty, .int .u64 ev.arg, .int .u64 ev.badge, .slice xo ev.ws.length cx]), (4, .int .u8 0), (7, .int .u8 fk15), (8, .int .i16 fc13.obj.idx), (9, .pointer (some ⟨kb, 2 + (fc13.obj.idx.toNat * 21), none⟩)), (34, .int .u8 ev.kind), (72, .pointer (some ⟨kb, 0, none⟩)), (73, .int .i16 fc13.obj.idx)]) rfl
            clear h122
            refine nd_done ?_
            refine hK120 _ _ ?_
            clear hK120
            refine wp_seq_k fun K128 hK128 => ?_
            refine nd_start (l := [0, 1, 2, 3, 4, 5, 6, 7]) rfl ?_
            refine nd_batch tabOk tabZ_ok [(0, {}), (1, {}), (2, {k := 1}), (3, {}), (4, {}), (5, {}), (6, {})] [5, 3, 0, 1, 4, 7, 8, 9, 34, 78, 81] (T' := [(5, .pointer (some ⟨b22, 0, none⟩)), (3, .pointer (some ⟨b2, 0, none⟩)), (0, .pointer (some ⟨kb, 0, none⟩)), (1, .agg #[.int .u8 ev.kind, .int .u32 ev.pick, .int .u64 ev.draw, .int .u32 ev.addr, .int .u32 ev.node, .int .u32 ev.dst, .int .u32 ev.xfer, .int .u8 ev.ty, .int .u64 ev.arg, .int .u64 ev.badge, .slice xo ev.ws.length cx]), (4, .int .u8 0), (7, .int .u8 fk15), (8, .int .i16 fc13.obj.idx), (9, .pointer (some ⟨kb, 2 + (fc13.obj.idx.toNat * 21), none⟩)), (34, .int .u8 ev.kind), (78, .int .u8 ev.arg), (81, .pointer (some ⟨kb, 2 + (fc13.obj.idx.toNat * 21) + 1, none⟩))]) (φ := (b2 = b2 ∧ Nat.ble (8 + 1) 11 = true) ∧ inR .u8 ev.arg ∧ True) (rest := [7]) h127 (by kernel_rfl) rfl ⟨⟨rfl, rfl⟩, ⟨by omega, by omega⟩, trivial⟩ fun a129 h130 => ?_
            clear h127
            refine nd_op ?_
            refine op_store tabOk {k := 0, m := 1, vs := kC bo bc (S123.setT fc13.obj.idx.toNat { S123.tcb fc13.obj.idx.toNat with prio := ev.arg })} (L' := [(kb, ⟨kC bo bc (S123.setT fc13.obj.idx.toNat { S123.tcb fc13.obj.idx.toNat with prio := ev.arg }), 90, false⟩), (b2, ⟨[.int .u8 ev.kind, .int .u32 ev.pick, .int .u64 ev.draw, .int .u32 ev.addr, .int .u32 ev.node, .int .u32 ev.dst, .int .u32 ev.xfer, .int .u8 ev.ty, .int .u64 ev.arg, .int .u64 ev.badge, .slice xo ev.ws.length cx], 35, false⟩), (b22, ⟨[.int .u8 fc13.ty, .int .u16 fc13.obj.idx, .int .u32 fc13.obj.gen, .int .u8 fc13.rights, .int .u64 fc13.badge], 49, false⟩)]) (φ := kb = kb ∧ Nat.ble (2 + (fc13.obj.idx.toNat * 21) + 1 + 1) (kC bo bc S123).length = true ∧ splice (kC bo bc S123) (2 + (fc13.obj.idx.toNat * 21) + 1) [.int .u8 ev.arg] = kC bo bc (S123.setT fc13.obj.idx.toNat { S123.tcb fc13.obj.idx.toNat with prio := ev.arg })) h130 rfl rfl rfl (by kernel_rfl) ⟨rfl, k_in (by omega), (k_tcb_w (i := fc13.obj.idx.toNat) (k := 1) (by omega) (Nat.le_of_ble_eq_true rfl) (by omega) rfl)⟩ fun w132 h133 => ?_
            obtain ⟨S131, eS131⟩ : ∃ S9, S9 = (S123.setT fc13.obj.idx.toNat { S123.tcb fc13.obj.idx.toNat with prio := ev.arg }) := ⟨_, rfl⟩
            rw [← eS131] at h133
            have rS131 : RI S131 := by rw [eS131]; exact rS123.setT ⟨(rS123.t (i := fc13.obj.idx.toNat) (by omega)).nx, (rS123.t (i := fc13.obj.idx.toNat) (by omega)).pv, (show 0 ≤ ev.arg ∧ ev.arg < 8 by omega), (rS123.t (i := fc13.obj.idx.toNat) (by omega)).wi, (rS123.t (i := fc13.obj.idx.toNat) (by omega)).ci, (rS123.t (i := fc13.obj.idx.toNat) (by omega)).ri, (rS123.t (i := fc13.obj.idx.toNat) (by omega)).ds⟩
            clear h130
            refine nd_done ?_
            refine hK128 _ _ ?_
            clear hK128
            refine nd_start (l := [0, 1, 2]) rfl ?_
            refine nd_batch tabOk tabZ_ok [(0, {}), (1, {})] [5, 3, 0, 1, 4, 7, 8, 9, 34, 82, 83] (T' := [(5, .pointer (some ⟨b22, 0, none⟩)), (3, .pointer (some ⟨b2, 0, none⟩)), (0, .pointer (some ⟨kb, 0, none⟩)), (1, .agg #[.int .u8 ev.kind, .int .u32 ev.pick, .int .u64 ev.draw, .int .u32 ev.addr, .int .u32 ev.node, .int .u32 ev.dst, .int .u32 ev.xfer, .int .u8 ev.ty, .int .u64 ev.arg, .int .u64 ev.badge, .slice xo ev.ws.length cx]), (4, .int .u8 0), (7, .int .u8 fk15), (8, .int .i16 fc13.obj.idx), (9, .pointer (some ⟨kb, 2 + (fc13.obj.idx.toNat * 21), none⟩)), (34, .int .u8 ev.kind), (82, .pointer (some ⟨kb, 0, none⟩)), (83, .int .i16 fc13.obj.idx)]) (φ := True) (rest := [2]) h133 (by kernel_rfl) rfl trivial fun a134 h135 => ?_
            clear h133
            refine nd_op ?_
            refine op_call h135 rfl rfl rfl (callOk Tryd.func47 (by decide) rfl) (args := [.pointer (some ⟨kb, 0, none⟩), .int .i16 fc13.obj.idx]) rfl (wake_ok kb bo bc S131 rS131 fc13.obj.idx hxfi40 _ (h135.kn (k := 0) rfl)) ?_
            rintro _ w139 ⟨rfl, hb137, hf138⟩
            refine ⟨_, rfl, ?_⟩
            obtain ⟨S136, eS136⟩ : ∃ S9, S9 = wakeP S131 fc13.obj.idx := ⟨_, rfl⟩
            rw [← eS136] at hb137
            have rS136 : RI S136 := by rw [eS136]; exact wake_RI rS131 hxfi40
            have h140 := (h135.setBlk (k := 0) rfl rfl hf138 hb137 (L' := [(kb, ⟨kC bo bc S136, 90, false⟩), (b2, ⟨[.int .u8 ev.kind, .int .u32 ev.pick, .int .u64 ev.draw, .int .u32 ev.addr, .int .u32 ev.node, .int .u32 ev.dst, .int .u32 ev.xfer, .int .u8 ev.ty, .int .u64 ev.arg, .int .u64 ev.badge, .slice xo ev.ws.length cx], 35, false⟩), (b22, ⟨[.int .u8 fc13.ty, .int .u16 fc13.obj.idx, .int .u32 fc13.obj.gen, .int .u8 fc13.rights, .int .u64 fc13.badge], 49, false⟩)]) rfl).put (d := some 84) (v := .tuple #[]) (T' := [(84, .tuple #[]), (5, .pointer (some ⟨b22, 0, none⟩)), (3, .pointer (some ⟨b2, 0, none⟩)), (0, .pointer (some ⟨kb, 0, none⟩)), (1, .agg #[.int .u8 ev.kind, .int .u32 ev.pick, .int .u64 ev.draw, .int .u32 ev.addr, .int .u32 ev.node, .int .u32 ev.dst, .int .u32 ev.xfer, .int .u8 ev.ty, .int .u64 ev.arg, .int .u64 ev.badge, .slice xo ev.ws.length cx]), (4, .int .u8 0), (7, .int .u8 fk15), (8, .int .i16 fc13.obj.idx), (9, .pointer (some ⟨kb, 2 + (fc13.obj.idx.toNat * 21), none⟩)), (34, .int .u8 ev.kind), (82, .pointer (some ⟨kb, 0, none⟩)), (83, .int .i16 fc13.obj.idx)]) rfl
            clear h135
            refine nd_done ?_
            refine hK47 _ _ ?_
            clear hK47
            refine wp_seq_k fun K141 hK141 => ?_
            refine nd_start (l := [0]) rfl ?_
            refine nd_batch tabOk tabZ_ok [(0, {})] [5, 3, 0, 1, 7, 8, 9, 34, 4] (T' := [(5, .pointer (some ⟨b22, 0, none⟩)), (3, .pointer (some ⟨b2, 0, none⟩)), (0, .pointer (some ⟨kb, 0, none⟩)), (1, .agg #[.int .u8 ev.kind, .int .u32 ev.pick, .int .u64 ev.draw, .int .u32 ev.addr, .int .u32 ev.node, .int .u32 ev.dst, .int .u32 ev.xfer, .int .u8 ev.ty, .int .u64 ev.arg, .int .u64 ev.badge, .slice xo ev.ws.length cx]), (7, .int .u8 fk15), (8, .int .i16 fc13.obj.idx), (9, .pointer (some ⟨kb, 2 + (fc13.obj.idx.toNat * 21), none⟩)), (34, .int .u8 ev.kind), (4, .int .u8 0)]) (φ := True) (rest := []) h140 (by kernel_rfl) rfl trivial fun a142 h143 => ?_
            clear h140
            refine nd_done ?_
            refine hK141 _ _ ?_
            clear hK141
            refine wp_ret ?_
            try simp only [Exit.then, Exit.inBlock]
            try rw [if_pos trivial]
            exact s_ret tabOk tabZ_ok h143 [(.tmp 4, {})] (vs := [.int .u8 0]) (φ := True) rfl (by kernel_rfl) trivial (by rw [show controlP S C ev = (S136, 0) from (by unfold controlP; (try dsimp only); rw [hfd16]; (try dsimp only); (first | rw [if_neg hc36f] | rw [if_neg (fun hz => hz hc36f)]); (first | rw [if_neg hc54f] | rw [if_neg (fun hz => hz hc54f)]); (first | rw [if_pos hc97f] | rw [if_pos (fun hz => hz hc97f)]); (first | rw [if_neg hc102f] | rw [if_neg (fun hz => hz hc102f)]); (first | rw [if_neg hc110f] | rw [if_neg (fun hz => hz hc110f)]); rw [← eS123]; rw [← eS131]; rw [← eS136])]; exact ⟨rfl, h143.kn (k := 0) rfl, h143.frame⟩)
      ·
        have hc97f : ev.kind ≠ 15 := by simpa using hc97
        refine wp_seq_k fun K144 hK144 => ?_
        refine nd_start (l := [0, 1]) rfl ?_
        refine nd_batch tabOk tabZ_ok [(0, {}), (1, {})] [5, 3, 0, 1, 4, 7, 8, 9, 34, 85] (T' := [(5, .pointer (some ⟨b22, 0, none⟩)), (3, .pointer (some ⟨b2, 0, none⟩)), (0, .pointer (some ⟨kb, 0, none⟩)), (1, .agg #[.int .u8 ev.kind, .int .u32 ev.pick, .int .u64 ev.draw, .int .u32 ev.addr, .int .u32 ev.node, .int .u32 ev.dst, .int .u32 ev.xfer, .int .u8 ev.ty, .int .u64 ev.arg, .int .u64 ev.badge, .slice xo ev.ws.length cx]), (4, .int .u8 0), (7, .int .u8 fk15), (8, .int .i16 fc13.obj.idx), (9, .pointer (some ⟨kb, 2 + (fc13.obj.idx.toNat * 21), none⟩)), (34, .int .u8 ev.kind), (85, .bool (ev.kind == 16))]) (φ := True) (rest := []) h96 (by kernel_rfl) rfl trivial fun a145 h146 => ?_
        clear h96
        refine nd_done ?_
        refine hK144 _ _ ?_
        clear hK144
        refine c_split h146 (b := (ev.kind == 16)) rfl (fun hc147 => ?_) (fun hc147 => ?_)
        ·
          have hc147f : ev.kind = 16 := by simpa using hc147
          refine wp_seq_k fun K148 hK148 => ?_
          refine wp_seq_k fun K149 hK149 => ?_
          refine nd_start (l := [0, 1, 2, 3, 4, 5]) rfl ?_
          refine nd_batch tabOk tabZ_ok [(0, {}), (1, {}), (2, {}), (3, {}), (4, {k := 0, m := 1, vs := [.int .u8 ((S.tcb fc13.obj.idx.toNat).st)]}), (5, {})] [5, 3, 0, 1, 4, 7, 8, 9, 34, 92] (T' := [(5, .pointer (some ⟨b22, 0, none⟩)), (3, .pointer (some ⟨b2, 0, none⟩)), (0, .pointer (some ⟨kb, 0, none⟩)), (1, .agg #[.int .u8 ev.kind, .int .u32 ev.pick, .int .u64 ev.draw, .int .u32 ev.addr, .int .u32 ev.node, .int .u32 ev.dst, .int .u32 ev.xfer, .int .u8 ev.ty, .int .u64 ev.arg, .int .u64 ev.badge, .slice xo ev.ws.length cx]), (4, .int .u8 0), (7, .int .u8 fk15), (8, .int .i16 fc13.obj.idx), (9, .pointer (some ⟨kb, 2 + (fc13.obj.idx.toNat * 21), none⟩)), (34, .int .u8 ev.kind), (92, .bool ((S.tcb fc13.obj.idx.toNat).st != 0))]) (φ := (kb = kb ∧ cellsAre (kC bo bc S) (2 + (fc13.obj.idx.toNat * 21)) [.int .u8 ((S.tcb fc13.obj.idx.toNat).st)]) ∧ True) (rest := []) h146 (by kernel_rfl) rfl ⟨⟨rfl, (k_tcb (i := fc13.obj.idx.toNat) (k := 0) (by omega) (by omega) ⟨rfl, trivial⟩)⟩, trivial⟩ fun a150 h151 => ?_
          clear h146
          refine nd_done ?_
          refine hK149 _ _ ?_
          clear hK149
          refine c_split h151 (b := ((S.tcb fc13.obj.idx.toNat).st != 0)) rfl (fun hc152 => ?_) (fun hc152 => ?_)
          ·
            have hc152f : (S.tcb fc13.obj.idx.toNat).st ≠ 0 := by simpa using hc152
            refine wp_seq_k fun K153 hK153 => ?_
            refine nd_start (l := [0]) rfl ?_
            refine nd_batch tabOk tabZ_ok [(0, {})] [5, 3, 0, 1, 7, 8, 9, 34, 4] (T' := [(5, .pointer (some ⟨b22, 0, none⟩)), (3, .pointer (some ⟨b2, 0, none⟩)), (0, .pointer (some ⟨kb, 0, none⟩)), (1, .agg #[.int .u8 ev.kind, .int .u32 ev.pick, .int .u64 ev.draw, .int .u32 ev.addr, .int .u32 ev.node, .int .u32 ev.dst, .int .u32 ev.xfer, .int .u8 ev.ty, .int .u64 ev.arg, .int .u64 ev.badge, .slice xo ev.ws.length cx]), (7, .int .u8 fk15), (8, .int .i16 fc13.obj.idx), (9, .pointer (some ⟨kb, 2 + (fc13.obj.idx.toNat * 21), none⟩)), (34, .int .u8 ev.kind), (4, .int .u8 11)]) (φ := True) (rest := []) h151 (by kernel_rfl) rfl trivial fun a154 h155 => ?_
            clear h151
            refine nd_done ?_
            refine hK153 _ _ ?_
            clear hK153
            refine wp_ret ?_
            try simp only [Exit.then, Exit.inBlock]
            try rw [if_pos trivial]
            exact s_ret tabOk tabZ_ok h155 [(.tmp 4, {})] (vs := [.int .u8 11]) (φ := True) rfl (by kernel_rfl) trivial (by rw [show controlP S C ev = (S, 11) from (by unfold controlP; (try dsimp only); rw [hfd16]; (try dsimp only); (first | rw [if_neg hc36f] | rw [if_neg (fun hz => hz hc36f)]); (first | rw [if_neg hc54f] | rw [if_neg (fun hz => hz hc54f)]); (first | rw [if_neg hc97f] | rw [if_neg (fun hz => hz hc97f)]); (first | rw [if_pos hc147f] | rw [if_pos (fun hz => hz hc147f)]); (first | rw [if_pos hc152f] | rw [if_pos (fun hz => hz hc152f)]))]; exact ⟨rfl, h155.kn (k := 0) rfl, h155.frame⟩)
          ·
            have hc152f : (S.tcb fc13.obj.idx.toNat).st = 0 := by simpa using hc152
            refine wp_skip ?_
            refine hK148 _ _ ?_
            clear hK148
            refine nd_start (l := [0, 1, 2]) rfl ?_
            refine nd_batch tabOk tabZ_ok [(0, {}), (1, {})] [5, 3, 0, 1, 4, 7, 8, 9, 34, 93, 94] (T' := [(5, .pointer (some ⟨b22, 0, none⟩)), (3, .pointer (some ⟨b2, 0, none⟩)), (0, .pointer (some ⟨kb, 0, none⟩)), (1, .agg #[.int .u8 ev.kind, .int .u32 ev.pick, .int .u64 ev.draw, .int .u32 ev.addr, .int .u32 ev.node, .int .u32 ev.dst, .int .u32 ev.xfer, .int .u8 ev.ty, .int .u64 ev.arg, .int .u64 ev.badge, .slice xo ev.ws.length cx]), (4, .int .u8 0), (7, .int .u8 fk15), (8, .int .i16 fc13.obj.idx), (9, .pointer (some ⟨kb, 2 + (fc13.obj.idx.toNat * 21), none⟩)), (34, .int .u8 ev.kind), (93, .pointer (some ⟨kb, 0, none⟩)), (94, .int .i16 fc13.obj.idx)]) (φ := True) (rest := [2]) h151 (by kernel_rfl) rfl trivial fun a156 h157 => ?_
            clear h151
            refine nd_op ?_
            refine op_call h157 rfl rfl rfl (callOk Tryd.func47 (by decide) rfl) (args := [.pointer (some ⟨kb, 0, none⟩), .int .i16 fc13.obj.idx]) rfl (wake_ok kb bo bc S rS fc13.obj.idx hxfi40 _ (h157.kn (k := 0) rfl)) ?_
            rintro _ w161 ⟨rfl, hb159, hf160⟩
            refine ⟨_, rfl, ?_⟩
            obtain ⟨S158, eS158⟩ : ∃ S9, S9 = wakeP S fc13.obj.idx := ⟨_, rfl⟩
            rw [← eS158] at hb159
            have rS158 : RI S158 := by rw [eS158]; exact wake_RI rS hxfi40
            have h162 := (h157.setBlk (k := 0) rfl rfl hf160 hb159 (L' := [(kb, ⟨kC bo bc S158, 90, false⟩), (b2, ⟨[.int .u8 ev.kind, .int .u32 ev.pick, .int .u64 ev.draw, .int .u32 ev.addr, .int .u32 ev.node, .int .u32 ev.dst, .int .u32 ev.xfer, .int .u8 ev.ty, .int .u64 ev.arg, .int .u64 ev.badge, .slice xo ev.ws.length cx], 35, false⟩), (b22, ⟨[.int .u8 fc13.ty, .int .u16 fc13.obj.idx, .int .u32 fc13.obj.gen, .int .u8 fc13.rights, .int .u64 fc13.badge], 49, false⟩)]) rfl).put (d := some 95) (v := .tuple #[]) (T' := [(95, .tuple #[]), (5, .pointer (some ⟨b22, 0, none⟩)), (3, .pointer (some ⟨b2, 0, none⟩)), (0, .pointer (some ⟨kb, 0, none⟩)), (1, .agg #[.int .u8 ev.kind, .int .u32 ev.pick, .int .u64 ev.draw, .int .u32 ev.addr, .int .u32 ev.node, .int .u32 ev.dst, .int .u32 ev.xfer, .int .u8 ev.ty, .int .u64 ev.arg, .int .u64 ev.badge, .slice xo ev.ws.length cx]), (4, .int .u8 0), (7, .int .u8 fk15), (8, .int .i16 fc13.obj.idx), (9, .pointer (some ⟨kb, 2 + (fc13.obj.idx.toNat * 21), none⟩)), (34, .int .u8 ev.kind), (93, .pointer (some ⟨kb, 0, none⟩)), (94, .int .i16 fc13.obj.idx)]) rfl
            clear h157
            refine nd_done ?_
            refine hK47 _ _ ?_
            clear hK47
            refine wp_seq_k fun K163 hK163 => ?_
            refine nd_start (l := [0]) rfl ?_
            refine nd_batch tabOk tabZ_ok [(0, {})] [5, 3, 0, 1, 7, 8, 9, 34, 4] (T' := [(5, .pointer (some ⟨b22, 0, none⟩)), (3, .pointer (some ⟨b2, 0, none⟩)), (0, .pointer (some ⟨kb, 0, none⟩)), (1, .agg #[.int .u8 ev.kind, .int .u32 ev.pick, .int .u64 ev.draw, .int .u32 ev.addr, .int .u32 ev.node, .int .u32 ev.dst, .int .u32 ev.xfer, .int .u8 ev.ty, .int .u64 ev.arg, .int .u64 ev.badge, .slice xo ev.ws.length cx]), (7, .int .u8 fk15), (8, .int .i16 fc13.obj.idx), (9, .pointer (some ⟨kb, 2 + (fc13.obj.idx.toNat * 21), none⟩)), (34, .int .u8 ev.kind), (4, .int .u8 0)]) (φ := True) (rest := []) h162 (by kernel_rfl) rfl trivial fun a164 h165 => ?_
            clear h162
            refine nd_done ?_
            refine hK163 _ _ ?_
            clear hK163
            refine wp_ret ?_
            try simp only [Exit.then, Exit.inBlock]
            try rw [if_pos trivial]
            exact s_ret tabOk tabZ_ok h165 [(.tmp 4, {})] (vs := [.int .u8 0]) (φ := True) rfl (by kernel_rfl) trivial (by rw [show controlP S C ev = (S158, 0) from (by unfold controlP; (try dsimp only); rw [hfd16]; (try dsimp only); (first | rw [if_neg hc36f] | rw [if_neg (fun hz => hz hc36f)]); (first | rw [if_neg hc54f] | rw [if_neg (fun hz => hz hc54f)]); (first | rw [if_neg hc97f] | rw [if_neg (fun hz => hz hc97f)]); (first | rw [if_pos hc147f] | rw [if_pos (fun hz => hz hc147f)]); (first | rw [if_neg hc152f] | rw [if_neg (fun hz => hz hc152f)]); rw [← eS158])]; exact ⟨rfl, h165.kn (k := 0) rfl, h165.frame⟩)
        ·
          have hc147f : ev.kind ≠ 16 := by simpa using hc147
          refine wp_seq_k fun K166 hK166 => ?_
          refine nd_start (l := [0, 1]) rfl ?_
          refine nd_batch tabOk tabZ_ok [(0, {}), (1, {})] [5, 3, 0, 1, 4, 7, 8, 9, 34, 96] (T' := [(5, .pointer (some ⟨b22, 0, none⟩)), (3, .pointer (some ⟨b2, 0, none⟩)), (0, .pointer (some ⟨kb, 0, none⟩)), (1, .agg #[.int .u8 ev.kind, .int .u32 ev.pick, .int .u64 ev.draw, .int .u32 ev.addr, .int .u32 ev.node, .int .u32 ev.dst, .int .u32 ev.xfer, .int .u8 ev.ty, .int .u64 ev.arg, .int .u64 ev.badge, .slice xo ev.ws.length cx]), (4, .int .u8 0), (7, .int .u8 fk15), (8, .int .i16 fc13.obj.idx), (9, .pointer (some ⟨kb, 2 + (fc13.obj.idx.toNat * 21), none⟩)), (34, .int .u8 ev.kind), (96, .bool (ev.kind == 17))]) (φ := True) (rest := []) h146 (by kernel_rfl) rfl trivial fun a167 h168 => ?_
          clear h146
          refine nd_done ?_
          refine hK166 _ _ ?_
          clear hK166
          refine c_split h168 (b := (ev.kind == 17)) rfl (fun hc169 => ?_) (fun hc169 => ?_)
          ·
            have hc169f : ev.kind = 17 := by simpa using hc169
            refine wp_seq_k fun K170 hK170 => ?_
            refine wp_seq_k fun K171 hK171 => ?_
            refine nd_start (l := [0, 1, 2, 3, 4, 5]) rfl ?_
            refine nd_batch tabOk tabZ_ok [(0, {}), (1, {}), (2, {}), (3, {}), (4, {k := 0, m := 1, vs := [.int .u8 ((S.tcb fc13.obj.idx.toNat).st)]}), (5, {})] [5, 3, 0, 1, 4, 7, 8, 9, 34, 103] (T' := [(5, .pointer (some ⟨b22, 0, none⟩)), (3, .pointer (some ⟨b2, 0, none⟩)), (0, .pointer (some ⟨kb, 0, none⟩)), (1, .agg #[.int .u8 ev.kind, .int .u32 ev.pick, .int .u64 ev.draw, .int .u32 ev.addr, .int .u32 ev.node, .int .u32 ev.dst, .int .u32 ev.xfer, .int .u8 ev.ty, .int .u64 ev.arg, .int .u64 ev.badge, .slice xo ev.ws.length cx]), (4, .int .u8 0), (7, .int .u8 fk15), (8, .int .i16 fc13.obj.idx), (9, .pointer (some ⟨kb, 2 + (fc13.obj.idx.toNat * 21), none⟩)), (34, .int .u8 ev.kind), (103, .bool ((S.tcb fc13.obj.idx.toNat).st == 0))]) (φ := (kb = kb ∧ cellsAre (kC bo bc S) (2 + (fc13.obj.idx.toNat * 21)) [.int .u8 ((S.tcb fc13.obj.idx.toNat).st)]) ∧ True) (rest := []) h168 (by kernel_rfl) rfl ⟨⟨rfl, (k_tcb (i := fc13.obj.idx.toNat) (k := 0) (by omega) (by omega) ⟨rfl, trivial⟩)⟩, trivial⟩ fun a172 h173 => ?_
            clear h168
            refine nd_done ?_
            refine hK171 _ _ ?_
            clear hK171
            refine c_split h173 (b := ((S.tcb fc13.obj.idx.toNat).st == 0)) rfl (fun hc174 => ?_) (fun hc174 => ?_)
            ·
              have hc174f : (S.tcb fc13.obj.idx.toNat).st = 0 := by simpa using hc174
              refine wp_seq_k fun K175 hK175 => ?_
              refine nd_start (l := [0]) rfl ?_
              refine nd_batch tabOk tabZ_ok [(0, {})] [5, 3, 0, 1, 7, 8, 9, 34, 4] (T' := [(5, .pointer (some ⟨b22, 0, none⟩)), (3, .pointer (some ⟨b2, 0, none⟩)), (0, .pointer (some ⟨kb, 0, none⟩)), (1, .agg #[.int .u8 ev.kind, .int .u32 ev.pick, .int .u64 ev.draw, .int .u32 ev.addr, .int .u32 ev.node, .int .u32 ev.dst, .int .u32 ev.xfer, .int .u8 ev.ty, .int .u64 ev.arg, .int .u64 ev.badge, .slice xo ev.ws.length cx]), (7, .int .u8 fk15), (8, .int .i16 fc13.obj.idx), (9, .pointer (some ⟨kb, 2 + (fc13.obj.idx.toNat * 21), none⟩)), (34, .int .u8 ev.kind), (4, .int .u8 11)]) (φ := True) (rest := []) h173 (by kernel_rfl) rfl trivial fun a176 h177 => ?_
              clear h173
              refine nd_done ?_
              refine hK175 _ _ ?_
              clear hK175
              refine wp_ret ?_
              try simp only [Exit.then, Exit.inBlock]
              try rw [if_pos trivial]
              exact s_ret tabOk tabZ_ok h177 [(.tmp 4, {})] (vs := [.int .u8 11]) (φ := True) rfl (by kernel_rfl) trivial (by rw [show controlP S C ev = (S, 11) from (by unfold controlP; (try dsimp only); rw [hfd16]; (try dsimp only); (first | rw [if_neg hc36f] | rw [if_neg (fun hz => hz hc36f)]); (first | rw [if_neg hc54f] | rw [if_neg (fun hz => hz hc54f)]); (first | rw [if_neg hc97f] | rw [if_neg (fun hz => hz hc97f)]); (first | rw [if_neg hc147f] | rw [if_neg (fun hz => hz hc147f)]); (first | rw [if_pos hc169f] | rw [if_pos (fun hz => hz hc169f)]); (first | rw [if_pos hc174f] | rw [if_pos (fun hz => hz hc174f)]))]; exact ⟨rfl, h177.kn (k := 0) rfl, h177.frame⟩)
            ·
              have hc174f : (S.tcb fc13.obj.idx.toNat).st ≠ 0 := by simpa using hc174
              refine wp_skip ?_
              refine hK170 _ _ ?_
              clear hK170
              refine nd_start (l := [0, 1, 2]) rfl ?_
              refine nd_batch tabOk tabZ_ok [(0, {}), (1, {})] [5, 3, 0, 1, 4, 7, 8, 9, 34, 104, 105] (T' := [(5, .pointer (some ⟨b22, 0, none⟩)), (3, .pointer (some ⟨b2, 0, none⟩)), (0, .pointer (some ⟨kb, 0, none⟩)), (1, .agg #[.int .u8 ev.kind, .int .u32 ev.pick, .int .u64 ev.draw, .int .u32 ev.addr, .int .u32 ev.node, .int .u32 ev.dst, .int .u32 ev.xfer, .int .u8 ev.ty, .int .u64 ev.arg, .int .u64 ev.badge, .slice xo ev.ws.length cx]), (4, .int .u8 0), (7, .int .u8 fk15), (8, .int .i16 fc13.obj.idx), (9, .pointer (some ⟨kb, 2 + (fc13.obj.idx.toNat * 21), none⟩)), (34, .int .u8 ev.kind), (104, .pointer (some ⟨kb, 0, none⟩)), (105, .int .i16 fc13.obj.idx)]) (φ := True) (rest := [2]) h173 (by kernel_rfl) rfl trivial fun a178 h179 => ?_
              clear h173
              refine nd_op ?_
              refine op_call h179 rfl rfl rfl (callOk Tryd.func72 (by decide) rfl) (args := [.pointer (some ⟨kb, 0, none⟩), .int .i16 fc13.obj.idx]) rfl (leave_ok kb bo bc S rS fc13.obj.idx hxfi40 _ (h179.kn (k := 0) rfl)) ?_
              rintro _ w183 ⟨rfl, hb181, hf182⟩
              refine ⟨_, rfl, ?_⟩
              obtain ⟨S180, eS180⟩ : ∃ S9, S9 = leaveP S fc13.obj.idx := ⟨_, rfl⟩
              rw [← eS180] at hb181
              have rS180 : RI S180 := by rw [eS180]; exact leave_RI rS hxfi40
              have h184 := (h179.setBlk (k := 0) rfl rfl hf182 hb181 (L' := [(kb, ⟨kC bo bc S180, 90, false⟩), (b2, ⟨[.int .u8 ev.kind, .int .u32 ev.pick, .int .u64 ev.draw, .int .u32 ev.addr, .int .u32 ev.node, .int .u32 ev.dst, .int .u32 ev.xfer, .int .u8 ev.ty, .int .u64 ev.arg, .int .u64 ev.badge, .slice xo ev.ws.length cx], 35, false⟩), (b22, ⟨[.int .u8 fc13.ty, .int .u16 fc13.obj.idx, .int .u32 fc13.obj.gen, .int .u8 fc13.rights, .int .u64 fc13.badge], 49, false⟩)]) rfl).put (d := some 106) (v := .tuple #[]) (T' := [(106, .tuple #[]), (5, .pointer (some ⟨b22, 0, none⟩)), (3, .pointer (some ⟨b2, 0, none⟩)), (0, .pointer (some ⟨kb, 0, none⟩)), (1, .agg #[.int .u8 ev.kind, .int .u32 ev.pick, .int .u64 ev.draw, .int .u32 ev.addr, .int .u32 ev.node, .int .u32 ev.dst, .int .u32 ev.xfer, .int .u8 ev.ty, .int .u64 ev.arg, .int .u64 ev.badge, .slice xo ev.ws.length cx]), (4, .int .u8 0), (7, .int .u8 fk15), (8, .int .i16 fc13.obj.idx), (9, .pointer (some ⟨kb, 2 + (fc13.obj.idx.toNat * 21), none⟩)), (34, .int .u8 ev.kind), (104, .pointer (some ⟨kb, 0, none⟩)), (105, .int .i16 fc13.obj.idx)]) rfl
              clear h179
              refine nd_done ?_
              refine hK47 _ _ ?_
              clear hK47
              refine wp_seq_k fun K185 hK185 => ?_
              refine nd_start (l := [0]) rfl ?_
              refine nd_batch tabOk tabZ_ok [(0, {})] [5, 3, 0, 1, 7, 8, 9, 34, 4] (T' := [(5, .pointer (some ⟨b22, 0, none⟩)), (3, .pointer (some ⟨b2, 0, none⟩)), (0, .pointer (some ⟨kb, 0, none⟩)), (1, .agg #[.int .u8 ev.kind, .int .u32 ev.pick, .int .u64 ev.draw, .int .u32 ev.addr, .int .u32 ev.node, .int .u32 ev.dst, .int .u32 ev.xfer, .int .u8 ev.ty, .int .u64 ev.arg, .int .u64 ev.badge, .slice xo ev.ws.length cx]), (7, .int .u8 fk15), (8, .int .i16 fc13.obj.idx), (9, .pointer (some ⟨kb, 2 + (fc13.obj.idx.toNat * 21), none⟩)), (34, .int .u8 ev.kind), (4, .int .u8 0)]) (φ := True) (rest := []) h184 (by kernel_rfl) rfl trivial fun a186 h187 => ?_
              clear h184
              refine nd_done ?_
              refine hK185 _ _ ?_
              clear hK185
              refine wp_ret ?_
              try simp only [Exit.then, Exit.inBlock]
              try rw [if_pos trivial]
              exact s_ret tabOk tabZ_ok h187 [(.tmp 4, {})] (vs := [.int .u8 0]) (φ := True) rfl (by kernel_rfl) trivial (by rw [show controlP S C ev = (S180, 0) from (by unfold controlP; (try dsimp only); rw [hfd16]; (try dsimp only); (first | rw [if_neg hc36f] | rw [if_neg (fun hz => hz hc36f)]); (first | rw [if_neg hc54f] | rw [if_neg (fun hz => hz hc54f)]); (first | rw [if_neg hc97f] | rw [if_neg (fun hz => hz hc97f)]); (first | rw [if_neg hc147f] | rw [if_neg (fun hz => hz hc147f)]); (first | rw [if_pos hc169f] | rw [if_pos (fun hz => hz hc169f)]); (first | rw [if_neg hc174f] | rw [if_neg (fun hz => hz hc174f)]); rw [← eS180])]; exact ⟨rfl, h187.kn (k := 0) rfl, h187.frame⟩)
          ·
            have hc169f : ev.kind ≠ 17 := by simpa using hc169
            refine wp_skip ?_
            refine hK47 _ _ ?_
            clear hK47
            refine wp_seq_k fun K188 hK188 => ?_
            refine nd_start (l := [0]) rfl ?_
            refine nd_batch tabOk tabZ_ok [(0, {})] [5, 3, 0, 1, 7, 8, 9, 34, 4] (T' := [(5, .pointer (some ⟨b22, 0, none⟩)), (3, .pointer (some ⟨b2, 0, none⟩)), (0, .pointer (some ⟨kb, 0, none⟩)), (1, .agg #[.int .u8 ev.kind, .int .u32 ev.pick, .int .u64 ev.draw, .int .u32 ev.addr, .int .u32 ev.node, .int .u32 ev.dst, .int .u32 ev.xfer, .int .u8 ev.ty, .int .u64 ev.arg, .int .u64 ev.badge, .slice xo ev.ws.length cx]), (7, .int .u8 fk15), (8, .int .i16 fc13.obj.idx), (9, .pointer (some ⟨kb, 2 + (fc13.obj.idx.toNat * 21), none⟩)), (34, .int .u8 ev.kind), (4, .int .u8 0)]) (φ := True) (rest := []) h168 (by kernel_rfl) rfl trivial fun a189 h190 => ?_
            clear h168
            refine nd_done ?_
            refine hK188 _ _ ?_
            clear hK188
            refine wp_ret ?_
            try simp only [Exit.then, Exit.inBlock]
            try rw [if_pos trivial]
            exact s_ret tabOk tabZ_ok h190 [(.tmp 4, {})] (vs := [.int .u8 0]) (φ := True) rfl (by kernel_rfl) trivial (by rw [show controlP S C ev = (S, 0) from (by unfold controlP; (try dsimp only); rw [hfd16]; (try dsimp only); (first | rw [if_neg hc36f] | rw [if_neg (fun hz => hz hc36f)]); (first | rw [if_neg hc54f] | rw [if_neg (fun hz => hz hc54f)]); (first | rw [if_neg hc97f] | rw [if_neg (fun hz => hz hc97f)]); (first | rw [if_neg hc147f] | rw [if_neg (fun hz => hz hc147f)]); (first | rw [if_neg hc169f] | rw [if_neg (fun hz => hz hc169f)]))]; exact ⟨rfl, h190.kn (k := 0) rfl, h190.frame⟩)

end Go.Proofs.Qxb6500918aDoor
