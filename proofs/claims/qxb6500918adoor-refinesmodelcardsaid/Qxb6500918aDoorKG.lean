/-
  retype. (Made by program: a symbolic walk that prints its steps.)
-/
import Derived.Test.Qxb6500918aDoorKF
namespace Go.Proofs.Qxb6500918aDoor
open Go.Sx Go.Kn
set_option maxRecDepth 100000
set_option maxHeartbeats 4000000
set_option linter.unusedVariables false
set_option linter.unusedSimpArgs false

theorem retype0_idx {E E' : Nat → Ent} {t : Int} {r : Rf} {k : Int} (e : retype0 E t = (E', r, k)) (hk : k = 0) : 0 ≤ r.idx ∧ r.idx < 256 := by
  have h := scan_slot (E := E) 256 0 (-1) (by decide) (by decide) (by decide) (by decide)
  unfold retype0 at e
  dsimp only at e
  split at e
  · simp at e; omega
  · split at e
    · simp at e; omega
    · simp only [Prod.mk.injEq] at e
      rw [← e.2.1, refAt_idx ⟨by omega, by omega⟩]
      exact ⟨by omega, h.2.2.1⟩

theorem retype_ok (kb bo bc : Nat) (nd : Nat → Nat) (S : KP) (rS : RI S) (C : CP) (hC : CI C) (hcur : 0 ≤ S.cur ∧ S.cur < 256) (ev : Ev) (he : EvOk ev) (xo : Option Addr) (cx : Nat) (w : World) (hb : w.heap[kb]? = some (Blk.obj ⟨kC bo bc S, 90, false⟩)) (hc : CapAt w bo bc nd C) (hdkb : kb ∉ capF bo bc nd C) :
    Calls Tryd.prog 81 #[.pointer (some ⟨kb, 0, none⟩), .agg #[.int .u8 ev.kind, .int .u32 ev.pick, .int .u64 ev.draw, .int .u32 ev.addr, .int .u32 ev.node, .int .u32 ev.dst, .int .u32 ev.xfer, .int .u8 ev.ty, .int .u64 ev.arg, .int .u64 ev.badge, .slice xo ev.ws.length cx]] w fun e w' => e = .returned (.int .u8 (retypeP S C ev).2) ∧ ∃ nd', CapAt w' bo bc nd' (retypeP S C ev).1 ∧ (∀ x ∈ capF bo bc nd' (retypeP S C ev).1, x ∈ capF bo bc nd C ∨ w.heap.size ≤ x) ∧ Fr (capF bo bc nd C) w w' := by
  have hea := he.ty
  have hcid := he.dst
  refine enter (n := 97) (K := (capF bo bc nd C)) (A := fun w => CapAt w bo bc nd C) (F := (capF bo bc nd C)) (T := [(0, .pointer (some ⟨kb, 0, none⟩)), (1, .agg #[.int .u8 ev.kind, .int .u32 ev.pick, .int .u64 ev.draw, .int .u32 ev.addr, .int .u32 ev.node, .int .u32 ev.dst, .int .u32 ev.xfer, .int .u8 ev.ty, .int .u64 ev.arg, .int .u64 ev.badge, .slice xo ev.ws.length cx])]) (L := [(kb, ⟨kC bo bc S, 90, true⟩)]) (args := [.pointer (some ⟨kb, 0, none⟩), .agg #[.int .u8 ev.kind, .int .u32 ev.pick, .int .u64 ev.draw, .int .u32 ev.addr, .int .u32 ev.node, .int .u32 ev.dst, .int .u32 ev.xfer, .int .u8 ev.ty, .int .u64 ev.arg, .int .u64 ev.badge, .slice xo ev.ws.length cx]]) Tryd.func81 rfl rfl rfl rfl (kcons hb knil) (by simp) (kcons (by intro hq; cases hq) knil) hc CapAt.stable hc.low (kcons (by intro hq; cases hq) knil) ?_
  intro a h
  refine wp_seq_k fun K1 hK1 => ?_
  refine nd_start (l := [0, 1]) rfl ?_
  refine nd_op ?_
  refine op_new tabOk (cells := [.int .u8 ev.kind, .int .u32 ev.pick, .int .u64 ev.draw, .int .u32 ev.addr, .int .u32 ev.node, .int .u32 ev.dst, .int .u32 ev.xfer, .int .u8 ev.ty, .int .u64 ev.arg, .int .u64 ev.badge, .slice xo ev.ws.length cx]) (ty := 35) (ln := none) (L1 := fun b2 => [(kb, ⟨kC bo bc S, 90, true⟩), (b2, ⟨[.int .u8 ev.kind, .int .u32 ev.pick, .int .u64 ev.draw, .int .u32 ev.addr, .int .u32 ev.node, .int .u32 ev.dst, .int .u32 ev.xfer, .int .u8 ev.ty, .int .u64 ev.arg, .int .u64 ev.badge, .slice xo ev.ws.length cx], 35, false⟩)]) h rfl rfl rfl rfl (by kernel_rfl) (fun _ => rfl) fun b2 w3 a4 h5 hf6 hn7 => ?_
  clear h
  refine nd_batch tabOk tabZ_ok [(1, {})] [3, 0, 1, 4] (T' := [(3, .pointer (some ⟨b2, 0, none⟩)), (0, .pointer (some ⟨kb, 0, none⟩)), (1, .agg #[.int .u8 ev.kind, .int .u32 ev.pick, .int .u64 ev.draw, .int .u32 ev.addr, .int .u32 ev.node, .int .u32 ev.dst, .int .u32 ev.xfer, .int .u8 ev.ty, .int .u64 ev.arg, .int .u64 ev.badge, .slice xo ev.ws.length cx]), (4, .int .u8 0)]) (φ := True) (rest := []) h5 (by kernel_rfl) rfl trivial fun a8 h9 => ?_
  clear h5
  refine nd_done ?_
  refine hK1 _ _ ?_
  clear hK1
  refine wp_seq_k fun K10 hK10 => ?_
  refine nd_start (l := [0, 1, 2, 3, 4, 5, 6, 7, 8, 9, 10, 11]) rfl ?_
  refine nd_batch tabOk tabZ_ok [(0, {}), (1, {}), (2, {k := 1})] [3, 0, 1, 4, 11, 13] (T' := [(3, .pointer (some ⟨b2, 0, none⟩)), (0, .pointer (some ⟨kb, 0, none⟩)), (1, .agg #[.int .u8 ev.kind, .int .u32 ev.pick, .int .u64 ev.draw, .int .u32 ev.addr, .int .u32 ev.node, .int .u32 ev.dst, .int .u32 ev.xfer, .int .u8 ev.ty, .int .u64 ev.arg, .int .u64 ev.badge, .slice xo ev.ws.length cx]), (4, .int .u8 0), (11, .pointer (some ⟨kb, 0, none⟩)), (13, .int .u32 ev.addr)]) (φ := (b2 = b2 ∧ Nat.ble (3 + 1) 11 = true) ∧ True) (rest := [3, 4, 5, 6, 7, 8, 9, 10, 11]) h9 (by kernel_rfl) rfl ⟨⟨rfl, rfl⟩, trivial⟩ fun a11 h12 => ?_
  clear h9
  refine nd_op ?_
  obtain ⟨fc13, fs14, fk15, hfd16⟩ : ∃ c s k, findP S C ev.addr 1 2 = (c, s, k) := ⟨_, _, _, rfl⟩
  refine op_call h12 rfl rfl rfl (callOk Tryd.func79 (by decide) rfl) (args := [.pointer (some ⟨kb, 0, none⟩), .int .u32 ev.addr, .int .u8 1, .int .u8 2]) rfl (find_ok kb bo bc nd S rS C hC ev.addr 1 2 hcur he.addr _ (h12.kn (k := 0) (blk := ⟨kC bo bc S, 90, true⟩) rfl) h12.inv hdkb hfd16) ?_
  rintro _ w17 ⟨rfl, hf19⟩
  refine ⟨_, rfl, ?_⟩
  have h18 := (h12.grow hf19).put (d := some 14) (v := .tuple #[.agg #[.int .u8 fc13.ty, .int .u16 fc13.obj.idx, .int .u32 fc13.obj.gen, .int .u8 fc13.rights, .int .u64 fc13.badge], .int .i64 fs14, .int .u8 fk15]) (T' := [(14, .tuple #[.agg #[.int .u8 fc13.ty, .int .u16 fc13.obj.idx, .int .u32 fc13.obj.gen, .int .u8 fc13.rights, .int .u64 fc13.badge], .int .i64 fs14, .int .u8 fk15]), (3, .pointer (some ⟨b2, 0, none⟩)), (0, .pointer (some ⟨kb, 0, none⟩)), (1, .agg #[.int .u8 ev.kind, .int .u32 ev.pick, .int .u64 ev.draw, .int .u32 ev.addr, .int .u32 ev.node, .int .u32 ev.dst, .int .u32 ev.xfer, .int .u8 ev.ty, .int .u64 ev.arg, .int .u64 ev.badge, .slice xo ev.ws.length cx]), (4, .int .u8 0), (11, .pointer (some ⟨kb, 0, none⟩)), (13, .int .u32 ev.addr)]) rfl
  clear h12
  refine nd_batch tabOk tabZ_ok [(4, {}), (5, {}), (6, {}), (7, {})] [3, 0, 1, 4, 15, 16, 17] (T' := [(3, .pointer (some ⟨b2, 0, none⟩)), (0, .pointer (some ⟨kb, 0, none⟩)), (1, .agg #[.int .u8 ev.kind, .int .u32 ev.pick, .int .u64 ev.draw, .int .u32 ev.addr, .int .u32 ev.node, .int .u32 ev.dst, .int .u32 ev.xfer, .int .u8 ev.ty, .int .u64 ev.arg, .int .u64 ev.badge, .slice xo ev.ws.length cx]), (4, .int .u8 0), (15, .agg #[.int .u8 fc13.ty, .int .u16 fc13.obj.idx, .int .u32 fc13.obj.gen, .int .u8 fc13.rights, .int .u64 fc13.badge]), (16, .int .i64 fs14), (17, .int .u8 fk15)]) (φ := True) (rest := [8, 9, 10, 11]) h18 (by kernel_rfl) rfl trivial fun a20 h21 => ?_
  clear h18
  refine nd_op ?_
  refine op_new tabOk (cells := [.int .u8 0, .int .u16 0, .int .u32 0, .int .u8 0, .int .u64 0]) (ty := 49) (ln := none) (L1 := fun b22 => [(kb, ⟨kC bo bc S, 90, true⟩), (b2, ⟨[.int .u8 ev.kind, .int .u32 ev.pick, .int .u64 ev.draw, .int .u32 ev.addr, .int .u32 ev.node, .int .u32 ev.dst, .int .u32 ev.xfer, .int .u8 ev.ty, .int .u64 ev.arg, .int .u64 ev.badge, .slice xo ev.ws.length cx], 35, false⟩), (b22, ⟨[.int .u8 0, .int .u16 0, .int .u32 0, .int .u8 0, .int .u64 0], 49, false⟩)]) h21 rfl rfl rfl rfl (by kernel_rfl) (fun _ => rfl) fun b22 w23 a24 h25 hf26 hn27 => ?_
  clear h21
  refine nd_op ?_
  refine op_store tabOk {k := 2} (L' := [(kb, ⟨kC bo bc S, 90, true⟩), (b2, ⟨[.int .u8 ev.kind, .int .u32 ev.pick, .int .u64 ev.draw, .int .u32 ev.addr, .int .u32 ev.node, .int .u32 ev.dst, .int .u32 ev.xfer, .int .u8 ev.ty, .int .u64 ev.arg, .int .u64 ev.badge, .slice xo ev.ws.length cx], 35, false⟩), (b22, ⟨[.int .u8 fc13.ty, .int .u16 fc13.obj.idx, .int .u32 fc13.obj.gen, .int .u8 fc13.rights, .int .u64 fc13.badge], 49, false⟩)]) (φ := b22 = b22 ∧ Nat.ble (0 + 5) 5 = true) h25 rfl rfl rfl (by kernel_rfl) ⟨rfl, rfl⟩ fun w28 h29 => ?_
  clear h25
  refine nd_batch tabOk tabZ_ok [(10, {}), (11, {})] [3, 0, 1, 4, 6, 7] (T' := [(3, .pointer (some ⟨b2, 0, none⟩)), (0, .pointer (some ⟨kb, 0, none⟩)), (1, .agg #[.int .u8 ev.kind, .int .u32 ev.pick, .int .u64 ev.draw, .int .u32 ev.addr, .int .u32 ev.node, .int .u32 ev.dst, .int .u32 ev.xfer, .int .u8 ev.ty, .int .u64 ev.arg, .int .u64 ev.badge, .slice xo ev.ws.length cx]), (4, .int .u8 0), (6, .int .i64 fs14), (7, .int .u8 fk15)]) (φ := True) (rest := []) h29 (by kernel_rfl) rfl trivial fun a30 h31 => ?_
  clear h29
  refine nd_done ?_
  refine hK10 _ _ ?_
  clear hK10
  refine wp_seq_k fun K32 hK32 => ?_
  refine wp_seq_k fun K33 hK33 => ?_
  refine nd_start (l := [0, 1]) rfl ?_
  refine nd_batch tabOk tabZ_ok [(0, {}), (1, {})] [3, 0, 1, 4, 6, 7, 19] (T' := [(3, .pointer (some ⟨b2, 0, none⟩)), (0, .pointer (some ⟨kb, 0, none⟩)), (1, .agg #[.int .u8 ev.kind, .int .u32 ev.pick, .int .u64 ev.draw, .int .u32 ev.addr, .int .u32 ev.node, .int .u32 ev.dst, .int .u32 ev.xfer, .int .u8 ev.ty, .int .u64 ev.arg, .int .u64 ev.badge, .slice xo ev.ws.length cx]), (4, .int .u8 0), (6, .int .i64 fs14), (7, .int .u8 fk15), (19, .bool (fk15 != 0))]) (φ := True) (rest := []) h31 (by kernel_rfl) rfl trivial fun a34 h35 => ?_
  clear h31
  refine nd_done ?_
  refine hK33 _ _ ?_
  clear hK33
  refine c_split h35 (b := (fk15 != 0)) rfl (fun hc36 => ?_) (fun hc36 => ?_)
  ·
    have hc36f : fk15 ≠ 0 := by simpa using hc36
    refine wp_seq_k fun K37 hK37 => ?_
    refine nd_start (l := [0, 1]) rfl ?_
    refine nd_batch tabOk tabZ_ok [(0, {}), (1, {})] [3, 0, 1, 6, 7, 4] (T' := [(3, .pointer (some ⟨b2, 0, none⟩)), (0, .pointer (some ⟨kb, 0, none⟩)), (1, .agg #[.int .u8 ev.kind, .int .u32 ev.pick, .int .u64 ev.draw, .int .u32 ev.addr, .int .u32 ev.node, .int .u32 ev.dst, .int .u32 ev.xfer, .int .u8 ev.ty, .int .u64 ev.arg, .int .u64 ev.badge, .slice xo ev.ws.length cx]), (6, .int .i64 fs14), (7, .int .u8 fk15), (4, .int .u8 fk15)]) (φ := True) (rest := []) h35 (by kernel_rfl) rfl trivial fun a38 h39 => ?_
    clear h35
    refine nd_done ?_
    refine hK37 _ _ ?_
    clear hK37
    refine wp_ret ?_
    try simp only [Exit.then, Exit.inBlock]
    try rw [if_pos trivial]
    exact s_ret tabOk tabZ_ok h39 [(.tmp 4, {})] (vs := [.int .u8 fk15]) (φ := True) rfl (by kernel_rfl) trivial (by rw [show retypeP S C ev = (C, fk15) from (by unfold retypeP; (try dsimp only); rw [hfd16]; (try dsimp only); (first | rw [if_pos hc36f] | rw [if_pos (fun hz => hz hc36f)]))]; exact ⟨rfl, nd, h39.inv, (fun x hx => .inl (by exact hx)), h39.frame⟩)
  ·
    have hc36f : fk15 = 0 := by simpa using hc36
    obtain ⟨fi40, fj40, hfi40, hfj40, hfp40, hfs40, hfcap40, hft40, hfz40, hfo40⟩ := find_fact rS hC hcur he.addr.1 hfd16 hc36f
    refine wp_skip ?_
    refine hK32 _ _ ?_
    clear hK32
    refine wp_seq_k fun K41 hK41 => ?_
    refine dr_start (KB := [kb, b2, b22]) (Bi := [[0, 1, 2], [0, 1, 2], [0, 1, 2], [0, 1, 2], [0, 1, 2], [0, 1, 2], [0, 1, 2], [0, 1, 2], [0, 1, 2], [0, 1, 2], [0, 1, 2], [0, 1, 2], [0, 1, 2], [0, 1, 2], [0, 1, 2], [0, 1, 2], [0, 1, 2], [], [0, 1, 2], [0, 1, 2], [0, 1, 2], [0, 1, 2], [0, 1, 2]]) mixed h35 fun w42 h43 => ?_
    clear h35
    refine dr_batch tabOk tabZ_ok (by repeat (first | with_reducible exact PF.body | with_reducible apply PF.inB | with_reducible apply PF.next)) [(0, {}), (1, {}), (2, {}), (3, {k := 0, m := 1, vs := [.pointer (some ⟨bc, 0, none⟩)], p := 0}), (4, {}), (5, {}), (6, {}), (7, {}), (8, {k := 0, m := 1, vs := [.int .i16 S.cur], p := 0}), (9, {}), (10, {}), (11, {}), (12, {}), (13, {}), (14, {k := 0, m := 1, vs := [.int .u16 ((S.tcb S.cur.toNat).cs.idx), .int .u32 ((S.tcb S.cur.toNat).cs.gen)], p := 0}), (15, {}), (16, {k := 1, p := 1})] [3, 0, 1, 4, 6, 7, 25, 36, 38] (T' := [(3, .pointer (some ⟨b2, 0, none⟩)), (0, .pointer (some ⟨kb, 0, none⟩)), (1, .agg #[.int .u8 ev.kind, .int .u32 ev.pick, .int .u64 ev.draw, .int .u32 ev.addr, .int .u32 ev.node, .int .u32 ev.dst, .int .u32 ev.xfer, .int .u8 ev.ty, .int .u64 ev.arg, .int .u64 ev.badge, .slice xo ev.ws.length cx]), (4, .int .u8 0), (6, .int .i64 fs14), (7, .int .u8 fk15), (25, .pointer (some ⟨bc, 0, none⟩)), (36, .agg #[.int .u16 ((S.tcb S.cur.toNat).cs.idx), .int .u32 ((S.tcb S.cur.toNat).cs.gen)]), (38, .int .u32 ev.dst)]) (φ := (kb = kb ∧ cellsAre (kC bo bc S) 1 [.pointer (some ⟨bc, 0, none⟩)]) ∧ (kb = kb ∧ cellsAre (kC bo bc S) 6427 [.int .i16 S.cur]) ∧ (0 ≤ S.cur ∧ S.cur < 256) ∧ (kb = kb ∧ cellsAre (kC bo bc S) (2 + (S.cur.toNat * 21) + 4) [.int .u16 ((S.tcb S.cur.toNat).cs.idx), .int .u32 ((S.tcb S.cur.toNat).cs.gen)]) ∧ (b2 = b2 ∧ Nat.ble (5 + 1) 11 = true) ∧ True) (fuel := 6) h43 (by kernel_rfl) rfl (by kernel_rfl) (by kernel_rfl) ⟨trivial, trivial, trivial, rfl, trivial, trivial, trivial, trivial, rfl, trivial, trivial, trivial, trivial, trivial, rfl, trivial, rfl, trivial⟩ ⟨⟨rfl, k_caps⟩, ⟨rfl, k_cur⟩, ⟨by omega, by omega⟩, ⟨rfl, (k_tcb (i := S.cur.toNat) (k := 4) (by omega) (by omega) ⟨rfl, rfl, trivial⟩)⟩, ⟨rfl, rfl⟩, trivial⟩ fun a45 h46 => ?_
    clear h43
    refine wpAnyK_one (i := 17) (fuel := 5) (by kernel_rfl) ?_
    obtain ⟨ls47, lk48, el49⟩ : ∃ s k, lookP C.ent (S.tcb S.cur.toNat).cs ev.dst = (s, k) := ⟨_, _, rfl⟩
    have hlr50 := (rS.t (i := S.cur.toNat) (by omega)).ci
    refine op_call h46 rfl rfl rfl (callOk Tryd.func39 (by decide) rfl) (args := [.pointer (some ⟨bc, 0, none⟩), .agg #[.int .u16 ((S.tcb S.cur.toNat).cs.idx), .int .u32 ((S.tcb S.cur.toNat).cs.gen)], .int .u32 ev.dst]) rfl (lookupE (E := C.ent) bo bc nd C.pres (S.tcb S.cur.toNat).cs ev.dst ⟨hlr50.1, by omega⟩ he.dst _ h46.inv.sp h46.inv.st h46.inv.ap.symm el49) ?_
    rintro _ w51 ⟨rfl, hf53⟩
    refine ⟨_, rfl, ?_⟩
    have h52 := (h46.grow hf53).put (d := some 39) (v := .tuple #[.int .i64 ls47, .int .u8 lk48]) (T' := [(39, .tuple #[.int .i64 ls47, .int .u8 lk48]), (3, .pointer (some ⟨b2, 0, none⟩)), (0, .pointer (some ⟨kb, 0, none⟩)), (1, .agg #[.int .u8 ev.kind, .int .u32 ev.pick, .int .u64 ev.draw, .int .u32 ev.addr, .int .u32 ev.node, .int .u32 ev.dst, .int .u32 ev.xfer, .int .u8 ev.ty, .int .u64 ev.arg, .int .u64 ev.badge, .slice xo ev.ws.length cx]), (4, .int .u8 0), (6, .int .i64 fs14), (7, .int .u8 fk15), (25, .pointer (some ⟨bc, 0, none⟩)), (36, .agg #[.int .u16 ((S.tcb S.cur.toNat).cs.idx), .int .u32 ((S.tcb S.cur.toNat).cs.gen)]), (38, .int .u32 ev.dst)]) rfl
    refine ⟨keepNil, ?_⟩
    clear h46
    refine dr_batch tabOk tabZ_ok (by repeat (first | with_reducible exact PF.body | with_reducible apply PF.inB | with_reducible apply PF.next)) [(18, {}), (19, {}), (20, {}), (21, {}), (22, {})] [3, 0, 1, 4, 6, 8, 7] (T' := [(3, .pointer (some ⟨b2, 0, none⟩)), (0, .pointer (some ⟨kb, 0, none⟩)), (1, .agg #[.int .u8 ev.kind, .int .u32 ev.pick, .int .u64 ev.draw, .int .u32 ev.addr, .int .u32 ev.node, .int .u32 ev.dst, .int .u32 ev.xfer, .int .u8 ev.ty, .int .u64 ev.arg, .int .u64 ev.badge, .slice xo ev.ws.length cx]), (4, .int .u8 0), (6, .int .i64 fs14), (8, .int .i64 ls47), (7, .int .u8 lk48)]) (φ := True) (fuel := 0) h52 (by kernel_rfl) rfl (by kernel_rfl) (by kernel_rfl) ⟨trivial, trivial, trivial, trivial, trivial, trivial⟩ trivial fun a54 h55 => ?_
    clear h52
    refine wpAnyK_done (by kernel_rfl) ?_ _
    refine hK41 _ _ ?_
    clear hK41
    refine wp_seq_k fun K56 hK56 => ?_
    refine wp_block ?_
    refine wp_seq_k fun K57 hK57 => ?_
    refine nd_start (l := [0, 1, 2]) rfl ?_
    refine nd_batch tabOk tabZ_ok [(0, {}), (1, {}), (2, {})] [3, 0, 1, 4, 6, 8, 7, 42] (T' := [(3, .pointer (some ⟨b2, 0, none⟩)), (0, .pointer (some ⟨kb, 0, none⟩)), (1, .agg #[.int .u8 ev.kind, .int .u32 ev.pick, .int .u64 ev.draw, .int .u32 ev.addr, .int .u32 ev.node, .int .u32 ev.dst, .int .u32 ev.xfer, .int .u8 ev.ty, .int .u64 ev.arg, .int .u64 ev.badge, .slice xo ev.ws.length cx]), (4, .int .u8 0), (6, .int .i64 fs14), (8, .int .i64 ls47), (7, .int .u8 lk48), (42, .bool (lk48 != 0))]) (φ := True) (rest := []) h55 (by kernel_rfl) rfl trivial fun a58 h59 => ?_
    clear h55
    refine nd_done ?_
    refine hK57 _ _ ?_
    clear hK57
    refine c_split h59 (b := (lk48 != 0)) rfl (fun hc60 => ?_) (fun hc60 => ?_)
    ·
      have hc60f : lk48 ≠ 0 := by simpa using hc60
      refine wp_seq_k fun K61 hK61 => ?_
      refine nd_start (l := [0, 1]) rfl ?_
      refine nd_batch tabOk tabZ_ok [(0, {}), (1, {})] [3, 0, 1, 6, 8, 7, 4] (T' := [(3, .pointer (some ⟨b2, 0, none⟩)), (0, .pointer (some ⟨kb, 0, none⟩)), (1, .agg #[.int .u8 ev.kind, .int .u32 ev.pick, .int .u64 ev.draw, .int .u32 ev.addr, .int .u32 ev.node, .int .u32 ev.dst, .int .u32 ev.xfer, .int .u8 ev.ty, .int .u64 ev.arg, .int .u64 ev.badge, .slice xo ev.ws.length cx]), (6, .int .i64 fs14), (8, .int .i64 ls47), (7, .int .u8 lk48), (4, .int .u8 lk48)]) (φ := True) (rest := []) h59 (by kernel_rfl) rfl trivial fun a62 h63 => ?_
      clear h59
      refine nd_done ?_
      refine hK61 _ _ ?_
      clear hK61
      refine wp_ret ?_
      try simp only [Exit.then, Exit.inBlock]
      try rw [if_pos trivial]
      exact s_ret tabOk tabZ_ok h63 [(.tmp 4, {})] (vs := [.int .u8 lk48]) (φ := True) rfl (by kernel_rfl) trivial (by rw [show retypeP S C ev = (C, lk48) from (by unfold retypeP; (try dsimp only); rw [hfd16]; (try dsimp only); (first | rw [if_neg hc36f] | rw [if_neg (fun hz => hz hc36f)]); rw [el49]; (try dsimp only); (first | rw [if_pos hc60f] | rw [if_pos (fun hz => hz hc60f)]))]; exact ⟨rfl, nd, h63.inv, (fun x hx => .inl (by exact hx)), h63.frame⟩)
    ·
      have hc60f : lk48 = 0 := by simpa using hc60
      obtain ⟨li64, lj64, hli64, hlj64, hlp64, hls64⟩ := look_fact hC hlr50.1 he.dst.1 el49 hc60f
      refine wp_seq_k fun K65 hK65 => ?_
      refine nd_start (l := [0, 1, 2, 3, 4, 5, 6, 7, 8]) rfl ?_
      refine nd_batch tabOk tabZ_ok [(0, {}), (1, {}), (2, {}), (3, {k := 0, m := 1, vs := [.pointer (some ⟨bc, 0, none⟩)]}), (4, {})] [3, 0, 1, 4, 6, 8, 7, 50, 51] (T' := [(3, .pointer (some ⟨b2, 0, none⟩)), (0, .pointer (some ⟨kb, 0, none⟩)), (1, .agg #[.int .u8 ev.kind, .int .u32 ev.pick, .int .u64 ev.draw, .int .u32 ev.addr, .int .u32 ev.node, .int .u32 ev.dst, .int .u32 ev.xfer, .int .u8 ev.ty, .int .u64 ev.arg, .int .u64 ev.badge, .slice xo ev.ws.length cx]), (4, .int .u8 0), (6, .int .i64 fs14), (8, .int .i64 ls47), (7, .int .u8 lk48), (50, .pointer (some ⟨bc, 0, none⟩)), (51, .int .i64 ls47)]) (φ := (kb = kb ∧ cellsAre (kC bo bc S) 1 [.pointer (some ⟨bc, 0, none⟩)]) ∧ True) (rest := [5, 6, 7, 8]) h59 (by kernel_rfl) rfl ⟨⟨rfl, k_caps⟩, trivial⟩ fun a66 h67 => ?_
      clear h59
      refine nd_op ?_
      refine op_call h67 rfl rfl rfl (callOk Tryd.func62 (by decide) rfl) (args := [.pointer (some ⟨bc, 0, none⟩), .int .i64 ls47]) rfl (atE bo bc nd C hli64 hlj64 hlp64 hls64 _ h67.inv) ?_
      rintro _ w68 ⟨rfl, hf70⟩
      refine ⟨_, rfl, ?_⟩
      have h69 := (h67.grow hf70).put (d := some 52) (v := .agg #[.int .u8 ((C.cel ls47.toNat).cap.ty), .int .u16 ((C.cel ls47.toNat).cap.obj.idx), .int .u32 ((C.cel ls47.toNat).cap.obj.gen), .int .u8 ((C.cel ls47.toNat).cap.rights), .int .u64 ((C.cel ls47.toNat).cap.badge)]) (T' := [(52, .agg #[.int .u8 ((C.cel ls47.toNat).cap.ty), .int .u16 ((C.cel ls47.toNat).cap.obj.idx), .int .u32 ((C.cel ls47.toNat).cap.obj.gen), .int .u8 ((C.cel ls47.toNat).cap.rights), .int .u64 ((C.cel ls47.toNat).cap.badge)]), (3, .pointer (some ⟨b2, 0, none⟩)), (0, .pointer (some ⟨kb, 0, none⟩)), (1, .agg #[.int .u8 ev.kind, .int .u32 ev.pick, .int .u64 ev.draw, .int .u32 ev.addr, .int .u32 ev.node, .int .u32 ev.dst, .int .u32 ev.xfer, .int .u8 ev.ty, .int .u64 ev.arg, .int .u64 ev.badge, .slice xo ev.ws.length cx]), (4, .int .u8 0), (6, .int .i64 fs14), (8, .int .i64 ls47), (7, .int .u8 lk48), (50, .pointer (some ⟨bc, 0, none⟩)), (51, .int .i64 ls47)]) rfl
      clear h67
      refine nd_batch tabOk tabZ_ok [(6, {}), (7, {}), (8, {})] [3, 0, 1, 4, 6, 8, 7, 46] (T' := [(3, .pointer (some ⟨b2, 0, none⟩)), (0, .pointer (some ⟨kb, 0, none⟩)), (1, .agg #[.int .u8 ev.kind, .int .u32 ev.pick, .int .u64 ev.draw, .int .u32 ev.addr, .int .u32 ev.node, .int .u32 ev.dst, .int .u32 ev.xfer, .int .u8 ev.ty, .int .u64 ev.arg, .int .u64 ev.badge, .slice xo ev.ws.length cx]), (4, .int .u8 0), (6, .int .i64 fs14), (8, .int .i64 ls47), (7, .int .u8 lk48), (46, .bool ((C.cel ls47.toNat).cap.ty != 0))]) (φ := True) (rest := []) h69 (by kernel_rfl) rfl trivial fun a71 h72 => ?_
      clear h69
      refine nd_done ?_
      refine hK65 _ _ ?_
      clear hK65
      refine c_split h72 (b := ((C.cel ls47.toNat).cap.ty != 0)) rfl (fun hc73 => ?_) (fun hc73 => ?_)
      ·
        have hc73f : (C.cel ls47.toNat).cap.ty ≠ 0 := by simpa using hc73
        refine wp_seq_k fun K74 hK74 => ?_
        refine nd_start (l := [0]) rfl ?_
        refine nd_batch tabOk tabZ_ok [(0, {})] [3, 0, 1, 6, 8, 7, 4] (T' := [(3, .pointer (some ⟨b2, 0, none⟩)), (0, .pointer (some ⟨kb, 0, none⟩)), (1, .agg #[.int .u8 ev.kind, .int .u32 ev.pick, .int .u64 ev.draw, .int .u32 ev.addr, .int .u32 ev.node, .int .u32 ev.dst, .int .u32 ev.xfer, .int .u8 ev.ty, .int .u64 ev.arg, .int .u64 ev.badge, .slice xo ev.ws.length cx]), (6, .int .i64 fs14), (8, .int .i64 ls47), (7, .int .u8 lk48), (4, .int .u8 6)]) (φ := True) (rest := []) h72 (by kernel_rfl) rfl trivial fun a75 h76 => ?_
        clear h72
        refine nd_done ?_
        refine hK74 _ _ ?_
        clear hK74
        refine wp_ret ?_
        try simp only [Exit.then, Exit.inBlock]
        try rw [if_pos trivial]
        exact s_ret tabOk tabZ_ok h76 [(.tmp 4, {})] (vs := [.int .u8 6]) (φ := True) rfl (by kernel_rfl) trivial (by rw [show retypeP S C ev = (C, 6) from (by unfold retypeP; (try dsimp only); rw [hfd16]; (try dsimp only); (first | rw [if_neg hc36f] | rw [if_neg (fun hz => hz hc36f)]); rw [el49]; (try dsimp only); (first | rw [if_neg hc60f] | rw [if_neg (fun hz => hz hc60f)]); (first | rw [if_pos hc73f] | rw [if_pos (fun hz => hz hc73f)]))]; exact ⟨rfl, nd, h76.inv, (fun x hx => .inl (by exact hx)), h76.frame⟩)
      ·
        have hc73f : (C.cel ls47.toNat).cap.ty = 0 := by simpa using hc73
        refine wp_seq_k fun K77 hK77 => ?_
        rcases Bool.eq_false_or_eq_true (decide (ev.ty < 2)) with hb78 | hb78
        ·
          have hb78f : ev.ty < 2 := by simpa using hb78
          refine nd_start (l := [0, 1, 2, 3, 4, 5, 6, 7, 8]) rfl ?_
          refine nd_batch tabOk tabZ_ok [(0, {}), (1, {k := 1}), (2, {f := 2}), (3, {}), (4, {}), (5, {}), (6, {}), (7, {}), (8, {})] [3, 0, 1, 4, 6, 8, 7, 55] (T' := [(3, .pointer (some ⟨b2, 0, none⟩)), (0, .pointer (some ⟨kb, 0, none⟩)), (1, .agg #[.int .u8 ev.kind, .int .u32 ev.pick, .int .u64 ev.draw, .int .u32 ev.addr, .int .u32 ev.node, .int .u32 ev.dst, .int .u32 ev.xfer, .int .u8 ev.ty, .int .u64 ev.arg, .int .u64 ev.badge, .slice xo ev.ws.length cx]), (4, .int .u8 0), (6, .int .i64 fs14), (8, .int .i64 ls47), (7, .int .u8 lk48), (55, .bool true)]) (φ := (b2 = b2 ∧ Nat.ble (7 + 1) 11 = true) ∧ (decide (ev.ty < 2)) = true ∧ True) (rest := []) h72 (by kernel_rfl) rfl ⟨⟨rfl, rfl⟩, hb78, trivial⟩ fun a79 h80 => ?_
          clear h72
          refine nd_done ?_
          refine hK77 _ _ ?_
          clear hK77
          refine c_true h80 rfl ?_
          refine wp_seq_k fun K81 hK81 => ?_
          refine nd_start (l := [0]) rfl ?_
          refine nd_batch tabOk tabZ_ok [(0, {})] [3, 0, 1, 6, 8, 7, 4] (T' := [(3, .pointer (some ⟨b2, 0, none⟩)), (0, .pointer (some ⟨kb, 0, none⟩)), (1, .agg #[.int .u8 ev.kind, .int .u32 ev.pick, .int .u64 ev.draw, .int .u32 ev.addr, .int .u32 ev.node, .int .u32 ev.dst, .int .u32 ev.xfer, .int .u8 ev.ty, .int .u64 ev.arg, .int .u64 ev.badge, .slice xo ev.ws.length cx]), (6, .int .i64 fs14), (8, .int .i64 ls47), (7, .int .u8 lk48), (4, .int .u8 8)]) (φ := True) (rest := []) h80 (by kernel_rfl) rfl trivial fun a82 h83 => ?_
          clear h80
          refine nd_done ?_
          refine hK81 _ _ ?_
          clear hK81
          refine wp_ret ?_
          try simp only [Exit.then, Exit.inBlock]
          try rw [if_pos trivial]
          exact s_ret tabOk tabZ_ok h83 [(.tmp 4, {})] (vs := [.int .u8 8]) (φ := True) rfl (by kernel_rfl) trivial (by rw [show retypeP S C ev = (C, 8) from (by unfold retypeP; (try dsimp only); rw [hfd16]; (try dsimp only); (first | rw [if_neg hc36f] | rw [if_neg (fun hz => hz hc36f)]); rw [el49]; (try dsimp only); (first | rw [if_neg hc60f] | rw [if_neg (fun hz => hz hc60f)]); (first | rw [if_neg hc73f] | rw [if_neg (fun hz => hz hc73f)]); rw [if_pos (.inl hb78f)])]; exact ⟨rfl, nd, h83.inv, (fun x hx => .inl (by exact hx)), h83.frame⟩)
        ·
          have hb78f : ¬ ev.ty < 2 := by simpa using hb78
          refine nd_start (l := [0, 1, 2, 3, 4, 5, 6, 7, 8]) rfl ?_
          refine nd_batch tabOk tabZ_ok [(0, {}), (1, {k := 1}), (2, {f := 1}), (3, {}), (4, {}), (5, {k := 1}), (6, {}), (7, {}), (8, {})] [3, 0, 1, 4, 6, 8, 7, 55] (T' := [(3, .pointer (some ⟨b2, 0, none⟩)), (0, .pointer (some ⟨kb, 0, none⟩)), (1, .agg #[.int .u8 ev.kind, .int .u32 ev.pick, .int .u64 ev.draw, .int .u32 ev.addr, .int .u32 ev.node, .int .u32 ev.dst, .int .u32 ev.xfer, .int .u8 ev.ty, .int .u64 ev.arg, .int .u64 ev.badge, .slice xo ev.ws.length cx]), (4, .int .u8 0), (6, .int .i64 fs14), (8, .int .i64 ls47), (7, .int .u8 lk48), (55, .bool (decide (ev.ty ≥ 6)))]) (φ := (b2 = b2 ∧ Nat.ble (7 + 1) 11 = true) ∧ (decide (ev.ty < 2)) = false ∧ (b2 = b2 ∧ Nat.ble (7 + 1) 11 = true) ∧ True) (rest := []) h72 (by kernel_rfl) rfl ⟨⟨rfl, rfl⟩, hb78, ⟨rfl, rfl⟩, trivial⟩ fun a84 h85 => ?_
          clear h72
          refine nd_done ?_
          refine hK77 _ _ ?_
          clear hK77
          refine c_split h85 (b := decide (ev.ty ≥ 6)) rfl (fun hc86 => ?_) (fun hc86 => ?_)
          ·
            have hc86f : ev.ty ≥ 6 := by simpa using hc86
            refine wp_seq_k fun K87 hK87 => ?_
            refine nd_start (l := [0]) rfl ?_
            refine nd_batch tabOk tabZ_ok [(0, {})] [3, 0, 1, 6, 8, 7, 4] (T' := [(3, .pointer (some ⟨b2, 0, none⟩)), (0, .pointer (some ⟨kb, 0, none⟩)), (1, .agg #[.int .u8 ev.kind, .int .u32 ev.pick, .int .u64 ev.draw, .int .u32 ev.addr, .int .u32 ev.node, .int .u32 ev.dst, .int .u32 ev.xfer, .int .u8 ev.ty, .int .u64 ev.arg, .int .u64 ev.badge, .slice xo ev.ws.length cx]), (6, .int .i64 fs14), (8, .int .i64 ls47), (7, .int .u8 lk48), (4, .int .u8 8)]) (φ := True) (rest := []) h85 (by kernel_rfl) rfl trivial fun a88 h89 => ?_
            clear h85
            refine nd_done ?_
            refine hK87 _ _ ?_
            clear hK87
            refine wp_ret ?_
            try simp only [Exit.then, Exit.inBlock]
            try rw [if_pos trivial]
            exact s_ret tabOk tabZ_ok h89 [(.tmp 4, {})] (vs := [.int .u8 8]) (φ := True) rfl (by kernel_rfl) trivial (by rw [show retypeP S C ev = (C, 8) from (by unfold retypeP; (try dsimp only); rw [hfd16]; (try dsimp only); (first | rw [if_neg hc36f] | rw [if_neg (fun hz => hz hc36f)]); rw [el49]; (try dsimp only); (first | rw [if_neg hc60f] | rw [if_neg (fun hz => hz hc60f)]); (first | rw [if_neg hc73f] | rw [if_neg (fun hz => hz hc73f)]); rw [if_pos (.inr hc86f)])]; exact ⟨rfl, nd, h89.inv, (fun x hx => .inl (by exact hx)), h89.frame⟩)
          ·
            have hc86f : ¬ ev.ty ≥ 6 := by simpa using hc86
            refine wp_skip ?_
            refine hK56 _ _ ?_
            clear hK56
            refine wp_seq_k fun K90 hK90 => ?_
            refine dr_start (KB := [kb, b2, b22]) (Bi := [[0, 1, 2], [0, 1, 2], [0, 1, 2], [0, 1, 2], [0, 1, 2], [0, 1, 2], [], [0, 1, 2], [0, 1, 2], [0, 1, 2], [0, 1, 2], [], [0, 1, 2]]) mixed h85 fun w91 h92 => ?_
            clear h85
            refine dr_batch tabOk tabZ_ok (by repeat (first | with_reducible exact PF.body | with_reducible apply PF.inB | with_reducible apply PF.next)) [(0, {}), (1, {}), (2, {}), (3, {k := 0, m := 1, vs := [.pointer (some ⟨bo, 0, none⟩)], p := 0}), (4, {}), (5, {k := 1, p := 1})] [3, 0, 1, 4, 6, 8, 7, 68, 70] (T' := [(3, .pointer (some ⟨b2, 0, none⟩)), (0, .pointer (some ⟨kb, 0, none⟩)), (1, .agg #[.int .u8 ev.kind, .int .u32 ev.pick, .int .u64 ev.draw, .int .u32 ev.addr, .int .u32 ev.node, .int .u32 ev.dst, .int .u32 ev.xfer, .int .u8 ev.ty, .int .u64 ev.arg, .int .u64 ev.badge, .slice xo ev.ws.length cx]), (4, .int .u8 0), (6, .int .i64 fs14), (8, .int .i64 ls47), (7, .int .u8 lk48), (68, .pointer (some ⟨bo, 0, none⟩)), (70, .int .u8 ev.ty)]) (φ := (kb = kb ∧ cellsAre (kC bo bc S) 0 [.pointer (some ⟨bo, 0, none⟩)]) ∧ (b2 = b2 ∧ Nat.ble (7 + 1) 11 = true) ∧ True) (fuel := 7) h92 (by kernel_rfl) rfl (by kernel_rfl) (by kernel_rfl) ⟨trivial, trivial, trivial, rfl, trivial, rfl, trivial⟩ ⟨⟨rfl, k_objs⟩, ⟨rfl, rfl⟩, trivial⟩ fun a94 h95 => ?_
            clear h92
            refine wpAnyK_two (i := 6) (j := 10) (fuel := 6) (by kernel_rfl) ?_ ?_
            ·
              obtain ⟨E96, r97, rk98, er99⟩ : ∃ a b c, retype0 C.ent ev.ty = (a, b, c) := ⟨_, _, _, rfl⟩
              refine op_call h95 rfl rfl rfl (callOk Tryd.func37 (by decide) rfl) (args := [.pointer (some ⟨bo, 0, none⟩), .int .u8 ev.ty]) rfl (retypeC_ok bo bc nd C ev.ty ⟨by omega, by omega⟩ _ h95.inv er99) ?_
              rintro _ w100 ⟨rfl, hcr102, hf101⟩
              refine ⟨_, rfl, ?_⟩
              obtain ⟨C104, eC104⟩ : ∃ C9, C9 = ({ C with ent := E96 } : CP) := ⟨_, rfl⟩
              rw [← eC104] at hcr102
              have pC104 : capF bo bc nd C104 = capF bo bc nd C := by rw [eC104]; rfl
              have h103 := (h95.callF hf101 (fun _ hb => hb) (fun b hb => .inl hb) (A' := fun w => CapAt w bo bc nd C104) (F' := capF bo bc nd C104) (kcons (fun _ => hdkb) (kcons (by intro hq; cases hq) (kcons (by intro hq; cases hq) knil))) hcr102 CapAt.stable hcr102.low (fun b hb => .inl (by rw [pC104] at hb; exact hb))).put (d := some 71) (v := .tuple #[.agg #[.int .u16 r97.idx, .int .u32 r97.gen], .int .u8 rk98]) (T' := [(71, .tuple #[.agg #[.int .u16 r97.idx, .int .u32 r97.gen], .int .u8 rk98]), (3, .pointer (some ⟨b2, 0, none⟩)), (0, .pointer (some ⟨kb, 0, none⟩)), (1, .agg #[.int .u8 ev.kind, .int .u32 ev.pick, .int .u64 ev.draw, .int .u32 ev.addr, .int .u32 ev.node, .int .u32 ev.dst, .int .u32 ev.xfer, .int .u8 ev.ty, .int .u64 ev.arg, .int .u64 ev.badge, .slice xo ev.ws.length cx]), (4, .int .u8 0), (6, .int .i64 fs14), (8, .int .i64 ls47), (7, .int .u8 lk48), (68, .pointer (some ⟨bo, 0, none⟩)), (70, .int .u8 ev.ty)]) rfl
              have hkh103 := h95.known
              refine ⟨keepNil, ?_⟩
              clear h95
              refine dr_batch tabOk tabZ_ok (by repeat (first | with_reducible exact PF.body | with_reducible apply PF.inB | with_reducible apply PF.next)) [(7, {}), (8, {}), (9, {})] [3, 0, 1, 4, 6, 8, 7, 72, 73] (T' := [(3, .pointer (some ⟨b2, 0, none⟩)), (0, .pointer (some ⟨kb, 0, none⟩)), (1, .agg #[.int .u8 ev.kind, .int .u32 ev.pick, .int .u64 ev.draw, .int .u32 ev.addr, .int .u32 ev.node, .int .u32 ev.dst, .int .u32 ev.xfer, .int .u8 ev.ty, .int .u64 ev.arg, .int .u64 ev.badge, .slice xo ev.ws.length cx]), (4, .int .u8 0), (6, .int .i64 fs14), (8, .int .i64 ls47), (7, .int .u8 lk48), (72, .agg #[.int .u16 r97.idx, .int .u32 r97.gen]), (73, .int .u8 rk98)]) (φ := True) (fuel := 3) h103 (by kernel_rfl) rfl (by kernel_rfl) (by kernel_rfl) ⟨trivial, trivial, trivial, trivial⟩ trivial fun a105 h106 => ?_
              clear h103
              refine wpAnyK_one (i := 10) (fuel := 2) (by kernel_rfl) ?_
              refine op_new tabOk (cells := [.int .u16 0, .int .u32 0]) (ty := 39) (ln := none) (L1 := fun b107 => [(kb, ⟨kC bo bc S, 90, true⟩), (b2, ⟨[.int .u8 ev.kind, .int .u32 ev.pick, .int .u64 ev.draw, .int .u32 ev.addr, .int .u32 ev.node, .int .u32 ev.dst, .int .u32 ev.xfer, .int .u8 ev.ty, .int .u64 ev.arg, .int .u64 ev.badge, .slice xo ev.ws.length cx], 35, false⟩), (b22, ⟨[.int .u8 fc13.ty, .int .u16 fc13.obj.idx, .int .u32 fc13.obj.gen, .int .u8 fc13.rights, .int .u64 fc13.badge], 49, false⟩), (b107, ⟨[.int .u16 0, .int .u32 0], 39, false⟩)]) h106 rfl rfl rfl rfl (by kernel_rfl) (fun _ => rfl) fun b107 w108 a109 h110 hf111 hn112 => ?_
              refine ⟨(h106.keepFr hf111 (kcons (by simp) (kcons (by simp) (kcons (by simp) knil)))), ?_⟩
              clear h106
              refine wpAnyK_one (i := 11) (fuel := 1) (by kernel_rfl) ?_
              refine op_store tabOk {k := 3} (L' := [(kb, ⟨kC bo bc S, 90, true⟩), (b2, ⟨[.int .u8 ev.kind, .int .u32 ev.pick, .int .u64 ev.draw, .int .u32 ev.addr, .int .u32 ev.node, .int .u32 ev.dst, .int .u32 ev.xfer, .int .u8 ev.ty, .int .u64 ev.arg, .int .u64 ev.badge, .slice xo ev.ws.length cx], 35, false⟩), (b22, ⟨[.int .u8 fc13.ty, .int .u16 fc13.obj.idx, .int .u32 fc13.obj.gen, .int .u8 fc13.rights, .int .u64 fc13.badge], 49, false⟩), (b107, ⟨[.int .u16 r97.idx, .int .u32 r97.gen], 39, false⟩)]) (φ := b107 = b107 ∧ Nat.ble (0 + 2) 2 = true) h110 rfl rfl rfl (by kernel_rfl) ⟨rfl, rfl⟩ fun w113 h114 => ?_
              have hkh114 := h110.known
              refine ⟨keepNil, ?_⟩
              clear h110
              refine dr_batch tabOk tabZ_ok (by repeat (first | with_reducible exact PF.body | with_reducible apply PF.inB | with_reducible apply PF.next)) [(12, {})] [9, 3, 0, 1, 4, 6, 8, 7] (T' := [(9, .pointer (some ⟨b107, 0, none⟩)), (3, .pointer (some ⟨b2, 0, none⟩)), (0, .pointer (some ⟨kb, 0, none⟩)), (1, .agg #[.int .u8 ev.kind, .int .u32 ev.pick, .int .u64 ev.draw, .int .u32 ev.addr, .int .u32 ev.node, .int .u32 ev.dst, .int .u32 ev.xfer, .int .u8 ev.ty, .int .u64 ev.arg, .int .u64 ev.badge, .slice xo ev.ws.length cx]), (4, .int .u8 0), (6, .int .i64 fs14), (8, .int .i64 ls47), (7, .int .u8 rk98)]) (φ := True) (fuel := 0) h114 (by kernel_rfl) rfl (by kernel_rfl) (by kernel_rfl) ⟨trivial, trivial⟩ trivial fun a115 h116 => ?_
              clear h114
              refine wpAnyK_done (by kernel_rfl) ?_ _
              refine hK90 _ _ ?_
              clear hK90
              refine wp_seq_k fun K117 hK117 => ?_
              refine wp_seq_k fun K118 hK118 => ?_
              refine nd_start (l := [0, 1]) rfl ?_
              refine nd_batch tabOk tabZ_ok [(0, {}), (1, {})] [9, 3, 0, 1, 4, 6, 8, 7, 75] (T' := [(9, .pointer (some ⟨b107, 0, none⟩)), (3, .pointer (some ⟨b2, 0, none⟩)), (0, .pointer (some ⟨kb, 0, none⟩)), (1, .agg #[.int .u8 ev.kind, .int .u32 ev.pick, .int .u64 ev.draw, .int .u32 ev.addr, .int .u32 ev.node, .int .u32 ev.dst, .int .u32 ev.xfer, .int .u8 ev.ty, .int .u64 ev.arg, .int .u64 ev.badge, .slice xo ev.ws.length cx]), (4, .int .u8 0), (6, .int .i64 fs14), (8, .int .i64 ls47), (7, .int .u8 rk98), (75, .bool (rk98 != 0))]) (φ := True) (rest := []) h116 (by kernel_rfl) rfl trivial fun a119 h120 => ?_
              clear h116
              refine nd_done ?_
              refine hK118 _ _ ?_
              clear hK118
              refine c_split h120 (b := (rk98 != 0)) rfl (fun hc121 => ?_) (fun hc121 => ?_)
              ·
                have hc121f : rk98 ≠ 0 := by simpa using hc121
                refine wp_seq_k fun K122 hK122 => ?_
                refine nd_start (l := [0, 1]) rfl ?_
                refine nd_batch tabOk tabZ_ok [(0, {}), (1, {})] [9, 3, 0, 1, 6, 8, 7, 4] (T' := [(9, .pointer (some ⟨b107, 0, none⟩)), (3, .pointer (some ⟨b2, 0, none⟩)), (0, .pointer (some ⟨kb, 0, none⟩)), (1, .agg #[.int .u8 ev.kind, .int .u32 ev.pick, .int .u64 ev.draw, .int .u32 ev.addr, .int .u32 ev.node, .int .u32 ev.dst, .int .u32 ev.xfer, .int .u8 ev.ty, .int .u64 ev.arg, .int .u64 ev.badge, .slice xo ev.ws.length cx]), (6, .int .i64 fs14), (8, .int .i64 ls47), (7, .int .u8 rk98), (4, .int .u8 rk98)]) (φ := True) (rest := []) h120 (by kernel_rfl) rfl trivial fun a123 h124 => ?_
                clear h120
                refine nd_done ?_
                refine hK122 _ _ ?_
                clear hK122
                refine wp_ret ?_
                try simp only [Exit.then, Exit.inBlock]
                try rw [if_pos trivial]
                exact s_ret tabOk tabZ_ok h124 [(.tmp 4, {})] (vs := [.int .u8 rk98]) (φ := True) rfl (by kernel_rfl) trivial (by rw [show retypeP S C ev = (C104, rk98) from (by unfold retypeP; (try dsimp only); rw [hfd16]; (try dsimp only); (first | rw [if_neg hc36f] | rw [if_neg (fun hz => hz hc36f)]); rw [el49]; (try dsimp only); (first | rw [if_neg hc60f] | rw [if_neg (fun hz => hz hc60f)]); (first | rw [if_neg hc73f] | rw [if_neg (fun hz => hz hc73f)]); rw [if_neg (fun hz => hz.elim hb78f hc86f)]; rw [er99]; (try dsimp only); (first | rw [if_pos hc121f] | rw [if_pos (fun hz => hz hc121f)]); rw [← eC104])]; exact ⟨rfl, nd, h124.inv, (fun x hx => .inl (by rw [pC104] at hx; exact hx)), h124.frame⟩)
              ·
                have hc121f : rk98 = 0 := by simpa using hc121
                have hri := retype0_idx er99 hc121f
                refine wp_skip ?_
                refine hK117 _ _ ?_
                clear hK117
                refine wp_seq_k fun K125 hK125 => ?_
                refine wp_seq_k fun K126 hK126 => ?_
                refine nd_start (l := [0, 1, 2]) rfl ?_
                refine nd_batch tabOk tabZ_ok [(0, {}), (1, {k := 1}), (2, {})] [9, 3, 0, 1, 4, 6, 8, 7, 79] (T' := [(9, .pointer (some ⟨b107, 0, none⟩)), (3, .pointer (some ⟨b2, 0, none⟩)), (0, .pointer (some ⟨kb, 0, none⟩)), (1, .agg #[.int .u8 ev.kind, .int .u32 ev.pick, .int .u64 ev.draw, .int .u32 ev.addr, .int .u32 ev.node, .int .u32 ev.dst, .int .u32 ev.xfer, .int .u8 ev.ty, .int .u64 ev.arg, .int .u64 ev.badge, .slice xo ev.ws.length cx]), (4, .int .u8 0), (6, .int .i64 fs14), (8, .int .i64 ls47), (7, .int .u8 rk98), (79, .bool (ev.ty == 2))]) (φ := (b2 = b2 ∧ Nat.ble (7 + 1) 11 = true) ∧ True) (rest := []) h120 (by kernel_rfl) rfl ⟨⟨rfl, rfl⟩, trivial⟩ fun a127 h128 => ?_
                clear h120
                refine nd_done ?_
                refine hK126 _ _ ?_
                clear hK126
                refine c_split h128 (b := (ev.ty == 2)) rfl (fun hc129 => ?_) (fun hc129 => ?_)
                ·
                  have hc129f : ev.ty = 2 := by simpa using hc129
                  refine dr_start (KB := [kb, b2, b22, b107]) (Bi := [[0, 1, 2, 3], [0, 1, 2, 3], [0, 1, 2, 3], [0, 1, 2, 3], [0, 1, 2, 3], []]) mixed h128 fun w130 h131 => ?_
                  clear h128
                  refine dr_batch tabOk tabZ_ok (by repeat (first | with_reducible exact PF.body | with_reducible apply PF.inB | with_reducible apply PF.next)) [(0, {}), (1, {}), (2, {}), (3, {k := 0, m := 1, vs := [.pointer (some ⟨bc, 0, none⟩)], p := 0}), (4, {k := 3, p := 3})] [9, 3, 0, 1, 4, 6, 8, 7, 83, 84] (T' := [(9, .pointer (some ⟨b107, 0, none⟩)), (3, .pointer (some ⟨b2, 0, none⟩)), (0, .pointer (some ⟨kb, 0, none⟩)), (1, .agg #[.int .u8 ev.kind, .int .u32 ev.pick, .int .u64 ev.draw, .int .u32 ev.addr, .int .u32 ev.node, .int .u32 ev.dst, .int .u32 ev.xfer, .int .u8 ev.ty, .int .u64 ev.arg, .int .u64 ev.badge, .slice xo ev.ws.length cx]), (4, .int .u8 0), (6, .int .i64 fs14), (8, .int .i64 ls47), (7, .int .u8 rk98), (83, .pointer (some ⟨bc, 0, none⟩)), (84, .agg #[.int .u16 r97.idx, .int .u32 r97.gen])]) (φ := (kb = kb ∧ cellsAre (kC bo bc S) 1 [.pointer (some ⟨bc, 0, none⟩)]) ∧ (b107 = b107 ∧ Nat.ble (0 + 2) 2 = true) ∧ True) (fuel := 1) h131 (by kernel_rfl) rfl (by kernel_rfl) (by kernel_rfl) ⟨trivial, trivial, trivial, rfl, rfl, trivial⟩ ⟨⟨rfl, k_caps⟩, ⟨rfl, rfl⟩, trivial⟩ fun a133 h134 => ?_
                  clear h131
                  refine wpAnyK_one (i := 5) (fuel := 0) (by kernel_rfl) ?_
                  refine op_call h134 rfl rfl rfl (callOk Tryd.func38 (by decide) rfl) (args := [.pointer (some ⟨bc, 0, none⟩), .agg #[.int .u16 r97.idx, .int .u32 r97.gen]]) rfl (addNode_ok bo bc nd C104 r97 hri _ h134.inv) ?_
                  rintro _ w137 ⟨rfl, nb135, hnb136, hcr139, hf138⟩
                  refine ⟨_, rfl, ?_⟩
                  obtain ⟨C141, eC141⟩ : ∃ C9, C9 = nodeP C104 r97.idx.toNat := ⟨_, rfl⟩
                  obtain ⟨nd142, end142⟩ : ∃ n9, n9 = upd nd r97.idx.toNat nb135 := ⟨_, rfl⟩
                  rw [← eC141, ← end142] at hcr139
                  have qC141 := capF_node (bo := bo) (bc := bc) (nd := nd) (C := C104) (i := r97.idx.toNat) hnb136
                  rw [← eC141, ← end142] at qC141
                  have h140 := (h134.callF hf138 (fun _ hb => hb) (fun b hb => .inl (by rw [pC104] at hb; exact hb)) (A' := fun w => CapAt w bo bc nd142 C141) (F' := capF bo bc nd142 C141) (kcons (fun _ => (by rw [pC104]; exact hdkb)) (kcons (by intro hq; cases hq) (kcons (by intro hq; cases hq) (kcons (by intro hq; cases hq) knil)))) hcr139 CapAt.stable hcr139.low qC141).put (d := some 85) (v := .tuple #[]) (T' := [(85, .tuple #[]), (9, .pointer (some ⟨b107, 0, none⟩)), (3, .pointer (some ⟨b2, 0, none⟩)), (0, .pointer (some ⟨kb, 0, none⟩)), (1, .agg #[.int .u8 ev.kind, .int .u32 ev.pick, .int .u64 ev.draw, .int .u32 ev.addr, .int .u32 ev.node, .int .u32 ev.dst, .int .u32 ev.xfer, .int .u8 ev.ty, .int .u64 ev.arg, .int .u64 ev.badge, .slice xo ev.ws.length cx]), (4, .int .u8 0), (6, .int .i64 fs14), (8, .int .i64 ls47), (7, .int .u8 rk98), (83, .pointer (some ⟨bc, 0, none⟩)), (84, .agg #[.int .u16 r97.idx, .int .u32 r97.gen])]) rfl
                  have hkh140 := h134.known
                  refine ⟨keepNil, ?_⟩
                  have zC141 : ∀ x ∈ capF bo bc nd142 C141, x ∈ capF bo bc nd C ∨ w.heap.size ≤ x := fun x hx => (qC141 x hx).elim (fun h => .inl (by rw [pC104] at h; exact h)) (fun h => .inr (Nat.le_trans h134.frame.size h))
                  have hpn := hlp64
                  have yC141 : C141.pres li64 = true := by rw [eC141, eC104]; simp only [nodeP, upd]; split; rfl; exact hpn
                  clear h134
                  refine wpAnyK_done (by kernel_rfl) ?_ _
                  refine hK125 _ _ ?_
                  clear hK125
                  refine wp_seq_k fun K143 hK143 => ?_
                  refine dr_start (KB := [kb, b2, b22, b107]) (Bi := [[0, 1, 2, 3], [0, 1, 2, 3], [0, 1, 2, 3], [0, 1, 2, 3], [0, 1, 2, 3], [0, 1, 2, 3], [0, 1, 2, 3], [0, 1, 2, 3], [0, 1, 2, 3], [0, 1, 2, 3], []]) mixed h140 fun w144 h145 => ?_
                  clear h140
                  refine dr_batch tabOk tabZ_ok (by repeat (first | with_reducible exact PF.body | with_reducible apply PF.inB | with_reducible apply PF.next)) [(0, {}), (1, {}), (2, {}), (3, {k := 0, m := 1, vs := [.pointer (some ⟨bc, 0, none⟩)], p := 0}), (4, {}), (5, {}), (6, {k := 1, p := 1}), (7, {k := 3, p := 3}), (8, {}), (9, {})] [9, 3, 0, 1, 4, 6, 8, 7, 89, 90, 94, 95] (T' := [(9, .pointer (some ⟨b107, 0, none⟩)), (3, .pointer (some ⟨b2, 0, none⟩)), (0, .pointer (some ⟨kb, 0, none⟩)), (1, .agg #[.int .u8 ev.kind, .int .u32 ev.pick, .int .u64 ev.draw, .int .u32 ev.addr, .int .u32 ev.node, .int .u32 ev.dst, .int .u32 ev.xfer, .int .u8 ev.ty, .int .u64 ev.arg, .int .u64 ev.badge, .slice xo ev.ws.length cx]), (4, .int .u8 0), (6, .int .i64 fs14), (8, .int .i64 ls47), (7, .int .u8 rk98), (89, .pointer (some ⟨bc, 0, none⟩)), (90, .int .i64 ls47), (94, .agg #[.int .u8 ev.ty, .int .u16 r97.idx, .int .u32 r97.gen, .int .u8 7, .int .u64 0]), (95, .int .i64 fs14)]) (φ := (kb = kb ∧ cellsAre (kC bo bc S) 1 [.pointer (some ⟨bc, 0, none⟩)]) ∧ (b2 = b2 ∧ Nat.ble (7 + 1) 11 = true) ∧ (b107 = b107 ∧ Nat.ble (0 + 2) 2 = true) ∧ True) (fuel := 1) h145 (by kernel_rfl) rfl (by kernel_rfl) (by kernel_rfl) ⟨trivial, trivial, trivial, rfl, trivial, trivial, rfl, rfl, trivial, trivial, trivial⟩ ⟨⟨rfl, k_caps⟩, ⟨rfl, rfl⟩, ⟨rfl, rfl⟩, trivial⟩ fun a147 h148 => ?_
                  clear h145
                  refine wpAnyK_one (i := 10) (fuel := 0) (by kernel_rfl) ?_
                  refine op_call h148 rfl rfl rfl (callOk Tryd.func40 (by decide) rfl) (args := [.pointer (some ⟨bc, 0, none⟩), .int .i64 ls47, .agg #[.int .u8 ev.ty, .int .u16 r97.idx, .int .u32 r97.gen, .int .u8 7, .int .u64 0], .int .i64 fs14]) rfl (insertE bo bc nd142 C141 hli64 hlj64 yC141 hls64 (⟨ev.ty, ⟨r97.idx, r97.gen⟩, 7, 0⟩ : Cp) fs14 _ h148.inv) ?_
                  rintro _ w149 ⟨rfl, hcr151, hf150⟩
                  refine ⟨_, rfl, ?_⟩
                  obtain ⟨C153, eC153⟩ : ∃ C9, C9 = ({ C141 with cel := upd C141.cel ls47.toNat ⟨(⟨ev.ty, ⟨r97.idx, r97.gen⟩, 7, 0⟩ : Cp), fs14⟩ } : CP) := ⟨_, rfl⟩
                  rw [← eC153] at hcr151
                  have pC153 : capF bo bc nd142 C153 = capF bo bc nd142 C141 := by rw [eC153]; rfl
                  have h152 := (h148.callF hf150 (fun _ hb => hb) zC141 (A' := fun w => CapAt w bo bc nd142 C153) (F' := capF bo bc nd142 C153) (kcons (fun _ => (fun hq => (zC141 kb hq).elim hdkb (fun h => by have := lt_of_heap hb; omega))) (kcons (by intro hq; cases hq) (kcons (by intro hq; cases hq) (kcons (by intro hq; cases hq) knil)))) hcr151 CapAt.stable hcr151.low (fun b hb => .inl (by rw [pC153] at hb; exact hb))).put (d := some 96) (v := .tuple #[]) (T' := [(96, .tuple #[]), (9, .pointer (some ⟨b107, 0, none⟩)), (3, .pointer (some ⟨b2, 0, none⟩)), (0, .pointer (some ⟨kb, 0, none⟩)), (1, .agg #[.int .u8 ev.kind, .int .u32 ev.pick, .int .u64 ev.draw, .int .u32 ev.addr, .int .u32 ev.node, .int .u32 ev.dst, .int .u32 ev.xfer, .int .u8 ev.ty, .int .u64 ev.arg, .int .u64 ev.badge, .slice xo ev.ws.length cx]), (4, .int .u8 0), (6, .int .i64 fs14), (8, .int .i64 ls47), (7, .int .u8 rk98), (89, .pointer (some ⟨bc, 0, none⟩)), (90, .int .i64 ls47), (94, .agg #[.int .u8 ev.ty, .int .u16 r97.idx, .int .u32 r97.gen, .int .u8 7, .int .u64 0]), (95, .int .i64 fs14)]) rfl
                  have hkh152 := h148.known
                  refine ⟨keepNil, ?_⟩
                  clear h148
                  refine wpAnyK_done (by kernel_rfl) ?_ _
                  refine hK143 _ _ ?_
                  clear hK143
                  refine wp_seq_k fun K154 hK154 => ?_
                  refine nd_start (l := [0]) rfl ?_
                  refine nd_batch tabOk tabZ_ok [(0, {})] [9, 3, 0, 1, 6, 8, 7, 4] (T' := [(9, .pointer (some ⟨b107, 0, none⟩)), (3, .pointer (some ⟨b2, 0, none⟩)), (0, .pointer (some ⟨kb, 0, none⟩)), (1, .agg #[.int .u8 ev.kind, .int .u32 ev.pick, .int .u64 ev.draw, .int .u32 ev.addr, .int .u32 ev.node, .int .u32 ev.dst, .int .u32 ev.xfer, .int .u8 ev.ty, .int .u64 ev.arg, .int .u64 ev.badge, .slice xo ev.ws.length cx]), (6, .int .i64 fs14), (8, .int .i64 ls47), (7, .int .u8 rk98), (4, .int .u8 0)]) (φ := True) (rest := []) h152 (by kernel_rfl) rfl trivial fun a155 h156 => ?_
                  clear h152
                  refine nd_done ?_
                  refine hK154 _ _ ?_
                  clear hK154
                  refine wp_ret ?_
                  try simp only [Exit.then, Exit.inBlock]
                  try rw [if_pos trivial]
                  exact s_ret tabOk tabZ_ok h156 [(.tmp 4, {})] (vs := [.int .u8 0]) (φ := True) rfl (by kernel_rfl) trivial (by rw [show retypeP S C ev = (C153, 0) from (by unfold retypeP; (try dsimp only); rw [hfd16]; (try dsimp only); (first | rw [if_neg hc36f] | rw [if_neg (fun hz => hz hc36f)]); rw [el49]; (try dsimp only); (first | rw [if_neg hc60f] | rw [if_neg (fun hz => hz hc60f)]); (first | rw [if_neg hc73f] | rw [if_neg (fun hz => hz hc73f)]); rw [if_neg (fun hz => hz.elim hb78f hc86f)]; rw [er99]; (try dsimp only); (first | rw [if_neg hc121f] | rw [if_neg (fun hz => hz hc121f)]); (first | rw [if_pos hc129f] | rw [if_pos (fun hz => hz hc129f)]); rw [eC153, eC141, eC104])]; exact ⟨rfl, nd142, h156.inv, (fun x hx => zC141 x (by rw [pC153] at hx; exact hx)), h156.frame⟩)
                ·
                  have hc129f : ev.ty ≠ 2 := by simpa using hc129
                  refine wp_skip ?_
                  refine hK125 _ _ ?_
                  clear hK125
                  refine wp_seq_k fun K157 hK157 => ?_
                  refine dr_start (KB := [kb, b2, b22, b107]) (Bi := [[0, 1, 2, 3], [0, 1, 2, 3], [0, 1, 2, 3], [0, 1, 2, 3], [0, 1, 2, 3], [0, 1, 2, 3], [0, 1, 2, 3], [0, 1, 2, 3], [0, 1, 2, 3], [0, 1, 2, 3], []]) mixed h128 fun w158 h159 => ?_
                  clear h128
                  refine dr_batch tabOk tabZ_ok (by repeat (first | with_reducible exact PF.body | with_reducible apply PF.inB | with_reducible apply PF.next)) [(0, {}), (1, {}), (2, {}), (3, {k := 0, m := 1, vs := [.pointer (some ⟨bc, 0, none⟩)], p := 0}), (4, {}), (5, {}), (6, {k := 1, p := 1}), (7, {k := 3, p := 3}), (8, {}), (9, {})] [9, 3, 0, 1, 4, 6, 8, 7, 89, 90, 94, 95] (T' := [(9, .pointer (some ⟨b107, 0, none⟩)), (3, .pointer (some ⟨b2, 0, none⟩)), (0, .pointer (some ⟨kb, 0, none⟩)), (1, .agg #[.int .u8 ev.kind, .int .u32 ev.pick, .int .u64 ev.draw, .int .u32 ev.addr, .int .u32 ev.node, .int .u32 ev.dst, .int .u32 ev.xfer, .int .u8 ev.ty, .int .u64 ev.arg, .int .u64 ev.badge, .slice xo ev.ws.length cx]), (4, .int .u8 0), (6, .int .i64 fs14), (8, .int .i64 ls47), (7, .int .u8 rk98), (89, .pointer (some ⟨bc, 0, none⟩)), (90, .int .i64 ls47), (94, .agg #[.int .u8 ev.ty, .int .u16 r97.idx, .int .u32 r97.gen, .int .u8 7, .int .u64 0]), (95, .int .i64 fs14)]) (φ := (kb = kb ∧ cellsAre (kC bo bc S) 1 [.pointer (some ⟨bc, 0, none⟩)]) ∧ (b2 = b2 ∧ Nat.ble (7 + 1) 11 = true) ∧ (b107 = b107 ∧ Nat.ble (0 + 2) 2 = true) ∧ True) (fuel := 1) h159 (by kernel_rfl) rfl (by kernel_rfl) (by kernel_rfl) ⟨trivial, trivial, trivial, rfl, trivial, trivial, rfl, rfl, trivial, trivial, trivial⟩ ⟨⟨rfl, k_caps⟩, ⟨rfl, rfl⟩, ⟨rfl, rfl⟩, trivial⟩ fun a161 h162 => ?_
                  clear h159
                  refine wpAnyK_one (i := 10) (fuel := 0) (by kernel_rfl) ?_
                  refine op_call h162 rfl rfl rfl (callOk Tryd.func40 (by decide) rfl) (args := [.pointer (some ⟨bc, 0, none⟩), .int .i64 ls47, .agg #[.int .u8 ev.ty, .int .u16 r97.idx, .int .u32 r97.gen, .int .u8 7, .int .u64 0], .int .i64 fs14]) rfl (insertE bo bc nd C104 hli64 hlj64 (by rw [eC104]; exact hlp64) hls64 (⟨ev.ty, ⟨r97.idx, r97.gen⟩, 7, 0⟩ : Cp) fs14 _ h162.inv) ?_
                  rintro _ w163 ⟨rfl, hcr165, hf164⟩
                  refine ⟨_, rfl, ?_⟩
                  obtain ⟨C167, eC167⟩ : ∃ C9, C9 = ({ C104 with cel := upd C104.cel ls47.toNat ⟨(⟨ev.ty, ⟨r97.idx, r97.gen⟩, 7, 0⟩ : Cp), fs14⟩ } : CP) := ⟨_, rfl⟩
                  rw [← eC167] at hcr165
                  have pC167 : capF bo bc nd C167 = capF bo bc nd C104 := by rw [eC167]; rfl
                  have h166 := (h162.callF hf164 (fun _ hb => hb) (fun x hx => .inl (by rw [pC104] at hx; exact hx)) (A' := fun w => CapAt w bo bc nd C167) (F' := capF bo bc nd C167) (kcons (fun _ => (by rw [pC104]; exact hdkb)) (kcons (by intro hq; cases hq) (kcons (by intro hq; cases hq) (kcons (by intro hq; cases hq) knil)))) hcr165 CapAt.stable hcr165.low (fun b hb => .inl (by rw [pC167] at hb; exact hb))).put (d := some 96) (v := .tuple #[]) (T' := [(96, .tuple #[]), (9, .pointer (some ⟨b107, 0, none⟩)), (3, .pointer (some ⟨b2, 0, none⟩)), (0, .pointer (some ⟨kb, 0, none⟩)), (1, .agg #[.int .u8 ev.kind, .int .u32 ev.pick, .int .u64 ev.draw, .int .u32 ev.addr, .int .u32 ev.node, .int .u32 ev.dst, .int .u32 ev.xfer, .int .u8 ev.ty, .int .u64 ev.arg, .int .u64 ev.badge, .slice xo ev.ws.length cx]), (4, .int .u8 0), (6, .int .i64 fs14), (8, .int .i64 ls47), (7, .int .u8 rk98), (89, .pointer (some ⟨bc, 0, none⟩)), (90, .int .i64 ls47), (94, .agg #[.int .u8 ev.ty, .int .u16 r97.idx, .int .u32 r97.gen, .int .u8 7, .int .u64 0]), (95, .int .i64 fs14)]) rfl
                  have hkh166 := h162.known
                  refine ⟨keepNil, ?_⟩
                  clear h162
                  refine wpAnyK_done (by kernel_rfl) ?_ _
                  refine hK157 _ _ ?_
                  clear hK157
                  refine wp_seq_k fun K168 hK168 => ?_
                  refine nd_start (l := [0]) rfl ?_
                  refine nd_batch tabOk tabZ_ok [(0, {})] [9, 3, 0, 1, 6, 8, 7, 4] (T' := [(9, .pointer (some ⟨b107, 0, none⟩)), (3, .pointer (some ⟨b2, 0, none⟩)), (0, .pointer (some ⟨kb, 0, none⟩)), (1, .agg #[.int .u8 ev.kind, .int .u32 ev.pick, .int .u64 ev.draw, .int .u32 ev.addr, .int .u32 ev.node, .int .u32 ev.dst, .int .u32 ev.xfer, .int .u8 ev.ty, .int .u64 ev.arg, .int .u64 ev.badge, .slice xo ev.ws.length cx]), (6, .int .i64 fs14), (8, .int .i64 ls47), (7, .int .u8 rk98), (4, .int .u8 0)]) (φ := True) (rest := []) h166 (by kernel_rfl) rfl trivial fun a169 h170 => ?_
                  clear h166
                  refine nd_done ?_
                  refine hK168 _ _ ?_
                  clear hK168
                  refine wp_ret ?_
                  try simp only [Exit.then, Exit.inBlock]
                  try rw [if_pos trivial]
                  exact s_ret tabOk tabZ_ok h170 [(.tmp 4, {})] (vs := [.int .u8 0]) (φ := True) rfl (by kernel_rfl) trivial (by rw [show retypeP S C ev = (C167, 0) from (by unfold retypeP; (try dsimp only); rw [hfd16]; (try dsimp only); (first | rw [if_neg hc36f] | rw [if_neg (fun hz => hz hc36f)]); rw [el49]; (try dsimp only); (first | rw [if_neg hc60f] | rw [if_neg (fun hz => hz hc60f)]); (first | rw [if_neg hc73f] | rw [if_neg (fun hz => hz hc73f)]); rw [if_neg (fun hz => hz.elim hb78f hc86f)]; rw [er99]; (try dsimp only); (first | rw [if_neg hc121f] | rw [if_neg (fun hz => hz hc121f)]); (first | rw [if_neg hc129f] | rw [if_neg (fun hz => hz hc129f)]); rw [eC167, eC104])]; exact ⟨rfl, nd, h170.inv, (fun x hx => .inl (by rw [pC167] at hx; rw [pC104] at hx; exact hx)), h170.frame⟩)
            ·
              refine op_new tabOk (cells := [.int .u16 0, .int .u32 0]) (ty := 39) (ln := none) (L1 := fun b171 => [(kb, ⟨kC bo bc S, 90, true⟩), (b2, ⟨[.int .u8 ev.kind, .int .u32 ev.pick, .int .u64 ev.draw, .int .u32 ev.addr, .int .u32 ev.node, .int .u32 ev.dst, .int .u32 ev.xfer, .int .u8 ev.ty, .int .u64 ev.arg, .int .u64 ev.badge, .slice xo ev.ws.length cx], 35, false⟩), (b22, ⟨[.int .u8 fc13.ty, .int .u16 fc13.obj.idx, .int .u32 fc13.obj.gen, .int .u8 fc13.rights, .int .u64 fc13.badge], 49, false⟩), (b171, ⟨[.int .u16 0, .int .u32 0], 39, false⟩)]) h95 rfl rfl rfl rfl (by kernel_rfl) (fun _ => rfl) fun b171 w172 a173 h174 hf175 hn176 => ?_
              refine ⟨(h95.keepFr hf175 (kcons (by simp) (kcons (by simp) (kcons (by simp) knil)))), ?_⟩
              clear h95
              refine wpAnyK_one (i := 6) (fuel := 5) (by kernel_rfl) ?_
              obtain ⟨E177, r178, rk179, er180⟩ : ∃ a b c, retype0 C.ent ev.ty = (a, b, c) := ⟨_, _, _, rfl⟩
              refine op_call h174 rfl rfl rfl (callOk Tryd.func37 (by decide) rfl) (args := [.pointer (some ⟨bo, 0, none⟩), .int .u8 ev.ty]) rfl (retypeC_ok bo bc nd C ev.ty ⟨by omega, by omega⟩ _ h174.inv er180) ?_
              rintro _ w181 ⟨rfl, hcr183, hf182⟩
              refine ⟨_, rfl, ?_⟩
              obtain ⟨C185, eC185⟩ : ∃ C9, C9 = ({ C with ent := E177 } : CP) := ⟨_, rfl⟩
              rw [← eC185] at hcr183
              have pC185 : capF bo bc nd C185 = capF bo bc nd C := by rw [eC185]; rfl
              have h184 := (h174.callF hf182 (fun _ hb => hb) (fun b hb => .inl hb) (A' := fun w => CapAt w bo bc nd C185) (F' := capF bo bc nd C185) (kcons (fun _ => hdkb) (kcons (by intro hq; cases hq) (kcons (by intro hq; cases hq) (kcons (by intro hq; cases hq) knil)))) hcr183 CapAt.stable hcr183.low (fun b hb => .inl (by rw [pC185] at hb; exact hb))).put (d := some 71) (v := .tuple #[.agg #[.int .u16 r178.idx, .int .u32 r178.gen], .int .u8 rk179]) (T' := [(71, .tuple #[.agg #[.int .u16 r178.idx, .int .u32 r178.gen], .int .u8 rk179]), (9, .pointer (some ⟨b171, 0, none⟩)), (3, .pointer (some ⟨b2, 0, none⟩)), (0, .pointer (some ⟨kb, 0, none⟩)), (1, .agg #[.int .u8 ev.kind, .int .u32 ev.pick, .int .u64 ev.draw, .int .u32 ev.addr, .int .u32 ev.node, .int .u32 ev.dst, .int .u32 ev.xfer, .int .u8 ev.ty, .int .u64 ev.arg, .int .u64 ev.badge, .slice xo ev.ws.length cx]), (4, .int .u8 0), (6, .int .i64 fs14), (8, .int .i64 ls47), (7, .int .u8 lk48), (68, .pointer (some ⟨bo, 0, none⟩)), (70, .int .u8 ev.ty)]) rfl
              have hkh184 := h174.known
              refine ⟨keepNil, ?_⟩
              clear h174
              refine dr_batch tabOk tabZ_ok (by repeat (first | with_reducible exact PF.body | with_reducible apply PF.inB | with_reducible apply PF.next)) [(7, {}), (8, {}), (9, {})] [9, 3, 0, 1, 4, 6, 8, 7, 72, 73] (T' := [(9, .pointer (some ⟨b171, 0, none⟩)), (3, .pointer (some ⟨b2, 0, none⟩)), (0, .pointer (some ⟨kb, 0, none⟩)), (1, .agg #[.int .u8 ev.kind, .int .u32 ev.pick, .int .u64 ev.draw, .int .u32 ev.addr, .int .u32 ev.node, .int .u32 ev.dst, .int .u32 ev.xfer, .int .u8 ev.ty, .int .u64 ev.arg, .int .u64 ev.badge, .slice xo ev.ws.length cx]), (4, .int .u8 0), (6, .int .i64 fs14), (8, .int .i64 ls47), (7, .int .u8 lk48), (72, .agg #[.int .u16 r178.idx, .int .u32 r178.gen]), (73, .int .u8 rk179)]) (φ := True) (fuel := 2) h184 (by kernel_rfl) rfl (by kernel_rfl) (by kernel_rfl) ⟨trivial, trivial, trivial, trivial⟩ trivial fun a186 h187 => ?_
              clear h184
              refine wpAnyK_one (i := 11) (fuel := 1) (by kernel_rfl) ?_
              refine op_store tabOk {k := 3} (L' := [(kb, ⟨kC bo bc S, 90, true⟩), (b2, ⟨[.int .u8 ev.kind, .int .u32 ev.pick, .int .u64 ev.draw, .int .u32 ev.addr, .int .u32 ev.node, .int .u32 ev.dst, .int .u32 ev.xfer, .int .u8 ev.ty, .int .u64 ev.arg, .int .u64 ev.badge, .slice xo ev.ws.length cx], 35, false⟩), (b22, ⟨[.int .u8 fc13.ty, .int .u16 fc13.obj.idx, .int .u32 fc13.obj.gen, .int .u8 fc13.rights, .int .u64 fc13.badge], 49, false⟩), (b171, ⟨[.int .u16 r178.idx, .int .u32 r178.gen], 39, false⟩)]) (φ := b171 = b171 ∧ Nat.ble (0 + 2) 2 = true) h187 rfl rfl rfl (by kernel_rfl) ⟨rfl, rfl⟩ fun w188 h189 => ?_
              have hkh189 := h187.known
              refine ⟨keepNil, ?_⟩
              clear h187
              refine dr_batch tabOk tabZ_ok (by repeat (first | with_reducible exact PF.body | with_reducible apply PF.inB | with_reducible apply PF.next)) [(12, {})] [9, 3, 0, 1, 4, 6, 8, 7] (T' := [(9, .pointer (some ⟨b171, 0, none⟩)), (3, .pointer (some ⟨b2, 0, none⟩)), (0, .pointer (some ⟨kb, 0, none⟩)), (1, .agg #[.int .u8 ev.kind, .int .u32 ev.pick, .int .u64 ev.draw, .int .u32 ev.addr, .int .u32 ev.node, .int .u32 ev.dst, .int .u32 ev.xfer, .int .u8 ev.ty, .int .u64 ev.arg, .int .u64 ev.badge, .slice xo ev.ws.length cx]), (4, .int .u8 0), (6, .int .i64 fs14), (8, .int .i64 ls47), (7, .int .u8 rk179)]) (φ := True) (fuel := 0) h189 (by kernel_rfl) rfl (by kernel_rfl) (by kernel_rfl) ⟨trivial, trivial⟩ trivial fun a190 h191 => ?_
              clear h189
              refine wpAnyK_done (by kernel_rfl) ?_ _
              refine hK90 _ _ ?_
              clear hK90
              refine wp_seq_k fun K192 hK192 => ?_
              refine wp_seq_k fun K193 hK193 => ?_
              refine nd_start (l := [0, 1]) rfl ?_
              refine nd_batch tabOk tabZ_ok [(0, {}), (1, {})] [9, 3, 0, 1, 4, 6, 8, 7, 75] (T' := [(9, .pointer (some ⟨b171, 0, none⟩)), (3, .pointer (some ⟨b2, 0, none⟩)), (0, .pointer (some ⟨kb, 0, none⟩)), (1, .agg #[.int .u8 ev.kind, .int .u32 ev.pick, .int .u64 ev.draw, .int .u32 ev.addr, .int .u32 ev.node, .int .u32 ev.dst, .int .u32 ev.xfer, .int .u8 ev.ty, .int .u64 ev.arg, .int .u64 ev.badge, .slice xo ev.ws.length cx]), (4, .int .u8 0), (6, .int .i64 fs14), (8, .int .i64 ls47), (7, .int .u8 rk179), (75, .bool (rk179 != 0))]) (φ := True) (rest := []) h191 (by kernel_rfl) rfl trivial fun a194 h195 => ?_
              clear h191
              refine nd_done ?_
              refine hK193 _ _ ?_
              clear hK193
              refine c_split h195 (b := (rk179 != 0)) rfl (fun hc196 => ?_) (fun hc196 => ?_)
              ·
                have hc196f : rk179 ≠ 0 := by simpa using hc196
                refine wp_seq_k fun K197 hK197 => ?_
                refine nd_start (l := [0, 1]) rfl ?_
                refine nd_batch tabOk tabZ_ok [(0, {}), (1, {})] [9, 3, 0, 1, 6, 8, 7, 4] (T' := [(9, .pointer (some ⟨b171, 0, none⟩)), (3, .pointer (some ⟨b2, 0, none⟩)), (0, .pointer (some ⟨kb, 0, none⟩)), (1, .agg #[.int .u8 ev.kind, .int .u32 ev.pick, .int .u64 ev.draw, .int .u32 ev.addr, .int .u32 ev.node, .int .u32 ev.dst, .int .u32 ev.xfer, .int .u8 ev.ty, .int .u64 ev.arg, .int .u64 ev.badge, .slice xo ev.ws.length cx]), (6, .int .i64 fs14), (8, .int .i64 ls47), (7, .int .u8 rk179), (4, .int .u8 rk179)]) (φ := True) (rest := []) h195 (by kernel_rfl) rfl trivial fun a198 h199 => ?_
                clear h195
                refine nd_done ?_
                refine hK197 _ _ ?_
                clear hK197
                refine wp_ret ?_
                try simp only [Exit.then, Exit.inBlock]
                try rw [if_pos trivial]
                exact s_ret tabOk tabZ_ok h199 [(.tmp 4, {})] (vs := [.int .u8 rk179]) (φ := True) rfl (by kernel_rfl) trivial (by rw [show retypeP S C ev = (C185, rk179) from (by unfold retypeP; (try dsimp only); rw [hfd16]; (try dsimp only); (first | rw [if_neg hc36f] | rw [if_neg (fun hz => hz hc36f)]); rw [el49]; (try dsimp only); (first | rw [if_neg hc60f] | rw [if_neg (fun hz => hz hc60f)]); (first | rw [if_neg hc73f] | rw [if_neg (fun hz => hz hc73f)]); rw [if_neg (fun hz => hz.elim hb78f hc86f)]; rw [er180]; (try dsimp only); (first | rw [if_pos hc196f] | rw [if_pos (fun hz => hz hc196f)]); rw [← eC185])]; exact ⟨rfl, nd, h199.inv, (fun x hx => .inl (by rw [pC185] at hx; exact hx)), h199.frame⟩)
              ·
                have hc196f : rk179 = 0 := by simpa using hc196
                have hri := retype0_idx er180 hc196f
                refine wp_skip ?_
                refine hK192 _ _ ?_
                clear hK192
                refine wp_seq_k fun K200 hK200 => ?_
                refine wp_seq_k fun K201 hK201 => ?_
                refine nd_start (l := [0, 1, 2]) rfl ?_
                refine nd_batch tabOk tabZ_ok [(0, {}), (1, {k := 1}), (2, {})] [9, 3, 0, 1, 4, 6, 8, 7, 79] (T' := [(9, .pointer (some ⟨b171, 0, none⟩)), (3, .pointer (some ⟨b2, 0, none⟩)), (0, .pointer (some ⟨kb, 0, none⟩)), (1, .agg #[.int .u8 ev.kind, .int .u32 ev.pick, .int .u64 ev.draw, .int .u32 ev.addr, .int .u32 ev.node, .int .u32 ev.dst, .int .u32 ev.xfer, .int .u8 ev.ty, .int .u64 ev.arg, .int .u64 ev.badge, .slice xo ev.ws.length cx]), (4, .int .u8 0), (6, .int .i64 fs14), (8, .int .i64 ls47), (7, .int .u8 rk179), (79, .bool (ev.ty == 2))]) (φ := (b2 = b2 ∧ Nat.ble (7 + 1) 11 = true) ∧ True) (rest := []) h195 (by kernel_rfl) rfl ⟨⟨rfl, rfl⟩, trivial⟩ fun a202 h203 => ?_
                clear h195
                refine nd_done ?_
                refine hK201 _ _ ?_
                clear hK201
                refine c_split h203 (b := (ev.ty == 2)) rfl (fun hc204 => ?_) (fun hc204 => ?_)
                ·
                  have hc204f : ev.ty = 2 := by simpa using hc204
                  refine dr_start (KB := [kb, b2, b22, b171]) (Bi := [[0, 1, 2, 3], [0, 1, 2, 3], [0, 1, 2, 3], [0, 1, 2, 3], [0, 1, 2, 3], []]) mixed h203 fun w205 h206 => ?_
                  clear h203
                  refine dr_batch tabOk tabZ_ok (by repeat (first | with_reducible exact PF.body | with_reducible apply PF.inB | with_reducible apply PF.next)) [(0, {}), (1, {}), (2, {}), (3, {k := 0, m := 1, vs := [.pointer (some ⟨bc, 0, none⟩)], p := 0}), (4, {k := 3, p := 3})] [9, 3, 0, 1, 4, 6, 8, 7, 83, 84] (T' := [(9, .pointer (some ⟨b171, 0, none⟩)), (3, .pointer (some ⟨b2, 0, none⟩)), (0, .pointer (some ⟨kb, 0, none⟩)), (1, .agg #[.int .u8 ev.kind, .int .u32 ev.pick, .int .u64 ev.draw, .int .u32 ev.addr, .int .u32 ev.node, .int .u32 ev.dst, .int .u32 ev.xfer, .int .u8 ev.ty, .int .u64 ev.arg, .int .u64 ev.badge, .slice xo ev.ws.length cx]), (4, .int .u8 0), (6, .int .i64 fs14), (8, .int .i64 ls47), (7, .int .u8 rk179), (83, .pointer (some ⟨bc, 0, none⟩)), (84, .agg #[.int .u16 r178.idx, .int .u32 r178.gen])]) (φ := (kb = kb ∧ cellsAre (kC bo bc S) 1 [.pointer (some ⟨bc, 0, none⟩)]) ∧ (b171 = b171 ∧ Nat.ble (0 + 2) 2 = true) ∧ True) (fuel := 1) h206 (by kernel_rfl) rfl (by kernel_rfl) (by kernel_rfl) ⟨trivial, trivial, trivial, rfl, rfl, trivial⟩ ⟨⟨rfl, k_caps⟩, ⟨rfl, rfl⟩, trivial⟩ fun a208 h209 => ?_
                  clear h206
                  refine wpAnyK_one (i := 5) (fuel := 0) (by kernel_rfl) ?_
                  refine op_call h209 rfl rfl rfl (callOk Tryd.func38 (by decide) rfl) (args := [.pointer (some ⟨bc, 0, none⟩), .agg #[.int .u16 r178.idx, .int .u32 r178.gen]]) rfl (addNode_ok bo bc nd C185 r178 hri _ h209.inv) ?_
                  rintro _ w212 ⟨rfl, nb210, hnb211, hcr214, hf213⟩
                  refine ⟨_, rfl, ?_⟩
                  obtain ⟨C216, eC216⟩ : ∃ C9, C9 = nodeP C185 r178.idx.toNat := ⟨_, rfl⟩
                  obtain ⟨nd217, end217⟩ : ∃ n9, n9 = upd nd r178.idx.toNat nb210 := ⟨_, rfl⟩
                  rw [← eC216, ← end217] at hcr214
                  have qC216 := capF_node (bo := bo) (bc := bc) (nd := nd) (C := C185) (i := r178.idx.toNat) hnb211
                  rw [← eC216, ← end217] at qC216
                  have h215 := (h209.callF hf213 (fun _ hb => hb) (fun b hb => .inl (by rw [pC185] at hb; exact hb)) (A' := fun w => CapAt w bo bc nd217 C216) (F' := capF bo bc nd217 C216) (kcons (fun _ => (by rw [pC185]; exact hdkb)) (kcons (by intro hq; cases hq) (kcons (by intro hq; cases hq) (kcons (by intro hq; cases hq) knil)))) hcr214 CapAt.stable hcr214.low qC216).put (d := some 85) (v := .tuple #[]) (T' := [(85, .tuple #[]), (9, .pointer (some ⟨b171, 0, none⟩)), (3, .pointer (some ⟨b2, 0, none⟩)), (0, .pointer (some ⟨kb, 0, none⟩)), (1, .agg #[.int .u8 ev.kind, .int .u32 ev.pick, .int .u64 ev.draw, .int .u32 ev.addr, .int .u32 ev.node, .int .u32 ev.dst, .int .u32 ev.xfer, .int .u8 ev.ty, .int .u64 ev.arg, .int .u64 ev.badge, .slice xo ev.ws.length cx]), (4, .int .u8 0), (6, .int .i64 fs14), (8, .int .i64 ls47), (7, .int .u8 rk179), (83, .pointer (some ⟨bc, 0, none⟩)), (84, .agg #[.int .u16 r178.idx, .int .u32 r178.gen])]) rfl
                  have hkh215 := h209.known
                  refine ⟨keepNil, ?_⟩
                  have zC216 : ∀ x ∈ capF bo bc nd217 C216, x ∈ capF bo bc nd C ∨ w.heap.size ≤ x := fun x hx => (qC216 x hx).elim (fun h => .inl (by rw [pC185] at h; exact h)) (fun h => .inr (Nat.le_trans h209.frame.size h))
                  have hpn := hlp64
                  have yC216 : C216.pres li64 = true := by rw [eC216, eC185]; simp only [nodeP, upd]; split; rfl; exact hpn
                  clear h209
                  refine wpAnyK_done (by kernel_rfl) ?_ _
                  refine hK200 _ _ ?_
                  clear hK200
                  refine wp_seq_k fun K218 hK218 => ?_
                  refine dr_start (KB := [kb, b2, b22, b171]) (Bi := [[0, 1, 2, 3], [0, 1, 2, 3], [0, 1, 2, 3], [0, 1, 2, 3], [0, 1, 2, 3], [0, 1, 2, 3], [0, 1, 2, 3], [0, 1, 2, 3], [0, 1, 2, 3], [0, 1, 2, 3], []]) mixed h215 fun w219 h220 => ?_
                  clear h215
                  refine dr_batch tabOk tabZ_ok (by repeat (first | with_reducible exact PF.body | with_reducible apply PF.inB | with_reducible apply PF.next)) [(0, {}), (1, {}), (2, {}), (3, {k := 0, m := 1, vs := [.pointer (some ⟨bc, 0, none⟩)], p := 0}), (4, {}), (5, {}), (6, {k := 1, p := 1}), (7, {k := 3, p := 3}), (8, {}), (9, {})] [9, 3, 0, 1, 4, 6, 8, 7, 89, 90, 94, 95] (T' := [(9, .pointer (some ⟨b171, 0, none⟩)), (3, .pointer (some ⟨b2, 0, none⟩)), (0, .pointer (some ⟨kb, 0, none⟩)), (1, .agg #[.int .u8 ev.kind, .int .u32 ev.pick, .int .u64 ev.draw, .int .u32 ev.addr, .int .u32 ev.node, .int .u32 ev.dst, .int .u32 ev.xfer, .int .u8 ev.ty, .int .u64 ev.arg, .int .u64 ev.badge, .slice xo ev.ws.length cx]), (4, .int .u8 0), (6, .int .i64 fs14), (8, .int .i64 ls47), (7, .int .u8 rk179), (89, .pointer (some ⟨bc, 0, none⟩)), (90, .int .i64 ls47), (94, .agg #[.int .u8 ev.ty, .int .u16 r178.idx, .int .u32 r178.gen, .int .u8 7, .int .u64 0]), (95, .int .i64 fs14)]) (φ := (kb = kb ∧ cellsAre (kC bo bc S) 1 [.pointer (some ⟨bc, 0, none⟩)]) ∧ (b2 = b2 ∧ Nat.ble (7 + 1) 11 = true) ∧ (b171 = b171 ∧ Nat.ble (0 + 2) 2 = true) ∧ True) (fuel := 1) h220 (by kernel_rfl) rfl (by kernel_rfl) (by kernel_rfl) ⟨trivial, trivial, trivial, rfl, trivial, trivial, rfl, rfl, trivial, trivial, trivial⟩ ⟨⟨rfl, k_caps⟩, ⟨rfl, rfl⟩, ⟨rfl, rfl⟩, trivial⟩ fun a222 h223 => ?_
                  clear h220
                  refine wpAnyK_one (i := 10) (fuel := 0) (by kernel_rfl) ?_
                  refine op_call h223 rfl rfl rfl (callOk Tryd.func40 (by decide) rfl) (args := [.pointer (some ⟨bc, 0, none⟩), .int .i64 ls47, .agg #[.int .u8 ev.ty, .int .u16 r178.idx, .int .u32 r178.gen, .int .u8 7, .int .u64 0], .int .i64 fs14]) rfl (insertE bo bc nd217 C216 hli64 hlj64 yC216 hls64 (⟨ev.ty, ⟨r178.idx, r178.gen⟩, 7, 0⟩ : Cp) fs14 _ h223.inv) ?_
                  rintro _ w224 ⟨rfl, hcr226, hf225⟩
                  refine ⟨_, rfl, ?_⟩
                  obtain ⟨C228, eC228⟩ : ∃ C9, C9 = ({ C216 with cel := upd C216.cel ls47.toNat ⟨(⟨ev.ty, ⟨r178.idx, r178.gen⟩, 7, 0⟩ : Cp), fs14⟩ } : CP) := ⟨_, rfl⟩
                  rw [← eC228] at hcr226
                  have pC228 : capF bo bc nd217 C228 = capF bo bc nd217 C216 := by rw [eC228]; rfl
                  have h227 := (h223.callF hf225 (fun _ hb => hb) zC216 (A' := fun w => CapAt w bo bc nd217 C228) (F' := capF bo bc nd217 C228) (kcons (fun _ => (fun hq => (zC216 kb hq).elim hdkb (fun h => by have := lt_of_heap hb; omega))) (kcons (by intro hq; cases hq) (kcons (by intro hq; cases hq) (kcons (by intro hq; cases hq) knil)))) hcr226 CapAt.stable hcr226.low (fun b hb => .inl (by rw [pC228] at hb; exact hb))).put (d := some 96) (v := .tuple #[]) (T' := [(96, .tuple #[]), (9, .pointer (some ⟨b171, 0, none⟩)), (3, .pointer (some ⟨b2, 0, none⟩)), (0, .pointer (some ⟨kb, 0, none⟩)), (1, .agg #[.int .u8 ev.kind, .int .u32 ev.pick, .int .u64 ev.draw, .int .u32 ev.addr, .int .u32 ev.node, .int .u32 ev.dst, .int .u32 ev.xfer, .int .u8 ev.ty, .int .u64 ev.arg, .int .u64 ev.badge, .slice xo ev.ws.length cx]), (4, .int .u8 0), (6, .int .i64 fs14), (8, .int .i64 ls47), (7, .int .u8 rk179), (89, .pointer (some ⟨bc, 0, none⟩)), (90, .int .i64 ls47), (94, .agg #[.int .u8 ev.ty, .int .u16 r178.idx, .int .u32 r178.gen, .int .u8 7, .int .u64 0]), (95, .int .i64 fs14)]) rfl
                  have hkh227 := h223.known
                  refine ⟨keepNil, ?_⟩
                  clear h223
                  refine wpAnyK_done (by kernel_rfl) ?_ _
                  refine hK218 _ _ ?_
                  clear hK218
                  refine wp_seq_k fun K229 hK229 => ?_
                  refine nd_start (l := [0]) rfl ?_
                  refine nd_batch tabOk tabZ_ok [(0, {})] [9, 3, 0, 1, 6, 8, 7, 4] (T' := [(9, .pointer (some ⟨b171, 0, none⟩)), (3, .pointer (some ⟨b2, 0, none⟩)), (0, .pointer (some ⟨kb, 0, none⟩)), (1, .agg #[.int .u8 ev.kind, .int .u32 ev.pick, .int .u64 ev.draw, .int .u32 ev.addr, .int .u32 ev.node, .int .u32 ev.dst, .int .u32 ev.xfer, .int .u8 ev.ty, .int .u64 ev.arg, .int .u64 ev.badge, .slice xo ev.ws.length cx]), (6, .int .i64 fs14), (8, .int .i64 ls47), (7, .int .u8 rk179), (4, .int .u8 0)]) (φ := True) (rest := []) h227 (by kernel_rfl) rfl trivial fun a230 h231 => ?_
                  clear h227
                  refine nd_done ?_
                  refine hK229 _ _ ?_
                  clear hK229
                  refine wp_ret ?_
                  try simp only [Exit.then, Exit.inBlock]
                  try rw [if_pos trivial]
                  exact s_ret tabOk tabZ_ok h231 [(.tmp 4, {})] (vs := [.int .u8 0]) (φ := True) rfl (by kernel_rfl) trivial (by rw [show retypeP S C ev = (C228, 0) from (by unfold retypeP; (try dsimp only); rw [hfd16]; (try dsimp only); (first | rw [if_neg hc36f] | rw [if_neg (fun hz => hz hc36f)]); rw [el49]; (try dsimp only); (first | rw [if_neg hc60f] | rw [if_neg (fun hz => hz hc60f)]); (first | rw [if_neg hc73f] | rw [if_neg (fun hz => hz hc73f)]); rw [if_neg (fun hz => hz.elim hb78f hc86f)]; rw [er180]; (try dsimp only); (first | rw [if_neg hc196f] | rw [if_neg (fun hz => hz hc196f)]); (first | rw [if_pos hc204f] | rw [if_pos (fun hz => hz hc204f)]); rw [eC228, eC216, eC185])]; exact ⟨rfl, nd217, h231.inv, (fun x hx => zC216 x (by rw [pC228] at hx; exact hx)), h231.frame⟩)
                ·
                  have hc204f : ev.ty ≠ 2 := by simpa using hc204
                  refine wp_skip ?_
                  refine hK200 _ _ ?_
                  clear hK200
                  refine wp_seq_k fun K232 hK232 => ?_
                  refine dr_start (KB := [kb, b2, b22, b171]) (Bi := [[0, 1, 2, 3], [0, 1, 2, 3], [0, 1, 2, 3], [0, 1, 2, 3], [0, 1, 2, 3], [0, 1, 2, 3], [0, 1, 2, 3], [0, 1, 2, 3], [0, 1, 2, 3], [0, 1, 2, 3], []]) mixed h203 fun w233 h234 => ?_
                  clear h203
                  refine dr_batch tabOk tabZ_ok (by repeat (first | with_reducible exact PF.body | with_reducible apply PF.inB | with_reducible apply PF.next)) [(0, {}), (1, {}), (2, {}), (3, {k := 0, m := 1, vs := [.pointer (some ⟨bc, 0, none⟩)], p := 0}), (4, {}), (5, {}), (6, {k := 1, p := 1}), (7, {k := 3, p := 3}), (8, {}), (9, {})] [9, 3, 0, 1, 4, 6, 8, 7, 89, 90, 94, 95] (T' := [(9, .pointer (some ⟨b171, 0, none⟩)), (3, .pointer (some ⟨b2, 0, none⟩)), (0, .pointer (some ⟨kb, 0, none⟩)), (1, .agg #[.int .u8 ev.kind, .int .u32 ev.pick, .int .u64 ev.draw, .int .u32 ev.addr, .int .u32 ev.node, .int .u32 ev.dst, .int .u32 ev.xfer, .int .u8 ev.ty, .int .u64 ev.arg, .int .u64 ev.badge, .slice xo ev.ws.length cx]), (4, .int .u8 0), (6, .int .i64 fs14), (8, .int .i64 ls47), (7, .int .u8 rk179), (89, .pointer (some ⟨bc, 0, none⟩)), (90, .int .i64 ls47), (94, .agg #[.int .u8 ev.ty, .int .u16 r178.idx, .int .u32 r178.gen, .int .u8 7, .int .u64 0]), (95, .int .i64 fs14)]) (φ := (kb = kb ∧ cellsAre (kC bo bc S) 1 [.pointer (some ⟨bc, 0, none⟩)]) ∧ (b2 = b2 ∧ Nat.ble (7 + 1) 11 = true) ∧ (b171 = b171 ∧ Nat.ble (0 + 2) 2 = true) ∧ True) (fuel := 1) h234 (by kernel_rfl) rfl (by kernel_rfl) (by kernel_rfl) ⟨trivial, trivial, trivial, rfl, trivial, trivial, rfl, rfl, trivial, trivial, trivial⟩ ⟨⟨rfl, k_caps⟩, ⟨rfl, rfl⟩, ⟨rfl, rfl⟩, trivial⟩ fun a236 h237 => ?_
                  clear h234
                  refine wpAnyK_one (i := 10) (fuel := 0) (by kernel_rfl) ?_
                  refine op_call h237 rfl rfl rfl (callOk Tryd.func40 (by decide) rfl) (args := [.pointer (some ⟨bc, 0, none⟩), .int .i64 ls47, .agg #[.int .u8 ev.ty, .int .u16 r178.idx, .int .u32 r178.gen, .int .u8 7, .int .u64 0], .int .i64 fs14]) rfl (insertE bo bc nd C185 hli64 hlj64 (by rw [eC185]; exact hlp64) hls64 (⟨ev.ty, ⟨r178.idx, r178.gen⟩, 7, 0⟩ : Cp) fs14 _ h237.inv) ?_
                  rintro _ w238 ⟨rfl, hcr240, hf239⟩
                  refine ⟨_, rfl, ?_⟩
                  obtain ⟨C242, eC242⟩ : ∃ C9, C9 = ({ C185 with cel := upd C185.cel ls47.toNat ⟨(⟨ev.ty, ⟨r178.idx, r178.gen⟩, 7, 0⟩ : Cp), fs14⟩ } : CP) := ⟨_, rfl⟩
                  rw [← eC242] at hcr240
                  have pC242 : capF bo bc nd C242 = capF bo bc nd C185 := by rw [eC242]; rfl
                  have h241 := (h237.callF hf239 (fun _ hb => hb) (fun x hx => .inl (by rw [pC185] at hx; exact hx)) (A' := fun w => CapAt w bo bc nd C242) (F' := capF bo bc nd C242) (kcons (fun _ => (by rw [pC185]; exact hdkb)) (kcons (by intro hq; cases hq) (kcons (by intro hq; cases hq) (kcons (by intro hq; cases hq) knil)))) hcr240 CapAt.stable hcr240.low (fun b hb => .inl (by rw [pC242] at hb; exact hb))).put (d := some 96) (v := .tuple #[]) (T' := [(96, .tuple #[]), (9, .pointer (some ⟨b171, 0, none⟩)), (3, .pointer (some ⟨b2, 0, none⟩)), (0, .pointer (some ⟨kb, 0, none⟩)), (1, .agg #[.int .u8 ev.kind, .int .u32 ev.pick, .int .u64 ev.draw, .int .u32 ev.addr, .int .u32 ev.node, .int .u32 ev.dst, .int .u32 ev.xfer, .int .u8 ev.ty, .int .u64 ev.arg, .int .u64 ev.badge, .slice xo ev.ws.length cx]), (4, .int .u8 0), (6, .int .i64 fs14), (8, .int .i64 ls47), (7, .int .u8 rk179), (89, .pointer (some ⟨bc, 0, none⟩)), (90, .int .i64 ls47), (94, .agg #[.int .u8 ev.ty, .int .u16 r178.idx, .int .u32 r178.gen, .int .u8 7, .int .u64 0]), (95, .int .i64 fs14)]) rfl
                  have hkh241 := h237.known
                  refine ⟨keepNil, ?_⟩
                  clear h237
                  refine wpAnyK_done (by kernel_rfl) ?_ _
                  refine hK232 _ _ ?_
                  clear hK232
                  refine wp_seq_k fun K243 hK243 => ?_
                  refine nd_start (l := [0]) rfl ?_
                  refine nd_batch tabOk tabZ_ok [(0, {})] [9, 3, 0, 1, 6, 8, 7, 4] (T' := [(9, .pointer (some ⟨b171, 0, none⟩)), (3, .pointer (some ⟨b2, 0, none⟩)), (0, .pointer (some ⟨kb, 0, none⟩)), (1, .agg #[.int .u8 ev.kind, .int .u32 ev.pick, .int .u64 ev.draw, .int .u32 ev.addr, .int .u32 ev.node, .int .u32 ev.dst, .int .u32 ev.xfer, .int .u8 ev.ty, .int .u64 ev.arg, .int .u64 ev.badge, .slice xo ev.ws.length cx]), (6, .int .i64 fs14), (8, .int .i64 ls47), (7, .int .u8 rk179), (4, .int .u8 0)]) (φ := True) (rest := []) h241 (by kernel_rfl) rfl trivial fun a244 h245 => ?_
                  clear h241
                  refine nd_done ?_
                  refine hK243 _ _ ?_
                  clear hK243
                  refine wp_ret ?_
                  try simp only [Exit.then, Exit.inBlock]
                  try rw [if_pos trivial]
                  exact s_ret tabOk tabZ_ok h245 [(.tmp 4, {})] (vs := [.int .u8 0]) (φ := True) rfl (by kernel_rfl) trivial (by rw [show retypeP S C ev = (C242, 0) from (by unfold retypeP; (try dsimp only); rw [hfd16]; (try dsimp only); (first | rw [if_neg hc36f] | rw [if_neg (fun hz => hz hc36f)]); rw [el49]; (try dsimp only); (first | rw [if_neg hc60f] | rw [if_neg (fun hz => hz hc60f)]); (first | rw [if_neg hc73f] | rw [if_neg (fun hz => hz hc73f)]); rw [if_neg (fun hz => hz.elim hb78f hc86f)]; rw [er180]; (try dsimp only); (first | rw [if_neg hc196f] | rw [if_neg (fun hz => hz hc196f)]); (first | rw [if_neg hc204f] | rw [if_neg (fun hz => hz hc204f)]); rw [eC242, eC185])]; exact ⟨rfl, nd, h245.inv, (fun x hx => .inl (by rw [pC242] at hx; rw [pC185] at hx; exact hx)), h245.frame⟩)

end Go.Proofs.Qxb6500918aDoor
