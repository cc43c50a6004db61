/-
  syscall. (Made by program: a symbolic walk that prints its steps.)
-/
import Derived.Test.Qxb6500918aDoorKP
import Derived.Test.Qxb6500918aDoorLb
namespace Go.Proofs.Qxb6500918aDoor
open Go.Sx Go.Kn
set_option maxRecDepth 100000
set_option maxHeartbeats 4000000
set_option linter.unusedVariables false
set_option linter.unusedSimpArgs false

theorem capF_pres {bo bc : Nat} {nd : Nat → Nat} {C C' : CP} (h : C'.pres = C.pres) : capF bo bc nd C' = capF bo bc nd C := by unfold capF; rw [h]
theorem deliver_pres {S : KP} {C : CP} {f t : Int} : (deliverP S C f t).2.pres = C.pres := by
  unfold deliverP; dsimp only
  split
  · rfl
  · split
    · split <;> rfl
    · rfl
theorem send_capF {bo bc : Nat} {nd : Nat → Nat} {S : KP} {C : CP} {ev : Ev} : capF bo bc nd (sendP S C ev).2.1 = capF bo bc nd C := by
  refine capF_pres ?_
  unfold sendP; dsimp only
  split
  · rfl
  · split
    · rfl
    · split
      · rfl
      · exact deliver_pres
theorem recv_capF {bo bc : Nat} {nd : Nat → Nat} {S : KP} {C : CP} {ev : Ev} {ou : Outp} : capF bo bc nd (recvP S C ev ou).2.1 = capF bo bc nd C := by
  refine capF_pres ?_
  unfold recvP; dsimp only
  split
  · rfl
  · split
    · rfl
    · exact deliver_pres
theorem copy_capF {bo bc : Nat} {nd : Nat → Nat} {S : KP} {C : CP} {ev : Ev} : capF bo bc nd (copyCapP S C ev).1 = capF bo bc nd C := by
  refine capF_pres ?_
  unfold copyCapP; dsimp only
  split
  · rfl
  · split
    · rfl
    · split <;> rfl

theorem sys_ok (kb bo bc : Nat) (nd : Nat → Nat) (S : KP) (rS : RI S) (C : CP) (lS : LI S) (hC : CI C) (hcur : 0 ≤ S.cur ∧ S.cur < 256) (ev : Ev) (he : EvOk ev) (xo : Option Addr) (cx : Nat) (bt : Nat) (hkt : kb ≠ bt) (ou : Outp) (w : World) (hb : w.heap[kb]? = some (Blk.obj ⟨kC bo bc S, 90, false⟩)) (hc : CapAt w bo bc nd C) (hdkb : kb ∉ capF bo bc nd C) (ho : w.heap[bt]? = some (Blk.obj ⟨outC ou, 42, false⟩)) (hdbt : bt ∉ capF bo bc nd C) (hg : CellsAt w 1 0 (tcbC noT)) (hgs : 1 < w.heap.size) (hgk : 1 ≠ kb) (hgc : 1 ∉ capF bo bc nd C) (hgt : 1 ≠ bt) (hws : WordsAt (bt :: kb :: capF bo bc nd C) w xo ev.ws) :
    Calls Tryd.prog 49 #[.pointer (some ⟨kb, 0, none⟩), .agg #[.int .u8 ev.kind, .int .u32 ev.pick, .int .u64 ev.draw, .int .u32 ev.addr, .int .u32 ev.node, .int .u32 ev.dst, .int .u32 ev.xfer, .int .u8 ev.ty, .int .u64 ev.arg, .int .u64 ev.badge, .slice xo ev.ws.length cx], .pointer (some ⟨bt, 0, none⟩)] w fun e w' => e = .returned (.int .u8 (sysP S C ev ou).2.2.2) ∧ w'.heap[kb]? = some (Blk.obj ⟨kC bo bc (sysP S C ev ou).1, 90, false⟩) ∧ w'.heap[bt]? = some (Blk.obj ⟨outC (sysP S C ev ou).2.2.1, 42, false⟩) ∧ ∃ nd', CapAt w' bo bc nd' (sysP S C ev ou).2.1 ∧ (∀ x ∈ capF bo bc nd' (sysP S C ev ou).2.1, x ∈ capF bo bc nd C ∨ w.heap.size ≤ x) ∧ Fr (bt :: kb :: capF bo bc nd C) w w' := by
  refine enter (n := 115) (K := (bt :: kb :: capF bo bc nd C)) (A := fun w => CapAt w bo bc nd C) (F := (capF bo bc nd C)) (T := [(0, .pointer (some ⟨kb, 0, none⟩)), (1, .agg #[.int .u8 ev.kind, .int .u32 ev.pick, .int .u64 ev.draw, .int .u32 ev.addr, .int .u32 ev.node, .int .u32 ev.dst, .int .u32 ev.xfer, .int .u8 ev.ty, .int .u64 ev.arg, .int .u64 ev.badge, .slice xo ev.ws.length cx]), (2, .pointer (some ⟨bt, 0, none⟩))]) (L := [(kb, ⟨kC bo bc S, 90, false⟩), (bt, ⟨outC ou, 42, false⟩)]) (args := [.pointer (some ⟨kb, 0, none⟩), .agg #[.int .u8 ev.kind, .int .u32 ev.pick, .int .u64 ev.draw, .int .u32 ev.addr, .int .u32 ev.node, .int .u32 ev.dst, .int .u32 ev.xfer, .int .u8 ev.ty, .int .u64 ev.arg, .int .u64 ev.badge, .slice xo ev.ws.length cx], .pointer (some ⟨bt, 0, none⟩)]) Tryd.func49 rfl rfl rfl rfl (kcons hb (kcons ho knil)) (by simp; exact hkt) (kcons (fun _ => by simp) (kcons (fun _ => by simp) knil)) hc CapAt.stable hc.low (kcons (fun _ => hdkb) (kcons (fun _ => hdbt) knil)) ?_
  intro a h
  refine wp_seq_k fun K1 hK1 => ?_
  refine nd_start (l := [0, 1]) rfl ?_
  refine nd_op ?_
  refine op_new tabOk (cells := [.int .u8 ev.kind, .int .u32 ev.pick, .int .u64 ev.draw, .int .u32 ev.addr, .int .u32 ev.node, .int .u32 ev.dst, .int .u32 ev.xfer, .int .u8 ev.ty, .int .u64 ev.arg, .int .u64 ev.badge, .slice xo ev.ws.length cx]) (ty := 35) (ln := none) (L1 := fun b2 => [(kb, ⟨kC bo bc S, 90, false⟩), (bt, ⟨outC ou, 42, false⟩), (b2, ⟨[.int .u8 ev.kind, .int .u32 ev.pick, .int .u64 ev.draw, .int .u32 ev.addr, .int .u32 ev.node, .int .u32 ev.dst, .int .u32 ev.xfer, .int .u8 ev.ty, .int .u64 ev.arg, .int .u64 ev.badge, .slice xo ev.ws.length cx], 35, false⟩)]) h rfl rfl rfl rfl (by kernel_rfl) (fun _ => rfl) fun b2 w3 a4 h5 hf6 hn7 => ?_
  clear h
  refine nd_batch tabOk tabZ_ok [(1, {})] [4, 0, 1, 2, 6] (T' := [(4, .pointer (some ⟨b2, 0, none⟩)), (0, .pointer (some ⟨kb, 0, none⟩)), (1, .agg #[.int .u8 ev.kind, .int .u32 ev.pick, .int .u64 ev.draw, .int .u32 ev.addr, .int .u32 ev.node, .int .u32 ev.dst, .int .u32 ev.xfer, .int .u8 ev.ty, .int .u64 ev.arg, .int .u64 ev.badge, .slice xo ev.ws.length cx]), (2, .pointer (some ⟨bt, 0, none⟩)), (6, .int .u8 0)]) (φ := True) (rest := []) h5 (by kernel_rfl) rfl trivial fun a8 h9 => ?_
  clear h5
  refine nd_done ?_
  refine hK1 _ _ ?_
  clear hK1
  refine wp_seq_k fun K10 hK10 => ?_
  refine wp_seq_k fun K11 hK11 => ?_
  refine nd_start (l := [0, 1]) rfl ?_
  refine nd_batch tabOk tabZ_ok [(0, {}), (1, {k := 2})] [4, 0, 1, 2, 6, 11] (T' := [(4, .pointer (some ⟨b2, 0, none⟩)), (0, .pointer (some ⟨kb, 0, none⟩)), (1, .agg #[.int .u8 ev.kind, .int .u32 ev.pick, .int .u64 ev.draw, .int .u32 ev.addr, .int .u32 ev.node, .int .u32 ev.dst, .int .u32 ev.xfer, .int .u8 ev.ty, .int .u64 ev.arg, .int .u64 ev.badge, .slice xo ev.ws.length cx]), (2, .pointer (some ⟨bt, 0, none⟩)), (6, .int .u8 0), (11, .int .u8 ev.kind)]) (φ := (b2 = b2 ∧ Nat.ble (0 + 1) 11 = true) ∧ True) (rest := []) h9 (by kernel_rfl) rfl ⟨⟨rfl, rfl⟩, trivial⟩ fun a12 h13 => ?_
  clear h9
  refine nd_done ?_
  refine hK11 _ _ ?_
  clear hK11
  refine wp_block ?_
  refine wp_seq_k fun K14 hK14 => ?_
  refine nd_start (l := [0, 1]) rfl ?_
  refine nd_batch tabOk tabZ_ok [(0, {}), (1, {})] [4, 0, 1, 2, 6, 11, 15] (T' := [(4, .pointer (some ⟨b2, 0, none⟩)), (0, .pointer (some ⟨kb, 0, none⟩)), (1, .agg #[.int .u8 ev.kind, .int .u32 ev.pick, .int .u64 ev.draw, .int .u32 ev.addr, .int .u32 ev.node, .int .u32 ev.dst, .int .u32 ev.xfer, .int .u8 ev.ty, .int .u64 ev.arg, .int .u64 ev.badge, .slice xo ev.ws.length cx]), (2, .pointer (some ⟨bt, 0, none⟩)), (6, .int .u8 0), (11, .int .u8 ev.kind), (15, .bool (ev.kind == 2))]) (φ := True) (rest := []) h13 (by kernel_rfl) rfl trivial fun a15 h16 => ?_
  clear h13
  refine nd_done ?_
  refine hK14 _ _ ?_
  clear hK14
  refine c_split h16 (b := (ev.kind == 2)) rfl (fun hc17 => ?_) (fun hc17 => ?_)
  ·
    have hc17f : ev.kind = 2 := by simpa using hc17
    refine nd_start (l := [0, 1, 2, 3, 4, 5]) rfl ?_
    refine nd_batch tabOk tabZ_ok [(0, {}), (1, {}), (2, {}), (3, {}), (4, {k := 0, m := 1, vs := [.int .i16 S.cur]})] [4, 0, 1, 2, 6, 11, 17, 21] (T' := [(4, .pointer (some ⟨b2, 0, none⟩)), (0, .pointer (some ⟨kb, 0, none⟩)), (1, .agg #[.int .u8 ev.kind, .int .u32 ev.pick, .int .u64 ev.draw, .int .u32 ev.addr, .int .u32 ev.node, .int .u32 ev.dst, .int .u32 ev.xfer, .int .u8 ev.ty, .int .u64 ev.arg, .int .u64 ev.badge, .slice xo ev.ws.length cx]), (2, .pointer (some ⟨bt, 0, none⟩)), (6, .int .u8 0), (11, .int .u8 ev.kind), (17, .pointer (some ⟨kb, 0, none⟩)), (21, .int .i16 S.cur)]) (φ := (kb = kb ∧ cellsAre (kC bo bc S) 6427 [.int .i16 S.cur]) ∧ True) (rest := [5]) h16 (by kernel_rfl) rfl ⟨⟨rfl, k_cur⟩, trivial⟩ fun a18 h19 => ?_
    clear h16
    refine nd_op ?_
    refine op_call h19 rfl rfl rfl (callOk Tryd.func47 (by decide) rfl) (args := [.pointer (some ⟨kb, 0, none⟩), .int .i16 S.cur]) rfl (wake_ok kb bo bc S rS S.cur hcur _ (h19.kn (k := 0) (blk := ⟨kC bo bc S, 90, false⟩) rfl)) ?_
    rintro _ w20 ⟨rfl, hk9, hf9⟩
    refine ⟨_, rfl, ?_⟩
    have hfr9 : Fr (bt :: kb :: capF bo bc nd C) w w20 := h19.frame.trans hf9 (fun b hb => .inl (by simp at hb; subst hb; simp))
    have h21 := ((h19.as (L' := []) (List.nil_sublist _) (A' := fun _ => True) (F' := []) trivial (fun _ _ _ _ => trivial) (fun _ hq => by cases hq) knil).jump hfr9).put (d := some 22) (v := .tuple #[]) (T' := [(22, .tuple #[]), (4, .pointer (some ⟨b2, 0, none⟩)), (0, .pointer (some ⟨kb, 0, none⟩)), (1, .agg #[.int .u8 ev.kind, .int .u32 ev.pick, .int .u64 ev.draw, .int .u32 ev.addr, .int .u32 ev.node, .int .u32 ev.dst, .int .u32 ev.xfer, .int .u8 ev.ty, .int .u64 ev.arg, .int .u64 ev.badge, .slice xo ev.ws.length cx]), (2, .pointer (some ⟨bt, 0, none⟩)), (6, .int .u8 0), (11, .int .u8 ev.kind), (17, .pointer (some ⟨kb, 0, none⟩)), (21, .int .i16 S.cur)]) rfl
    have hkb9 : w20.heap[kb]? = some (Blk.obj ⟨kC bo bc (wakeP S S.cur), 90, false⟩) := hk9
    have hbt9 : w20.heap[bt]? = some (Blk.obj ⟨outC ou, 42, false⟩) := (by rw [hf9.block bt (lt_of_heap (h19.kn (k := 1) (blk := ⟨outC ou, 42, false⟩) rfl)) (by simp; exact hkt.symm)]; exact (h19.kn (k := 1) (blk := ⟨outC ou, 42, false⟩) rfl))
    have hcp9 : CapAt w20 bo bc nd C := h19.inv.fr hf9 (fun b9 hb9 hq => by simp at hq; subst hq; exact hdkb hb9)
    have hsub9 : ∀ x ∈ capF bo bc nd C, x ∈ capF bo bc nd C ∨ w.heap.size ≤ x := fun _ hq => .inl hq
    clear h19
    refine nd_done ?_
    refine hK10 _ _ ?_
    clear hK10
    refine wp_seq_k fun K22 hK22 => ?_
    refine nd_start (l := [0]) rfl ?_
    refine nd_batch tabOk tabZ_ok [(0, {})] [4, 0, 1, 2, 11, 6] (T' := [(4, .pointer (some ⟨b2, 0, none⟩)), (0, .pointer (some ⟨kb, 0, none⟩)), (1, .agg #[.int .u8 ev.kind, .int .u32 ev.pick, .int .u64 ev.draw, .int .u32 ev.addr, .int .u32 ev.node, .int .u32 ev.dst, .int .u32 ev.xfer, .int .u8 ev.ty, .int .u64 ev.arg, .int .u64 ev.badge, .slice xo ev.ws.length cx]), (2, .pointer (some ⟨bt, 0, none⟩)), (11, .int .u8 ev.kind), (6, .int .u8 0)]) (φ := True) (rest := []) h21 (by kernel_rfl) rfl trivial fun a23 h24 => ?_
    clear h21
    refine nd_done ?_
    refine hK22 _ _ ?_
    clear hK22
    refine wp_ret ?_
    try simp only [Exit.then, Exit.inBlock]
    try rw [if_pos trivial]
    exact s_ret tabOk tabZ_ok h24 [(.tmp 6, {})] (vs := [.int .u8 0]) (φ := True) rfl (by kernel_rfl) trivial (by rw [show sysP S C ev ou = (wakeP S S.cur, C, ou, 0) from (by unfold sysP; (try dsimp only); (first | rw [if_pos hc17f] | rw [if_pos (fun hz => hz hc17f)]))]; exact ⟨rfl, hkb9, hbt9, nd, hcp9, hsub9, hfr9⟩)
  ·
    have hc17f : ev.kind ≠ 2 := by simpa using hc17
    refine wp_seq_k fun K25 hK25 => ?_
    refine nd_start (l := [0, 1]) rfl ?_
    refine nd_batch tabOk tabZ_ok [(0, {}), (1, {})] [4, 0, 1, 2, 6, 11, 23] (T' := [(4, .pointer (some ⟨b2, 0, none⟩)), (0, .pointer (some ⟨kb, 0, none⟩)), (1, .agg #[.int .u8 ev.kind, .int .u32 ev.pick, .int .u64 ev.draw, .int .u32 ev.addr, .int .u32 ev.node, .int .u32 ev.dst, .int .u32 ev.xfer, .int .u8 ev.ty, .int .u64 ev.arg, .int .u64 ev.badge, .slice xo ev.ws.length cx]), (2, .pointer (some ⟨bt, 0, none⟩)), (6, .int .u8 0), (11, .int .u8 ev.kind), (23, .bool (ev.kind == 3))]) (φ := True) (rest := []) h16 (by kernel_rfl) rfl trivial fun a26 h27 => ?_
    clear h16
    refine nd_done ?_
    refine hK25 _ _ ?_
    clear hK25
    refine c_split h27 (b := (ev.kind == 3)) rfl (fun hc28 => ?_) (fun hc28 => ?_)
    ·
      have hc28f : ev.kind = 3 := by simpa using hc28
      refine wp_seq_k fun K29 hK29 => ?_
      refine dr_start (KB := [kb, bt, b2]) (Bi := [[0, 1, 2], [0, 1, 2], [0, 1, 2], [0, 1, 2], [0, 1, 2], [0, 1, 2], [0, 1, 2], [0, 1, 2], [0, 1, 2], [0, 1, 2], [0, 1, 2], [0, 1, 2], [0, 1, 2], [0, 1, 2], [0, 1, 2], [0, 1, 2], [0, 1, 2], [0, 1, 2], [], [0, 1, 2], [0, 1, 2], [0, 1, 2], [0, 1, 2], [0, 1, 2], []]) mixed h27 fun w30 h31 => ?_
      clear h27
      refine dr_batch tabOk tabZ_ok (by repeat (first | with_reducible exact PF.body | with_reducible apply PF.inB | with_reducible apply PF.next)) [(0, {}), (1, {}), (2, {}), (3, {}), (4, {k := 0, m := 1, vs := [.int .i16 S.cur], p := 0}), (5, {}), (6, {}), (7, {}), (8, {}), (9, {k := 0, m := 1, vs := [.int .i16 S.cur], p := 0}), (10, {}), (11, {k := 2, p := 2}), (12, {}), (13, {}), (14, {}), (15, {}), (16, {}), (17, {}), (19, {}), (20, {})] [4, 0, 1, 2, 6, 11, 34, 37, 42, 44] (T' := [(4, .pointer (some ⟨b2, 0, none⟩)), (0, .pointer (some ⟨kb, 0, none⟩)), (1, .agg #[.int .u8 ev.kind, .int .u32 ev.pick, .int .u64 ev.draw, .int .u32 ev.addr, .int .u32 ev.node, .int .u32 ev.dst, .int .u32 ev.xfer, .int .u8 ev.ty, .int .u64 ev.arg, .int .u64 ev.badge, .slice xo ev.ws.length cx]), (2, .pointer (some ⟨bt, 0, none⟩)), (6, .int .u8 0), (11, .int .u8 ev.kind), (34, .int .i16 S.cur), (37, .agg #[.int .u64 ev.draw, .int .u64 0, .int .u64 0, .int .u64 0]), (42, .pointer (some ⟨kb, 2 + (S.cur.toNat * 21) + 9, none⟩)), (44, .pointer (some ⟨kb, 2, none⟩))]) (φ := (kb = kb ∧ cellsAre (kC bo bc S) 6427 [.int .i16 S.cur]) ∧ (kb = kb ∧ cellsAre (kC bo bc S) 6427 [.int .i16 S.cur]) ∧ (b2 = b2 ∧ Nat.ble (2 + 1) 11 = true) ∧ (0 ≤ S.cur ∧ S.cur < 256) ∧ True) (fuel := 5) h31 (by kernel_rfl) rfl (by kernel_rfl) (by kernel_rfl) ⟨trivial, trivial, trivial, trivial, rfl, trivial, trivial, trivial, trivial, rfl, trivial, rfl, trivial, trivial, trivial, trivial, trivial, trivial, trivial, trivial, trivial⟩ ⟨⟨rfl, k_cur⟩, ⟨rfl, k_cur⟩, ⟨rfl, rfl⟩, ⟨by omega, by omega⟩, trivial⟩ fun a33 h34 => ?_
      clear h31
      refine wpAnyK_one (i := 18) (fuel := 4) (by kernel_rfl) ?_
      refine op_store tabOk {k := 0, m := 1, vs := kC bo bc (S.setT S.cur.toNat { S.tcb S.cur.toNat with m0 := ev.draw, m1 := 0, m2 := 0, m3 := 0 })} (L' := [(kb, ⟨kC bo bc (S.setT S.cur.toNat { S.tcb S.cur.toNat with m0 := ev.draw, m1 := 0, m2 := 0, m3 := 0 }), 90, false⟩), (bt, ⟨outC ou, 42, false⟩), (b2, ⟨[.int .u8 ev.kind, .int .u32 ev.pick, .int .u64 ev.draw, .int .u32 ev.addr, .int .u32 ev.node, .int .u32 ev.dst, .int .u32 ev.xfer, .int .u8 ev.ty, .int .u64 ev.arg, .int .u64 ev.badge, .slice xo ev.ws.length cx], 35, false⟩)]) (φ := kb = kb ∧ Nat.ble (2 + (S.cur.toNat * 21) + 9 + 4) (kC bo bc S).length = true ∧ splice (kC bo bc S) (2 + (S.cur.toNat * 21) + 9) [.int .u64 ev.draw, .int .u64 0, .int .u64 0, .int .u64 0] = kC bo bc (S.setT S.cur.toNat { S.tcb S.cur.toNat with m0 := ev.draw, m1 := 0, m2 := 0, m3 := 0 })) h34 rfl rfl rfl (by kernel_rfl) ⟨rfl, k_in (by omega), (k_tcb_w (i := S.cur.toNat) (k := 9) (by omega) (Nat.le_of_ble_eq_true rfl) (by omega) rfl)⟩ fun w36 h37 => ?_
      obtain ⟨S35, eS35⟩ : ∃ S9, S9 = (S.setT S.cur.toNat { S.tcb S.cur.toNat with m0 := ev.draw, m1 := 0, m2 := 0, m3 := 0 }) := ⟨_, rfl⟩
      rw [← eS35] at h37
      have rS35 : RI S35 := by rw [eS35]; exact rS.setT ⟨(rS.t (i := S.cur.toNat) (by omega)).nx, (rS.t (i := S.cur.toNat) (by omega)).pv, (rS.t (i := S.cur.toNat) (by omega)).pr, (rS.t (i := S.cur.toNat) (by omega)).wi, (rS.t (i := S.cur.toNat) (by omega)).ci, (rS.t (i := S.cur.toNat) (by omega)).ri, (rS.t (i := S.cur.toNat) (by omega)).ds⟩
      have hkh37 := h34.known
      refine ⟨keepNil, ?_⟩
      clear h34
      refine dr_batch tabOk tabZ_ok (by repeat (first | with_reducible exact PF.body | with_reducible apply PF.inB | with_reducible apply PF.next)) [(21, {}), (22, {}), (23, {})] [4, 0, 1, 2, 6, 11, 47] (T' := [(4, .pointer (some ⟨b2, 0, none⟩)), (0, .pointer (some ⟨kb, 0, none⟩)), (1, .agg #[.int .u8 ev.kind, .int .u32 ev.pick, .int .u64 ev.draw, .int .u32 ev.addr, .int .u32 ev.node, .int .u32 ev.dst, .int .u32 ev.xfer, .int .u8 ev.ty, .int .u64 ev.arg, .int .u64 ev.badge, .slice xo ev.ws.length cx]), (2, .pointer (some ⟨bt, 0, none⟩)), (6, .int .u8 0), (11, .int .u8 ev.kind), (47, .pointer (some ⟨kb, 2 + (S.cur.toNat * 21) + 13, none⟩))]) (φ := (0 ≤ S.cur ∧ S.cur < 256) ∧ True) (fuel := 1) h37 (by kernel_rfl) rfl (by kernel_rfl) (by kernel_rfl) ⟨trivial, trivial, trivial, trivial⟩ ⟨⟨by omega, by omega⟩, trivial⟩ fun a38 h39 => ?_
      clear h37
      refine wpAnyK_one (i := 24) (fuel := 0) (by kernel_rfl) ?_
      refine op_store tabOk {k := 0, m := 1, vs := kC bo bc (S35.setT S.cur.toNat { S35.tcb S.cur.toNat with len := 1 })} (L' := [(kb, ⟨kC bo bc (S35.setT S.cur.toNat { S35.tcb S.cur.toNat with len := 1 }), 90, false⟩), (bt, ⟨outC ou, 42, false⟩), (b2, ⟨[.int .u8 ev.kind, .int .u32 ev.pick, .int .u64 ev.draw, .int .u32 ev.addr, .int .u32 ev.node, .int .u32 ev.dst, .int .u32 ev.xfer, .int .u8 ev.ty, .int .u64 ev.arg, .int .u64 ev.badge, .slice xo ev.ws.length cx], 35, false⟩)]) (φ := kb = kb ∧ Nat.ble (2 + (S.cur.toNat * 21) + 13 + 1) (kC bo bc S35).length = true ∧ splice (kC bo bc S35) (2 + (S.cur.toNat * 21) + 13) [.int .u8 1] = kC bo bc (S35.setT S.cur.toNat { S35.tcb S.cur.toNat with len := 1 })) h39 rfl rfl rfl (by kernel_rfl) ⟨rfl, k_in (by omega), (k_tcb_w (i := S.cur.toNat) (k := 13) (by omega) (Nat.le_of_ble_eq_true rfl) (by omega) rfl)⟩ fun w41 h42 => ?_
      obtain ⟨S40, eS40⟩ : ∃ S9, S9 = (S35.setT S.cur.toNat { S35.tcb S.cur.toNat with len := 1 }) := ⟨_, rfl⟩
      rw [← eS40] at h42
      have rS40 : RI S40 := by rw [eS40]; exact rS35.setT ⟨(rS35.t (i := S.cur.toNat) (by omega)).nx, (rS35.t (i := S.cur.toNat) (by omega)).pv, (rS35.t (i := S.cur.toNat) (by omega)).pr, (rS35.t (i := S.cur.toNat) (by omega)).wi, (rS35.t (i := S.cur.toNat) (by omega)).ci, (rS35.t (i := S.cur.toNat) (by omega)).ri, (rS35.t (i := S.cur.toNat) (by omega)).ds⟩
      have hkh42 := h39.known
      refine ⟨keepNil, ?_⟩
      clear h39
      refine wpAnyK_done (by kernel_rfl) ?_ _
      refine hK29 _ _ ?_
      clear hK29
      refine nd_start (l := [0, 1, 2]) rfl ?_
      refine nd_batch tabOk tabZ_ok [(0, {}), (1, {})] [4, 0, 1, 2, 6, 11, 48, 49] (T' := [(4, .pointer (some ⟨b2, 0, none⟩)), (0, .pointer (some ⟨kb, 0, none⟩)), (1, .agg #[.int .u8 ev.kind, .int .u32 ev.pick, .int .u64 ev.draw, .int .u32 ev.addr, .int .u32 ev.node, .int .u32 ev.dst, .int .u32 ev.xfer, .int .u8 ev.ty, .int .u64 ev.arg, .int .u64 ev.badge, .slice xo ev.ws.length cx]), (2, .pointer (some ⟨bt, 0, none⟩)), (6, .int .u8 0), (11, .int .u8 ev.kind), (48, .pointer (some ⟨kb, 0, none⟩)), (49, .pointer (some ⟨bt, 0, none⟩))]) (φ := True) (rest := [2]) h42 (by kernel_rfl) rfl trivial fun a43 h44 => ?_
      clear h42
      refine nd_op ?_
      refine op_call h44 rfl rfl rfl (callOk Tryd.func75 (by decide) rfl) (args := [.pointer (some ⟨kb, 0, none⟩), .pointer (some ⟨bt, 0, none⟩)]) rfl (report_ok kb bo bc S40 rS40 bt hkt ou (by rw [eS40, eS35]; exact hcur) _ (h44.kn (k := 0) (blk := ⟨kC bo bc S40, 90, false⟩) rfl) (h44.kn (k := 1) (blk := ⟨outC ou, 42, false⟩) rfl)) ?_
      rintro _ w48 ⟨rfl, hb46, hf47⟩
      refine ⟨_, rfl, ?_⟩
      obtain ⟨ou45, eou45⟩ : ∃ o9, o9 = reportP S40 ou := ⟨_, rfl⟩
      rw [← eou45] at hb46
      have h49 := (h44.setBlk (k := 1) rfl rfl hf47 hb46 (L' := [(kb, ⟨kC bo bc S40, 90, false⟩), (bt, ⟨outC ou45, 42, false⟩), (b2, ⟨[.int .u8 ev.kind, .int .u32 ev.pick, .int .u64 ev.draw, .int .u32 ev.addr, .int .u32 ev.node, .int .u32 ev.dst, .int .u32 ev.xfer, .int .u8 ev.ty, .int .u64 ev.arg, .int .u64 ev.badge, .slice xo ev.ws.length cx], 35, false⟩)]) rfl).put (d := some 50) (v := .tuple #[]) (T' := [(50, .tuple #[]), (4, .pointer (some ⟨b2, 0, none⟩)), (0, .pointer (some ⟨kb, 0, none⟩)), (1, .agg #[.int .u8 ev.kind, .int .u32 ev.pick, .int .u64 ev.draw, .int .u32 ev.addr, .int .u32 ev.node, .int .u32 ev.dst, .int .u32 ev.xfer, .int .u8 ev.ty, .int .u64 ev.arg, .int .u64 ev.badge, .slice xo ev.ws.length cx]), (2, .pointer (some ⟨bt, 0, none⟩)), (6, .int .u8 0), (11, .int .u8 ev.kind), (48, .pointer (some ⟨kb, 0, none⟩)), (49, .pointer (some ⟨bt, 0, none⟩))]) rfl
      clear h44
      refine nd_done ?_
      refine hK10 _ _ ?_
      clear hK10
      refine wp_seq_k fun K50 hK50 => ?_
      refine nd_start (l := [0]) rfl ?_
      refine nd_batch tabOk tabZ_ok [(0, {})] [4, 0, 1, 2, 11, 6] (T' := [(4, .pointer (some ⟨b2, 0, none⟩)), (0, .pointer (some ⟨kb, 0, none⟩)), (1, .agg #[.int .u8 ev.kind, .int .u32 ev.pick, .int .u64 ev.draw, .int .u32 ev.addr, .int .u32 ev.node, .int .u32 ev.dst, .int .u32 ev.xfer, .int .u8 ev.ty, .int .u64 ev.arg, .int .u64 ev.badge, .slice xo ev.ws.length cx]), (2, .pointer (some ⟨bt, 0, none⟩)), (11, .int .u8 ev.kind), (6, .int .u8 0)]) (φ := True) (rest := []) h49 (by kernel_rfl) rfl trivial fun a51 h52 => ?_
      clear h49
      refine nd_done ?_
      refine hK50 _ _ ?_
      clear hK50
      refine wp_ret ?_
      try simp only [Exit.then, Exit.inBlock]
      try rw [if_pos trivial]
      exact s_ret tabOk tabZ_ok h52 [(.tmp 6, {})] (vs := [.int .u8 0]) (φ := True) rfl (by kernel_rfl) trivial (by rw [show sysP S C ev ou = (S40, C, ou45, 0) from (by unfold sysP; (try dsimp only); (first | rw [if_neg hc17f] | rw [if_neg (fun hz => hz hc17f)]); (first | rw [if_pos hc28f] | rw [if_pos (fun hz => hz hc28f)]); rw [show drawP S ev.draw = S40 by unfold drawP; dsimp only; rw [← eS35, ← eS40], ← eou45])]; exact ⟨rfl, h52.kn (k := 0) rfl, h52.kn (k := 1) rfl, nd, h52.inv, (fun _ hq => .inl hq), h52.frame⟩)
    ·
      have hc28f : ev.kind ≠ 3 := by simpa using hc28
      refine wp_seq_k fun K53 hK53 => ?_
      refine wp_seq_k fun K54 hK54 => ?_
      refine nd_start (l := [0, 1]) rfl ?_
      refine nd_batch tabOk tabZ_ok [(0, {}), (1, {})] [4, 0, 1, 2, 6, 11, 51] (T' := [(4, .pointer (some ⟨b2, 0, none⟩)), (0, .pointer (some ⟨kb, 0, none⟩)), (1, .agg #[.int .u8 ev.kind, .int .u32 ev.pick, .int .u64 ev.draw, .int .u32 ev.addr, .int .u32 ev.node, .int .u32 ev.dst, .int .u32 ev.xfer, .int .u8 ev.ty, .int .u64 ev.arg, .int .u64 ev.badge, .slice xo ev.ws.length cx]), (2, .pointer (some ⟨bt, 0, none⟩)), (6, .int .u8 0), (11, .int .u8 ev.kind), (51, .bool (ev.kind == 4))]) (φ := True) (rest := []) h27 (by kernel_rfl) rfl trivial fun a55 h56 => ?_
      clear h27
      refine nd_done ?_
      refine hK54 _ _ ?_
      clear hK54
      refine c_split h56 (b := (ev.kind == 4)) rfl (fun hc57 => ?_) (fun hc57 => ?_)
      ·
        have hc57f : ev.kind = 4 := by simpa using hc57
        refine wp_skip ?_
        refine hK53 _ _ ?_
        clear hK53
        refine c_split h56 (b := (ev.kind == 4)) rfl (fun hc58 => ?_) (fun hc58 => ?_)
        ·
          have hc58f : ev.kind = 4 := by simpa using hc58
          refine wp_seq_k fun K59 hK59 => ?_
          refine nd_start (l := [0, 1, 2, 3]) rfl ?_
          refine nd_batch tabOk tabZ_ok [(0, {}), (1, {k := 2})] [4, 0, 1, 2, 6, 11, 51, 54, 55] (T' := [(4, .pointer (some ⟨b2, 0, none⟩)), (0, .pointer (some ⟨kb, 0, none⟩)), (1, .agg #[.int .u8 ev.kind, .int .u32 ev.pick, .int .u64 ev.draw, .int .u32 ev.addr, .int .u32 ev.node, .int .u32 ev.dst, .int .u32 ev.xfer, .int .u8 ev.ty, .int .u64 ev.arg, .int .u64 ev.badge, .slice xo ev.ws.length cx]), (2, .pointer (some ⟨bt, 0, none⟩)), (6, .int .u8 0), (11, .int .u8 ev.kind), (51, .bool (ev.kind == 4)), (54, .pointer (some ⟨kb, 0, none⟩)), (55, .agg #[.int .u8 ev.kind, .int .u32 ev.pick, .int .u64 ev.draw, .int .u32 ev.addr, .int .u32 ev.node, .int .u32 ev.dst, .int .u32 ev.xfer, .int .u8 ev.ty, .int .u64 ev.arg, .int .u64 ev.badge, .slice xo ev.ws.length cx])]) (φ := (b2 = b2 ∧ Nat.ble (0 + 11) 11 = true) ∧ True) (rest := [2, 3]) h56 (by kernel_rfl) rfl ⟨⟨rfl, rfl⟩, trivial⟩ fun a60 h61 => ?_
          clear h56
          refine nd_op ?_
          refine op_call h61 rfl rfl rfl (callOk Tryd.func76 (by decide) rfl) (args := [.pointer (some ⟨kb, 0, none⟩), .agg #[.int .u8 ev.kind, .int .u32 ev.pick, .int .u64 ev.draw, .int .u32 ev.addr, .int .u32 ev.node, .int .u32 ev.dst, .int .u32 ev.xfer, .int .u8 ev.ty, .int .u64 ev.arg, .int .u64 ev.badge, .slice xo ev.ws.length cx]]) rfl (send_ok kb bo bc nd S rS C hC hcur ev he xo cx _ (h61.kn (k := 0) (blk := ⟨kC bo bc S, 90, false⟩) rfl) h61.inv hdkb ((hws.fr h61.frame).mono (fun b hb => List.mem_cons_of_mem _ hb))) ?_
          rintro _ w62 ⟨rfl, hk9, hc9, hf9⟩
          refine ⟨_, rfl, ?_⟩
          have hs9 : ∀ x ∈ capF bo bc nd (sendP S C ev).2.1, x ∈ capF bo bc nd C ∨ w.heap.size ≤ x := fun x hx => .inl (by rw [send_capF] at hx; exact hx)
          have hfr9 : Fr (bt :: kb :: capF bo bc nd C) w w62 := h61.frame.trans hf9 (fun b hb => .inl (List.mem_cons_of_mem _ hb))
          have h63 := ((h61.as (L' := []) (List.nil_sublist _) (A' := fun _ => True) (F' := []) trivial (fun _ _ _ _ => trivial) (fun _ hq => by cases hq) knil).jump hfr9).put (d := some 56) (v := .int .u8 ((sendP S C ev).2.2)) (T' := [(56, .int .u8 ((sendP S C ev).2.2)), (4, .pointer (some ⟨b2, 0, none⟩)), (0, .pointer (some ⟨kb, 0, none⟩)), (1, .agg #[.int .u8 ev.kind, .int .u32 ev.pick, .int .u64 ev.draw, .int .u32 ev.addr, .int .u32 ev.node, .int .u32 ev.dst, .int .u32 ev.xfer, .int .u8 ev.ty, .int .u64 ev.arg, .int .u64 ev.badge, .slice xo ev.ws.length cx]), (2, .pointer (some ⟨bt, 0, none⟩)), (6, .int .u8 0), (11, .int .u8 ev.kind), (51, .bool (ev.kind == 4)), (54, .pointer (some ⟨kb, 0, none⟩)), (55, .agg #[.int .u8 ev.kind, .int .u32 ev.pick, .int .u64 ev.draw, .int .u32 ev.addr, .int .u32 ev.node, .int .u32 ev.dst, .int .u32 ev.xfer, .int .u8 ev.ty, .int .u64 ev.arg, .int .u64 ev.badge, .slice xo ev.ws.length cx])]) rfl
          have hkb9 : w62.heap[kb]? = some (Blk.obj ⟨kC bo bc ((sendP S C ev).1), 90, false⟩) := hk9
          have hbt9 : w62.heap[bt]? = some (Blk.obj ⟨outC ou, 42, false⟩) := (by rw [hf9.block bt (lt_of_heap (h61.kn (k := 1) (blk := ⟨outC ou, 42, false⟩) rfl)) (by simp; exact ⟨hkt.symm, hdbt⟩)]; exact (h61.kn (k := 1) (blk := ⟨outC ou, 42, false⟩) rfl))
          have hcp9 : CapAt w62 bo bc nd ((sendP S C ev).2.1) := hc9
          have hsub9 : ∀ x ∈ capF bo bc nd ((sendP S C ev).2.1), x ∈ capF bo bc nd C ∨ w.heap.size ≤ x := hs9
          clear h61
          refine nd_batch tabOk tabZ_ok [(3, {})] [4, 0, 1, 2, 11, 51, 6] (T' := [(4, .pointer (some ⟨b2, 0, none⟩)), (0, .pointer (some ⟨kb, 0, none⟩)), (1, .agg #[.int .u8 ev.kind, .int .u32 ev.pick, .int .u64 ev.draw, .int .u32 ev.addr, .int .u32 ev.node, .int .u32 ev.dst, .int .u32 ev.xfer, .int .u8 ev.ty, .int .u64 ev.arg, .int .u64 ev.badge, .slice xo ev.ws.length cx]), (2, .pointer (some ⟨bt, 0, none⟩)), (11, .int .u8 ev.kind), (51, .bool (ev.kind == 4)), (6, .int .u8 ((sendP S C ev).2.2))]) (φ := True) (rest := []) h63 (by kernel_rfl) rfl trivial fun a64 h65 => ?_
          clear h63
          refine nd_done ?_
          refine hK59 _ _ ?_
          clear hK59
          refine wp_ret ?_
          try simp only [Exit.then, Exit.inBlock]
          try rw [if_pos trivial]
          exact s_ret tabOk tabZ_ok h65 [(.tmp 6, {})] (vs := [.int .u8 ((sendP S C ev).2.2)]) (φ := True) rfl (by kernel_rfl) trivial (by rw [show sysP S C ev ou = ((sendP S C ev).1, (sendP S C ev).2.1, ou, (sendP S C ev).2.2) from (by unfold sysP; (try dsimp only); (first | rw [if_neg hc17f] | rw [if_neg (fun hz => hz hc17f)]); (first | rw [if_neg hc28f] | rw [if_neg (fun hz => hz hc28f)]); rw [if_pos (.inl hc57f)])]; exact ⟨rfl, hkb9, hbt9, nd, hcp9, hsub9, hfr9⟩)
        ·
          exact absurd (hc58.symm.trans hc57) (by decide)
      ·
        have hc57f : ev.kind ≠ 4 := by simpa using hc57
        refine nd_start (l := [0, 1]) rfl ?_
        refine nd_batch tabOk tabZ_ok [(0, {}), (1, {})] [4, 0, 1, 2, 6, 11, 51] (T' := [(4, .pointer (some ⟨b2, 0, none⟩)), (0, .pointer (some ⟨kb, 0, none⟩)), (1, .agg #[.int .u8 ev.kind, .int .u32 ev.pick, .int .u64 ev.draw, .int .u32 ev.addr, .int .u32 ev.node, .int .u32 ev.dst, .int .u32 ev.xfer, .int .u8 ev.ty, .int .u64 ev.arg, .int .u64 ev.badge, .slice xo ev.ws.length cx]), (2, .pointer (some ⟨bt, 0, none⟩)), (6, .int .u8 0), (11, .int .u8 ev.kind), (51, .bool (ev.kind == 5))]) (φ := True) (rest := []) h56 (by kernel_rfl) rfl trivial fun a66 h67 => ?_
        clear h56
        refine nd_done ?_
        refine hK53 _ _ ?_
        clear hK53
        refine c_split h67 (b := (ev.kind == 5)) rfl (fun hc68 => ?_) (fun hc68 => ?_)
        ·
          have hc68f : ev.kind = 5 := by simpa using hc68
          refine wp_seq_k fun K69 hK69 => ?_
          refine nd_start (l := [0, 1, 2, 3]) rfl ?_
          refine nd_batch tabOk tabZ_ok [(0, {}), (1, {k := 2})] [4, 0, 1, 2, 6, 11, 51, 54, 55] (T' := [(4, .pointer (some ⟨b2, 0, none⟩)), (0, .pointer (some ⟨kb, 0, none⟩)), (1, .agg #[.int .u8 ev.kind, .int .u32 ev.pick, .int .u64 ev.draw, .int .u32 ev.addr, .int .u32 ev.node, .int .u32 ev.dst, .int .u32 ev.xfer, .int .u8 ev.ty, .int .u64 ev.arg, .int .u64 ev.badge, .slice xo ev.ws.length cx]), (2, .pointer (some ⟨bt, 0, none⟩)), (6, .int .u8 0), (11, .int .u8 ev.kind), (51, .bool (ev.kind == 5)), (54, .pointer (some ⟨kb, 0, none⟩)), (55, .agg #[.int .u8 ev.kind, .int .u32 ev.pick, .int .u64 ev.draw, .int .u32 ev.addr, .int .u32 ev.node, .int .u32 ev.dst, .int .u32 ev.xfer, .int .u8 ev.ty, .int .u64 ev.arg, .int .u64 ev.badge, .slice xo ev.ws.length cx])]) (φ := (b2 = b2 ∧ Nat.ble (0 + 11) 11 = true) ∧ True) (rest := [2, 3]) h67 (by kernel_rfl) rfl ⟨⟨rfl, rfl⟩, trivial⟩ fun a70 h71 => ?_
          clear h67
          refine nd_op ?_
          refine op_call h71 rfl rfl rfl (callOk Tryd.func76 (by decide) rfl) (args := [.pointer (some ⟨kb, 0, none⟩), .agg #[.int .u8 ev.kind, .int .u32 ev.pick, .int .u64 ev.draw, .int .u32 ev.addr, .int .u32 ev.node, .int .u32 ev.dst, .int .u32 ev.xfer, .int .u8 ev.ty, .int .u64 ev.arg, .int .u64 ev.badge, .slice xo ev.ws.length cx]]) rfl (send_ok kb bo bc nd S rS C hC hcur ev he xo cx _ (h71.kn (k := 0) (blk := ⟨kC bo bc S, 90, false⟩) rfl) h71.inv hdkb ((hws.fr h71.frame).mono (fun b hb => List.mem_cons_of_mem _ hb))) ?_
          rintro _ w72 ⟨rfl, hk9, hc9, hf9⟩
          refine ⟨_, rfl, ?_⟩
          have hs9 : ∀ x ∈ capF bo bc nd (sendP S C ev).2.1, x ∈ capF bo bc nd C ∨ w.heap.size ≤ x := fun x hx => .inl (by rw [send_capF] at hx; exact hx)
          have hfr9 : Fr (bt :: kb :: capF bo bc nd C) w w72 := h71.frame.trans hf9 (fun b hb => .inl (List.mem_cons_of_mem _ hb))
          have h73 := ((h71.as (L' := []) (List.nil_sublist _) (A' := fun _ => True) (F' := []) trivial (fun _ _ _ _ => trivial) (fun _ hq => by cases hq) knil).jump hfr9).put (d := some 56) (v := .int .u8 ((sendP S C ev).2.2)) (T' := [(56, .int .u8 ((sendP S C ev).2.2)), (4, .pointer (some ⟨b2, 0, none⟩)), (0, .pointer (some ⟨kb, 0, none⟩)), (1, .agg #[.int .u8 ev.kind, .int .u32 ev.pick, .int .u64 ev.draw, .int .u32 ev.addr, .int .u32 ev.node, .int .u32 ev.dst, .int .u32 ev.xfer, .int .u8 ev.ty, .int .u64 ev.arg, .int .u64 ev.badge, .slice xo ev.ws.length cx]), (2, .pointer (some ⟨bt, 0, none⟩)), (6, .int .u8 0), (11, .int .u8 ev.kind), (51, .bool (ev.kind == 5)), (54, .pointer (some ⟨kb, 0, none⟩)), (55, .agg #[.int .u8 ev.kind, .int .u32 ev.pick, .int .u64 ev.draw, .int .u32 ev.addr, .int .u32 ev.node, .int .u32 ev.dst, .int .u32 ev.xfer, .int .u8 ev.ty, .int .u64 ev.arg, .int .u64 ev.badge, .slice xo ev.ws.length cx])]) rfl
          have hkb9 : w72.heap[kb]? = some (Blk.obj ⟨kC bo bc ((sendP S C ev).1), 90, false⟩) := hk9
          have hbt9 : w72.heap[bt]? = some (Blk.obj ⟨outC ou, 42, false⟩) := (by rw [hf9.block bt (lt_of_heap (h71.kn (k := 1) (blk := ⟨outC ou, 42, false⟩) rfl)) (by simp; exact ⟨hkt.symm, hdbt⟩)]; exact (h71.kn (k := 1) (blk := ⟨outC ou, 42, false⟩) rfl))
          have hcp9 : CapAt w72 bo bc nd ((sendP S C ev).2.1) := hc9
          have hsub9 : ∀ x ∈ capF bo bc nd ((sendP S C ev).2.1), x ∈ capF bo bc nd C ∨ w.heap.size ≤ x := hs9
          clear h71
          refine nd_batch tabOk tabZ_ok [(3, {})] [4, 0, 1, 2, 11, 51, 6] (T' := [(4, .pointer (some ⟨b2, 0, none⟩)), (0, .pointer (some ⟨kb, 0, none⟩)), (1, .agg #[.int .u8 ev.kind, .int .u32 ev.pick, .int .u64 ev.draw, .int .u32 ev.addr, .int .u32 ev.node, .int .u32 ev.dst, .int .u32 ev.xfer, .int .u8 ev.ty, .int .u64 ev.arg, .int .u64 ev.badge, .slice xo ev.ws.length cx]), (2, .pointer (some ⟨bt, 0, none⟩)), (11, .int .u8 ev.kind), (51, .bool (ev.kind == 5)), (6, .int .u8 ((sendP S C ev).2.2))]) (φ := True) (rest := []) h73 (by kernel_rfl) rfl trivial fun a74 h75 => ?_
          clear h73
          refine nd_done ?_
          refine hK69 _ _ ?_
          clear hK69
          refine wp_ret ?_
          try simp only [Exit.then, Exit.inBlock]
          try rw [if_pos trivial]
          exact s_ret tabOk tabZ_ok h75 [(.tmp 6, {})] (vs := [.int .u8 ((sendP S C ev).2.2)]) (φ := True) rfl (by kernel_rfl) trivial (by rw [show sysP S C ev ou = ((sendP S C ev).1, (sendP S C ev).2.1, ou, (sendP S C ev).2.2) from (by unfold sysP; (try dsimp only); (first | rw [if_neg hc17f] | rw [if_neg (fun hz => hz hc17f)]); (first | rw [if_neg hc28f] | rw [if_neg (fun hz => hz hc28f)]); rw [if_pos (.inr hc68f)])]; exact ⟨rfl, hkb9, hbt9, nd, hcp9, hsub9, hfr9⟩)
        ·
          have hc68f : ev.kind ≠ 5 := by simpa using hc68
          refine wp_seq_k fun K76 hK76 => ?_
          refine nd_start (l := [0, 1]) rfl ?_
          refine nd_batch tabOk tabZ_ok [(0, {}), (1, {})] [4, 0, 1, 2, 6, 11, 51, 57] (T' := [(4, .pointer (some ⟨b2, 0, none⟩)), (0, .pointer (some ⟨kb, 0, none⟩)), (1, .agg #[.int .u8 ev.kind, .int .u32 ev.pick, .int .u64 ev.draw, .int .u32 ev.addr, .int .u32 ev.node, .int .u32 ev.dst, .int .u32 ev.xfer, .int .u8 ev.ty, .int .u64 ev.arg, .int .u64 ev.badge, .slice xo ev.ws.length cx]), (2, .pointer (some ⟨bt, 0, none⟩)), (6, .int .u8 0), (11, .int .u8 ev.kind), (51, .bool (ev.kind == 5)), (57, .bool (ev.kind == 6))]) (φ := True) (rest := []) h67 (by kernel_rfl) rfl trivial fun a77 h78 => ?_
          clear h67
          refine nd_done ?_
          refine hK76 _ _ ?_
          clear hK76
          refine c_split h78 (b := (ev.kind == 6)) rfl (fun hc79 => ?_) (fun hc79 => ?_)
          ·
            have hc79f : ev.kind = 6 := by simpa using hc79
            refine wp_seq_k fun K80 hK80 => ?_
            refine nd_start (l := [0, 1, 2, 3, 4]) rfl ?_
            refine nd_batch tabOk tabZ_ok [(0, {}), (1, {k := 2}), (2, {})] [4, 0, 1, 2, 6, 11, 51, 59, 60, 61] (T' := [(4, .pointer (some ⟨b2, 0, none⟩)), (0, .pointer (some ⟨kb, 0, none⟩)), (1, .agg #[.int .u8 ev.kind, .int .u32 ev.pick, .int .u64 ev.draw, .int .u32 ev.addr, .int .u32 ev.node, .int .u32 ev.dst, .int .u32 ev.xfer, .int .u8 ev.ty, .int .u64 ev.arg, .int .u64 ev.badge, .slice xo ev.ws.length cx]), (2, .pointer (some ⟨bt, 0, none⟩)), (6, .int .u8 0), (11, .int .u8 ev.kind), (51, .bool (ev.kind == 5)), (59, .pointer (some ⟨kb, 0, none⟩)), (60, .agg #[.int .u8 ev.kind, .int .u32 ev.pick, .int .u64 ev.draw, .int .u32 ev.addr, .int .u32 ev.node, .int .u32 ev.dst, .int .u32 ev.xfer, .int .u8 ev.ty, .int .u64 ev.arg, .int .u64 ev.badge, .slice xo ev.ws.length cx]), (61, .pointer (some ⟨bt, 0, none⟩))]) (φ := (b2 = b2 ∧ Nat.ble (0 + 11) 11 = true) ∧ True) (rest := [3, 4]) h78 (by kernel_rfl) rfl ⟨⟨rfl, rfl⟩, trivial⟩ fun a81 h82 => ?_
            clear h78
            refine nd_op ?_
            refine op_call h82 rfl rfl rfl (callOk Tryd.func77 (by decide) rfl) (args := [.pointer (some ⟨kb, 0, none⟩), .agg #[.int .u8 ev.kind, .int .u32 ev.pick, .int .u64 ev.draw, .int .u32 ev.addr, .int .u32 ev.node, .int .u32 ev.dst, .int .u32 ev.xfer, .int .u8 ev.ty, .int .u64 ev.arg, .int .u64 ev.badge, .slice xo ev.ws.length cx], .pointer (some ⟨bt, 0, none⟩)]) rfl (recv_ok kb bo bc nd S rS C hC hcur ev he xo cx bt hkt ou _ (h82.kn (k := 0) (blk := ⟨kC bo bc S, 90, false⟩) rfl) h82.inv hdkb (h82.kn (k := 1) (blk := ⟨outC ou, 42, false⟩) rfl) hdbt) ?_
            rintro _ w83 ⟨rfl, hk9, hc9, ht9, hf9⟩
            refine ⟨_, rfl, ?_⟩
            have hs9 : ∀ x ∈ capF bo bc nd (recvP S C ev ou).2.1, x ∈ capF bo bc nd C ∨ w.heap.size ≤ x := fun x hx => .inl (by rw [recv_capF] at hx; exact hx)
            have hfr9 : Fr (bt :: kb :: capF bo bc nd C) w w83 := h82.frame.trans hf9 (fun b hb => .inl hb)
            have h84 := ((h82.as (L' := []) (List.nil_sublist _) (A' := fun _ => True) (F' := []) trivial (fun _ _ _ _ => trivial) (fun _ hq => by cases hq) knil).jump hfr9).put (d := some 62) (v := .int .u8 ((recvP S C ev ou).2.2.2)) (T' := [(62, .int .u8 ((recvP S C ev ou).2.2.2)), (4, .pointer (some ⟨b2, 0, none⟩)), (0, .pointer (some ⟨kb, 0, none⟩)), (1, .agg #[.int .u8 ev.kind, .int .u32 ev.pick, .int .u64 ev.draw, .int .u32 ev.addr, .int .u32 ev.node, .int .u32 ev.dst, .int .u32 ev.xfer, .int .u8 ev.ty, .int .u64 ev.arg, .int .u64 ev.badge, .slice xo ev.ws.length cx]), (2, .pointer (some ⟨bt, 0, none⟩)), (6, .int .u8 0), (11, .int .u8 ev.kind), (51, .bool (ev.kind == 5)), (59, .pointer (some ⟨kb, 0, none⟩)), (60, .agg #[.int .u8 ev.kind, .int .u32 ev.pick, .int .u64 ev.draw, .int .u32 ev.addr, .int .u32 ev.node, .int .u32 ev.dst, .int .u32 ev.xfer, .int .u8 ev.ty, .int .u64 ev.arg, .int .u64 ev.badge, .slice xo ev.ws.length cx]), (61, .pointer (some ⟨bt, 0, none⟩))]) rfl
            have hkb9 : w83.heap[kb]? = some (Blk.obj ⟨kC bo bc ((recvP S C ev ou).1), 90, false⟩) := hk9
            have hbt9 : w83.heap[bt]? = some (Blk.obj ⟨outC ((recvP S C ev ou).2.2.1), 42, false⟩) := ht9
            have hcp9 : CapAt w83 bo bc nd ((recvP S C ev ou).2.1) := hc9
            have hsub9 : ∀ x ∈ capF bo bc nd ((recvP S C ev ou).2.1), x ∈ capF bo bc nd C ∨ w.heap.size ≤ x := hs9
            clear h82
            refine nd_batch tabOk tabZ_ok [(4, {})] [4, 0, 1, 2, 11, 51, 6] (T' := [(4, .pointer (some ⟨b2, 0, none⟩)), (0, .pointer (some ⟨kb, 0, none⟩)), (1, .agg #[.int .u8 ev.kind, .int .u32 ev.pick, .int .u64 ev.draw, .int .u32 ev.addr, .int .u32 ev.node, .int .u32 ev.dst, .int .u32 ev.xfer, .int .u8 ev.ty, .int .u64 ev.arg, .int .u64 ev.badge, .slice xo ev.ws.length cx]), (2, .pointer (some ⟨bt, 0, none⟩)), (11, .int .u8 ev.kind), (51, .bool (ev.kind == 5)), (6, .int .u8 ((recvP S C ev ou).2.2.2))]) (φ := True) (rest := []) h84 (by kernel_rfl) rfl trivial fun a85 h86 => ?_
            clear h84
            refine nd_done ?_
            refine hK80 _ _ ?_
            clear hK80
            refine wp_ret ?_
            try simp only [Exit.then, Exit.inBlock]
            try rw [if_pos trivial]
            exact s_ret tabOk tabZ_ok h86 [(.tmp 6, {})] (vs := [.int .u8 ((recvP S C ev ou).2.2.2)]) (φ := True) rfl (by kernel_rfl) trivial (by rw [show sysP S C ev ou = ((recvP S C ev ou).1, (recvP S C ev ou).2.1, (recvP S C ev ou).2.2.1, (recvP S C ev ou).2.2.2) from (by unfold sysP; (try dsimp only); (first | rw [if_neg hc17f] | rw [if_neg (fun hz => hz hc17f)]); (first | rw [if_neg hc28f] | rw [if_neg (fun hz => hz hc28f)]); rw [if_neg (fun hz => hz.elim hc57f hc68f)]; (first | rw [if_pos hc79f] | rw [if_pos (fun hz => hz hc79f)]))]; exact ⟨rfl, hkb9, hbt9, nd, hcp9, hsub9, hfr9⟩)
          ·
            have hc79f : ev.kind ≠ 6 := by simpa using hc79
            refine wp_seq_k fun K87 hK87 => ?_
            refine nd_start (l := [0, 1]) rfl ?_
            refine nd_batch tabOk tabZ_ok [(0, {}), (1, {})] [4, 0, 1, 2, 6, 11, 51, 63] (T' := [(4, .pointer (some ⟨b2, 0, none⟩)), (0, .pointer (some ⟨kb, 0, none⟩)), (1, .agg #[.int .u8 ev.kind, .int .u32 ev.pick, .int .u64 ev.draw, .int .u32 ev.addr, .int .u32 ev.node, .int .u32 ev.dst, .int .u32 ev.xfer, .int .u8 ev.ty, .int .u64 ev.arg, .int .u64 ev.badge, .slice xo ev.ws.length cx]), (2, .pointer (some ⟨bt, 0, none⟩)), (6, .int .u8 0), (11, .int .u8 ev.kind), (51, .bool (ev.kind == 5)), (63, .bool (ev.kind == 7))]) (φ := True) (rest := []) h78 (by kernel_rfl) rfl trivial fun a88 h89 => ?_
            clear h78
            refine nd_done ?_
            refine hK87 _ _ ?_
            clear hK87
            refine c_split h89 (b := (ev.kind == 7)) rfl (fun hc90 => ?_) (fun hc90 => ?_)
            ·
              have hc90f : ev.kind = 7 := by simpa using hc90
              refine wp_seq_k fun K91 hK91 => ?_
              refine nd_start (l := [0, 1, 2, 3]) rfl ?_
              refine nd_batch tabOk tabZ_ok [(0, {}), (1, {k := 2})] [4, 0, 1, 2, 6, 11, 51, 65, 66] (T' := [(4, .pointer (some ⟨b2, 0, none⟩)), (0, .pointer (some ⟨kb, 0, none⟩)), (1, .agg #[.int .u8 ev.kind, .int .u32 ev.pick, .int .u64 ev.draw, .int .u32 ev.addr, .int .u32 ev.node, .int .u32 ev.dst, .int .u32 ev.xfer, .int .u8 ev.ty, .int .u64 ev.arg, .int .u64 ev.badge, .slice xo ev.ws.length cx]), (2, .pointer (some ⟨bt, 0, none⟩)), (6, .int .u8 0), (11, .int .u8 ev.kind), (51, .bool (ev.kind == 5)), (65, .pointer (some ⟨kb, 0, none⟩)), (66, .agg #[.int .u8 ev.kind, .int .u32 ev.pick, .int .u64 ev.draw, .int .u32 ev.addr, .int .u32 ev.node, .int .u32 ev.dst, .int .u32 ev.xfer, .int .u8 ev.ty, .int .u64 ev.arg, .int .u64 ev.badge, .slice xo ev.ws.length cx])]) (φ := (b2 = b2 ∧ Nat.ble (0 + 11) 11 = true) ∧ True) (rest := [2, 3]) h89 (by kernel_rfl) rfl ⟨⟨rfl, rfl⟩, trivial⟩ fun a92 h93 => ?_
              clear h89
              refine nd_op ?_
              refine op_call h93 rfl rfl rfl (callOk Tryd.func78 (by decide) rfl) (args := [.pointer (some ⟨kb, 0, none⟩), .agg #[.int .u8 ev.kind, .int .u32 ev.pick, .int .u64 ev.draw, .int .u32 ev.addr, .int .u32 ev.node, .int .u32 ev.dst, .int .u32 ev.xfer, .int .u8 ev.ty, .int .u64 ev.arg, .int .u64 ev.badge, .slice xo ev.ws.length cx]]) rfl (reply_ok kb bo bc nd S rS C hcur ev xo cx _ (h93.kn (k := 0) (blk := ⟨kC bo bc S, 90, false⟩) rfl) h93.inv hdkb ((hws.fr h93.frame).mono (fun b hb => by simp at hb; subst hb; simp))) ?_
              rintro _ w94 ⟨rfl, hk9, hf9⟩
              refine ⟨_, rfl, ?_⟩
              have hfr9 : Fr (bt :: kb :: capF bo bc nd C) w w94 := h93.frame.trans hf9 (fun b hb => .inl (by simp at hb; subst hb; simp))
              have h95 := ((h93.as (L' := []) (List.nil_sublist _) (A' := fun _ => True) (F' := []) trivial (fun _ _ _ _ => trivial) (fun _ hq => by cases hq) knil).jump hfr9).put (d := some 67) (v := .int .u8 ((replyP S C ev).2)) (T' := [(67, .int .u8 ((replyP S C ev).2)), (4, .pointer (some ⟨b2, 0, none⟩)), (0, .pointer (some ⟨kb, 0, none⟩)), (1, .agg #[.int .u8 ev.kind, .int .u32 ev.pick, .int .u64 ev.draw, .int .u32 ev.addr, .int .u32 ev.node, .int .u32 ev.dst, .int .u32 ev.xfer, .int .u8 ev.ty, .int .u64 ev.arg, .int .u64 ev.badge, .slice xo ev.ws.length cx]), (2, .pointer (some ⟨bt, 0, none⟩)), (6, .int .u8 0), (11, .int .u8 ev.kind), (51, .bool (ev.kind == 5)), (65, .pointer (some ⟨kb, 0, none⟩)), (66, .agg #[.int .u8 ev.kind, .int .u32 ev.pick, .int .u64 ev.draw, .int .u32 ev.addr, .int .u32 ev.node, .int .u32 ev.dst, .int .u32 ev.xfer, .int .u8 ev.ty, .int .u64 ev.arg, .int .u64 ev.badge, .slice xo ev.ws.length cx])]) rfl
              have hkb9 : w94.heap[kb]? = some (Blk.obj ⟨kC bo bc ((replyP S C ev).1), 90, false⟩) := hk9
              have hbt9 : w94.heap[bt]? = some (Blk.obj ⟨outC ou, 42, false⟩) := (by rw [hf9.block bt (lt_of_heap (h93.kn (k := 1) (blk := ⟨outC ou, 42, false⟩) rfl)) (by simp; exact hkt.symm)]; exact (h93.kn (k := 1) (blk := ⟨outC ou, 42, false⟩) rfl))
              have hcp9 : CapAt w94 bo bc nd C := h93.inv.fr hf9 (fun b9 hb9 hq => by simp at hq; subst hq; exact hdkb hb9)
              have hsub9 : ∀ x ∈ capF bo bc nd C, x ∈ capF bo bc nd C ∨ w.heap.size ≤ x := fun _ hq => .inl hq
              clear h93
              refine nd_batch tabOk tabZ_ok [(3, {})] [4, 0, 1, 2, 11, 51, 6] (T' := [(4, .pointer (some ⟨b2, 0, none⟩)), (0, .pointer (some ⟨kb, 0, none⟩)), (1, .agg #[.int .u8 ev.kind, .int .u32 ev.pick, .int .u64 ev.draw, .int .u32 ev.addr, .int .u32 ev.node, .int .u32 ev.dst, .int .u32 ev.xfer, .int .u8 ev.ty, .int .u64 ev.arg, .int .u64 ev.badge, .slice xo ev.ws.length cx]), (2, .pointer (some ⟨bt, 0, none⟩)), (11, .int .u8 ev.kind), (51, .bool (ev.kind == 5)), (6, .int .u8 ((replyP S C ev).2))]) (φ := True) (rest := []) h95 (by kernel_rfl) rfl trivial fun a96 h97 => ?_
              clear h95
              refine nd_done ?_
              refine hK91 _ _ ?_
              clear hK91
              refine wp_ret ?_
              try simp only [Exit.then, Exit.inBlock]
              try rw [if_pos trivial]
              exact s_ret tabOk tabZ_ok h97 [(.tmp 6, {})] (vs := [.int .u8 ((replyP S C ev).2)]) (φ := True) rfl (by kernel_rfl) trivial (by rw [show sysP S C ev ou = ((replyP S C ev).1, C, ou, (replyP S C ev).2) from (by unfold sysP; (try dsimp only); (first | rw [if_neg hc17f] | rw [if_neg (fun hz => hz hc17f)]); (first | rw [if_neg hc28f] | rw [if_neg (fun hz => hz hc28f)]); rw [if_neg (fun hz => hz.elim hc57f hc68f)]; (first | rw [if_neg hc79f] | rw [if_neg (fun hz => hz hc79f)]); (first | rw [if_pos hc90f] | rw [if_pos (fun hz => hz hc90f)]))]; exact ⟨rfl, hkb9, hbt9, nd, hcp9, hsub9, hfr9⟩)
            ·
              have hc90f : ev.kind ≠ 7 := by simpa using hc90
              refine wp_seq_k fun K98 hK98 => ?_
              refine nd_start (l := [0, 1]) rfl ?_
              refine nd_batch tabOk tabZ_ok [(0, {}), (1, {})] [4, 0, 1, 2, 6, 11, 51, 68] (T' := [(4, .pointer (some ⟨b2, 0, none⟩)), (0, .pointer (some ⟨kb, 0, none⟩)), (1, .agg #[.int .u8 ev.kind, .int .u32 ev.pick, .int .u64 ev.draw, .int .u32 ev.addr, .int .u32 ev.node, .int .u32 ev.dst, .int .u32 ev.xfer, .int .u8 ev.ty, .int .u64 ev.arg, .int .u64 ev.badge, .slice xo ev.ws.length cx]), (2, .pointer (some ⟨bt, 0, none⟩)), (6, .int .u8 0), (11, .int .u8 ev.kind), (51, .bool (ev.kind == 5)), (68, .bool (ev.kind == 8))]) (φ := True) (rest := []) h89 (by kernel_rfl) rfl trivial fun a99 h100 => ?_
              clear h89
              refine nd_done ?_
              refine hK98 _ _ ?_
              clear hK98
              refine c_split h100 (b := (ev.kind == 8)) rfl (fun hc101 => ?_) (fun hc101 => ?_)
              ·
                have hc101f : ev.kind = 8 := by simpa using hc101
                refine wp_seq_k fun K102 hK102 => ?_
                refine nd_start (l := [0, 1, 2, 3, 4, 5, 6, 7, 8, 9, 10, 11]) rfl ?_
                refine nd_batch tabOk tabZ_ok [(0, {}), (1, {}), (2, {k := 2})] [4, 0, 1, 2, 6, 11, 51, 71, 73] (T' := [(4, .pointer (some ⟨b2, 0, none⟩)), (0, .pointer (some ⟨kb, 0, none⟩)), (1, .agg #[.int .u8 ev.kind, .int .u32 ev.pick, .int .u64 ev.draw, .int .u32 ev.addr, .int .u32 ev.node, .int .u32 ev.dst, .int .u32 ev.xfer, .int .u8 ev.ty, .int .u64 ev.arg, .int .u64 ev.badge, .slice xo ev.ws.length cx]), (2, .pointer (some ⟨bt, 0, none⟩)), (6, .int .u8 0), (11, .int .u8 ev.kind), (51, .bool (ev.kind == 5)), (71, .pointer (some ⟨kb, 0, none⟩)), (73, .int .u32 ev.addr)]) (φ := (b2 = b2 ∧ Nat.ble (3 + 1) 11 = true) ∧ True) (rest := [3, 4, 5, 6, 7, 8, 9, 10, 11]) h100 (by kernel_rfl) rfl ⟨⟨rfl, rfl⟩, trivial⟩ fun a103 h104 => ?_
                clear h100
                refine nd_op ?_
                obtain ⟨fc105, fs106, fk107, hfd108⟩ : ∃ c s k, findP S C ev.addr 5 2 = (c, s, k) := ⟨_, _, _, rfl⟩
                refine op_call h104 rfl rfl rfl (callOk Tryd.func79 (by decide) rfl) (args := [.pointer (some ⟨kb, 0, none⟩), .int .u32 ev.addr, .int .u8 5, .int .u8 2]) rfl (find_ok kb bo bc nd S rS C hC ev.addr 5 2 hcur he.addr _ (h104.kn (k := 0) (blk := ⟨kC bo bc S, 90, false⟩) rfl) h104.inv hdkb hfd108) ?_
                rintro _ w109 ⟨rfl, hf111⟩
                refine ⟨_, rfl, ?_⟩
                have h110 := (h104.grow hf111).put (d := some 74) (v := .tuple #[.agg #[.int .u8 fc105.ty, .int .u16 fc105.obj.idx, .int .u32 fc105.obj.gen, .int .u8 fc105.rights, .int .u64 fc105.badge], .int .i64 fs106, .int .u8 fk107]) (T' := [(74, .tuple #[.agg #[.int .u8 fc105.ty, .int .u16 fc105.obj.idx, .int .u32 fc105.obj.gen, .int .u8 fc105.rights, .int .u64 fc105.badge], .int .i64 fs106, .int .u8 fk107]), (4, .pointer (some ⟨b2, 0, none⟩)), (0, .pointer (some ⟨kb, 0, none⟩)), (1, .agg #[.int .u8 ev.kind, .int .u32 ev.pick, .int .u64 ev.draw, .int .u32 ev.addr, .int .u32 ev.node, .int .u32 ev.dst, .int .u32 ev.xfer, .int .u8 ev.ty, .int .u64 ev.arg, .int .u64 ev.badge, .slice xo ev.ws.length cx]), (2, .pointer (some ⟨bt, 0, none⟩)), (6, .int .u8 0), (11, .int .u8 ev.kind), (51, .bool (ev.kind == 5)), (71, .pointer (some ⟨kb, 0, none⟩)), (73, .int .u32 ev.addr)]) rfl
                clear h104
                refine nd_batch tabOk tabZ_ok [(4, {}), (5, {}), (6, {}), (7, {})] [4, 0, 1, 2, 6, 11, 51, 75, 76, 77] (T' := [(4, .pointer (some ⟨b2, 0, none⟩)), (0, .pointer (some ⟨kb, 0, none⟩)), (1, .agg #[.int .u8 ev.kind, .int .u32 ev.pick, .int .u64 ev.draw, .int .u32 ev.addr, .int .u32 ev.node, .int .u32 ev.dst, .int .u32 ev.xfer, .int .u8 ev.ty, .int .u64 ev.arg, .int .u64 ev.badge, .slice xo ev.ws.length cx]), (2, .pointer (some ⟨bt, 0, none⟩)), (6, .int .u8 0), (11, .int .u8 ev.kind), (51, .bool (ev.kind == 5)), (75, .agg #[.int .u8 fc105.ty, .int .u16 fc105.obj.idx, .int .u32 fc105.obj.gen, .int .u8 fc105.rights, .int .u64 fc105.badge]), (76, .int .i64 fs106), (77, .int .u8 fk107)]) (φ := True) (rest := [8, 9, 10, 11]) h110 (by kernel_rfl) rfl trivial fun a112 h113 => ?_
                clear h110
                refine nd_op ?_
                refine op_new tabOk (cells := [.int .u8 0, .int .u16 0, .int .u32 0, .int .u8 0, .int .u64 0]) (ty := 49) (ln := none) (L1 := fun b114 => [(kb, ⟨kC bo bc S, 90, false⟩), (bt, ⟨outC ou, 42, false⟩), (b2, ⟨[.int .u8 ev.kind, .int .u32 ev.pick, .int .u64 ev.draw, .int .u32 ev.addr, .int .u32 ev.node, .int .u32 ev.dst, .int .u32 ev.xfer, .int .u8 ev.ty, .int .u64 ev.arg, .int .u64 ev.badge, .slice xo ev.ws.length cx], 35, false⟩), (b114, ⟨[.int .u8 0, .int .u16 0, .int .u32 0, .int .u8 0, .int .u64 0], 49, false⟩)]) h113 rfl rfl rfl rfl (by kernel_rfl) (fun _ => rfl) fun b114 w115 a116 h117 hf118 hn119 => ?_
                clear h113
                refine nd_op ?_
                refine op_store tabOk {k := 3} (L' := [(kb, ⟨kC bo bc S, 90, false⟩), (bt, ⟨outC ou, 42, false⟩), (b2, ⟨[.int .u8 ev.kind, .int .u32 ev.pick, .int .u64 ev.draw, .int .u32 ev.addr, .int .u32 ev.node, .int .u32 ev.dst, .int .u32 ev.xfer, .int .u8 ev.ty, .int .u64 ev.arg, .int .u64 ev.badge, .slice xo ev.ws.length cx], 35, false⟩), (b114, ⟨[.int .u8 fc105.ty, .int .u16 fc105.obj.idx, .int .u32 fc105.obj.gen, .int .u8 fc105.rights, .int .u64 fc105.badge], 49, false⟩)]) (φ := b114 = b114 ∧ Nat.ble (0 + 5) 5 = true) h117 rfl rfl rfl (by kernel_rfl) ⟨rfl, rfl⟩ fun w120 h121 => ?_
                clear h117
                refine nd_batch tabOk tabZ_ok [(10, {}), (11, {})] [7, 4, 0, 1, 2, 6, 11, 51, 9] (T' := [(7, .pointer (some ⟨b114, 0, none⟩)), (4, .pointer (some ⟨b2, 0, none⟩)), (0, .pointer (some ⟨kb, 0, none⟩)), (1, .agg #[.int .u8 ev.kind, .int .u32 ev.pick, .int .u64 ev.draw, .int .u32 ev.addr, .int .u32 ev.node, .int .u32 ev.dst, .int .u32 ev.xfer, .int .u8 ev.ty, .int .u64 ev.arg, .int .u64 ev.badge, .slice xo ev.ws.length cx]), (2, .pointer (some ⟨bt, 0, none⟩)), (6, .int .u8 0), (11, .int .u8 ev.kind), (51, .bool (ev.kind == 5)), (9, .int .u8 fk107)]) (φ := True) (rest := []) h121 (by kernel_rfl) rfl trivial fun a122 h123 => ?_
                clear h121
                refine nd_done ?_
                refine hK102 _ _ ?_
                clear hK102
                refine wp_seq_k fun K124 hK124 => ?_
                refine wp_seq_k fun K125 hK125 => ?_
                refine nd_start (l := [0, 1]) rfl ?_
                refine nd_batch tabOk tabZ_ok [(0, {}), (1, {})] [7, 4, 0, 1, 2, 6, 11, 51, 9, 79] (T' := [(7, .pointer (some ⟨b114, 0, none⟩)), (4, .pointer (some ⟨b2, 0, none⟩)), (0, .pointer (some ⟨kb, 0, none⟩)), (1, .agg #[.int .u8 ev.kind, .int .u32 ev.pick, .int .u64 ev.draw, .int .u32 ev.addr, .int .u32 ev.node, .int .u32 ev.dst, .int .u32 ev.xfer, .int .u8 ev.ty, .int .u64 ev.arg, .int .u64 ev.badge, .slice xo ev.ws.length cx]), (2, .pointer (some ⟨bt, 0, none⟩)), (6, .int .u8 0), (11, .int .u8 ev.kind), (51, .bool (ev.kind == 5)), (9, .int .u8 fk107), (79, .bool (fk107 == 0))]) (φ := True) (rest := []) h123 (by kernel_rfl) rfl trivial fun a126 h127 => ?_
                clear h123
                refine nd_done ?_
                refine hK125 _ _ ?_
                clear hK125
                refine c_split h127 (b := (fk107 == 0)) rfl (fun hc128 => ?_) (fun hc128 => ?_)
                ·
                  have hc128f : fk107 = 0 := by simpa using hc128
                  obtain ⟨fi129, fj129, hfi129, hfj129, hfp129, hfs129, hfcap129, hft129, hfz129, hfo129⟩ := find_fact rS hC hcur he.addr.1 hfd108 hc128f
                  have hxs := find_idx hfo129 (by rw [hft129]; decide)
                  refine nd_start (l := [0, 1, 2, 3, 4, 5]) rfl ?_
                  refine nd_batch tabOk tabZ_ok [(0, {}), (1, {}), (2, {k := 3}), (3, {}), (4, {k := 3})] [7, 4, 0, 1, 2, 6, 11, 51, 9, 80, 82, 84] (T' := [(7, .pointer (some ⟨b114, 0, none⟩)), (4, .pointer (some ⟨b2, 0, none⟩)), (0, .pointer (some ⟨kb, 0, none⟩)), (1, .agg #[.int .u8 ev.kind, .int .u32 ev.pick, .int .u64 ev.draw, .int .u32 ev.addr, .int .u32 ev.node, .int .u32 ev.dst, .int .u32 ev.xfer, .int .u8 ev.ty, .int .u64 ev.arg, .int .u64 ev.badge, .slice xo ev.ws.length cx]), (2, .pointer (some ⟨bt, 0, none⟩)), (6, .int .u8 0), (11, .int .u8 ev.kind), (51, .bool (ev.kind == 5)), (9, .int .u8 fk107), (80, .pointer (some ⟨kb, 0, none⟩)), (82, .agg #[.int .u16 fc105.obj.idx, .int .u32 fc105.obj.gen]), (84, .int .u64 fc105.badge)]) (φ := (b114 = b114 ∧ Nat.ble (1 + 2) 5 = true) ∧ (b114 = b114 ∧ Nat.ble (4 + 1) 5 = true) ∧ True) (rest := [5]) h127 (by kernel_rfl) rfl ⟨⟨rfl, rfl⟩, ⟨rfl, rfl⟩, trivial⟩ fun a130 h131 => ?_
                  clear h127
                  refine nd_op ?_
                  refine op_call h131 rfl rfl rfl (callOk Tryd.func74 (by decide) rfl) (args := [.pointer (some ⟨kb, 0, none⟩), .agg #[.int .u16 fc105.obj.idx, .int .u32 fc105.obj.gen], .int .u64 fc105.badge]) rfl (signal_ok kb bo bc S rS fc105.obj fc105.badge hxs _ (h131.kn (k := 0) (blk := ⟨kC bo bc S, 90, false⟩) rfl)) ?_
                  rintro _ w132 ⟨rfl, hk9, hf9⟩
                  refine ⟨_, rfl, ?_⟩
                  have hfr9 : Fr (bt :: kb :: capF bo bc nd C) w w132 := h131.frame.trans hf9 (fun b hb => .inl (by simp at hb; subst hb; simp))
                  have h133 := ((h131.as (L' := []) (List.nil_sublist _) (A' := fun _ => True) (F' := []) trivial (fun _ _ _ _ => trivial) (fun _ hq => by cases hq) knil).jump hfr9).put (d := some 85) (v := .tuple #[]) (T' := [(85, .tuple #[]), (7, .pointer (some ⟨b114, 0, none⟩)), (4, .pointer (some ⟨b2, 0, none⟩)), (0, .pointer (some ⟨kb, 0, none⟩)), (1, .agg #[.int .u8 ev.kind, .int .u32 ev.pick, .int .u64 ev.draw, .int .u32 ev.addr, .int .u32 ev.node, .int .u32 ev.dst, .int .u32 ev.xfer, .int .u8 ev.ty, .int .u64 ev.arg, .int .u64 ev.badge, .slice xo ev.ws.length cx]), (2, .pointer (some ⟨bt, 0, none⟩)), (6, .int .u8 0), (11, .int .u8 ev.kind), (51, .bool (ev.kind == 5)), (9, .int .u8 fk107), (80, .pointer (some ⟨kb, 0, none⟩)), (82, .agg #[.int .u16 fc105.obj.idx, .int .u32 fc105.obj.gen]), (84, .int .u64 fc105.badge)]) rfl
                  have hkb9 : w132.heap[kb]? = some (Blk.obj ⟨kC bo bc (signalP S fc105.obj fc105.badge), 90, false⟩) := hk9
                  have hbt9 : w132.heap[bt]? = some (Blk.obj ⟨outC ou, 42, false⟩) := (by rw [hf9.block bt (lt_of_heap (h131.kn (k := 1) (blk := ⟨outC ou, 42, false⟩) rfl)) (by simp; exact hkt.symm)]; exact (h131.kn (k := 1) (blk := ⟨outC ou, 42, false⟩) rfl))
                  have hcp9 : CapAt w132 bo bc nd C := h131.inv.fr hf9 (fun b9 hb9 hq => by simp at hq; subst hq; exact hdkb hb9)
                  have hsub9 : ∀ x ∈ capF bo bc nd C, x ∈ capF bo bc nd C ∨ w.heap.size ≤ x := fun _ hq => .inl hq
                  clear h131
                  refine nd_done ?_
                  refine hK124 _ _ ?_
                  clear hK124
                  refine wp_seq_k fun K134 hK134 => ?_
                  refine nd_start (l := [0, 1]) rfl ?_
                  refine nd_batch tabOk tabZ_ok [(0, {}), (1, {})] [7, 4, 0, 1, 2, 11, 51, 9, 6] (T' := [(7, .pointer (some ⟨b114, 0, none⟩)), (4, .pointer (some ⟨b2, 0, none⟩)), (0, .pointer (some ⟨kb, 0, none⟩)), (1, .agg #[.int .u8 ev.kind, .int .u32 ev.pick, .int .u64 ev.draw, .int .u32 ev.addr, .int .u32 ev.node, .int .u32 ev.dst, .int .u32 ev.xfer, .int .u8 ev.ty, .int .u64 ev.arg, .int .u64 ev.badge, .slice xo ev.ws.length cx]), (2, .pointer (some ⟨bt, 0, none⟩)), (11, .int .u8 ev.kind), (51, .bool (ev.kind == 5)), (9, .int .u8 fk107), (6, .int .u8 fk107)]) (φ := True) (rest := []) h133 (by kernel_rfl) rfl trivial fun a135 h136 => ?_
                  clear h133
                  refine nd_done ?_
                  refine hK134 _ _ ?_
                  clear hK134
                  refine wp_ret ?_
                  try simp only [Exit.then, Exit.inBlock]
                  try rw [if_pos trivial]
                  exact s_ret tabOk tabZ_ok h136 [(.tmp 6, {})] (vs := [.int .u8 fk107]) (φ := True) rfl (by kernel_rfl) trivial (by rw [show sysP S C ev ou = (signalP S fc105.obj fc105.badge, C, ou, fk107) from (by unfold sysP; (try dsimp only); (first | rw [if_neg hc17f] | rw [if_neg (fun hz => hz hc17f)]); (first | rw [if_neg hc28f] | rw [if_neg (fun hz => hz hc28f)]); rw [if_neg (fun hz => hz.elim hc57f hc68f)]; (first | rw [if_neg hc79f] | rw [if_neg (fun hz => hz hc79f)]); (first | rw [if_neg hc90f] | rw [if_neg (fun hz => hz hc90f)]); (first | rw [if_pos hc101f] | rw [if_pos (fun hz => hz hc101f)]); unfold sigP; dsimp only; rw [hfd108]; dsimp only; rw [if_pos hc128f])]; exact ⟨rfl, hkb9, hbt9, nd, hcp9, hsub9, hfr9⟩)
                ·
                  have hc128f : fk107 ≠ 0 := by simpa using hc128
                  refine wp_skip ?_
                  refine hK124 _ _ ?_
                  clear hK124
                  refine wp_seq_k fun K137 hK137 => ?_
                  refine nd_start (l := [0, 1]) rfl ?_
                  refine nd_batch tabOk tabZ_ok [(0, {}), (1, {})] [7, 4, 0, 1, 2, 11, 51, 9, 6] (T' := [(7, .pointer (some ⟨b114, 0, none⟩)), (4, .pointer (some ⟨b2, 0, none⟩)), (0, .pointer (some ⟨kb, 0, none⟩)), (1, .agg #[.int .u8 ev.kind, .int .u32 ev.pick, .int .u64 ev.draw, .int .u32 ev.addr, .int .u32 ev.node, .int .u32 ev.dst, .int .u32 ev.xfer, .int .u8 ev.ty, .int .u64 ev.arg, .int .u64 ev.badge, .slice xo ev.ws.length cx]), (2, .pointer (some ⟨bt, 0, none⟩)), (11, .int .u8 ev.kind), (51, .bool (ev.kind == 5)), (9, .int .u8 fk107), (6, .int .u8 fk107)]) (φ := True) (rest := []) h127 (by kernel_rfl) rfl trivial fun a138 h139 => ?_
                  clear h127
                  refine nd_done ?_
                  refine hK137 _ _ ?_
                  clear hK137
                  refine wp_ret ?_
                  try simp only [Exit.then, Exit.inBlock]
                  try rw [if_pos trivial]
                  exact s_ret tabOk tabZ_ok h139 [(.tmp 6, {})] (vs := [.int .u8 fk107]) (φ := True) rfl (by kernel_rfl) trivial (by rw [show sysP S C ev ou = (S, C, ou, fk107) from (by unfold sysP; (try dsimp only); (first | rw [if_neg hc17f] | rw [if_neg (fun hz => hz hc17f)]); (first | rw [if_neg hc28f] | rw [if_neg (fun hz => hz hc28f)]); rw [if_neg (fun hz => hz.elim hc57f hc68f)]; (first | rw [if_neg hc79f] | rw [if_neg (fun hz => hz hc79f)]); (first | rw [if_neg hc90f] | rw [if_neg (fun hz => hz hc90f)]); (first | rw [if_pos hc101f] | rw [if_pos (fun hz => hz hc101f)]); unfold sigP; dsimp only; rw [hfd108]; dsimp only; rw [if_neg hc128f])]; exact ⟨rfl, h139.kn (k := 0) rfl, h139.kn (k := 1) rfl, nd, h139.inv, (fun _ hq => .inl hq), h139.frame⟩)
              ·
                have hc101f : ev.kind ≠ 8 := by simpa using hc101
                refine wp_seq_k fun K140 hK140 => ?_
                refine nd_start (l := [0, 1]) rfl ?_
                refine nd_batch tabOk tabZ_ok [(0, {}), (1, {})] [4, 0, 1, 2, 6, 11, 51, 87] (T' := [(4, .pointer (some ⟨b2, 0, none⟩)), (0, .pointer (some ⟨kb, 0, none⟩)), (1, .agg #[.int .u8 ev.kind, .int .u32 ev.pick, .int .u64 ev.draw, .int .u32 ev.addr, .int .u32 ev.node, .int .u32 ev.dst, .int .u32 ev.xfer, .int .u8 ev.ty, .int .u64 ev.arg, .int .u64 ev.badge, .slice xo ev.ws.length cx]), (2, .pointer (some ⟨bt, 0, none⟩)), (6, .int .u8 0), (11, .int .u8 ev.kind), (51, .bool (ev.kind == 5)), (87, .bool (ev.kind == 9))]) (φ := True) (rest := []) h100 (by kernel_rfl) rfl trivial fun a141 h142 => ?_
                clear h100
                refine nd_done ?_
                refine hK140 _ _ ?_
                clear hK140
                refine c_split h142 (b := (ev.kind == 9)) rfl (fun hc143 => ?_) (fun hc143 => ?_)
                ·
                  have hc143f : ev.kind = 9 := by simpa using hc143
                  refine wp_seq_k fun K144 hK144 => ?_
                  refine nd_start (l := [0, 1, 2, 3, 4]) rfl ?_
                  refine nd_batch tabOk tabZ_ok [(0, {}), (1, {k := 2}), (2, {})] [4, 0, 1, 2, 6, 11, 51, 89, 90, 91] (T' := [(4, .pointer (some ⟨b2, 0, none⟩)), (0, .pointer (some ⟨kb, 0, none⟩)), (1, .agg #[.int .u8 ev.kind, .int .u32 ev.pick, .int .u64 ev.draw, .int .u32 ev.addr, .int .u32 ev.node, .int .u32 ev.dst, .int .u32 ev.xfer, .int .u8 ev.ty, .int .u64 ev.arg, .int .u64 ev.badge, .slice xo ev.ws.length cx]), (2, .pointer (some ⟨bt, 0, none⟩)), (6, .int .u8 0), (11, .int .u8 ev.kind), (51, .bool (ev.kind == 5)), (89, .pointer (some ⟨kb, 0, none⟩)), (90, .agg #[.int .u8 ev.kind, .int .u32 ev.pick, .int .u64 ev.draw, .int .u32 ev.addr, .int .u32 ev.node, .int .u32 ev.dst, .int .u32 ev.xfer, .int .u8 ev.ty, .int .u64 ev.arg, .int .u64 ev.badge, .slice xo ev.ws.length cx]), (91, .pointer (some ⟨bt, 0, none⟩))]) (φ := (b2 = b2 ∧ Nat.ble (0 + 11) 11 = true) ∧ True) (rest := [3, 4]) h142 (by kernel_rfl) rfl ⟨⟨rfl, rfl⟩, trivial⟩ fun a145 h146 => ?_
                  clear h142
                  refine nd_op ?_
                  refine op_call h146 rfl rfl rfl (callOk Tryd.func80 (by decide) rfl) (args := [.pointer (some ⟨kb, 0, none⟩), .agg #[.int .u8 ev.kind, .int .u32 ev.pick, .int .u64 ev.draw, .int .u32 ev.addr, .int .u32 ev.node, .int .u32 ev.dst, .int .u32 ev.xfer, .int .u8 ev.ty, .int .u64 ev.arg, .int .u64 ev.badge, .slice xo ev.ws.length cx], .pointer (some ⟨bt, 0, none⟩)]) rfl (wait_ok kb bo bc nd S rS C hC hcur ev he xo cx bt hkt ou _ (h146.kn (k := 0) (blk := ⟨kC bo bc S, 90, false⟩) rfl) h146.inv hdkb (h146.kn (k := 1) (blk := ⟨outC ou, 42, false⟩) rfl) hdbt) ?_
                  rintro _ w147 ⟨rfl, hk9, ht9, hf9⟩
                  refine ⟨_, rfl, ?_⟩
                  have hfr9 : Fr (bt :: kb :: capF bo bc nd C) w w147 := h146.frame.trans hf9 (fun b hb => .inl (by simp at hb; rcases hb with rfl | rfl <;> simp))
                  have h148 := ((h146.as (L' := []) (List.nil_sublist _) (A' := fun _ => True) (F' := []) trivial (fun _ _ _ _ => trivial) (fun _ hq => by cases hq) knil).jump hfr9).put (d := some 92) (v := .int .u8 ((waitP S C ev ou).2.2)) (T' := [(92, .int .u8 ((waitP S C ev ou).2.2)), (4, .pointer (some ⟨b2, 0, none⟩)), (0, .pointer (some ⟨kb, 0, none⟩)), (1, .agg #[.int .u8 ev.kind, .int .u32 ev.pick, .int .u64 ev.draw, .int .u32 ev.addr, .int .u32 ev.node, .int .u32 ev.dst, .int .u32 ev.xfer, .int .u8 ev.ty, .int .u64 ev.arg, .int .u64 ev.badge, .slice xo ev.ws.length cx]), (2, .pointer (some ⟨bt, 0, none⟩)), (6, .int .u8 0), (11, .int .u8 ev.kind), (51, .bool (ev.kind == 5)), (89, .pointer (some ⟨kb, 0, none⟩)), (90, .agg #[.int .u8 ev.kind, .int .u32 ev.pick, .int .u64 ev.draw, .int .u32 ev.addr, .int .u32 ev.node, .int .u32 ev.dst, .int .u32 ev.xfer, .int .u8 ev.ty, .int .u64 ev.arg, .int .u64 ev.badge, .slice xo ev.ws.length cx]), (91, .pointer (some ⟨bt, 0, none⟩))]) rfl
                  have hkb9 : w147.heap[kb]? = some (Blk.obj ⟨kC bo bc ((waitP S C ev ou).1), 90, false⟩) := hk9
                  have hbt9 : w147.heap[bt]? = some (Blk.obj ⟨outC ((waitP S C ev ou).2.1), 42, false⟩) := ht9
                  have hcp9 : CapAt w147 bo bc nd C := h146.inv.fr hf9 (fun b9 hb9 hq => by simp at hq; rcases hq with rfl | rfl; exact hdkb hb9; exact hdbt hb9)
                  have hsub9 : ∀ x ∈ capF bo bc nd C, x ∈ capF bo bc nd C ∨ w.heap.size ≤ x := fun _ hq => .inl hq
                  clear h146
                  refine nd_batch tabOk tabZ_ok [(4, {})] [4, 0, 1, 2, 11, 51, 6] (T' := [(4, .pointer (some ⟨b2, 0, none⟩)), (0, .pointer (some ⟨kb, 0, none⟩)), (1, .agg #[.int .u8 ev.kind, .int .u32 ev.pick, .int .u64 ev.draw, .int .u32 ev.addr, .int .u32 ev.node, .int .u32 ev.dst, .int .u32 ev.xfer, .int .u8 ev.ty, .int .u64 ev.arg, .int .u64 ev.badge, .slice xo ev.ws.length cx]), (2, .pointer (some ⟨bt, 0, none⟩)), (11, .int .u8 ev.kind), (51, .bool (ev.kind == 5)), (6, .int .u8 ((waitP S C ev ou).2.2))]) (φ := True) (rest := []) h148 (by kernel_rfl) rfl trivial fun a149 h150 => ?_
                  clear h148
                  refine nd_done ?_
                  refine hK144 _ _ ?_
                  clear hK144
                  refine wp_ret ?_
                  try simp only [Exit.then, Exit.inBlock]
                  try rw [if_pos trivial]
                  exact s_ret tabOk tabZ_ok h150 [(.tmp 6, {})] (vs := [.int .u8 ((waitP S C ev ou).2.2)]) (φ := True) rfl (by kernel_rfl) trivial (by rw [show sysP S C ev ou = ((waitP S C ev ou).1, C, (waitP S C ev ou).2.1, (waitP S C ev ou).2.2) from (by unfold sysP; (try dsimp only); (first | rw [if_neg hc17f] | rw [if_neg (fun hz => hz hc17f)]); (first | rw [if_neg hc28f] | rw [if_neg (fun hz => hz hc28f)]); rw [if_neg (fun hz => hz.elim hc57f hc68f)]; (first | rw [if_neg hc79f] | rw [if_neg (fun hz => hz hc79f)]); (first | rw [if_neg hc90f] | rw [if_neg (fun hz => hz hc90f)]); (first | rw [if_neg hc101f] | rw [if_neg (fun hz => hz hc101f)]); (first | rw [if_pos hc143f] | rw [if_pos (fun hz => hz hc143f)]))]; exact ⟨rfl, hkb9, hbt9, nd, hcp9, hsub9, hfr9⟩)
                ·
                  have hc143f : ev.kind ≠ 9 := by simpa using hc143
                  refine wp_seq_k fun K151 hK151 => ?_
                  refine nd_start (l := [0, 1]) rfl ?_
                  refine nd_batch tabOk tabZ_ok [(0, {}), (1, {})] [4, 0, 1, 2, 6, 11, 51, 93] (T' := [(4, .pointer (some ⟨b2, 0, none⟩)), (0, .pointer (some ⟨kb, 0, none⟩)), (1, .agg #[.int .u8 ev.kind, .int .u32 ev.pick, .int .u64 ev.draw, .int .u32 ev.addr, .int .u32 ev.node, .int .u32 ev.dst, .int .u32 ev.xfer, .int .u8 ev.ty, .int .u64 ev.arg, .int .u64 ev.badge, .slice xo ev.ws.length cx]), (2, .pointer (some ⟨bt, 0, none⟩)), (6, .int .u8 0), (11, .int .u8 ev.kind), (51, .bool (ev.kind == 5)), (93, .bool (ev.kind == 10))]) (φ := True) (rest := []) h142 (by kernel_rfl) rfl trivial fun a152 h153 => ?_
                  clear h142
                  refine nd_done ?_
                  refine hK151 _ _ ?_
                  clear hK151
                  refine c_split h153 (b := (ev.kind == 10)) rfl (fun hc154 => ?_) (fun hc154 => ?_)
                  ·
                    have hc154f : ev.kind = 10 := by simpa using hc154
                    refine wp_seq_k fun K155 hK155 => ?_
                    refine nd_start (l := [0, 1, 2, 3]) rfl ?_
                    refine nd_batch tabOk tabZ_ok [(0, {}), (1, {k := 2})] [4, 0, 1, 2, 6, 11, 51, 95, 96] (T' := [(4, .pointer (some ⟨b2, 0, none⟩)), (0, .pointer (some ⟨kb, 0, none⟩)), (1, .agg #[.int .u8 ev.kind, .int .u32 ev.pick, .int .u64 ev.draw, .int .u32 ev.addr, .int .u32 ev.node, .int .u32 ev.dst, .int .u32 ev.xfer, .int .u8 ev.ty, .int .u64 ev.arg, .int .u64 ev.badge, .slice xo ev.ws.length cx]), (2, .pointer (some ⟨bt, 0, none⟩)), (6, .int .u8 0), (11, .int .u8 ev.kind), (51, .bool (ev.kind == 5)), (95, .pointer (some ⟨kb, 0, none⟩)), (96, .agg #[.int .u8 ev.kind, .int .u32 ev.pick, .int .u64 ev.draw, .int .u32 ev.addr, .int .u32 ev.node, .int .u32 ev.dst, .int .u32 ev.xfer, .int .u8 ev.ty, .int .u64 ev.arg, .int .u64 ev.badge, .slice xo ev.ws.length cx])]) (φ := (b2 = b2 ∧ Nat.ble (0 + 11) 11 = true) ∧ True) (rest := [2, 3]) h153 (by kernel_rfl) rfl ⟨⟨rfl, rfl⟩, trivial⟩ fun a156 h157 => ?_
                    clear h153
                    refine nd_op ?_
                    refine op_call h157 rfl rfl rfl (callOk Tryd.func81 (by decide) rfl) (args := [.pointer (some ⟨kb, 0, none⟩), .agg #[.int .u8 ev.kind, .int .u32 ev.pick, .int .u64 ev.draw, .int .u32 ev.addr, .int .u32 ev.node, .int .u32 ev.dst, .int .u32 ev.xfer, .int .u8 ev.ty, .int .u64 ev.arg, .int .u64 ev.badge, .slice xo ev.ws.length cx]]) rfl (retype_ok kb bo bc nd S rS C hC hcur ev he xo cx _ (h157.kn (k := 0) (blk := ⟨kC bo bc S, 90, false⟩) rfl) h157.inv hdkb) ?_
                    rintro _ w158 ⟨rfl, nd9, hc9, hs9x, hf9⟩
                    refine ⟨_, rfl, ?_⟩
                    have hs9 : ∀ x ∈ capF bo bc nd9 (retypeP S C ev).1, x ∈ capF bo bc nd C ∨ w.heap.size ≤ x := fun x hx => (hs9x x hx).imp id (fun h => Nat.le_trans h157.frame.size h)
                    have hfr9 : Fr (bt :: kb :: capF bo bc nd C) w w158 := h157.frame.trans hf9 (fun b hb => .inl (List.mem_cons_of_mem _ (List.mem_cons_of_mem _ hb)))
                    have h159 := ((h157.as (L' := []) (List.nil_sublist _) (A' := fun _ => True) (F' := []) trivial (fun _ _ _ _ => trivial) (fun _ hq => by cases hq) knil).jump hfr9).put (d := some 97) (v := .int .u8 ((retypeP S C ev).2)) (T' := [(97, .int .u8 ((retypeP S C ev).2)), (4, .pointer (some ⟨b2, 0, none⟩)), (0, .pointer (some ⟨kb, 0, none⟩)), (1, .agg #[.int .u8 ev.kind, .int .u32 ev.pick, .int .u64 ev.draw, .int .u32 ev.addr, .int .u32 ev.node, .int .u32 ev.dst, .int .u32 ev.xfer, .int .u8 ev.ty, .int .u64 ev.arg, .int .u64 ev.badge, .slice xo ev.ws.length cx]), (2, .pointer (some ⟨bt, 0, none⟩)), (6, .int .u8 0), (11, .int .u8 ev.kind), (51, .bool (ev.kind == 5)), (95, .pointer (some ⟨kb, 0, none⟩)), (96, .agg #[.int .u8 ev.kind, .int .u32 ev.pick, .int .u64 ev.draw, .int .u32 ev.addr, .int .u32 ev.node, .int .u32 ev.dst, .int .u32 ev.xfer, .int .u8 ev.ty, .int .u64 ev.arg, .int .u64 ev.badge, .slice xo ev.ws.length cx])]) rfl
                    have hkb9 : w158.heap[kb]? = some (Blk.obj ⟨kC bo bc S, 90, false⟩) := (by rw [hf9.block kb (lt_of_heap (h157.kn (k := 0) (blk := ⟨kC bo bc S, 90, false⟩) rfl)) hdkb]; exact (h157.kn (k := 0) (blk := ⟨kC bo bc S, 90, false⟩) rfl))
                    have hbt9 : w158.heap[bt]? = some (Blk.obj ⟨outC ou, 42, false⟩) := (by rw [hf9.block bt (lt_of_heap (h157.kn (k := 1) (blk := ⟨outC ou, 42, false⟩) rfl)) hdbt]; exact (h157.kn (k := 1) (blk := ⟨outC ou, 42, false⟩) rfl))
                    have hcp9 : CapAt w158 bo bc nd9 ((retypeP S C ev).1) := hc9
                    have hsub9 : ∀ x ∈ capF bo bc nd9 ((retypeP S C ev).1), x ∈ capF bo bc nd C ∨ w.heap.size ≤ x := hs9
                    clear h157
                    refine nd_batch tabOk tabZ_ok [(3, {})] [4, 0, 1, 2, 11, 51, 6] (T' := [(4, .pointer (some ⟨b2, 0, none⟩)), (0, .pointer (some ⟨kb, 0, none⟩)), (1, .agg #[.int .u8 ev.kind, .int .u32 ev.pick, .int .u64 ev.draw, .int .u32 ev.addr, .int .u32 ev.node, .int .u32 ev.dst, .int .u32 ev.xfer, .int .u8 ev.ty, .int .u64 ev.arg, .int .u64 ev.badge, .slice xo ev.ws.length cx]), (2, .pointer (some ⟨bt, 0, none⟩)), (11, .int .u8 ev.kind), (51, .bool (ev.kind == 5)), (6, .int .u8 ((retypeP S C ev).2))]) (φ := True) (rest := []) h159 (by kernel_rfl) rfl trivial fun a160 h161 => ?_
                    clear h159
                    refine nd_done ?_
                    refine hK155 _ _ ?_
                    clear hK155
                    refine wp_ret ?_
                    try simp only [Exit.then, Exit.inBlock]
                    try rw [if_pos trivial]
                    exact s_ret tabOk tabZ_ok h161 [(.tmp 6, {})] (vs := [.int .u8 ((retypeP S C ev).2)]) (φ := True) rfl (by kernel_rfl) trivial (by rw [show sysP S C ev ou = (S, (retypeP S C ev).1, ou, (retypeP S C ev).2) from (by unfold sysP; (try dsimp only); (first | rw [if_neg hc17f] | rw [if_neg (fun hz => hz hc17f)]); (first | rw [if_neg hc28f] | rw [if_neg (fun hz => hz hc28f)]); rw [if_neg (fun hz => hz.elim hc57f hc68f)]; (first | rw [if_neg hc79f] | rw [if_neg (fun hz => hz hc79f)]); (first | rw [if_neg hc90f] | rw [if_neg (fun hz => hz hc90f)]); (first | rw [if_neg hc101f] | rw [if_neg (fun hz => hz hc101f)]); (first | rw [if_neg hc143f] | rw [if_neg (fun hz => hz hc143f)]); (first | rw [if_pos hc154f] | rw [if_pos (fun hz => hz hc154f)]))]; exact ⟨rfl, hkb9, hbt9, nd9, hcp9, hsub9, hfr9⟩)
                  ·
                    have hc154f : ev.kind ≠ 10 := by simpa using hc154
                    refine wp_seq_k fun K162 hK162 => ?_
                    refine nd_start (l := [0, 1]) rfl ?_
                    refine nd_batch tabOk tabZ_ok [(0, {}), (1, {})] [4, 0, 1, 2, 6, 11, 51, 98] (T' := [(4, .pointer (some ⟨b2, 0, none⟩)), (0, .pointer (some ⟨kb, 0, none⟩)), (1, .agg #[.int .u8 ev.kind, .int .u32 ev.pick, .int .u64 ev.draw, .int .u32 ev.addr, .int .u32 ev.node, .int .u32 ev.dst, .int .u32 ev.xfer, .int .u8 ev.ty, .int .u64 ev.arg, .int .u64 ev.badge, .slice xo ev.ws.length cx]), (2, .pointer (some ⟨bt, 0, none⟩)), (6, .int .u8 0), (11, .int .u8 ev.kind), (51, .bool (ev.kind == 5)), (98, .bool (ev.kind == 11))]) (φ := True) (rest := []) h153 (by kernel_rfl) rfl trivial fun a163 h164 => ?_
                    clear h153
                    refine nd_done ?_
                    refine hK162 _ _ ?_
                    clear hK162
                    refine c_split h164 (b := (ev.kind == 11)) rfl (fun hc165 => ?_) (fun hc165 => ?_)
                    ·
                      have hc165f : ev.kind = 11 := by simpa using hc165
                      refine wp_seq_k fun K166 hK166 => ?_
                      refine nd_start (l := [0, 1, 2, 3]) rfl ?_
                      refine nd_batch tabOk tabZ_ok [(0, {}), (1, {k := 2})] [4, 0, 1, 2, 6, 11, 51, 100, 101] (T' := [(4, .pointer (some ⟨b2, 0, none⟩)), (0, .pointer (some ⟨kb, 0, none⟩)), (1, .agg #[.int .u8 ev.kind, .int .u32 ev.pick, .int .u64 ev.draw, .int .u32 ev.addr, .int .u32 ev.node, .int .u32 ev.dst, .int .u32 ev.xfer, .int .u8 ev.ty, .int .u64 ev.arg, .int .u64 ev.badge, .slice xo ev.ws.length cx]), (2, .pointer (some ⟨bt, 0, none⟩)), (6, .int .u8 0), (11, .int .u8 ev.kind), (51, .bool (ev.kind == 5)), (100, .pointer (some ⟨kb, 0, none⟩)), (101, .agg #[.int .u8 ev.kind, .int .u32 ev.pick, .int .u64 ev.draw, .int .u32 ev.addr, .int .u32 ev.node, .int .u32 ev.dst, .int .u32 ev.xfer, .int .u8 ev.ty, .int .u64 ev.arg, .int .u64 ev.badge, .slice xo ev.ws.length cx])]) (φ := (b2 = b2 ∧ Nat.ble (0 + 11) 11 = true) ∧ True) (rest := [2, 3]) h164 (by kernel_rfl) rfl ⟨⟨rfl, rfl⟩, trivial⟩ fun a167 h168 => ?_
                      clear h164
                      refine nd_op ?_
                      refine op_call h168 rfl rfl rfl (callOk Tryd.func82 (by decide) rfl) (args := [.pointer (some ⟨kb, 0, none⟩), .agg #[.int .u8 ev.kind, .int .u32 ev.pick, .int .u64 ev.draw, .int .u32 ev.addr, .int .u32 ev.node, .int .u32 ev.dst, .int .u32 ev.xfer, .int .u8 ev.ty, .int .u64 ev.arg, .int .u64 ev.badge, .slice xo ev.ws.length cx]]) rfl (copyCap_ok kb bo bc nd S rS C hC hcur ev he xo cx _ (h168.kn (k := 0) (blk := ⟨kC bo bc S, 90, false⟩) rfl) h168.inv hdkb) ?_
                      rintro _ w169 ⟨rfl, hc9, hf9⟩
                      refine ⟨_, rfl, ?_⟩
                      have hs9 : ∀ x ∈ capF bo bc nd (copyCapP S C ev).1, x ∈ capF bo bc nd C ∨ w.heap.size ≤ x := fun x hx => .inl (by rw [copy_capF] at hx; exact hx)
                      have hfr9 : Fr (bt :: kb :: capF bo bc nd C) w w169 := h168.frame.trans hf9 (fun b hb => .inl (List.mem_cons_of_mem _ (List.mem_cons_of_mem _ hb)))
                      have h170 := ((h168.as (L' := []) (List.nil_sublist _) (A' := fun _ => True) (F' := []) trivial (fun _ _ _ _ => trivial) (fun _ hq => by cases hq) knil).jump hfr9).put (d := some 102) (v := .int .u8 ((copyCapP S C ev).2)) (T' := [(102, .int .u8 ((copyCapP S C ev).2)), (4, .pointer (some ⟨b2, 0, none⟩)), (0, .pointer (some ⟨kb, 0, none⟩)), (1, .agg #[.int .u8 ev.kind, .int .u32 ev.pick, .int .u64 ev.draw, .int .u32 ev.addr, .int .u32 ev.node, .int .u32 ev.dst, .int .u32 ev.xfer, .int .u8 ev.ty, .int .u64 ev.arg, .int .u64 ev.badge, .slice xo ev.ws.length cx]), (2, .pointer (some ⟨bt, 0, none⟩)), (6, .int .u8 0), (11, .int .u8 ev.kind), (51, .bool (ev.kind == 5)), (100, .pointer (some ⟨kb, 0, none⟩)), (101, .agg #[.int .u8 ev.kind, .int .u32 ev.pick, .int .u64 ev.draw, .int .u32 ev.addr, .int .u32 ev.node, .int .u32 ev.dst, .int .u32 ev.xfer, .int .u8 ev.ty, .int .u64 ev.arg, .int .u64 ev.badge, .slice xo ev.ws.length cx])]) rfl
                      have hkb9 : w169.heap[kb]? = some (Blk.obj ⟨kC bo bc S, 90, false⟩) := (by rw [hf9.block kb (lt_of_heap (h168.kn (k := 0) (blk := ⟨kC bo bc S, 90, false⟩) rfl)) hdkb]; exact (h168.kn (k := 0) (blk := ⟨kC bo bc S, 90, false⟩) rfl))
                      have hbt9 : w169.heap[bt]? = some (Blk.obj ⟨outC ou, 42, false⟩) := (by rw [hf9.block bt (lt_of_heap (h168.kn (k := 1) (blk := ⟨outC ou, 42, false⟩) rfl)) hdbt]; exact (h168.kn (k := 1) (blk := ⟨outC ou, 42, false⟩) rfl))
                      have hcp9 : CapAt w169 bo bc nd ((copyCapP S C ev).1) := hc9
                      have hsub9 : ∀ x ∈ capF bo bc nd ((copyCapP S C ev).1), x ∈ capF bo bc nd C ∨ w.heap.size ≤ x := hs9
                      clear h168
                      refine nd_batch tabOk tabZ_ok [(3, {})] [4, 0, 1, 2, 11, 51, 6] (T' := [(4, .pointer (some ⟨b2, 0, none⟩)), (0, .pointer (some ⟨kb, 0, none⟩)), (1, .agg #[.int .u8 ev.kind, .int .u32 ev.pick, .int .u64 ev.draw, .int .u32 ev.addr, .int .u32 ev.node, .int .u32 ev.dst, .int .u32 ev.xfer, .int .u8 ev.ty, .int .u64 ev.arg, .int .u64 ev.badge, .slice xo ev.ws.length cx]), (2, .pointer (some ⟨bt, 0, none⟩)), (11, .int .u8 ev.kind), (51, .bool (ev.kind == 5)), (6, .int .u8 ((copyCapP S C ev).2))]) (φ := True) (rest := []) h170 (by kernel_rfl) rfl trivial fun a171 h172 => ?_
                      clear h170
                      refine nd_done ?_
                      refine hK166 _ _ ?_
                      clear hK166
                      refine wp_ret ?_
                      try simp only [Exit.then, Exit.inBlock]
                      try rw [if_pos trivial]
                      exact s_ret tabOk tabZ_ok h172 [(.tmp 6, {})] (vs := [.int .u8 ((copyCapP S C ev).2)]) (φ := True) rfl (by kernel_rfl) trivial (by rw [show sysP S C ev ou = (S, (copyCapP S C ev).1, ou, (copyCapP S C ev).2) from (by unfold sysP; (try dsimp only); (first | rw [if_neg hc17f] | rw [if_neg (fun hz => hz hc17f)]); (first | rw [if_neg hc28f] | rw [if_neg (fun hz => hz hc28f)]); rw [if_neg (fun hz => hz.elim hc57f hc68f)]; (first | rw [if_neg hc79f] | rw [if_neg (fun hz => hz hc79f)]); (first | rw [if_neg hc90f] | rw [if_neg (fun hz => hz hc90f)]); (first | rw [if_neg hc101f] | rw [if_neg (fun hz => hz hc101f)]); (first | rw [if_neg hc143f] | rw [if_neg (fun hz => hz hc143f)]); (first | rw [if_neg hc154f] | rw [if_neg (fun hz => hz hc154f)]); (first | rw [if_pos hc165f] | rw [if_pos (fun hz => hz hc165f)]))]; exact ⟨rfl, hkb9, hbt9, nd, hcp9, hsub9, hfr9⟩)
                    ·
                      have hc165f : ev.kind ≠ 11 := by simpa using hc165
                      refine wp_seq_k fun K173 hK173 => ?_
                      refine wp_seq_k fun K174 hK174 => ?_
                      refine nd_start (l := [0, 1]) rfl ?_
                      refine nd_batch tabOk tabZ_ok [(0, {}), (1, {})] [4, 0, 1, 2, 6, 11, 51, 103] (T' := [(4, .pointer (some ⟨b2, 0, none⟩)), (0, .pointer (some ⟨kb, 0, none⟩)), (1, .agg #[.int .u8 ev.kind, .int .u32 ev.pick, .int .u64 ev.draw, .int .u32 ev.addr, .int .u32 ev.node, .int .u32 ev.dst, .int .u32 ev.xfer, .int .u8 ev.ty, .int .u64 ev.arg, .int .u64 ev.badge, .slice xo ev.ws.length cx]), (2, .pointer (some ⟨bt, 0, none⟩)), (6, .int .u8 0), (11, .int .u8 ev.kind), (51, .bool (ev.kind == 5)), (103, .bool (ev.kind == 12))]) (φ := True) (rest := []) h164 (by kernel_rfl) rfl trivial fun a175 h176 => ?_
                      clear h164
                      refine nd_done ?_
                      refine hK174 _ _ ?_
                      clear hK174
                      refine c_split h176 (b := (ev.kind == 12)) rfl (fun hc177 => ?_) (fun hc177 => ?_)
                      ·
                        have hc177f : ev.kind = 12 := by simpa using hc177
                        refine wp_skip ?_
                        refine hK173 _ _ ?_
                        clear hK173
                        refine c_split h176 (b := (ev.kind == 12)) rfl (fun hc178 => ?_) (fun hc178 => ?_)
                        ·
                          have hc178f : ev.kind = 12 := by simpa using hc178
                          refine wp_seq_k fun K179 hK179 => ?_
                          refine nd_start (l := [0, 1, 2, 3]) rfl ?_
                          refine nd_batch tabOk tabZ_ok [(0, {}), (1, {k := 2})] [4, 0, 1, 2, 6, 11, 51, 103, 106, 107] (T' := [(4, .pointer (some ⟨b2, 0, none⟩)), (0, .pointer (some ⟨kb, 0, none⟩)), (1, .agg #[.int .u8 ev.kind, .int .u32 ev.pick, .int .u64 ev.draw, .int .u32 ev.addr, .int .u32 ev.node, .int .u32 ev.dst, .int .u32 ev.xfer, .int .u8 ev.ty, .int .u64 ev.arg, .int .u64 ev.badge, .slice xo ev.ws.length cx]), (2, .pointer (some ⟨bt, 0, none⟩)), (6, .int .u8 0), (11, .int .u8 ev.kind), (51, .bool (ev.kind == 5)), (103, .bool (ev.kind == 12)), (106, .pointer (some ⟨kb, 0, none⟩)), (107, .agg #[.int .u8 ev.kind, .int .u32 ev.pick, .int .u64 ev.draw, .int .u32 ev.addr, .int .u32 ev.node, .int .u32 ev.dst, .int .u32 ev.xfer, .int .u8 ev.ty, .int .u64 ev.arg, .int .u64 ev.badge, .slice xo ev.ws.length cx])]) (φ := (b2 = b2 ∧ Nat.ble (0 + 11) 11 = true) ∧ True) (rest := [2, 3]) h176 (by kernel_rfl) rfl ⟨⟨rfl, rfl⟩, trivial⟩ fun a180 h181 => ?_
                          clear h176
                          refine nd_op ?_
                          refine op_call h181 rfl rfl rfl (callOk Tryd.func83 (by decide) rfl) (args := [.pointer (some ⟨kb, 0, none⟩), .agg #[.int .u8 ev.kind, .int .u32 ev.pick, .int .u64 ev.draw, .int .u32 ev.addr, .int .u32 ev.node, .int .u32 ev.dst, .int .u32 ev.xfer, .int .u8 ev.ty, .int .u64 ev.arg, .int .u64 ev.badge, .slice xo ev.ws.length cx]]) rfl (drop_ok kb bo bc nd S rS C lS hC hcur ev he xo cx _ (h181.kn (k := 0) (blk := ⟨kC bo bc S, 90, false⟩) rfl) h181.inv hdkb (cellsK hg h181.frame hgs (by simp; exact ⟨hgt, hgk, hgc⟩)) (Nat.lt_of_lt_of_le hgs h181.frame.size) hgk hgc) ?_
                          rintro _ w182 ⟨rfl, hk9, hc9, hs9x, hf9⟩
                          refine ⟨_, rfl, ?_⟩
                          have hs9 : ∀ x ∈ capF bo bc nd (dropP S C ev).2.1, x ∈ capF bo bc nd C ∨ w.heap.size ≤ x := fun x hx => .inl (hs9x x hx)
                          have hfr9 : Fr (bt :: kb :: capF bo bc nd C) w w182 := h181.frame.trans hf9 (fun b hb => .inl (List.mem_cons_of_mem _ hb))
                          have h183 := ((h181.as (L' := []) (List.nil_sublist _) (A' := fun _ => True) (F' := []) trivial (fun _ _ _ _ => trivial) (fun _ hq => by cases hq) knil).jump hfr9).put (d := some 108) (v := .int .u8 ((dropP S C ev).2.2)) (T' := [(108, .int .u8 ((dropP S C ev).2.2)), (4, .pointer (some ⟨b2, 0, none⟩)), (0, .pointer (some ⟨kb, 0, none⟩)), (1, .agg #[.int .u8 ev.kind, .int .u32 ev.pick, .int .u64 ev.draw, .int .u32 ev.addr, .int .u32 ev.node, .int .u32 ev.dst, .int .u32 ev.xfer, .int .u8 ev.ty, .int .u64 ev.arg, .int .u64 ev.badge, .slice xo ev.ws.length cx]), (2, .pointer (some ⟨bt, 0, none⟩)), (6, .int .u8 0), (11, .int .u8 ev.kind), (51, .bool (ev.kind == 5)), (103, .bool (ev.kind == 12)), (106, .pointer (some ⟨kb, 0, none⟩)), (107, .agg #[.int .u8 ev.kind, .int .u32 ev.pick, .int .u64 ev.draw, .int .u32 ev.addr, .int .u32 ev.node, .int .u32 ev.dst, .int .u32 ev.xfer, .int .u8 ev.ty, .int .u64 ev.arg, .int .u64 ev.badge, .slice xo ev.ws.length cx])]) rfl
                          have hkb9 : w182.heap[kb]? = some (Blk.obj ⟨kC bo bc ((dropP S C ev).1), 90, false⟩) := hk9
                          have hbt9 : w182.heap[bt]? = some (Blk.obj ⟨outC ou, 42, false⟩) := (by rw [hf9.block bt (lt_of_heap (h181.kn (k := 1) (blk := ⟨outC ou, 42, false⟩) rfl)) (by simp; exact ⟨hkt.symm, hdbt⟩)]; exact (h181.kn (k := 1) (blk := ⟨outC ou, 42, false⟩) rfl))
                          have hcp9 : CapAt w182 bo bc nd ((dropP S C ev).2.1) := hc9
                          have hsub9 : ∀ x ∈ capF bo bc nd ((dropP S C ev).2.1), x ∈ capF bo bc nd C ∨ w.heap.size ≤ x := hs9
                          clear h181
                          refine nd_batch tabOk tabZ_ok [(3, {})] [4, 0, 1, 2, 11, 51, 103, 6] (T' := [(4, .pointer (some ⟨b2, 0, none⟩)), (0, .pointer (some ⟨kb, 0, none⟩)), (1, .agg #[.int .u8 ev.kind, .int .u32 ev.pick, .int .u64 ev.draw, .int .u32 ev.addr, .int .u32 ev.node, .int .u32 ev.dst, .int .u32 ev.xfer, .int .u8 ev.ty, .int .u64 ev.arg, .int .u64 ev.badge, .slice xo ev.ws.length cx]), (2, .pointer (some ⟨bt, 0, none⟩)), (11, .int .u8 ev.kind), (51, .bool (ev.kind == 5)), (103, .bool (ev.kind == 12)), (6, .int .u8 ((dropP S C ev).2.2))]) (φ := True) (rest := []) h183 (by kernel_rfl) rfl trivial fun a184 h185 => ?_
                          clear h183
                          refine nd_done ?_
                          refine hK179 _ _ ?_
                          clear hK179
                          refine wp_ret ?_
                          try simp only [Exit.then, Exit.inBlock]
                          try rw [if_pos trivial]
                          exact s_ret tabOk tabZ_ok h185 [(.tmp 6, {})] (vs := [.int .u8 ((dropP S C ev).2.2)]) (φ := True) rfl (by kernel_rfl) trivial (by rw [show sysP S C ev ou = ((dropP S C ev).1, (dropP S C ev).2.1, ou, (dropP S C ev).2.2) from (by unfold sysP; (try dsimp only); (first | rw [if_neg hc17f] | rw [if_neg (fun hz => hz hc17f)]); (first | rw [if_neg hc28f] | rw [if_neg (fun hz => hz hc28f)]); rw [if_neg (fun hz => hz.elim hc57f hc68f)]; (first | rw [if_neg hc79f] | rw [if_neg (fun hz => hz hc79f)]); (first | rw [if_neg hc90f] | rw [if_neg (fun hz => hz hc90f)]); (first | rw [if_neg hc101f] | rw [if_neg (fun hz => hz hc101f)]); (first | rw [if_neg hc143f] | rw [if_neg (fun hz => hz hc143f)]); (first | rw [if_neg hc154f] | rw [if_neg (fun hz => hz hc154f)]); (first | rw [if_neg hc165f] | rw [if_neg (fun hz => hz hc165f)]); rw [if_pos (.inl hc177f)])]; exact ⟨rfl, hkb9, hbt9, nd, hcp9, hsub9, hfr9⟩)
                        ·
                          exact absurd (hc178.symm.trans hc177) (by decide)
                      ·
                        have hc177f : ev.kind ≠ 12 := by simpa using hc177
                        refine nd_start (l := [0, 1]) rfl ?_
                        refine nd_batch tabOk tabZ_ok [(0, {}), (1, {})] [4, 0, 1, 2, 6, 11, 51, 103] (T' := [(4, .pointer (some ⟨b2, 0, none⟩)), (0, .pointer (some ⟨kb, 0, none⟩)), (1, .agg #[.int .u8 ev.kind, .int .u32 ev.pick, .int .u64 ev.draw, .int .u32 ev.addr, .int .u32 ev.node, .int .u32 ev.dst, .int .u32 ev.xfer, .int .u8 ev.ty, .int .u64 ev.arg, .int .u64 ev.badge, .slice xo ev.ws.length cx]), (2, .pointer (some ⟨bt, 0, none⟩)), (6, .int .u8 0), (11, .int .u8 ev.kind), (51, .bool (ev.kind == 5)), (103, .bool (ev.kind == 13))]) (φ := True) (rest := []) h176 (by kernel_rfl) rfl trivial fun a186 h187 => ?_
                        clear h176
                        refine nd_done ?_
                        refine hK173 _ _ ?_
                        clear hK173
                        refine c_split h187 (b := (ev.kind == 13)) rfl (fun hc188 => ?_) (fun hc188 => ?_)
                        ·
                          have hc188f : ev.kind = 13 := by simpa using hc188
                          refine wp_seq_k fun K189 hK189 => ?_
                          refine nd_start (l := [0, 1, 2, 3]) rfl ?_
                          refine nd_batch tabOk tabZ_ok [(0, {}), (1, {k := 2})] [4, 0, 1, 2, 6, 11, 51, 103, 106, 107] (T' := [(4, .pointer (some ⟨b2, 0, none⟩)), (0, .pointer (some ⟨kb, 0, none⟩)), (1, .agg #[.int .u8 ev.kind, .int .u32 ev.pick, .int .u64 ev.draw, .int .u32 ev.addr, .int .u32 ev.node, .int .u32 ev.dst, .int .u32 ev.xfer, .int .u8 ev.ty, .int .u64 ev.arg, .int .u64 ev.badge, .slice xo ev.ws.length cx]), (2, .pointer (some ⟨bt, 0, none⟩)), (6, .int .u8 0), (11, .int .u8 ev.kind), (51, .bool (ev.kind == 5)), (103, .bool (ev.kind == 13)), (106, .pointer (some ⟨kb, 0, none⟩)), (107, .agg #[.int .u8 ev.kind, .int .u32 ev.pick, .int .u64 ev.draw, .int .u32 ev.addr, .int .u32 ev.node, .int .u32 ev.dst, .int .u32 ev.xfer, .int .u8 ev.ty, .int .u64 ev.arg, .int .u64 ev.badge, .slice xo ev.ws.length cx])]) (φ := (b2 = b2 ∧ Nat.ble (0 + 11) 11 = true) ∧ True) (rest := [2, 3]) h187 (by kernel_rfl) rfl ⟨⟨rfl, rfl⟩, trivial⟩ fun a190 h191 => ?_
                          clear h187
                          refine nd_op ?_
                          refine op_call h191 rfl rfl rfl (callOk Tryd.func83 (by decide) rfl) (args := [.pointer (some ⟨kb, 0, none⟩), .agg #[.int .u8 ev.kind, .int .u32 ev.pick, .int .u64 ev.draw, .int .u32 ev.addr, .int .u32 ev.node, .int .u32 ev.dst, .int .u32 ev.xfer, .int .u8 ev.ty, .int .u64 ev.arg, .int .u64 ev.badge, .slice xo ev.ws.length cx]]) rfl (drop_ok kb bo bc nd S rS C lS hC hcur ev he xo cx _ (h191.kn (k := 0) (blk := ⟨kC bo bc S, 90, false⟩) rfl) h191.inv hdkb (cellsK hg h191.frame hgs (by simp; exact ⟨hgt, hgk, hgc⟩)) (Nat.lt_of_lt_of_le hgs h191.frame.size) hgk hgc) ?_
                          rintro _ w192 ⟨rfl, hk9, hc9, hs9x, hf9⟩
                          refine ⟨_, rfl, ?_⟩
                          have hs9 : ∀ x ∈ capF bo bc nd (dropP S C ev).2.1, x ∈ capF bo bc nd C ∨ w.heap.size ≤ x := fun x hx => .inl (hs9x x hx)
                          have hfr9 : Fr (bt :: kb :: capF bo bc nd C) w w192 := h191.frame.trans hf9 (fun b hb => .inl (List.mem_cons_of_mem _ hb))
                          have h193 := ((h191.as (L' := []) (List.nil_sublist _) (A' := fun _ => True) (F' := []) trivial (fun _ _ _ _ => trivial) (fun _ hq => by cases hq) knil).jump hfr9).put (d := some 108) (v := .int .u8 ((dropP S C ev).2.2)) (T' := [(108, .int .u8 ((dropP S C ev).2.2)), (4, .pointer (some ⟨b2, 0, none⟩)), (0, .pointer (some ⟨kb, 0, none⟩)), (1, .agg #[.int .u8 ev.kind, .int .u32 ev.pick, .int .u64 ev.draw, .int .u32 ev.addr, .int .u32 ev.node, .int .u32 ev.dst, .int .u32 ev.xfer, .int .u8 ev.ty, .int .u64 ev.arg, .int .u64 ev.badge, .slice xo ev.ws.length cx]), (2, .pointer (some ⟨bt, 0, none⟩)), (6, .int .u8 0), (11, .int .u8 ev.kind), (51, .bool (ev.kind == 5)), (103, .bool (ev.kind == 13)), (106, .pointer (some ⟨kb, 0, none⟩)), (107, .agg #[.int .u8 ev.kind, .int .u32 ev.pick, .int .u64 ev.draw, .int .u32 ev.addr, .int .u32 ev.node, .int .u32 ev.dst, .int .u32 ev.xfer, .int .u8 ev.ty, .int .u64 ev.arg, .int .u64 ev.badge, .slice xo ev.ws.length cx])]) rfl
                          have hkb9 : w192.heap[kb]? = some (Blk.obj ⟨kC bo bc ((dropP S C ev).1), 90, false⟩) := hk9
                          have hbt9 : w192.heap[bt]? = some (Blk.obj ⟨outC ou, 42, false⟩) := (by rw [hf9.block bt (lt_of_heap (h191.kn (k := 1) (blk := ⟨outC ou, 42, false⟩) rfl)) (by simp; exact ⟨hkt.symm, hdbt⟩)]; exact (h191.kn (k := 1) (blk := ⟨outC ou, 42, false⟩) rfl))
                          have hcp9 : CapAt w192 bo bc nd ((dropP S C ev).2.1) := hc9
                          have hsub9 : ∀ x ∈ capF bo bc nd ((dropP S C ev).2.1), x ∈ capF bo bc nd C ∨ w.heap.size ≤ x := hs9
                          clear h191
                          refine nd_batch tabOk tabZ_ok [(3, {})] [4, 0, 1, 2, 11, 51, 103, 6] (T' := [(4, .pointer (some ⟨b2, 0, none⟩)), (0, .pointer (some ⟨kb, 0, none⟩)), (1, .agg #[.int .u8 ev.kind, .int .u32 ev.pick, .int .u64 ev.draw, .int .u32 ev.addr, .int .u32 ev.node, .int .u32 ev.dst, .int .u32 ev.xfer, .int .u8 ev.ty, .int .u64 ev.arg, .int .u64 ev.badge, .slice xo ev.ws.length cx]), (2, .pointer (some ⟨bt, 0, none⟩)), (11, .int .u8 ev.kind), (51, .bool (ev.kind == 5)), (103, .bool (ev.kind == 13)), (6, .int .u8 ((dropP S C ev).2.2))]) (φ := True) (rest := []) h193 (by kernel_rfl) rfl trivial fun a194 h195 => ?_
                          clear h193
                          refine nd_done ?_
                          refine hK189 _ _ ?_
                          clear hK189
                          refine wp_ret ?_
                          try simp only [Exit.then, Exit.inBlock]
                          try rw [if_pos trivial]
                          exact s_ret tabOk tabZ_ok h195 [(.tmp 6, {})] (vs := [.int .u8 ((dropP S C ev).2.2)]) (φ := True) rfl (by kernel_rfl) trivial (by rw [show sysP S C ev ou = ((dropP S C ev).1, (dropP S C ev).2.1, ou, (dropP S C ev).2.2) from (by unfold sysP; (try dsimp only); (first | rw [if_neg hc17f] | rw [if_neg (fun hz => hz hc17f)]); (first | rw [if_neg hc28f] | rw [if_neg (fun hz => hz hc28f)]); rw [if_neg (fun hz => hz.elim hc57f hc68f)]; (first | rw [if_neg hc79f] | rw [if_neg (fun hz => hz hc79f)]); (first | rw [if_neg hc90f] | rw [if_neg (fun hz => hz hc90f)]); (first | rw [if_neg hc101f] | rw [if_neg (fun hz => hz hc101f)]); (first | rw [if_neg hc143f] | rw [if_neg (fun hz => hz hc143f)]); (first | rw [if_neg hc154f] | rw [if_neg (fun hz => hz hc154f)]); (first | rw [if_neg hc165f] | rw [if_neg (fun hz => hz hc165f)]); rw [if_pos (.inr hc188f)])]; exact ⟨rfl, hkb9, hbt9, nd, hcp9, hsub9, hfr9⟩)
                        ·
                          have hc188f : ev.kind ≠ 13 := by simpa using hc188
                          refine wp_seq_k fun K196 hK196 => ?_
                          refine wp_seq_k fun K197 hK197 => ?_
                          refine nd_start (l := [0, 1]) rfl ?_
                          refine nd_batch tabOk tabZ_ok [(0, {}), (1, {})] [4, 0, 1, 2, 6, 11, 51, 103, 109] (T' := [(4, .pointer (some ⟨b2, 0, none⟩)), (0, .pointer (some ⟨kb, 0, none⟩)), (1, .agg #[.int .u8 ev.kind, .int .u32 ev.pick, .int .u64 ev.draw, .int .u32 ev.addr, .int .u32 ev.node, .int .u32 ev.dst, .int .u32 ev.xfer, .int .u8 ev.ty, .int .u64 ev.arg, .int .u64 ev.badge, .slice xo ev.ws.length cx]), (2, .pointer (some ⟨bt, 0, none⟩)), (6, .int .u8 0), (11, .int .u8 ev.kind), (51, .bool (ev.kind == 5)), (103, .bool (ev.kind == 13)), (109, .bool (ev.kind == 18))]) (φ := True) (rest := []) h187 (by kernel_rfl) rfl trivial fun a198 h199 => ?_
                          clear h187
                          refine nd_done ?_
                          refine hK197 _ _ ?_
                          clear hK197
                          refine c_split h199 (b := (ev.kind == 18)) rfl (fun hc200 => ?_) (fun hc200 => ?_)
                          ·
                            have hc200f : ev.kind = 18 := by simpa using hc200
                            refine wp_skip ?_
                            refine hK196 _ _ ?_
                            clear hK196
                            refine c_split h199 (b := (ev.kind == 18)) rfl (fun hc201 => ?_) (fun hc201 => ?_)
                            ·
                              have hc201f : ev.kind = 18 := by simpa using hc201
                              refine wp_seq_k fun K202 hK202 => ?_
                              refine nd_start (l := [0, 1, 2, 3]) rfl ?_
                              refine nd_batch tabOk tabZ_ok [(0, {}), (1, {k := 2})] [4, 0, 1, 2, 6, 11, 51, 103, 109, 112, 113] (T' := [(4, .pointer (some ⟨b2, 0, none⟩)), (0, .pointer (some ⟨kb, 0, none⟩)), (1, .agg #[.int .u8 ev.kind, .int .u32 ev.pick, .int .u64 ev.draw, .int .u32 ev.addr, .int .u32 ev.node, .int .u32 ev.dst, .int .u32 ev.xfer, .int .u8 ev.ty, .int .u64 ev.arg, .int .u64 ev.badge, .slice xo ev.ws.length cx]), (2, .pointer (some ⟨bt, 0, none⟩)), (6, .int .u8 0), (11, .int .u8 ev.kind), (51, .bool (ev.kind == 5)), (103, .bool (ev.kind == 13)), (109, .bool (ev.kind == 18)), (112, .pointer (some ⟨kb, 0, none⟩)), (113, .agg #[.int .u8 ev.kind, .int .u32 ev.pick, .int .u64 ev.draw, .int .u32 ev.addr, .int .u32 ev.node, .int .u32 ev.dst, .int .u32 ev.xfer, .int .u8 ev.ty, .int .u64 ev.arg, .int .u64 ev.badge, .slice xo ev.ws.length cx])]) (φ := (b2 = b2 ∧ Nat.ble (0 + 11) 11 = true) ∧ True) (rest := [2, 3]) h199 (by kernel_rfl) rfl ⟨⟨rfl, rfl⟩, trivial⟩ fun a203 h204 => ?_
                              clear h199
                              refine nd_op ?_
                              refine op_call h204 rfl rfl rfl (callOk Tryd.func84 (by decide) rfl) (args := [.pointer (some ⟨kb, 0, none⟩), .agg #[.int .u8 ev.kind, .int .u32 ev.pick, .int .u64 ev.draw, .int .u32 ev.addr, .int .u32 ev.node, .int .u32 ev.dst, .int .u32 ev.xfer, .int .u8 ev.ty, .int .u64 ev.arg, .int .u64 ev.badge, .slice xo ev.ws.length cx]]) rfl (line_ok kb bo bc nd S rS C hC hcur ev he xo cx _ (h204.kn (k := 0) (blk := ⟨kC bo bc S, 90, false⟩) rfl) h204.inv hdkb) ?_
                              rintro _ w205 ⟨rfl, hk9, hf9⟩
                              refine ⟨_, rfl, ?_⟩
                              have hfr9 : Fr (bt :: kb :: capF bo bc nd C) w w205 := h204.frame.trans hf9 (fun b hb => .inl (by simp at hb; subst hb; simp))
                              have h206 := ((h204.as (L' := []) (List.nil_sublist _) (A' := fun _ => True) (F' := []) trivial (fun _ _ _ _ => trivial) (fun _ hq => by cases hq) knil).jump hfr9).put (d := some 114) (v := .int .u8 ((lineP S C ev).2)) (T' := [(114, .int .u8 ((lineP S C ev).2)), (4, .pointer (some ⟨b2, 0, none⟩)), (0, .pointer (some ⟨kb, 0, none⟩)), (1, .agg #[.int .u8 ev.kind, .int .u32 ev.pick, .int .u64 ev.draw, .int .u32 ev.addr, .int .u32 ev.node, .int .u32 ev.dst, .int .u32 ev.xfer, .int .u8 ev.ty, .int .u64 ev.arg, .int .u64 ev.badge, .slice xo ev.ws.length cx]), (2, .pointer (some ⟨bt, 0, none⟩)), (6, .int .u8 0), (11, .int .u8 ev.kind), (51, .bool (ev.kind == 5)), (103, .bool (ev.kind == 13)), (109, .bool (ev.kind == 18)), (112, .pointer (some ⟨kb, 0, none⟩)), (113, .agg #[.int .u8 ev.kind, .int .u32 ev.pick, .int .u64 ev.draw, .int .u32 ev.addr, .int .u32 ev.node, .int .u32 ev.dst, .int .u32 ev.xfer, .int .u8 ev.ty, .int .u64 ev.arg, .int .u64 ev.badge, .slice xo ev.ws.length cx])]) rfl
                              have hkb9 : w205.heap[kb]? = some (Blk.obj ⟨kC bo bc ((lineP S C ev).1), 90, false⟩) := hk9
                              have hbt9 : w205.heap[bt]? = some (Blk.obj ⟨outC ou, 42, false⟩) := (by rw [hf9.block bt (lt_of_heap (h204.kn (k := 1) (blk := ⟨outC ou, 42, false⟩) rfl)) (by simp; exact hkt.symm)]; exact (h204.kn (k := 1) (blk := ⟨outC ou, 42, false⟩) rfl))
                              have hcp9 : CapAt w205 bo bc nd C := h204.inv.fr hf9 (fun b9 hb9 hq => by simp at hq; subst hq; exact hdkb hb9)
                              have hsub9 : ∀ x ∈ capF bo bc nd C, x ∈ capF bo bc nd C ∨ w.heap.size ≤ x := fun _ hq => .inl hq
                              clear h204
                              refine nd_batch tabOk tabZ_ok [(3, {})] [4, 0, 1, 2, 11, 51, 103, 109, 6] (T' := [(4, .pointer (some ⟨b2, 0, none⟩)), (0, .pointer (some ⟨kb, 0, none⟩)), (1, .agg #[.int .u8 ev.kind, .int .u32 ev.pick, .int .u64 ev.draw, .int .u32 ev.addr, .int .u32 ev.node, .int .u32 ev.dst, .int .u32 ev.xfer, .int .u8 ev.ty, .int .u64 ev.arg, .int .u64 ev.badge, .slice xo ev.ws.length cx]), (2, .pointer (some ⟨bt, 0, none⟩)), (11, .int .u8 ev.kind), (51, .bool (ev.kind == 5)), (103, .bool (ev.kind == 13)), (109, .bool (ev.kind == 18)), (6, .int .u8 ((lineP S C ev).2))]) (φ := True) (rest := []) h206 (by kernel_rfl) rfl trivial fun a207 h208 => ?_
                              clear h206
                              refine nd_done ?_
                              refine hK202 _ _ ?_
                              clear hK202
                              refine wp_ret ?_
                              try simp only [Exit.then, Exit.inBlock]
                              try rw [if_pos trivial]
                              exact s_ret tabOk tabZ_ok h208 [(.tmp 6, {})] (vs := [.int .u8 ((lineP S C ev).2)]) (φ := True) rfl (by kernel_rfl) trivial (by rw [show sysP S C ev ou = ((lineP S C ev).1, C, ou, (lineP S C ev).2) from (by unfold sysP; (try dsimp only); (first | rw [if_neg hc17f] | rw [if_neg (fun hz => hz hc17f)]); (first | rw [if_neg hc28f] | rw [if_neg (fun hz => hz hc28f)]); rw [if_neg (fun hz => hz.elim hc57f hc68f)]; (first | rw [if_neg hc79f] | rw [if_neg (fun hz => hz hc79f)]); (first | rw [if_neg hc90f] | rw [if_neg (fun hz => hz hc90f)]); (first | rw [if_neg hc101f] | rw [if_neg (fun hz => hz hc101f)]); (first | rw [if_neg hc143f] | rw [if_neg (fun hz => hz hc143f)]); (first | rw [if_neg hc154f] | rw [if_neg (fun hz => hz hc154f)]); (first | rw [if_neg hc165f] | rw [if_neg (fun hz => hz hc165f)]); rw [if_neg (fun hz => hz.elim hc177f hc188f)]; rw [if_pos (.inl hc200f)])]; exact ⟨rfl, hkb9, hbt9, nd, hcp9, hsub9, hfr9⟩)
                            ·
                              exact absurd (hc201.symm.trans hc200) (by decide)
                          ·
                            have hc200f : ev.kind ≠ 18 := by simpa using hc200
                            refine nd_start (l := [0, 1]) rfl ?_
                            refine nd_batch tabOk tabZ_ok [(0, {}), (1, {})] [4, 0, 1, 2, 6, 11, 51, 103, 109] (T' := [(4, .pointer (some ⟨b2, 0, none⟩)), (0, .pointer (some ⟨kb, 0, none⟩)), (1, .agg #[.int .u8 ev.kind, .int .u32 ev.pick, .int .u64 ev.draw, .int .u32 ev.addr, .int .u32 ev.node, .int .u32 ev.dst, .int .u32 ev.xfer, .int .u8 ev.ty, .int .u64 ev.arg, .int .u64 ev.badge, .slice xo ev.ws.length cx]), (2, .pointer (some ⟨bt, 0, none⟩)), (6, .int .u8 0), (11, .int .u8 ev.kind), (51, .bool (ev.kind == 5)), (103, .bool (ev.kind == 13)), (109, .bool (ev.kind == 19))]) (φ := True) (rest := []) h199 (by kernel_rfl) rfl trivial fun a209 h210 => ?_
                            clear h199
                            refine nd_done ?_
                            refine hK196 _ _ ?_
                            clear hK196
                            refine c_split h210 (b := (ev.kind == 19)) rfl (fun hc211 => ?_) (fun hc211 => ?_)
                            ·
                              have hc211f : ev.kind = 19 := by simpa using hc211
                              refine wp_seq_k fun K212 hK212 => ?_
                              refine nd_start (l := [0, 1, 2, 3]) rfl ?_
                              refine nd_batch tabOk tabZ_ok [(0, {}), (1, {k := 2})] [4, 0, 1, 2, 6, 11, 51, 103, 109, 112, 113] (T' := [(4, .pointer (some ⟨b2, 0, none⟩)), (0, .pointer (some ⟨kb, 0, none⟩)), (1, .agg #[.int .u8 ev.kind, .int .u32 ev.pick, .int .u64 ev.draw, .int .u32 ev.addr, .int .u32 ev.node, .int .u32 ev.dst, .int .u32 ev.xfer, .int .u8 ev.ty, .int .u64 ev.arg, .int .u64 ev.badge, .slice xo ev.ws.length cx]), (2, .pointer (some ⟨bt, 0, none⟩)), (6, .int .u8 0), (11, .int .u8 ev.kind), (51, .bool (ev.kind == 5)), (103, .bool (ev.kind == 13)), (109, .bool (ev.kind == 19)), (112, .pointer (some ⟨kb, 0, none⟩)), (113, .agg #[.int .u8 ev.kind, .int .u32 ev.pick, .int .u64 ev.draw, .int .u32 ev.addr, .int .u32 ev.node, .int .u32 ev.dst, .int .u32 ev.xfer, .int .u8 ev.ty, .int .u64 ev.arg, .int .u64 ev.badge, .slice xo ev.ws.length cx])]) (φ := (b2 = b2 ∧ Nat.ble (0 + 11) 11 = true) ∧ True) (rest := [2, 3]) h210 (by kernel_rfl) rfl ⟨⟨rfl, rfl⟩, trivial⟩ fun a213 h214 => ?_
                              clear h210
                              refine nd_op ?_
                              refine op_call h214 rfl rfl rfl (callOk Tryd.func84 (by decide) rfl) (args := [.pointer (some ⟨kb, 0, none⟩), .agg #[.int .u8 ev.kind, .int .u32 ev.pick, .int .u64 ev.draw, .int .u32 ev.addr, .int .u32 ev.node, .int .u32 ev.dst, .int .u32 ev.xfer, .int .u8 ev.ty, .int .u64 ev.arg, .int .u64 ev.badge, .slice xo ev.ws.length cx]]) rfl (line_ok kb bo bc nd S rS C hC hcur ev he xo cx _ (h214.kn (k := 0) (blk := ⟨kC bo bc S, 90, false⟩) rfl) h214.inv hdkb) ?_
                              rintro _ w215 ⟨rfl, hk9, hf9⟩
                              refine ⟨_, rfl, ?_⟩
                              have hfr9 : Fr (bt :: kb :: capF bo bc nd C) w w215 := h214.frame.trans hf9 (fun b hb => .inl (by simp at hb; subst hb; simp))
                              have h216 := ((h214.as (L' := []) (List.nil_sublist _) (A' := fun _ => True) (F' := []) trivial (fun _ _ _ _ => trivial) (fun _ hq => by cases hq) knil).jump hfr9).put (d := some 114) (v := .int .u8 ((lineP S C ev).2)) (T' := [(114, .int .u8 ((lineP S C ev).2)), (4, .pointer (some ⟨b2, 0, none⟩)), (0, .pointer (some ⟨kb, 0, none⟩)), (1, .agg #[.int .u8 ev.kind, .int .u32 ev.pick, .int .u64 ev.draw, .int .u32 ev.addr, .int .u32 ev.node, .int .u32 ev.dst, .int .u32 ev.xfer, .int .u8 ev.ty, .int .u64 ev.arg, .int .u64 ev.badge, .slice xo ev.ws.length cx]), (2, .pointer (some ⟨bt, 0, none⟩)), (6, .int .u8 0), (11, .int .u8 ev.kind), (51, .bool (ev.kind == 5)), (103, .bool (ev.kind == 13)), (109, .bool (ev.kind == 19)), (112, .pointer (some ⟨kb, 0, none⟩)), (113, .agg #[.int .u8 ev.kind, .int .u32 ev.pick, .int .u64 ev.draw, .int .u32 ev.addr, .int .u32 ev.node, .int .u32 ev.dst, .int .u32 ev.xfer, .int .u8 ev.ty, .int .u64 ev.arg, .int .u64 ev.badge, .slice xo ev.ws.length cx])]) rfl
                              have hkb9 : w215.heap[kb]? = some (Blk.obj ⟨kC bo bc ((lineP S C ev).1), 90, false⟩) := hk9
                              have hbt9 : w215.heap[bt]? = some (Blk.obj ⟨outC ou, 42, false⟩) := (by rw [hf9.block bt (lt_of_heap (h214.kn (k := 1) (blk := ⟨outC ou, 42, false⟩) rfl)) (by simp; exact hkt.symm)]; exact (h214.kn (k := 1) (blk := ⟨outC ou, 42, false⟩) rfl))
                              have hcp9 : CapAt w215 bo bc nd C := h214.inv.fr hf9 (fun b9 hb9 hq => by simp at hq; subst hq; exact hdkb hb9)
                              have hsub9 : ∀ x ∈ capF bo bc nd C, x ∈ capF bo bc nd C ∨ w.heap.size ≤ x := fun _ hq => .inl hq
                              clear h214
                              refine nd_batch tabOk tabZ_ok [(3, {})] [4, 0, 1, 2, 11, 51, 103, 109, 6] (T' := [(4, .pointer (some ⟨b2, 0, none⟩)), (0, .pointer (some ⟨kb, 0, none⟩)), (1, .agg #[.int .u8 ev.kind, .int .u32 ev.pick, .int .u64 ev.draw, .int .u32 ev.addr, .int .u32 ev.node, .int .u32 ev.dst, .int .u32 ev.xfer, .int .u8 ev.ty, .int .u64 ev.arg, .int .u64 ev.badge, .slice xo ev.ws.length cx]), (2, .pointer (some ⟨bt, 0, none⟩)), (11, .int .u8 ev.kind), (51, .bool (ev.kind == 5)), (103, .bool (ev.kind == 13)), (109, .bool (ev.kind == 19)), (6, .int .u8 ((lineP S C ev).2))]) (φ := True) (rest := []) h216 (by kernel_rfl) rfl trivial fun a217 h218 => ?_
                              clear h216
                              refine nd_done ?_
                              refine hK212 _ _ ?_
                              clear hK212
                              refine wp_ret ?_
                              try simp only [Exit.then, Exit.inBlock]
                              try rw [if_pos trivial]
                              exact s_ret tabOk tabZ_ok h218 [(.tmp 6, {})] (vs := [.int .u8 ((lineP S C ev).2)]) (φ := True) rfl (by kernel_rfl) trivial (by rw [show sysP S C ev ou = ((lineP S C ev).1, C, ou, (lineP S C ev).2) from (by unfold sysP; (try dsimp only); (first | rw [if_neg hc17f] | rw [if_neg (fun hz => hz hc17f)]); (first | rw [if_neg hc28f] | rw [if_neg (fun hz => hz hc28f)]); rw [if_neg (fun hz => hz.elim hc57f hc68f)]; (first | rw [if_neg hc79f] | rw [if_neg (fun hz => hz hc79f)]); (first | rw [if_neg hc90f] | rw [if_neg (fun hz => hz hc90f)]); (first | rw [if_neg hc101f] | rw [if_neg (fun hz => hz hc101f)]); (first | rw [if_neg hc143f] | rw [if_neg (fun hz => hz hc143f)]); (first | rw [if_neg hc154f] | rw [if_neg (fun hz => hz hc154f)]); (first | rw [if_neg hc165f] | rw [if_neg (fun hz => hz hc165f)]); rw [if_neg (fun hz => hz.elim hc177f hc188f)]; rw [if_pos (.inr hc211f)])]; exact ⟨rfl, hkb9, hbt9, nd, hcp9, hsub9, hfr9⟩)
                            ·
                              have hc211f : ev.kind ≠ 19 := by simpa using hc211
                              refine wp_seq_k fun K219 hK219 => ?_
                              refine nd_start (l := [0, 1, 2, 3]) rfl ?_
                              refine nd_batch tabOk tabZ_ok [(0, {}), (1, {k := 2})] [4, 0, 1, 2, 6, 11, 51, 103, 109, 12, 13] (T' := [(4, .pointer (some ⟨b2, 0, none⟩)), (0, .pointer (some ⟨kb, 0, none⟩)), (1, .agg #[.int .u8 ev.kind, .int .u32 ev.pick, .int .u64 ev.draw, .int .u32 ev.addr, .int .u32 ev.node, .int .u32 ev.dst, .int .u32 ev.xfer, .int .u8 ev.ty, .int .u64 ev.arg, .int .u64 ev.badge, .slice xo ev.ws.length cx]), (2, .pointer (some ⟨bt, 0, none⟩)), (6, .int .u8 0), (11, .int .u8 ev.kind), (51, .bool (ev.kind == 5)), (103, .bool (ev.kind == 13)), (109, .bool (ev.kind == 19)), (12, .pointer (some ⟨kb, 0, none⟩)), (13, .agg #[.int .u8 ev.kind, .int .u32 ev.pick, .int .u64 ev.draw, .int .u32 ev.addr, .int .u32 ev.node, .int .u32 ev.dst, .int .u32 ev.xfer, .int .u8 ev.ty, .int .u64 ev.arg, .int .u64 ev.badge, .slice xo ev.ws.length cx])]) (φ := (b2 = b2 ∧ Nat.ble (0 + 11) 11 = true) ∧ True) (rest := [2, 3]) h210 (by kernel_rfl) rfl ⟨⟨rfl, rfl⟩, trivial⟩ fun a220 h221 => ?_
                              clear h210
                              refine nd_op ?_
                              refine op_call h221 rfl rfl rfl (callOk Tryd.func85 (by decide) rfl) (args := [.pointer (some ⟨kb, 0, none⟩), .agg #[.int .u8 ev.kind, .int .u32 ev.pick, .int .u64 ev.draw, .int .u32 ev.addr, .int .u32 ev.node, .int .u32 ev.dst, .int .u32 ev.xfer, .int .u8 ev.ty, .int .u64 ev.arg, .int .u64 ev.badge, .slice xo ev.ws.length cx]]) rfl (control_ok kb bo bc nd S rS C hC hcur ev he xo cx _ (h221.kn (k := 0) (blk := ⟨kC bo bc S, 90, false⟩) rfl) h221.inv hdkb) ?_
                              rintro _ w222 ⟨rfl, hk9, hf9⟩
                              refine ⟨_, rfl, ?_⟩
                              have hfr9 : Fr (bt :: kb :: capF bo bc nd C) w w222 := h221.frame.trans hf9 (fun b hb => .inl (by simp at hb; subst hb; simp))
                              have h223 := ((h221.as (L' := []) (List.nil_sublist _) (A' := fun _ => True) (F' := []) trivial (fun _ _ _ _ => trivial) (fun _ hq => by cases hq) knil).jump hfr9).put (d := some 14) (v := .int .u8 ((controlP S C ev).2)) (T' := [(14, .int .u8 ((controlP S C ev).2)), (4, .pointer (some ⟨b2, 0, none⟩)), (0, .pointer (some ⟨kb, 0, none⟩)), (1, .agg #[.int .u8 ev.kind, .int .u32 ev.pick, .int .u64 ev.draw, .int .u32 ev.addr, .int .u32 ev.node, .int .u32 ev.dst, .int .u32 ev.xfer, .int .u8 ev.ty, .int .u64 ev.arg, .int .u64 ev.badge, .slice xo ev.ws.length cx]), (2, .pointer (some ⟨bt, 0, none⟩)), (6, .int .u8 0), (11, .int .u8 ev.kind), (51, .bool (ev.kind == 5)), (103, .bool (ev.kind == 13)), (109, .bool (ev.kind == 19)), (12, .pointer (some ⟨kb, 0, none⟩)), (13, .agg #[.int .u8 ev.kind, .int .u32 ev.pick, .int .u64 ev.draw, .int .u32 ev.addr, .int .u32 ev.node, .int .u32 ev.dst, .int .u32 ev.xfer, .int .u8 ev.ty, .int .u64 ev.arg, .int .u64 ev.badge, .slice xo ev.ws.length cx])]) rfl
                              have hkb9 : w222.heap[kb]? = some (Blk.obj ⟨kC bo bc ((controlP S C ev).1), 90, false⟩) := hk9
                              have hbt9 : w222.heap[bt]? = some (Blk.obj ⟨outC ou, 42, false⟩) := (by rw [hf9.block bt (lt_of_heap (h221.kn (k := 1) (blk := ⟨outC ou, 42, false⟩) rfl)) (by simp; exact hkt.symm)]; exact (h221.kn (k := 1) (blk := ⟨outC ou, 42, false⟩) rfl))
                              have hcp9 : CapAt w222 bo bc nd C := h221.inv.fr hf9 (fun b9 hb9 hq => by simp at hq; subst hq; exact hdkb hb9)
                              have hsub9 : ∀ x ∈ capF bo bc nd C, x ∈ capF bo bc nd C ∨ w.heap.size ≤ x := fun _ hq => .inl hq
                              clear h221
                              refine nd_batch tabOk tabZ_ok [(3, {})] [4, 0, 1, 2, 11, 51, 103, 109, 6] (T' := [(4, .pointer (some ⟨b2, 0, none⟩)), (0, .pointer (some ⟨kb, 0, none⟩)), (1, .agg #[.int .u8 ev.kind, .int .u32 ev.pick, .int .u64 ev.draw, .int .u32 ev.addr, .int .u32 ev.node, .int .u32 ev.dst, .int .u32 ev.xfer, .int .u8 ev.ty, .int .u64 ev.arg, .int .u64 ev.badge, .slice xo ev.ws.length cx]), (2, .pointer (some ⟨bt, 0, none⟩)), (11, .int .u8 ev.kind), (51, .bool (ev.kind == 5)), (103, .bool (ev.kind == 13)), (109, .bool (ev.kind == 19)), (6, .int .u8 ((controlP S C ev).2))]) (φ := True) (rest := []) h223 (by kernel_rfl) rfl trivial fun a224 h225 => ?_
                              clear h223
                              refine nd_done ?_
                              refine hK219 _ _ ?_
                              clear hK219
                              refine wp_ret ?_
                              try simp only [Exit.then, Exit.inBlock]
                              try rw [if_pos trivial]
                              exact s_ret tabOk tabZ_ok h225 [(.tmp 6, {})] (vs := [.int .u8 ((controlP S C ev).2)]) (φ := True) rfl (by kernel_rfl) trivial (by rw [show sysP S C ev ou = ((controlP S C ev).1, C, ou, (controlP S C ev).2) from (by unfold sysP; (try dsimp only); (first | rw [if_neg hc17f] | rw [if_neg (fun hz => hz hc17f)]); (first | rw [if_neg hc28f] | rw [if_neg (fun hz => hz hc28f)]); rw [if_neg (fun hz => hz.elim hc57f hc68f)]; (first | rw [if_neg hc79f] | rw [if_neg (fun hz => hz hc79f)]); (first | rw [if_neg hc90f] | rw [if_neg (fun hz => hz hc90f)]); (first | rw [if_neg hc101f] | rw [if_neg (fun hz => hz hc101f)]); (first | rw [if_neg hc143f] | rw [if_neg (fun hz => hz hc143f)]); (first | rw [if_neg hc154f] | rw [if_neg (fun hz => hz hc154f)]); (first | rw [if_neg hc165f] | rw [if_neg (fun hz => hz hc165f)]); rw [if_neg (fun hz => hz.elim hc177f hc188f)]; rw [if_neg (fun hz => hz.elim hc200f hc211f)])]; exact ⟨rfl, hkb9, hbt9, nd, hcp9, hsub9, hfr9⟩)

end Go.Proofs.Qxb6500918aDoor
