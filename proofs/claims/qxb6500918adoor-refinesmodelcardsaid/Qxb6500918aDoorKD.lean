/-
  send, recv. (Made by program: a symbolic walk that prints its steps.)
-/
import Derived.Test.Qxb6500918aDoorKC
import Derived.Test.Qxb6500918aDoorKq
namespace Go.Proofs.Qxb6500918aDoor
open Go.Sx Go.Kn
set_option maxRecDepth 100000
set_option maxHeartbeats 4000000
set_option linter.unusedVariables false
set_option linter.unusedSimpArgs false

theorem oldestE (kb bo bc : Nat) (S : KP) (rS : RI S) (o : Rf) (s : Int) (ho : 0 ≤ o.idx ∧ o.idx < 256) (w : World) (hb : w.heap[kb]? = some (Blk.obj ⟨kC bo bc S, 90, false⟩)) {t : Int} (e : t = oldestP S o s) :
    Calls Tryd.prog 101 #[.pointer (some ⟨kb, 0, none⟩), .agg #[.int .u16 o.idx, .int .u32 o.gen], .int .u8 s] w fun e w' => e = .returned (.int .i16 t) ∧ Fr [] w w' := by
  subst e; exact oldest_ok kb bo bc S rS o s ho w hb

theorem deliver_capF {bo bc : Nat} {nd : Nat → Nat} {S : KP} {C : CP} {f t : Int} : capF bo bc nd (deliverP S C f t).2 = capF bo bc nd C := by
  have : (deliverP S C f t).2.pres = C.pres := by
    unfold deliverP; dsimp only
    split
    · rfl
    · split
      · split <;> rfl
      · rfl
  unfold capF; rw [this]

theorem send_ok (kb bo bc : Nat) (nd : Nat → Nat) (S : KP) (rS : RI S) (C : CP) (hC : CI C) (hcur : 0 ≤ S.cur ∧ S.cur < 256) (ev : Ev) (he : EvOk ev) (xo : Option Addr) (cx : Nat) (w : World) (hb : w.heap[kb]? = some (Blk.obj ⟨kC bo bc S, 90, false⟩)) (hc : CapAt w bo bc nd C) (hdkb : kb ∉ capF bo bc nd C) (hws : WordsAt (kb :: capF bo bc nd C) w xo ev.ws) :
    Calls Tryd.prog 76 #[.pointer (some ⟨kb, 0, none⟩), .agg #[.int .u8 ev.kind, .int .u32 ev.pick, .int .u64 ev.draw, .int .u32 ev.addr, .int .u32 ev.node, .int .u32 ev.dst, .int .u32 ev.xfer, .int .u8 ev.ty, .int .u64 ev.arg, .int .u64 ev.badge, .slice xo ev.ws.length cx]] w fun e w' => e = .returned (.int .u8 (sendP S C ev).2.2) ∧ w'.heap[kb]? = some (Blk.obj ⟨kC bo bc (sendP S C ev).1, 90, false⟩) ∧ CapAt w' bo bc nd (sendP S C ev).2.1 ∧ Fr (kb :: capF bo bc nd C) w w' := by
  have hne : kb ≠ bo := fun hq => hdkb (mem_capF.2 (.inl hq))
  refine enter (n := 89) (K := (kb :: capF bo bc nd C)) (A := fun w => CapAt w bo bc nd C) (F := (capF bo bc nd C)) (T := [(0, .pointer (some ⟨kb, 0, none⟩)), (1, .agg #[.int .u8 ev.kind, .int .u32 ev.pick, .int .u64 ev.draw, .int .u32 ev.addr, .int .u32 ev.node, .int .u32 ev.dst, .int .u32 ev.xfer, .int .u8 ev.ty, .int .u64 ev.arg, .int .u64 ev.badge, .slice xo ev.ws.length cx])]) (L := [(kb, ⟨kC bo bc S, 90, false⟩)]) (args := [.pointer (some ⟨kb, 0, none⟩), .agg #[.int .u8 ev.kind, .int .u32 ev.pick, .int .u64 ev.draw, .int .u32 ev.addr, .int .u32 ev.node, .int .u32 ev.dst, .int .u32 ev.xfer, .int .u8 ev.ty, .int .u64 ev.arg, .int .u64 ev.badge, .slice xo ev.ws.length cx]]) Tryd.func76 rfl rfl rfl rfl (kcons hb knil) (by simp) (kcons (fun _ => by simp) knil) hc CapAt.stable hc.low (kcons (fun _ => hdkb) knil) ?_
  intro a h
  refine wp_seq_k fun K1 hK1 => ?_
  refine nd_start (l := [0, 1]) rfl ?_
  refine nd_op ?_
  refine op_new tabOk (cells := [.int .u8 ev.kind, .int .u32 ev.pick, .int .u64 ev.draw, .int .u32 ev.addr, .int .u32 ev.node, .int .u32 ev.dst, .int .u32 ev.xfer, .int .u8 ev.ty, .int .u64 ev.arg, .int .u64 ev.badge, .slice xo ev.ws.length cx]) (ty := 35) (ln := none) (L1 := fun b2 => [(kb, ⟨kC bo bc S, 90, false⟩), (b2, ⟨[.int .u8 ev.kind, .int .u32 ev.pick, .int .u64 ev.draw, .int .u32 ev.addr, .int .u32 ev.node, .int .u32 ev.dst, .int .u32 ev.xfer, .int .u8 ev.ty, .int .u64 ev.arg, .int .u64 ev.badge, .slice xo ev.ws.length cx], 35, false⟩)]) h rfl rfl rfl rfl (by kernel_rfl) (fun _ => rfl) fun b2 w3 a4 h5 hf6 hn7 => ?_
  clear h
  refine nd_batch tabOk tabZ_ok [(1, {})] [3, 0, 1, 4] (T' := [(3, .pointer (some ⟨b2, 0, none⟩)), (0, .pointer (some ⟨kb, 0, none⟩)), (1, .agg #[.int .u8 ev.kind, .int .u32 ev.pick, .int .u64 ev.draw, .int .u32 ev.addr, .int .u32 ev.node, .int .u32 ev.dst, .int .u32 ev.xfer, .int .u8 ev.ty, .int .u64 ev.arg, .int .u64 ev.badge, .slice xo ev.ws.length cx]), (4, .int .u8 0)]) (φ := True) (rest := []) h5 (by kernel_rfl) rfl trivial fun a8 h9 => ?_
  clear h5
  refine nd_done ?_
  refine hK1 _ _ ?_
  clear hK1
  refine wp_seq_k fun K10 hK10 => ?_
  refine nd_start (l := [0, 1, 2, 3, 4, 5, 6, 7, 8, 9, 10, 11]) rfl ?_
  refine nd_batch tabOk tabZ_ok [(0, {}), (1, {}), (2, {k := 1})] [3, 0, 1, 4, 12, 14] (T' := [(3, .pointer (some ⟨b2, 0, none⟩)), (0, .pointer (some ⟨kb, 0, none⟩)), (1, .agg #[.int .u8 ev.kind, .int .u32 ev.pick, .int .u64 ev.draw, .int .u32 ev.addr, .int .u32 ev.node, .int .u32 ev.dst, .int .u32 ev.xfer, .int .u8 ev.ty, .int .u64 ev.arg, .int .u64 ev.badge, .slice xo ev.ws.length cx]), (4, .int .u8 0), (12, .pointer (some ⟨kb, 0, none⟩)), (14, .int .u32 ev.addr)]) (φ := (b2 = b2 ∧ Nat.ble (3 + 1) 11 = true) ∧ True) (rest := [3, 4, 5, 6, 7, 8, 9, 10, 11]) h9 (by kernel_rfl) rfl ⟨⟨rfl, rfl⟩, trivial⟩ fun a11 h12 => ?_
  clear h9
  refine nd_op ?_
  obtain ⟨fc13, fs14, fk15, hfd16⟩ : ∃ c s k, findP S C ev.addr 4 2 = (c, s, k) := ⟨_, _, _, rfl⟩
  refine op_call h12 rfl rfl rfl (callOk Tryd.func79 (by decide) rfl) (args := [.pointer (some ⟨kb, 0, none⟩), .int .u32 ev.addr, .int .u8 4, .int .u8 2]) rfl (find_ok kb bo bc nd S rS C hC ev.addr 4 2 hcur he.addr _ (h12.kn (k := 0) (blk := ⟨kC bo bc S, 90, false⟩) rfl) h12.inv hdkb hfd16) ?_
  rintro _ w17 ⟨rfl, hf19⟩
  refine ⟨_, rfl, ?_⟩
  have h18 := (h12.grow hf19).put (d := some 15) (v := .tuple #[.agg #[.int .u8 fc13.ty, .int .u16 fc13.obj.idx, .int .u32 fc13.obj.gen, .int .u8 fc13.rights, .int .u64 fc13.badge], .int .i64 fs14, .int .u8 fk15]) (T' := [(15, .tuple #[.agg #[.int .u8 fc13.ty, .int .u16 fc13.obj.idx, .int .u32 fc13.obj.gen, .int .u8 fc13.rights, .int .u64 fc13.badge], .int .i64 fs14, .int .u8 fk15]), (3, .pointer (some ⟨b2, 0, none⟩)), (0, .pointer (some ⟨kb, 0, none⟩)), (1, .agg #[.int .u8 ev.kind, .int .u32 ev.pick, .int .u64 ev.draw, .int .u32 ev.addr, .int .u32 ev.node, .int .u32 ev.dst, .int .u32 ev.xfer, .int .u8 ev.ty, .int .u64 ev.arg, .int .u64 ev.badge, .slice xo ev.ws.length cx]), (4, .int .u8 0), (12, .pointer (some ⟨kb, 0, none⟩)), (14, .int .u32 ev.addr)]) rfl
  clear h12
  refine nd_batch tabOk tabZ_ok [(4, {}), (5, {}), (6, {}), (7, {})] [3, 0, 1, 4, 16, 17, 18] (T' := [(3, .pointer (some ⟨b2, 0, none⟩)), (0, .pointer (some ⟨kb, 0, none⟩)), (1, .agg #[.int .u8 ev.kind, .int .u32 ev.pick, .int .u64 ev.draw, .int .u32 ev.addr, .int .u32 ev.node, .int .u32 ev.dst, .int .u32 ev.xfer, .int .u8 ev.ty, .int .u64 ev.arg, .int .u64 ev.badge, .slice xo ev.ws.length cx]), (4, .int .u8 0), (16, .agg #[.int .u8 fc13.ty, .int .u16 fc13.obj.idx, .int .u32 fc13.obj.gen, .int .u8 fc13.rights, .int .u64 fc13.badge]), (17, .int .i64 fs14), (18, .int .u8 fk15)]) (φ := True) (rest := [8, 9, 10, 11]) h18 (by kernel_rfl) rfl trivial fun a20 h21 => ?_
  clear h18
  refine nd_op ?_
  refine op_new tabOk (cells := [.int .u8 0, .int .u16 0, .int .u32 0, .int .u8 0, .int .u64 0]) (ty := 49) (ln := none) (L1 := fun b22 => [(kb, ⟨kC bo bc S, 90, false⟩), (b2, ⟨[.int .u8 ev.kind, .int .u32 ev.pick, .int .u64 ev.draw, .int .u32 ev.addr, .int .u32 ev.node, .int .u32 ev.dst, .int .u32 ev.xfer, .int .u8 ev.ty, .int .u64 ev.arg, .int .u64 ev.badge, .slice xo ev.ws.length cx], 35, false⟩), (b22, ⟨[.int .u8 0, .int .u16 0, .int .u32 0, .int .u8 0, .int .u64 0], 49, false⟩)]) h21 rfl rfl rfl rfl (by kernel_rfl) (fun _ => rfl) fun b22 w23 a24 h25 hf26 hn27 => ?_
  clear h21
  refine nd_op ?_
  refine op_store tabOk {k := 2} (L' := [(kb, ⟨kC bo bc S, 90, false⟩), (b2, ⟨[.int .u8 ev.kind, .int .u32 ev.pick, .int .u64 ev.draw, .int .u32 ev.addr, .int .u32 ev.node, .int .u32 ev.dst, .int .u32 ev.xfer, .int .u8 ev.ty, .int .u64 ev.arg, .int .u64 ev.badge, .slice xo ev.ws.length cx], 35, false⟩), (b22, ⟨[.int .u8 fc13.ty, .int .u16 fc13.obj.idx, .int .u32 fc13.obj.gen, .int .u8 fc13.rights, .int .u64 fc13.badge], 49, false⟩)]) (φ := b22 = b22 ∧ Nat.ble (0 + 5) 5 = true) h25 rfl rfl rfl (by kernel_rfl) ⟨rfl, rfl⟩ fun w28 h29 => ?_
  clear h25
  refine nd_batch tabOk tabZ_ok [(10, {}), (11, {})] [5, 3, 0, 1, 4, 7] (T' := [(5, .pointer (some ⟨b22, 0, none⟩)), (3, .pointer (some ⟨b2, 0, none⟩)), (0, .pointer (some ⟨kb, 0, none⟩)), (1, .agg #[.int .u8 ev.kind, .int .u32 ev.pick, .int .u64 ev.draw, .int .u32 ev.addr, .int .u32 ev.node, .int .u32 ev.dst, .int .u32 ev.xfer, .int .u8 ev.ty, .int .u64 ev.arg, .int .u64 ev.badge, .slice xo ev.ws.length cx]), (4, .int .u8 0), (7, .int .u8 fk15)]) (φ := True) (rest := []) h29 (by kernel_rfl) rfl trivial fun a30 h31 => ?_
  clear h29
  refine nd_done ?_
  refine hK10 _ _ ?_
  clear hK10
  refine wp_seq_k fun K32 hK32 => ?_
  refine wp_seq_k fun K33 hK33 => ?_
  refine nd_start (l := [0, 1]) rfl ?_
  refine nd_batch tabOk tabZ_ok [(0, {}), (1, {})] [5, 3, 0, 1, 4, 7, 20] (T' := [(5, .pointer (some ⟨b22, 0, none⟩)), (3, .pointer (some ⟨b2, 0, none⟩)), (0, .pointer (some ⟨kb, 0, none⟩)), (1, .agg #[.int .u8 ev.kind, .int .u32 ev.pick, .int .u64 ev.draw, .int .u32 ev.addr, .int .u32 ev.node, .int .u32 ev.dst, .int .u32 ev.xfer, .int .u8 ev.ty, .int .u64 ev.arg, .int .u64 ev.badge, .slice xo ev.ws.length cx]), (4, .int .u8 0), (7, .int .u8 fk15), (20, .bool (fk15 != 0))]) (φ := True) (rest := []) h31 (by kernel_rfl) rfl trivial fun a34 h35 => ?_
  clear h31
  refine nd_done ?_
  refine hK33 _ _ ?_
  clear hK33
  refine c_split h35 (b := (fk15 != 0)) rfl (fun hc36 => ?_) (fun hc36 => ?_)
  ·
    have hc36f : fk15 ≠ 0 := by simpa using hc36
    refine wp_seq_k fun K37 hK37 => ?_
    refine nd_start (l := [0, 1]) rfl ?_
    refine nd_batch tabOk tabZ_ok [(0, {}), (1, {})] [5, 3, 0, 1, 7, 4] (T' := [(5, .pointer (some ⟨b22, 0, none⟩)), (3, .pointer (some ⟨b2, 0, none⟩)), (0, .pointer (some ⟨kb, 0, none⟩)), (1, .agg #[.int .u8 ev.kind, .int .u32 ev.pick, .int .u64 ev.draw, .int .u32 ev.addr, .int .u32 ev.node, .int .u32 ev.dst, .int .u32 ev.xfer, .int .u8 ev.ty, .int .u64 ev.arg, .int .u64 ev.badge, .slice xo ev.ws.length cx]), (7, .int .u8 fk15), (4, .int .u8 fk15)]) (φ := True) (rest := []) h35 (by kernel_rfl) rfl trivial fun a38 h39 => ?_
    clear h35
    refine nd_done ?_
    refine hK37 _ _ ?_
    clear hK37
    refine wp_ret ?_
    try simp only [Exit.then, Exit.inBlock]
    try rw [if_pos trivial]
    exact s_ret tabOk tabZ_ok h39 [(.tmp 4, {})] (vs := [.int .u8 fk15]) (φ := True) rfl (by kernel_rfl) trivial (by rw [show sendP S C ev = (S, C, fk15) from (by unfold sendP; (try dsimp only); rw [hfd16]; (try dsimp only); (first | rw [if_pos hc36f] | rw [if_pos (fun hz => hz hc36f)]))]; exact ⟨rfl, h39.kn (k := 0) rfl, h39.inv, h39.frame⟩)
  ·
    have hc36f : fk15 = 0 := by simpa using hc36
    obtain ⟨fi40, fj40, hfi40, hfj40, hfp40, hfs40, hfcap40, hft40, hfz40, hfo40⟩ := find_fact rS hC hcur he.addr.1 hfd16 hc36f
    have hxfi40 := find_idx hfo40 (by rw [hft40]; decide)
    refine wp_skip ?_
    refine hK32 _ _ ?_
    clear hK32
    refine wp_seq_k fun K41 hK41 => ?_
    refine wp_seq_k fun K42 hK42 => ?_
    refine nd_start (l := [0, 1, 2, 3]) rfl ?_
    refine nd_batch tabOk tabZ_ok [(0, {}), (1, {k := 1}), (2, {}), (3, {})] [5, 3, 0, 1, 4, 7, 25] (T' := [(5, .pointer (some ⟨b22, 0, none⟩)), (3, .pointer (some ⟨b2, 0, none⟩)), (0, .pointer (some ⟨kb, 0, none⟩)), (1, .agg #[.int .u8 ev.kind, .int .u32 ev.pick, .int .u64 ev.draw, .int .u32 ev.addr, .int .u32 ev.node, .int .u32 ev.dst, .int .u32 ev.xfer, .int .u8 ev.ty, .int .u64 ev.arg, .int .u64 ev.badge, .slice xo ev.ws.length cx]), (4, .int .u8 0), (7, .int .u8 fk15), (25, .bool (decide (((ev.ws.length : Nat) : Int) > 4)))]) (φ := (b2 = b2 ∧ Nat.ble (10 + 1) 11 = true) ∧ True) (rest := []) h35 (by kernel_rfl) rfl ⟨⟨rfl, rfl⟩, trivial⟩ fun a43 h44 => ?_
    clear h35
    refine nd_done ?_
    refine hK42 _ _ ?_
    clear hK42
    refine c_split h44 (b := decide (((ev.ws.length : Nat) : Int) > 4)) rfl (fun hc45 => ?_) (fun hc45 => ?_)
    ·
      have hc45f : ((ev.ws.length : Nat) : Int) > 4 := by simpa using hc45
      refine wp_seq_k fun K46 hK46 => ?_
      refine nd_start (l := [0]) rfl ?_
      refine nd_batch tabOk tabZ_ok [(0, {})] [5, 3, 0, 1, 7, 4] (T' := [(5, .pointer (some ⟨b22, 0, none⟩)), (3, .pointer (some ⟨b2, 0, none⟩)), (0, .pointer (some ⟨kb, 0, none⟩)), (1, .agg #[.int .u8 ev.kind, .int .u32 ev.pick, .int .u64 ev.draw, .int .u32 ev.addr, .int .u32 ev.node, .int .u32 ev.dst, .int .u32 ev.xfer, .int .u8 ev.ty, .int .u64 ev.arg, .int .u64 ev.badge, .slice xo ev.ws.length cx]), (7, .int .u8 fk15), (4, .int .u8 8)]) (φ := True) (rest := []) h44 (by kernel_rfl) rfl trivial fun a47 h48 => ?_
      clear h44
      refine nd_done ?_
      refine hK46 _ _ ?_
      clear hK46
      refine wp_ret ?_
      try simp only [Exit.then, Exit.inBlock]
      try rw [if_pos trivial]
      exact s_ret tabOk tabZ_ok h48 [(.tmp 4, {})] (vs := [.int .u8 8]) (φ := True) rfl (by kernel_rfl) trivial (by rw [show sendP S C ev = (S, C, 8) from (by unfold sendP; (try dsimp only); rw [hfd16]; (try dsimp only); (first | rw [if_neg hc36f] | rw [if_neg (fun hz => hz hc36f)]); (first | rw [if_pos hc45f] | rw [if_pos (fun hz => hz hc45f)]))]; exact ⟨rfl, h48.kn (k := 0) rfl, h48.inv, h48.frame⟩)
    ·
      have hc45f : ¬ ((ev.ws.length : Nat) : Int) > 4 := by simpa using hc45
      refine wp_skip ?_
      refine hK41 _ _ ?_
      clear hK41
      refine wp_seq_k fun K49 hK49 => ?_
      refine nd_start (l := [0, 1, 2, 3, 4]) rfl ?_
      refine nd_batch tabOk tabZ_ok [(0, {}), (1, {}), (2, {}), (3, {k := 0, m := 1, vs := [.int .i16 S.cur]}), (4, {})] [5, 3, 0, 1, 4, 7, 8] (T' := [(5, .pointer (some ⟨b22, 0, none⟩)), (3, .pointer (some ⟨b2, 0, none⟩)), (0, .pointer (some ⟨kb, 0, none⟩)), (1, .agg #[.int .u8 ev.kind, .int .u32 ev.pick, .int .u64 ev.draw, .int .u32 ev.addr, .int .u32 ev.node, .int .u32 ev.dst, .int .u32 ev.xfer, .int .u8 ev.ty, .int .u64 ev.arg, .int .u64 ev.badge, .slice xo ev.ws.length cx]), (4, .int .u8 0), (7, .int .u8 fk15), (8, .int .i16 S.cur)]) (φ := (kb = kb ∧ cellsAre (kC bo bc S) 6427 [.int .i16 S.cur]) ∧ True) (rest := []) h44 (by kernel_rfl) rfl ⟨⟨rfl, k_cur⟩, trivial⟩ fun a50 h51 => ?_
      clear h44
      refine nd_done ?_
      refine hK49 _ _ ?_
      clear hK49
      refine wp_seq_k fun K52 hK52 => ?_
      refine nd_start (l := [0, 1, 2, 3, 4, 5]) rfl ?_
      refine nd_batch tabOk tabZ_ok [(0, {}), (1, {}), (2, {}), (3, {}), (4, {}), (5, {})] [5, 3, 0, 1, 4, 7, 8, 9] (T' := [(5, .pointer (some ⟨b22, 0, none⟩)), (3, .pointer (some ⟨b2, 0, none⟩)), (0, .pointer (some ⟨kb, 0, none⟩)), (1, .agg #[.int .u8 ev.kind, .int .u32 ev.pick, .int .u64 ev.draw, .int .u32 ev.addr, .int .u32 ev.node, .int .u32 ev.dst, .int .u32 ev.xfer, .int .u8 ev.ty, .int .u64 ev.arg, .int .u64 ev.badge, .slice xo ev.ws.length cx]), (4, .int .u8 0), (7, .int .u8 fk15), (8, .int .i16 S.cur), (9, .pointer (some ⟨kb, 2 + (S.cur.toNat * 21), none⟩))]) (φ := (0 ≤ S.cur ∧ S.cur < 256) ∧ True) (rest := []) h51 (by kernel_rfl) rfl ⟨⟨by omega, by omega⟩, trivial⟩ fun a53 h54 => ?_
      clear h51
      refine nd_done ?_
      refine hK52 _ _ ?_
      clear hK52
      refine wp_seq_k fun K55 hK55 => ?_
      refine nd_start (l := [0, 1, 2, 3, 4]) rfl ?_
      refine nd_batch tabOk tabZ_ok [(0, {}), (1, {}), (2, {}), (3, {k := 1})] [5, 3, 0, 1, 4, 7, 8, 9, 35, 36, 38] (T' := [(5, .pointer (some ⟨b22, 0, none⟩)), (3, .pointer (some ⟨b2, 0, none⟩)), (0, .pointer (some ⟨kb, 0, none⟩)), (1, .agg #[.int .u8 ev.kind, .int .u32 ev.pick, .int .u64 ev.draw, .int .u32 ev.addr, .int .u32 ev.node, .int .u32 ev.dst, .int .u32 ev.xfer, .int .u8 ev.ty, .int .u64 ev.arg, .int .u64 ev.badge, .slice xo ev.ws.length cx]), (4, .int .u8 0), (7, .int .u8 fk15), (8, .int .i16 S.cur), (9, .pointer (some ⟨kb, 2 + (S.cur.toNat * 21), none⟩)), (35, .pointer (some ⟨kb, 0, none⟩)), (36, .int .i16 S.cur), (38, .slice xo ev.ws.length cx)]) (φ := (b2 = b2 ∧ Nat.ble (10 + 1) 11 = true) ∧ True) (rest := [4]) h54 (by kernel_rfl) rfl ⟨⟨rfl, rfl⟩, trivial⟩ fun a56 h57 => ?_
      clear h54
      refine nd_op ?_
      refine op_call h57 rfl rfl rfl (callOk Tryd.func102 (by decide) rfl) (args := [.pointer (some ⟨kb, 0, none⟩), .int .i16 S.cur, .slice xo ev.ws.length cx]) rfl (load_ok kb bo bc S rS S.cur hcur xo cx ev.ws (by omega) _ (h57.kn (k := 0) rfl) ((hws.fr h57.frame).mono (fun b hb => by simp at hb; subst hb; exact List.mem_cons_self ..))) ?_
      rintro _ w61 ⟨rfl, hb59, hf60⟩
      refine ⟨_, rfl, ?_⟩
      obtain ⟨S58, eS58⟩ : ∃ S9, S9 = loadP S S.cur ev.ws := ⟨_, rfl⟩
      rw [← eS58] at hb59
      have rS58 : RI S58 := by rw [eS58]; exact load_RI rS hcur ev.ws
      have h62 := (h57.setBlk (k := 0) rfl rfl hf60 hb59 (L' := [(kb, ⟨kC bo bc S58, 90, false⟩), (b2, ⟨[.int .u8 ev.kind, .int .u32 ev.pick, .int .u64 ev.draw, .int .u32 ev.addr, .int .u32 ev.node, .int .u32 ev.dst, .int .u32 ev.xfer, .int .u8 ev.ty, .int .u64 ev.arg, .int .u64 ev.badge, .slice xo ev.ws.length cx], 35, false⟩), (b22, ⟨[.int .u8 fc13.ty, .int .u16 fc13.obj.idx, .int .u32 fc13.obj.gen, .int .u8 fc13.rights, .int .u64 fc13.badge], 49, false⟩)]) rfl).put (d := some 39) (v := .tuple #[]) (T' := [(39, .tuple #[]), (5, .pointer (some ⟨b22, 0, none⟩)), (3, .pointer (some ⟨b2, 0, none⟩)), (0, .pointer (some ⟨kb, 0, none⟩)), (1, .agg #[.int .u8 ev.kind, .int .u32 ev.pick, .int .u64 ev.draw, .int .u32 ev.addr, .int .u32 ev.node, .int .u32 ev.dst, .int .u32 ev.xfer, .int .u8 ev.ty, .int .u64 ev.arg, .int .u64 ev.badge, .slice xo ev.ws.length cx]), (4, .int .u8 0), (7, .int .u8 fk15), (8, .int .i16 S.cur), (9, .pointer (some ⟨kb, 2 + (S.cur.toNat * 21), none⟩)), (35, .pointer (some ⟨kb, 0, none⟩)), (36, .int .i16 S.cur), (38, .slice xo ev.ws.length cx)]) rfl
      clear h57
      refine nd_done ?_
      refine hK55 _ _ ?_
      clear hK55
      refine wp_seq_k fun K63 hK63 => ?_
      refine dr_start (KB := [kb, b2, b22]) (Bi := [[0, 1, 2], [0, 1, 2], [0, 1, 2], [0, 1, 2], [0, 1, 2], [0, 1, 2], [0, 1, 2], [0, 1, 2], [0, 1, 2], [0, 1, 2], [0, 1, 2], [0, 1, 2], [0, 1, 2], [0, 1, 2], [0, 1, 2], [0, 1, 2], [0, 1, 2], [0, 1, 2], [1, 2], [0, 1, 2], [0, 1, 2], [0, 1, 2], [1], [0, 1, 2], [0, 1, 2], [0, 1, 2], [1], [0, 1, 2], [0, 1, 2], [0, 1, 2], []]) mixed h62 fun w64 h65 => ?_
      clear h62
      refine dr_batch tabOk tabZ_ok (by repeat (first | with_reducible exact PF.body | with_reducible apply PF.inB | with_reducible apply PF.next)) [(0, {}), (1, {}), (2, {}), (3, {}), (4, {}), (5, {k := 2, p := 2}), (6, {}), (7, {k := 2, p := 2}), (8, {}), (9, {}), (10, {}), (11, {k := 1, p := 1}), (12, {}), (13, {}), (14, {k := 1, p := 1}), (15, {}), (16, {}), (17, {})] [5, 3, 0, 1, 4, 7, 8, 9, 41, 42, 43, 45, 49, 52, 54, 57] (T' := [(5, .pointer (some ⟨b22, 0, none⟩)), (3, .pointer (some ⟨b2, 0, none⟩)), (0, .pointer (some ⟨kb, 0, none⟩)), (1, .agg #[.int .u8 ev.kind, .int .u32 ev.pick, .int .u64 ev.draw, .int .u32 ev.addr, .int .u32 ev.node, .int .u32 ev.dst, .int .u32 ev.xfer, .int .u8 ev.ty, .int .u64 ev.arg, .int .u64 ev.badge, .slice xo ev.ws.length cx]), (4, .int .u8 0), (7, .int .u8 fk15), (8, .int .i16 S.cur), (9, .pointer (some ⟨kb, 2 + (S.cur.toNat * 21), none⟩)), (41, .pointer (some ⟨kb, 2 + (S.cur.toNat * 21), none⟩)), (42, .pointer (some ⟨kb, 2 + (S.cur.toNat * 21), none⟩)), (43, .pointer (some ⟨kb, 2 + (S.cur.toNat * 21), none⟩)), (45, .int .u64 fc13.badge), (49, .bool (bitI .and .u8 fc13.rights 4 != 0)), (52, .bool (ev.kind == 5)), (54, .int .u32 ev.xfer), (57, .pointer (some ⟨kb, 2 + (S.cur.toNat * 21) + 8, none⟩))]) (φ := (b22 = b22 ∧ Nat.ble (4 + 1) 5 = true) ∧ (b22 = b22 ∧ Nat.ble (3 + 1) 5 = true) ∧ (b2 = b2 ∧ Nat.ble (0 + 1) 11 = true) ∧ (b2 = b2 ∧ Nat.ble (6 + 1) 11 = true) ∧ True) (fuel := 13) h65 (by kernel_rfl) rfl (by kernel_rfl) (by kernel_rfl) ⟨trivial, trivial, trivial, trivial, trivial, rfl, trivial, rfl, trivial, trivial, trivial, rfl, trivial, trivial, rfl, trivial, trivial, trivial, trivial⟩ ⟨⟨rfl, rfl⟩, ⟨rfl, rfl⟩, ⟨rfl, rfl⟩, ⟨rfl, rfl⟩, trivial⟩ fun a67 h68 => ?_
      clear h65
      refine wpAnyK_one (i := 18) (fuel := 12) (by kernel_rfl) ?_
      refine op_store tabOk {k := 0, m := 1, vs := kC bo bc (S58.setT S.cur.toNat { S58.tcb S.cur.toNat with badge := fc13.badge })} (L' := [(kb, ⟨kC bo bc (S58.setT S.cur.toNat { S58.tcb S.cur.toNat with badge := fc13.badge }), 90, false⟩), (b2, ⟨[.int .u8 ev.kind, .int .u32 ev.pick, .int .u64 ev.draw, .int .u32 ev.addr, .int .u32 ev.node, .int .u32 ev.dst, .int .u32 ev.xfer, .int .u8 ev.ty, .int .u64 ev.arg, .int .u64 ev.badge, .slice xo ev.ws.length cx], 35, false⟩), (b22, ⟨[.int .u8 fc13.ty, .int .u16 fc13.obj.idx, .int .u32 fc13.obj.gen, .int .u8 fc13.rights, .int .u64 fc13.badge], 49, false⟩)]) (φ := kb = kb ∧ Nat.ble (2 + (S.cur.toNat * 21) + 8 + 1) (kC bo bc S58).length = true ∧ splice (kC bo bc S58) (2 + (S.cur.toNat * 21) + 8) [.int .u64 fc13.badge] = kC bo bc (S58.setT S.cur.toNat { S58.tcb S.cur.toNat with badge := fc13.badge })) h68 rfl rfl rfl (by kernel_rfl) ⟨rfl, k_in (by omega), (k_tcb_w (i := S.cur.toNat) (k := 8) (by omega) (Nat.le_of_ble_eq_true rfl) (by omega) rfl)⟩ fun w70 h71 => ?_
      obtain ⟨S69, eS69⟩ : ∃ S9, S9 = (S58.setT S.cur.toNat { S58.tcb S.cur.toNat with badge := fc13.badge }) := ⟨_, rfl⟩
      rw [← eS69] at h71
      have rS69 : RI S69 := by rw [eS69]; exact rS58.setT ⟨(rS58.t (i := S.cur.toNat) (by omega)).nx, (rS58.t (i := S.cur.toNat) (by omega)).pv, (rS58.t (i := S.cur.toNat) (by omega)).pr, (rS58.t (i := S.cur.toNat) (by omega)).wi, (rS58.t (i := S.cur.toNat) (by omega)).ci, (rS58.t (i := S.cur.toNat) (by omega)).ri, (rS58.t (i := S.cur.toNat) (by omega)).ds⟩
      have hkh71 := h68.known
      refine ⟨(keepOf hkh71 h71.known (kcons (keepAt (q := 1) (q' := 1) rfl rfl) (kcons (keepAt (q := 2) (q' := 2) rfl rfl) knil))), ?_⟩
      clear h68
      refine dr_batch tabOk tabZ_ok (by repeat (first | with_reducible exact PF.body | with_reducible apply PF.inB | with_reducible apply PF.next)) [(19, {}), (20, {}), (21, {})] [5, 3, 0, 1, 4, 7, 8, 9, 42, 43, 49, 52, 54, 60] (T' := [(5, .pointer (some ⟨b22, 0, none⟩)), (3, .pointer (some ⟨b2, 0, none⟩)), (0, .pointer (some ⟨kb, 0, none⟩)), (1, .agg #[.int .u8 ev.kind, .int .u32 ev.pick, .int .u64 ev.draw, .int .u32 ev.addr, .int .u32 ev.node, .int .u32 ev.dst, .int .u32 ev.xfer, .int .u8 ev.ty, .int .u64 ev.arg, .int .u64 ev.badge, .slice xo ev.ws.length cx]), (4, .int .u8 0), (7, .int .u8 fk15), (8, .int .i16 S.cur), (9, .pointer (some ⟨kb, 2 + (S.cur.toNat * 21), none⟩)), (42, .pointer (some ⟨kb, 2 + (S.cur.toNat * 21), none⟩)), (43, .pointer (some ⟨kb, 2 + (S.cur.toNat * 21), none⟩)), (49, .bool (bitI .and .u8 fc13.rights 4 != 0)), (52, .bool (ev.kind == 5)), (54, .int .u32 ev.xfer), (60, .pointer (some ⟨kb, 2 + (S.cur.toNat * 21) + 17, none⟩))]) (φ := True) (fuel := 9) h71 (by kernel_rfl) rfl (by kernel_rfl) (by kernel_rfl) ⟨trivial, trivial, trivial, trivial⟩ trivial fun a72 h73 => ?_
      clear h71
      refine wpAnyK_one (i := 22) (fuel := 8) (by kernel_rfl) ?_
      refine op_store tabOk {k := 0, m := 1, vs := kC bo bc (S69.setT S.cur.toNat { S69.tcb S.cur.toNat with grant := (bitI .and .u8 fc13.rights 4 != 0) })} (L' := [(kb, ⟨kC bo bc (S69.setT S.cur.toNat { S69.tcb S.cur.toNat with grant := (bitI .and .u8 fc13.rights 4 != 0) }), 90, false⟩), (b2, ⟨[.int .u8 ev.kind, .int .u32 ev.pick, .int .u64 ev.draw, .int .u32 ev.addr, .int .u32 ev.node, .int .u32 ev.dst, .int .u32 ev.xfer, .int .u8 ev.ty, .int .u64 ev.arg, .int .u64 ev.badge, .slice xo ev.ws.length cx], 35, false⟩), (b22, ⟨[.int .u8 fc13.ty, .int .u16 fc13.obj.idx, .int .u32 fc13.obj.gen, .int .u8 fc13.rights, .int .u64 fc13.badge], 49, false⟩)]) (φ := kb = kb ∧ Nat.ble (2 + (S.cur.toNat * 21) + 17 + 1) (kC bo bc S69).length = true ∧ splice (kC bo bc S69) (2 + (S.cur.toNat * 21) + 17) [.bool (bitI .and .u8 fc13.rights 4 != 0)] = kC bo bc (S69.setT S.cur.toNat { S69.tcb S.cur.toNat with grant := (bitI .and .u8 fc13.rights 4 != 0) })) h73 rfl rfl rfl (by kernel_rfl) ⟨rfl, k_in (by omega), (k_tcb_w (i := S.cur.toNat) (k := 17) (by omega) (Nat.le_of_ble_eq_true rfl) (by omega) rfl)⟩ fun w75 h76 => ?_
      obtain ⟨S74, eS74⟩ : ∃ S9, S9 = (S69.setT S.cur.toNat { S69.tcb S.cur.toNat with grant := (bitI .and .u8 fc13.rights 4 != 0) }) := ⟨_, rfl⟩
      rw [← eS74] at h76
      have rS74 : RI S74 := by rw [eS74]; exact rS69.setT ⟨(rS69.t (i := S.cur.toNat) (by omega)).nx, (rS69.t (i := S.cur.toNat) (by omega)).pv, (rS69.t (i := S.cur.toNat) (by omega)).pr, (rS69.t (i := S.cur.toNat) (by omega)).wi, (rS69.t (i := S.cur.toNat) (by omega)).ci, (rS69.t (i := S.cur.toNat) (by omega)).ri, (rS69.t (i := S.cur.toNat) (by omega)).ds⟩
      have hkh76 := h73.known
      refine ⟨(keepOf hkh76 h76.known (kcons (keepAt (q := 1) (q' := 1) rfl rfl) knil)), ?_⟩
      clear h73
      refine dr_batch tabOk tabZ_ok (by repeat (first | with_reducible exact PF.body | with_reducible apply PF.inB | with_reducible apply PF.next)) [(23, {}), (24, {}), (25, {})] [5, 3, 0, 1, 4, 7, 8, 9, 43, 52, 54, 63] (T' := [(5, .pointer (some ⟨b22, 0, none⟩)), (3, .pointer (some ⟨b2, 0, none⟩)), (0, .pointer (some ⟨kb, 0, none⟩)), (1, .agg #[.int .u8 ev.kind, .int .u32 ev.pick, .int .u64 ev.draw, .int .u32 ev.addr, .int .u32 ev.node, .int .u32 ev.dst, .int .u32 ev.xfer, .int .u8 ev.ty, .int .u64 ev.arg, .int .u64 ev.badge, .slice xo ev.ws.length cx]), (4, .int .u8 0), (7, .int .u8 fk15), (8, .int .i16 S.cur), (9, .pointer (some ⟨kb, 2 + (S.cur.toNat * 21), none⟩)), (43, .pointer (some ⟨kb, 2 + (S.cur.toNat * 21), none⟩)), (52, .bool (ev.kind == 5)), (54, .int .u32 ev.xfer), (63, .pointer (some ⟨kb, 2 + (S.cur.toNat * 21) + 18, none⟩))]) (φ := True) (fuel := 5) h76 (by kernel_rfl) rfl (by kernel_rfl) (by kernel_rfl) ⟨trivial, trivial, trivial, trivial⟩ trivial fun a77 h78 => ?_
      clear h76
      refine wpAnyK_one (i := 26) (fuel := 4) (by kernel_rfl) ?_
      refine op_store tabOk {k := 0, m := 1, vs := kC bo bc (S74.setT S.cur.toNat { S74.tcb S.cur.toNat with call := (ev.kind == 5) })} (L' := [(kb, ⟨kC bo bc (S74.setT S.cur.toNat { S74.tcb S.cur.toNat with call := (ev.kind == 5) }), 90, false⟩), (b2, ⟨[.int .u8 ev.kind, .int .u32 ev.pick, .int .u64 ev.draw, .int .u32 ev.addr, .int .u32 ev.node, .int .u32 ev.dst, .int .u32 ev.xfer, .int .u8 ev.ty, .int .u64 ev.arg, .int .u64 ev.badge, .slice xo ev.ws.length cx], 35, false⟩), (b22, ⟨[.int .u8 fc13.ty, .int .u16 fc13.obj.idx, .int .u32 fc13.obj.gen, .int .u8 fc13.rights, .int .u64 fc13.badge], 49, false⟩)]) (φ := kb = kb ∧ Nat.ble (2 + (S.cur.toNat * 21) + 18 + 1) (kC bo bc S74).length = true ∧ splice (kC bo bc S74) (2 + (S.cur.toNat * 21) + 18) [.bool (ev.kind == 5)] = kC bo bc (S74.setT S.cur.toNat { S74.tcb S.cur.toNat with call := (ev.kind == 5) })) h78 rfl rfl rfl (by kernel_rfl) ⟨rfl, k_in (by omega), (k_tcb_w (i := S.cur.toNat) (k := 18) (by omega) (Nat.le_of_ble_eq_true rfl) (by omega) rfl)⟩ fun w80 h81 => ?_
      obtain ⟨S79, eS79⟩ : ∃ S9, S9 = (S74.setT S.cur.toNat { S74.tcb S.cur.toNat with call := (ev.kind == 5) }) := ⟨_, rfl⟩
      rw [← eS79] at h81
      have rS79 : RI S79 := by rw [eS79]; exact rS74.setT ⟨(rS74.t (i := S.cur.toNat) (by omega)).nx, (rS74.t (i := S.cur.toNat) (by omega)).pv, (rS74.t (i := S.cur.toNat) (by omega)).pr, (rS74.t (i := S.cur.toNat) (by omega)).wi, (rS74.t (i := S.cur.toNat) (by omega)).ci, (rS74.t (i := S.cur.toNat) (by omega)).ri, (rS74.t (i := S.cur.toNat) (by omega)).ds⟩
      have hkh81 := h78.known
      refine ⟨(keepOf hkh81 h81.known (kcons (keepAt (q := 1) (q' := 1) rfl rfl) knil)), ?_⟩
      clear h78
      refine dr_batch tabOk tabZ_ok (by repeat (first | with_reducible exact PF.body | with_reducible apply PF.inB | with_reducible apply PF.next)) [(27, {}), (28, {}), (29, {})] [5, 3, 0, 1, 4, 7, 8, 9, 54, 66] (T' := [(5, .pointer (some ⟨b22, 0, none⟩)), (3, .pointer (some ⟨b2, 0, none⟩)), (0, .pointer (some ⟨kb, 0, none⟩)), (1, .agg #[.int .u8 ev.kind, .int .u32 ev.pick, .int .u64 ev.draw, .int .u32 ev.addr, .int .u32 ev.node, .int .u32 ev.dst, .int .u32 ev.xfer, .int .u8 ev.ty, .int .u64 ev.arg, .int .u64 ev.badge, .slice xo ev.ws.length cx]), (4, .int .u8 0), (7, .int .u8 fk15), (8, .int .i16 S.cur), (9, .pointer (some ⟨kb, 2 + (S.cur.toNat * 21), none⟩)), (54, .int .u32 ev.xfer), (66, .pointer (some ⟨kb, 2 + (S.cur.toNat * 21) + 15, none⟩))]) (φ := True) (fuel := 1) h81 (by kernel_rfl) rfl (by kernel_rfl) (by kernel_rfl) ⟨trivial, trivial, trivial, trivial⟩ trivial fun a82 h83 => ?_
      clear h81
      refine wpAnyK_one (i := 30) (fuel := 0) (by kernel_rfl) ?_
      refine op_store tabOk {k := 0, m := 1, vs := kC bo bc (S79.setT S.cur.toNat { S79.tcb S.cur.toNat with xfer := ev.xfer })} (L' := [(kb, ⟨kC bo bc (S79.setT S.cur.toNat { S79.tcb S.cur.toNat with xfer := ev.xfer }), 90, false⟩), (b2, ⟨[.int .u8 ev.kind, .int .u32 ev.pick, .int .u64 ev.draw, .int .u32 ev.addr, .int .u32 ev.node, .int .u32 ev.dst, .int .u32 ev.xfer, .int .u8 ev.ty, .int .u64 ev.arg, .int .u64 ev.badge, .slice xo ev.ws.length cx], 35, false⟩), (b22, ⟨[.int .u8 fc13.ty, .int .u16 fc13.obj.idx, .int .u32 fc13.obj.gen, .int .u8 fc13.rights, .int .u64 fc13.badge], 49, false⟩)]) (φ := kb = kb ∧ Nat.ble (2 + (S.cur.toNat * 21) + 15 + 1) (kC bo bc S79).length = true ∧ splice (kC bo bc S79) (2 + (S.cur.toNat * 21) + 15) [.int .u32 ev.xfer] = kC bo bc (S79.setT S.cur.toNat { S79.tcb S.cur.toNat with xfer := ev.xfer })) h83 rfl rfl rfl (by kernel_rfl) ⟨rfl, k_in (by omega), (k_tcb_w (i := S.cur.toNat) (k := 15) (by omega) (Nat.le_of_ble_eq_true rfl) (by omega) rfl)⟩ fun w85 h86 => ?_
      obtain ⟨S84, eS84⟩ : ∃ S9, S9 = (S79.setT S.cur.toNat { S79.tcb S.cur.toNat with xfer := ev.xfer }) := ⟨_, rfl⟩
      rw [← eS84] at h86
      have rS84 : RI S84 := by rw [eS84]; exact rS79.setT ⟨(rS79.t (i := S.cur.toNat) (by omega)).nx, (rS79.t (i := S.cur.toNat) (by omega)).pv, (rS79.t (i := S.cur.toNat) (by omega)).pr, (rS79.t (i := S.cur.toNat) (by omega)).wi, (rS79.t (i := S.cur.toNat) (by omega)).ci, (rS79.t (i := S.cur.toNat) (by omega)).ri, (rS79.t (i := S.cur.toNat) (by omega)).ds⟩
      have hkh86 := h83.known
      refine ⟨keepNil, ?_⟩
      clear h83
      refine wpAnyK_done (by kernel_rfl) ?_ _
      refine hK63 _ _ ?_
      clear hK63
      refine wp_seq_k fun K87 hK87 => ?_
      refine nd_start (l := [0, 1, 2, 3, 4]) rfl ?_
      refine nd_batch tabOk tabZ_ok [(0, {}), (1, {}), (2, {k := 2})] [5, 3, 0, 1, 4, 7, 8, 9, 67, 69] (T' := [(5, .pointer (some ⟨b22, 0, none⟩)), (3, .pointer (some ⟨b2, 0, none⟩)), (0, .pointer (some ⟨kb, 0, none⟩)), (1, .agg #[.int .u8 ev.kind, .int .u32 ev.pick, .int .u64 ev.draw, .int .u32 ev.addr, .int .u32 ev.node, .int .u32 ev.dst, .int .u32 ev.xfer, .int .u8 ev.ty, .int .u64 ev.arg, .int .u64 ev.badge, .slice xo ev.ws.length cx]), (4, .int .u8 0), (7, .int .u8 fk15), (8, .int .i16 S.cur), (9, .pointer (some ⟨kb, 2 + (S.cur.toNat * 21), none⟩)), (67, .pointer (some ⟨kb, 0, none⟩)), (69, .agg #[.int .u16 fc13.obj.idx, .int .u32 fc13.obj.gen])]) (φ := (b22 = b22 ∧ Nat.ble (1 + 2) 5 = true) ∧ True) (rest := [3, 4]) h86 (by kernel_rfl) rfl ⟨⟨rfl, rfl⟩, trivial⟩ fun a88 h89 => ?_
      clear h86
      refine nd_op ?_
      obtain ⟨od90, eod90⟩ : ∃ t, t = oldestP S84 fc13.obj 4 := ⟨_, rfl⟩
      have lod90 : lk od90 := by rw [eod90]; exact oldest_lk rS84 hxfi40 4
      refine op_call h89 rfl rfl rfl (callOk Tryd.func101 (by decide) rfl) (args := [.pointer (some ⟨kb, 0, none⟩), .agg #[.int .u16 fc13.obj.idx, .int .u32 fc13.obj.gen], .int .u8 4]) rfl (oldestE kb bo bc S84 rS84 fc13.obj 4 hxfi40 _ (h89.kn (k := 0) (blk := ⟨kC bo bc S84, 90, false⟩) rfl) eod90) ?_
      rintro _ w91 ⟨rfl, hf93⟩
      refine ⟨_, rfl, ?_⟩
      have h92 := (h89.grow hf93).put (d := some 70) (v := .int .i16 od90) (T' := [(70, .int .i16 od90), (5, .pointer (some ⟨b22, 0, none⟩)), (3, .pointer (some ⟨b2, 0, none⟩)), (0, .pointer (some ⟨kb, 0, none⟩)), (1, .agg #[.int .u8 ev.kind, .int .u32 ev.pick, .int .u64 ev.draw, .int .u32 ev.addr, .int .u32 ev.node, .int .u32 ev.dst, .int .u32 ev.xfer, .int .u8 ev.ty, .int .u64 ev.arg, .int .u64 ev.badge, .slice xo ev.ws.length cx]), (4, .int .u8 0), (7, .int .u8 fk15), (8, .int .i16 S.cur), (9, .pointer (some ⟨kb, 2 + (S.cur.toNat * 21), none⟩)), (67, .pointer (some ⟨kb, 0, none⟩)), (69, .agg #[.int .u16 fc13.obj.idx, .int .u32 fc13.obj.gen])]) rfl
      clear h89
      refine nd_batch tabOk tabZ_ok [(4, {})] [5, 3, 0, 1, 4, 7, 8, 9, 10] (T' := [(5, .pointer (some ⟨b22, 0, none⟩)), (3, .pointer (some ⟨b2, 0, none⟩)), (0, .pointer (some ⟨kb, 0, none⟩)), (1, .agg #[.int .u8 ev.kind, .int .u32 ev.pick, .int .u64 ev.draw, .int .u32 ev.addr, .int .u32 ev.node, .int .u32 ev.dst, .int .u32 ev.xfer, .int .u8 ev.ty, .int .u64 ev.arg, .int .u64 ev.badge, .slice xo ev.ws.length cx]), (4, .int .u8 0), (7, .int .u8 fk15), (8, .int .i16 S.cur), (9, .pointer (some ⟨kb, 2 + (S.cur.toNat * 21), none⟩)), (10, .int .i16 od90)]) (φ := True) (rest := []) h92 (by kernel_rfl) rfl trivial fun a94 h95 => ?_
      clear h92
      refine nd_done ?_
      refine hK87 _ _ ?_
      clear hK87
      refine wp_seq_k fun K96 hK96 => ?_
      refine wp_seq_k fun K97 hK97 => ?_
      refine nd_start (l := [0, 1]) rfl ?_
      refine nd_batch tabOk tabZ_ok [(0, {}), (1, {})] [5, 3, 0, 1, 4, 7, 8, 9, 10, 72] (T' := [(5, .pointer (some ⟨b22, 0, none⟩)), (3, .pointer (some ⟨b2, 0, none⟩)), (0, .pointer (some ⟨kb, 0, none⟩)), (1, .agg #[.int .u8 ev.kind, .int .u32 ev.pick, .int .u64 ev.draw, .int .u32 ev.addr, .int .u32 ev.node, .int .u32 ev.dst, .int .u32 ev.xfer, .int .u8 ev.ty, .int .u64 ev.arg, .int .u64 ev.badge, .slice xo ev.ws.length cx]), (4, .int .u8 0), (7, .int .u8 fk15), (8, .int .i16 S.cur), (9, .pointer (some ⟨kb, 2 + (S.cur.toNat * 21), none⟩)), (10, .int .i16 od90), (72, .bool (od90 == -1))]) (φ := True) (rest := []) h95 (by kernel_rfl) rfl trivial fun a98 h99 => ?_
      clear h95
      refine nd_done ?_
      refine hK97 _ _ ?_
      clear hK97
      refine c_split h99 (b := (od90 == -1)) rfl (fun hc100 => ?_) (fun hc100 => ?_)
      ·
        have hc100f : od90 = -1 := by simpa using hc100
        refine wp_seq_k fun K101 hK101 => ?_
        refine nd_start (l := [0, 1, 2, 3, 4]) rfl ?_
        refine nd_batch tabOk tabZ_ok [(0, {}), (1, {}), (2, {}), (3, {k := 2})] [5, 3, 0, 1, 4, 7, 8, 9, 10, 73, 74, 76] (T' := [(5, .pointer (some ⟨b22, 0, none⟩)), (3, .pointer (some ⟨b2, 0, none⟩)), (0, .pointer (some ⟨kb, 0, none⟩)), (1, .agg #[.int .u8 ev.kind, .int .u32 ev.pick, .int .u64 ev.draw, .int .u32 ev.addr, .int .u32 ev.node, .int .u32 ev.dst, .int .u32 ev.xfer, .int .u8 ev.ty, .int .u64 ev.arg, .int .u64 ev.badge, .slice xo ev.ws.length cx]), (4, .int .u8 0), (7, .int .u8 fk15), (8, .int .i16 S.cur), (9, .pointer (some ⟨kb, 2 + (S.cur.toNat * 21), none⟩)), (10, .int .i16 od90), (73, .pointer (some ⟨kb, 0, none⟩)), (74, .int .i16 S.cur), (76, .agg #[.int .u16 fc13.obj.idx, .int .u32 fc13.obj.gen])]) (φ := (b22 = b22 ∧ Nat.ble (1 + 2) 5 = true) ∧ True) (rest := [4]) h99 (by kernel_rfl) rfl ⟨⟨rfl, rfl⟩, trivial⟩ fun a102 h103 => ?_
        clear h99
        refine nd_op ?_
        refine op_call h103 rfl rfl rfl (callOk Tryd.func103 (by decide) rfl) (args := [.pointer (some ⟨kb, 0, none⟩), .int .i16 S.cur, .int .u8 3, .agg #[.int .u16 fc13.obj.idx, .int .u32 fc13.obj.gen]]) rfl (block_ok kb bo bc S84 rS84 S.cur 3 fc13.obj hcur hxfi40 _ (h103.kn (k := 0) rfl)) ?_
        rintro _ w107 ⟨rfl, hb105, hf106⟩
        refine ⟨_, rfl, ?_⟩
        obtain ⟨S104, eS104⟩ : ∃ S9, S9 = blockP S84 S.cur 3 fc13.obj := ⟨_, rfl⟩
        rw [← eS104] at hb105
        have rS104 : RI S104 := by rw [eS104]; exact block_RI rS84 hcur hxfi40
        have h108 := (h103.setBlk (k := 0) rfl rfl hf106 hb105 (L' := [(kb, ⟨kC bo bc S104, 90, false⟩), (b2, ⟨[.int .u8 ev.kind, .int .u32 ev.pick, .int .u64 ev.draw, .int .u32 ev.addr, .int .u32 ev.node, .int .u32 ev.dst, .int .u32 ev.xfer, .int .u8 ev.ty, .int .u64 ev.arg, .int .u64 ev.badge, .slice xo ev.ws.length cx], 35, false⟩), (b22, ⟨[.int .u8 fc13.ty, .int .u16 fc13.obj.idx, .int .u32 fc13.obj.gen, .int .u8 fc13.rights, .int .u64 fc13.badge], 49, false⟩)]) rfl).put (d := some 77) (v := .tuple #[]) (T' := [(77, .tuple #[]), (5, .pointer (some ⟨b22, 0, none⟩)), (3, .pointer (some ⟨b2, 0, none⟩)), (0, .pointer (some ⟨kb, 0, none⟩)), (1, .agg #[.int .u8 ev.kind, .int .u32 ev.pick, .int .u64 ev.draw, .int .u32 ev.addr, .int .u32 ev.node, .int .u32 ev.dst, .int .u32 ev.xfer, .int .u8 ev.ty, .int .u64 ev.arg, .int .u64 ev.badge, .slice xo ev.ws.length cx]), (4, .int .u8 0), (7, .int .u8 fk15), (8, .int .i16 S.cur), (9, .pointer (some ⟨kb, 2 + (S.cur.toNat * 21), none⟩)), (10, .int .i16 od90), (73, .pointer (some ⟨kb, 0, none⟩)), (74, .int .i16 S.cur), (76, .agg #[.int .u16 fc13.obj.idx, .int .u32 fc13.obj.gen])]) rfl
        clear h103
        refine nd_done ?_
        refine hK101 _ _ ?_
        clear hK101
        refine wp_seq_k fun K109 hK109 => ?_
        refine nd_start (l := [0]) rfl ?_
        refine nd_batch tabOk tabZ_ok [(0, {})] [5, 3, 0, 1, 7, 8, 9, 10, 4] (T' := [(5, .pointer (some ⟨b22, 0, none⟩)), (3, .pointer (some ⟨b2, 0, none⟩)), (0, .pointer (some ⟨kb, 0, none⟩)), (1, .agg #[.int .u8 ev.kind, .int .u32 ev.pick, .int .u64 ev.draw, .int .u32 ev.addr, .int .u32 ev.node, .int .u32 ev.dst, .int .u32 ev.xfer, .int .u8 ev.ty, .int .u64 ev.arg, .int .u64 ev.badge, .slice xo ev.ws.length cx]), (7, .int .u8 fk15), (8, .int .i16 S.cur), (9, .pointer (some ⟨kb, 2 + (S.cur.toNat * 21), none⟩)), (10, .int .i16 od90), (4, .int .u8 0)]) (φ := True) (rest := []) h108 (by kernel_rfl) rfl trivial fun a110 h111 => ?_
        clear h108
        refine nd_done ?_
        refine hK109 _ _ ?_
        clear hK109
        refine wp_ret ?_
        try simp only [Exit.then, Exit.inBlock]
        try rw [if_pos trivial]
        exact s_ret tabOk tabZ_ok h111 [(.tmp 4, {})] (vs := [.int .u8 0]) (φ := True) rfl (by kernel_rfl) trivial (by rw [show sendP S C ev = (S104, C, 0) from (by unfold sendP; (try dsimp only); rw [hfd16]; (try dsimp only); (first | rw [if_neg hc36f] | rw [if_neg (fun hz => hz hc36f)]); (first | rw [if_neg hc45f] | rw [if_neg (fun hz => hz hc45f)]); rw [← eS58]; rw [← eS69]; rw [← eS74]; rw [← eS79]; rw [← eS84]; rw [← eod90]; (first | rw [if_pos hc100f] | rw [if_pos (fun hz => hz hc100f)]); rw [← eS104])]; exact ⟨rfl, h111.kn (k := 0) rfl, h111.inv, h111.frame⟩)
      ·
        have hc100f : od90 ≠ -1 := by simpa using hc100
        have hod := lk_nat lod90 hc100f
        refine wp_skip ?_
        refine hK96 _ _ ?_
        clear hK96
        refine wp_seq_k fun K112 hK112 => ?_
        refine nd_start (l := [0, 1, 2, 3]) rfl ?_
        refine nd_batch tabOk tabZ_ok [(0, {}), (1, {}), (2, {})] [5, 3, 0, 1, 4, 7, 8, 9, 10, 78, 79, 80] (T' := [(5, .pointer (some ⟨b22, 0, none⟩)), (3, .pointer (some ⟨b2, 0, none⟩)), (0, .pointer (some ⟨kb, 0, none⟩)), (1, .agg #[.int .u8 ev.kind, .int .u32 ev.pick, .int .u64 ev.draw, .int .u32 ev.addr, .int .u32 ev.node, .int .u32 ev.dst, .int .u32 ev.xfer, .int .u8 ev.ty, .int .u64 ev.arg, .int .u64 ev.badge, .slice xo ev.ws.length cx]), (4, .int .u8 0), (7, .int .u8 fk15), (8, .int .i16 S.cur), (9, .pointer (some ⟨kb, 2 + (S.cur.toNat * 21), none⟩)), (10, .int .i16 od90), (78, .pointer (some ⟨kb, 0, none⟩)), (79, .int .i16 S.cur), (80, .int .i16 od90)]) (φ := True) (rest := [3]) h99 (by kernel_rfl) rfl trivial fun a113 h114 => ?_
        clear h99
        refine nd_op ?_
        refine op_call h114 rfl rfl rfl (callOk Tryd.func104 (by decide) rfl) (args := [.pointer (some ⟨kb, 0, none⟩), .int .i16 S.cur, .int .i16 od90]) rfl (deliver_ok kb bo bc nd S84 rS84 C hC S.cur od90 hcur hod _ (h114.kn (k := 0) (blk := ⟨kC bo bc S84, 90, false⟩) rfl) h114.inv hdkb) ?_
        rintro _ w120 ⟨rfl, hb117, hcr118, hf119⟩
        refine ⟨_, rfl, ?_⟩
        obtain ⟨S115, eS115⟩ : ∃ S9, S9 = (deliverP S84 C S.cur od90).1 := ⟨_, rfl⟩
        rw [← eS115] at hb117
        have rS115 : RI S115 := by rw [eS115]; exact deliver_RI rS84 C hod
        obtain ⟨C116, eC116⟩ : ∃ C9, C9 = (deliverP S84 C S.cur od90).2 := ⟨_, rfl⟩
        rw [← eC116] at hcr118
        have pC116 : capF bo bc nd C116 = capF bo bc nd C := by rw [eC116]; exact deliver_capF
        have dC116 : kb ∉ capF bo bc nd C116 := by rw [pC116]; exact hdkb
        have h121 := (h114.turnAt (k := 0) rfl rfl rfl hf119 hb117 (fun b hb => .inl (List.mem_cons_of_mem _ hb)) (kcons (by intro hq; cases hq) (kcons (by intro hq; cases hq) (kcons (by intro hq; cases hq) knil))) (L' := [(kb, ⟨kC bo bc S115, 90, false⟩), (b2, ⟨[.int .u8 ev.kind, .int .u32 ev.pick, .int .u64 ev.draw, .int .u32 ev.addr, .int .u32 ev.node, .int .u32 ev.dst, .int .u32 ev.xfer, .int .u8 ev.ty, .int .u64 ev.arg, .int .u64 ev.badge, .slice xo ev.ws.length cx], 35, false⟩), (b22, ⟨[.int .u8 fc13.ty, .int .u16 fc13.obj.idx, .int .u32 fc13.obj.gen, .int .u8 fc13.rights, .int .u64 fc13.badge], 49, false⟩)]) rfl (A' := fun w => CapAt w bo bc nd C116) (F' := capF bo bc nd C116) hcr118 CapAt.stable hcr118.low (fun b hb => .inl (by rw [pC116] at hb; exact hb))).put (d := some 81) (v := .tuple #[]) (T' := [(81, .tuple #[]), (5, .pointer (some ⟨b22, 0, none⟩)), (3, .pointer (some ⟨b2, 0, none⟩)), (0, .pointer (some ⟨kb, 0, none⟩)), (1, .agg #[.int .u8 ev.kind, .int .u32 ev.pick, .int .u64 ev.draw, .int .u32 ev.addr, .int .u32 ev.node, .int .u32 ev.dst, .int .u32 ev.xfer, .int .u8 ev.ty, .int .u64 ev.arg, .int .u64 ev.badge, .slice xo ev.ws.length cx]), (4, .int .u8 0), (7, .int .u8 fk15), (8, .int .i16 S.cur), (9, .pointer (some ⟨kb, 2 + (S.cur.toNat * 21), none⟩)), (10, .int .i16 od90), (78, .pointer (some ⟨kb, 0, none⟩)), (79, .int .i16 S.cur), (80, .int .i16 od90)]) rfl
        clear h114
        refine nd_done ?_
        refine hK112 _ _ ?_
        clear hK112
        refine wp_seq_k fun K122 hK122 => ?_
        refine nd_start (l := [0, 1, 2]) rfl ?_
        refine nd_batch tabOk tabZ_ok [(0, {}), (1, {})] [5, 3, 0, 1, 4, 7, 8, 9, 10, 82, 83] (T' := [(5, .pointer (some ⟨b22, 0, none⟩)), (3, .pointer (some ⟨b2, 0, none⟩)), (0, .pointer (some ⟨kb, 0, none⟩)), (1, .agg #[.int .u8 ev.kind, .int .u32 ev.pick, .int .u64 ev.draw, .int .u32 ev.addr, .int .u32 ev.node, .int .u32 ev.dst, .int .u32 ev.xfer, .int .u8 ev.ty, .int .u64 ev.arg, .int .u64 ev.badge, .slice xo ev.ws.length cx]), (4, .int .u8 0), (7, .int .u8 fk15), (8, .int .i16 S.cur), (9, .pointer (some ⟨kb, 2 + (S.cur.toNat * 21), none⟩)), (10, .int .i16 od90), (82, .pointer (some ⟨kb, 0, none⟩)), (83, .int .i16 od90)]) (φ := True) (rest := [2]) h121 (by kernel_rfl) rfl trivial fun a123 h124 => ?_
        clear h121
        refine nd_op ?_
        refine op_call h124 rfl rfl rfl (callOk Tryd.func47 (by decide) rfl) (args := [.pointer (some ⟨kb, 0, none⟩), .int .i16 od90]) rfl (wake_ok kb bo bc S115 rS115 od90 hod _ (h124.kn (k := 0) rfl)) ?_
        rintro _ w128 ⟨rfl, hb126, hf127⟩
        refine ⟨_, rfl, ?_⟩
        obtain ⟨S125, eS125⟩ : ∃ S9, S9 = wakeP S115 od90 := ⟨_, rfl⟩
        rw [← eS125] at hb126
        have rS125 : RI S125 := by rw [eS125]; exact wake_RI rS115 hod
        have h129 := (h124.setBlk (k := 0) rfl rfl hf127 hb126 (L' := [(kb, ⟨kC bo bc S125, 90, false⟩), (b2, ⟨[.int .u8 ev.kind, .int .u32 ev.pick, .int .u64 ev.draw, .int .u32 ev.addr, .int .u32 ev.node, .int .u32 ev.dst, .int .u32 ev.xfer, .int .u8 ev.ty, .int .u64 ev.arg, .int .u64 ev.badge, .slice xo ev.ws.length cx], 35, false⟩), (b22, ⟨[.int .u8 fc13.ty, .int .u16 fc13.obj.idx, .int .u32 fc13.obj.gen, .int .u8 fc13.rights, .int .u64 fc13.badge], 49, false⟩)]) rfl).put (d := some 84) (v := .tuple #[]) (T' := [(84, .tuple #[]), (5, .pointer (some ⟨b22, 0, none⟩)), (3, .pointer (some ⟨b2, 0, none⟩)), (0, .pointer (some ⟨kb, 0, none⟩)), (1, .agg #[.int .u8 ev.kind, .int .u32 ev.pick, .int .u64 ev.draw, .int .u32 ev.addr, .int .u32 ev.node, .int .u32 ev.dst, .int .u32 ev.xfer, .int .u8 ev.ty, .int .u64 ev.arg, .int .u64 ev.badge, .slice xo ev.ws.length cx]), (4, .int .u8 0), (7, .int .u8 fk15), (8, .int .i16 S.cur), (9, .pointer (some ⟨kb, 2 + (S.cur.toNat * 21), none⟩)), (10, .int .i16 od90), (82, .pointer (some ⟨kb, 0, none⟩)), (83, .int .i16 od90)]) rfl
        clear h124
        refine nd_done ?_
        refine hK122 _ _ ?_
        clear hK122
        refine wp_seq_k fun K130 hK130 => ?_
        refine nd_start (l := [0, 1, 2, 3]) rfl ?_
        refine nd_batch tabOk tabZ_ok [(0, {}), (1, {}), (2, {})] [5, 3, 0, 1, 4, 7, 8, 9, 10, 85, 86, 87] (T' := [(5, .pointer (some ⟨b22, 0, none⟩)), (3, .pointer (some ⟨b2, 0, none⟩)), (0, .pointer (some ⟨kb, 0, none⟩)), (1, .agg #[.int .u8 ev.kind, .int .u32 ev.pick, .int .u64 ev.draw, .int .u32 ev.addr, .int .u32 ev.node, .int .u32 ev.dst, .int .u32 ev.xfer, .int .u8 ev.ty, .int .u64 ev.arg, .int .u64 ev.badge, .slice xo ev.ws.length cx]), (4, .int .u8 0), (7, .int .u8 fk15), (8, .int .i16 S.cur), (9, .pointer (some ⟨kb, 2 + (S.cur.toNat * 21), none⟩)), (10, .int .i16 od90), (85, .pointer (some ⟨kb, 0, none⟩)), (86, .int .i16 S.cur), (87, .int .i16 od90)]) (φ := True) (rest := [3]) h129 (by kernel_rfl) rfl trivial fun a131 h132 => ?_
        clear h129
        refine nd_op ?_
        refine op_call h132 rfl rfl rfl (callOk Tryd.func105 (by decide) rfl) (args := [.pointer (some ⟨kb, 0, none⟩), .int .i16 S.cur, .int .i16 od90]) rfl (settle_ok kb bo bc S125 rS125 C116.ent S.cur od90 hcur hod _ (h132.kn (k := 0) (blk := ⟨kC bo bc S125, 90, false⟩) rfl) h132.inv.st hne) ?_
        rintro _ w136 ⟨rfl, hb134, hf135⟩
        refine ⟨_, rfl, ?_⟩
        obtain ⟨S133, eS133⟩ : ∃ S9, S9 = settleP S125 C116.ent S.cur od90 := ⟨_, rfl⟩
        rw [← eS133] at hb134
        have rS133 : RI S133 := by rw [eS133]; exact settle_RI rS125 _ hcur hod
        have h137 := (h132.setBlk (k := 0) rfl rfl hf135 hb134 (L' := [(kb, ⟨kC bo bc S133, 90, false⟩), (b2, ⟨[.int .u8 ev.kind, .int .u32 ev.pick, .int .u64 ev.draw, .int .u32 ev.addr, .int .u32 ev.node, .int .u32 ev.dst, .int .u32 ev.xfer, .int .u8 ev.ty, .int .u64 ev.arg, .int .u64 ev.badge, .slice xo ev.ws.length cx], 35, false⟩), (b22, ⟨[.int .u8 fc13.ty, .int .u16 fc13.obj.idx, .int .u32 fc13.obj.gen, .int .u8 fc13.rights, .int .u64 fc13.badge], 49, false⟩)]) rfl).put (d := some 88) (v := .tuple #[]) (T' := [(88, .tuple #[]), (5, .pointer (some ⟨b22, 0, none⟩)), (3, .pointer (some ⟨b2, 0, none⟩)), (0, .pointer (some ⟨kb, 0, none⟩)), (1, .agg #[.int .u8 ev.kind, .int .u32 ev.pick, .int .u64 ev.draw, .int .u32 ev.addr, .int .u32 ev.node, .int .u32 ev.dst, .int .u32 ev.xfer, .int .u8 ev.ty, .int .u64 ev.arg, .int .u64 ev.badge, .slice xo ev.ws.length cx]), (4, .int .u8 0), (7, .int .u8 fk15), (8, .int .i16 S.cur), (9, .pointer (some ⟨kb, 2 + (S.cur.toNat * 21), none⟩)), (10, .int .i16 od90), (85, .pointer (some ⟨kb, 0, none⟩)), (86, .int .i16 S.cur), (87, .int .i16 od90)]) rfl
        clear h132
        refine nd_done ?_
        refine hK130 _ _ ?_
        clear hK130
        refine wp_seq_k fun K138 hK138 => ?_
        refine nd_start (l := [0]) rfl ?_
        refine nd_batch tabOk tabZ_ok [(0, {})] [5, 3, 0, 1, 7, 8, 9, 10, 4] (T' := [(5, .pointer (some ⟨b22, 0, none⟩)), (3, .pointer (some ⟨b2, 0, none⟩)), (0, .pointer (some ⟨kb, 0, none⟩)), (1, .agg #[.int .u8 ev.kind, .int .u32 ev.pick, .int .u64 ev.draw, .int .u32 ev.addr, .int .u32 ev.node, .int .u32 ev.dst, .int .u32 ev.xfer, .int .u8 ev.ty, .int .u64 ev.arg, .int .u64 ev.badge, .slice xo ev.ws.length cx]), (7, .int .u8 fk15), (8, .int .i16 S.cur), (9, .pointer (some ⟨kb, 2 + (S.cur.toNat * 21), none⟩)), (10, .int .i16 od90), (4, .int .u8 0)]) (φ := True) (rest := []) h137 (by kernel_rfl) rfl trivial fun a139 h140 => ?_
        clear h137
        refine nd_done ?_
        refine hK138 _ _ ?_
        clear hK138
        refine wp_ret ?_
        try simp only [Exit.then, Exit.inBlock]
        try rw [if_pos trivial]
        exact s_ret tabOk tabZ_ok h140 [(.tmp 4, {})] (vs := [.int .u8 0]) (φ := True) rfl (by kernel_rfl) trivial (by rw [show sendP S C ev = (S133, C116, 0) from (by unfold sendP; (try dsimp only); rw [hfd16]; (try dsimp only); (first | rw [if_neg hc36f] | rw [if_neg (fun hz => hz hc36f)]); (first | rw [if_neg hc45f] | rw [if_neg (fun hz => hz hc45f)]); rw [← eS58]; rw [← eS69]; rw [← eS74]; rw [← eS79]; rw [← eS84]; rw [← eod90]; (first | rw [if_neg hc100f] | rw [if_neg (fun hz => hz hc100f)]); rw [← eS115]; rw [← eC116]; rw [← eS125]; rw [← eS133])]; exact ⟨rfl, h140.kn (k := 0) rfl, h140.inv, h140.frame⟩)

theorem recv_ok (kb bo bc : Nat) (nd : Nat → Nat) (S : KP) (rS : RI S) (C : CP) (hC : CI C) (hcur : 0 ≤ S.cur ∧ S.cur < 256) (ev : Ev) (he : EvOk ev) (xo : Option Addr) (cx : Nat) (bt : Nat) (hkt : kb ≠ bt) (ou : Outp) (w : World) (hb : w.heap[kb]? = some (Blk.obj ⟨kC bo bc S, 90, false⟩)) (hc : CapAt w bo bc nd C) (hdkb : kb ∉ capF bo bc nd C) (ho : w.heap[bt]? = some (Blk.obj ⟨outC ou, 42, false⟩)) (hdbt : bt ∉ capF bo bc nd C) :
    Calls Tryd.prog 77 #[.pointer (some ⟨kb, 0, none⟩), .agg #[.int .u8 ev.kind, .int .u32 ev.pick, .int .u64 ev.draw, .int .u32 ev.addr, .int .u32 ev.node, .int .u32 ev.dst, .int .u32 ev.xfer, .int .u8 ev.ty, .int .u64 ev.arg, .int .u64 ev.badge, .slice xo ev.ws.length cx], .pointer (some ⟨bt, 0, none⟩)] w fun e w' => e = .returned (.int .u8 (recvP S C ev ou).2.2.2) ∧ w'.heap[kb]? = some (Blk.obj ⟨kC bo bc (recvP S C ev ou).1, 90, false⟩) ∧ CapAt w' bo bc nd (recvP S C ev ou).2.1 ∧ w'.heap[bt]? = some (Blk.obj ⟨outC (recvP S C ev ou).2.2.1, 42, false⟩) ∧ Fr (bt :: kb :: capF bo bc nd C) w w' := by
  have hne : kb ≠ bo := fun hq => hdkb (mem_capF.2 (.inl hq))
  refine enter (n := 65) (K := (bt :: kb :: capF bo bc nd C)) (A := fun w => CapAt w bo bc nd C) (F := (capF bo bc nd C)) (T := [(0, .pointer (some ⟨kb, 0, none⟩)), (1, .agg #[.int .u8 ev.kind, .int .u32 ev.pick, .int .u64 ev.draw, .int .u32 ev.addr, .int .u32 ev.node, .int .u32 ev.dst, .int .u32 ev.xfer, .int .u8 ev.ty, .int .u64 ev.arg, .int .u64 ev.badge, .slice xo ev.ws.length cx]), (2, .pointer (some ⟨bt, 0, none⟩))]) (L := [(kb, ⟨kC bo bc S, 90, false⟩), (bt, ⟨outC ou, 42, false⟩)]) (args := [.pointer (some ⟨kb, 0, none⟩), .agg #[.int .u8 ev.kind, .int .u32 ev.pick, .int .u64 ev.draw, .int .u32 ev.addr, .int .u32 ev.node, .int .u32 ev.dst, .int .u32 ev.xfer, .int .u8 ev.ty, .int .u64 ev.arg, .int .u64 ev.badge, .slice xo ev.ws.length cx], .pointer (some ⟨bt, 0, none⟩)]) Tryd.func77 rfl rfl rfl rfl (kcons hb (kcons ho knil)) (by simp; exact hkt) (kcons (fun _ => by simp) (kcons (fun _ => by simp) knil)) hc CapAt.stable hc.low (kcons (fun _ => hdkb) (kcons (fun _ => hdbt) knil)) ?_
  intro a h
  refine wp_seq_k fun K1 hK1 => ?_
  refine nd_start (l := [0, 1]) rfl ?_
  refine nd_op ?_
  refine op_new tabOk (cells := [.int .u8 ev.kind, .int .u32 ev.pick, .int .u64 ev.draw, .int .u32 ev.addr, .int .u32 ev.node, .int .u32 ev.dst, .int .u32 ev.xfer, .int .u8 ev.ty, .int .u64 ev.arg, .int .u64 ev.badge, .slice xo ev.ws.length cx]) (ty := 35) (ln := none) (L1 := fun b2 => [(kb, ⟨kC bo bc S, 90, false⟩), (bt, ⟨outC ou, 42, false⟩), (b2, ⟨[.int .u8 ev.kind, .int .u32 ev.pick, .int .u64 ev.draw, .int .u32 ev.addr, .int .u32 ev.node, .int .u32 ev.dst, .int .u32 ev.xfer, .int .u8 ev.ty, .int .u64 ev.arg, .int .u64 ev.badge, .slice xo ev.ws.length cx], 35, false⟩)]) h rfl rfl rfl rfl (by kernel_rfl) (fun _ => rfl) fun b2 w3 a4 h5 hf6 hn7 => ?_
  clear h
  refine nd_batch tabOk tabZ_ok [(1, {})] [4, 0, 1, 2, 6] (T' := [(4, .pointer (some ⟨b2, 0, none⟩)), (0, .pointer (some ⟨kb, 0, none⟩)), (1, .agg #[.int .u8 ev.kind, .int .u32 ev.pick, .int .u64 ev.draw, .int .u32 ev.addr, .int .u32 ev.node, .int .u32 ev.dst, .int .u32 ev.xfer, .int .u8 ev.ty, .int .u64 ev.arg, .int .u64 ev.badge, .slice xo ev.ws.length cx]), (2, .pointer (some ⟨bt, 0, none⟩)), (6, .int .u8 0)]) (φ := True) (rest := []) h5 (by kernel_rfl) rfl trivial fun a8 h9 => ?_
  clear h5
  refine nd_done ?_
  refine hK1 _ _ ?_
  clear hK1
  refine wp_seq_k fun K10 hK10 => ?_
  refine nd_start (l := [0, 1, 2, 3, 4, 5, 6, 7, 8, 9, 10, 11]) rfl ?_
  refine nd_batch tabOk tabZ_ok [(0, {}), (1, {}), (2, {k := 2})] [4, 0, 1, 2, 6, 12, 14] (T' := [(4, .pointer (some ⟨b2, 0, none⟩)), (0, .pointer (some ⟨kb, 0, none⟩)), (1, .agg #[.int .u8 ev.kind, .int .u32 ev.pick, .int .u64 ev.draw, .int .u32 ev.addr, .int .u32 ev.node, .int .u32 ev.dst, .int .u32 ev.xfer, .int .u8 ev.ty, .int .u64 ev.arg, .int .u64 ev.badge, .slice xo ev.ws.length cx]), (2, .pointer (some ⟨bt, 0, none⟩)), (6, .int .u8 0), (12, .pointer (some ⟨kb, 0, none⟩)), (14, .int .u32 ev.addr)]) (φ := (b2 = b2 ∧ Nat.ble (3 + 1) 11 = true) ∧ True) (rest := [3, 4, 5, 6, 7, 8, 9, 10, 11]) h9 (by kernel_rfl) rfl ⟨⟨rfl, rfl⟩, trivial⟩ fun a11 h12 => ?_
  clear h9
  refine nd_op ?_
  obtain ⟨fc13, fs14, fk15, hfd16⟩ : ∃ c s k, findP S C ev.addr 4 1 = (c, s, k) := ⟨_, _, _, rfl⟩
  refine op_call h12 rfl rfl rfl (callOk Tryd.func79 (by decide) rfl) (args := [.pointer (some ⟨kb, 0, none⟩), .int .u32 ev.addr, .int .u8 4, .int .u8 1]) rfl (find_ok kb bo bc nd S rS C hC ev.addr 4 1 hcur he.addr _ (h12.kn (k := 0) (blk := ⟨kC bo bc S, 90, false⟩) rfl) h12.inv hdkb hfd16) ?_
  rintro _ w17 ⟨rfl, hf19⟩
  refine ⟨_, rfl, ?_⟩
  have h18 := (h12.grow hf19).put (d := some 15) (v := .tuple #[.agg #[.int .u8 fc13.ty, .int .u16 fc13.obj.idx, .int .u32 fc13.obj.gen, .int .u8 fc13.rights, .int .u64 fc13.badge], .int .i64 fs14, .int .u8 fk15]) (T' := [(15, .tuple #[.agg #[.int .u8 fc13.ty, .int .u16 fc13.obj.idx, .int .u32 fc13.obj.gen, .int .u8 fc13.rights, .int .u64 fc13.badge], .int .i64 fs14, .int .u8 fk15]), (4, .pointer (some ⟨b2, 0, none⟩)), (0, .pointer (some ⟨kb, 0, none⟩)), (1, .agg #[.int .u8 ev.kind, .int .u32 ev.pick, .int .u64 ev.draw, .int .u32 ev.addr, .int .u32 ev.node, .int .u32 ev.dst, .int .u32 ev.xfer, .int .u8 ev.ty, .int .u64 ev.arg, .int .u64 ev.badge, .slice xo ev.ws.length cx]), (2, .pointer (some ⟨bt, 0, none⟩)), (6, .int .u8 0), (12, .pointer (some ⟨kb, 0, none⟩)), (14, .int .u32 ev.addr)]) rfl
  clear h12
  refine nd_batch tabOk tabZ_ok [(4, {}), (5, {}), (6, {}), (7, {})] [4, 0, 1, 2, 6, 16, 17, 18] (T' := [(4, .pointer (some ⟨b2, 0, none⟩)), (0, .pointer (some ⟨kb, 0, none⟩)), (1, .agg #[.int .u8 ev.kind, .int .u32 ev.pick, .int .u64 ev.draw, .int .u32 ev.addr, .int .u32 ev.node, .int .u32 ev.dst, .int .u32 ev.xfer, .int .u8 ev.ty, .int .u64 ev.arg, .int .u64 ev.badge, .slice xo ev.ws.length cx]), (2, .pointer (some ⟨bt, 0, none⟩)), (6, .int .u8 0), (16, .agg #[.int .u8 fc13.ty, .int .u16 fc13.obj.idx, .int .u32 fc13.obj.gen, .int .u8 fc13.rights, .int .u64 fc13.badge]), (17, .int .i64 fs14), (18, .int .u8 fk15)]) (φ := True) (rest := [8, 9, 10, 11]) h18 (by kernel_rfl) rfl trivial fun a20 h21 => ?_
  clear h18
  refine nd_op ?_
  refine op_new tabOk (cells := [.int .u8 0, .int .u16 0, .int .u32 0, .int .u8 0, .int .u64 0]) (ty := 49) (ln := none) (L1 := fun b22 => [(kb, ⟨kC bo bc S, 90, false⟩), (bt, ⟨outC ou, 42, false⟩), (b2, ⟨[.int .u8 ev.kind, .int .u32 ev.pick, .int .u64 ev.draw, .int .u32 ev.addr, .int .u32 ev.node, .int .u32 ev.dst, .int .u32 ev.xfer, .int .u8 ev.ty, .int .u64 ev.arg, .int .u64 ev.badge, .slice xo ev.ws.length cx], 35, false⟩), (b22, ⟨[.int .u8 0, .int .u16 0, .int .u32 0, .int .u8 0, .int .u64 0], 49, false⟩)]) h21 rfl rfl rfl rfl (by kernel_rfl) (fun _ => rfl) fun b22 w23 a24 h25 hf26 hn27 => ?_
  clear h21
  refine nd_op ?_
  refine op_store tabOk {k := 3} (L' := [(kb, ⟨kC bo bc S, 90, false⟩), (bt, ⟨outC ou, 42, false⟩), (b2, ⟨[.int .u8 ev.kind, .int .u32 ev.pick, .int .u64 ev.draw, .int .u32 ev.addr, .int .u32 ev.node, .int .u32 ev.dst, .int .u32 ev.xfer, .int .u8 ev.ty, .int .u64 ev.arg, .int .u64 ev.badge, .slice xo ev.ws.length cx], 35, false⟩), (b22, ⟨[.int .u8 fc13.ty, .int .u16 fc13.obj.idx, .int .u32 fc13.obj.gen, .int .u8 fc13.rights, .int .u64 fc13.badge], 49, false⟩)]) (φ := b22 = b22 ∧ Nat.ble (0 + 5) 5 = true) h25 rfl rfl rfl (by kernel_rfl) ⟨rfl, rfl⟩ fun w28 h29 => ?_
  clear h25
  refine nd_batch tabOk tabZ_ok [(10, {}), (11, {})] [7, 4, 0, 1, 2, 6, 9] (T' := [(7, .pointer (some ⟨b22, 0, none⟩)), (4, .pointer (some ⟨b2, 0, none⟩)), (0, .pointer (some ⟨kb, 0, none⟩)), (1, .agg #[.int .u8 ev.kind, .int .u32 ev.pick, .int .u64 ev.draw, .int .u32 ev.addr, .int .u32 ev.node, .int .u32 ev.dst, .int .u32 ev.xfer, .int .u8 ev.ty, .int .u64 ev.arg, .int .u64 ev.badge, .slice xo ev.ws.length cx]), (2, .pointer (some ⟨bt, 0, none⟩)), (6, .int .u8 0), (9, .int .u8 fk15)]) (φ := True) (rest := []) h29 (by kernel_rfl) rfl trivial fun a30 h31 => ?_
  clear h29
  refine nd_done ?_
  refine hK10 _ _ ?_
  clear hK10
  refine wp_seq_k fun K32 hK32 => ?_
  refine wp_seq_k fun K33 hK33 => ?_
  refine nd_start (l := [0, 1]) rfl ?_
  refine nd_batch tabOk tabZ_ok [(0, {}), (1, {})] [7, 4, 0, 1, 2, 6, 9, 20] (T' := [(7, .pointer (some ⟨b22, 0, none⟩)), (4, .pointer (some ⟨b2, 0, none⟩)), (0, .pointer (some ⟨kb, 0, none⟩)), (1, .agg #[.int .u8 ev.kind, .int .u32 ev.pick, .int .u64 ev.draw, .int .u32 ev.addr, .int .u32 ev.node, .int .u32 ev.dst, .int .u32 ev.xfer, .int .u8 ev.ty, .int .u64 ev.arg, .int .u64 ev.badge, .slice xo ev.ws.length cx]), (2, .pointer (some ⟨bt, 0, none⟩)), (6, .int .u8 0), (9, .int .u8 fk15), (20, .bool (fk15 != 0))]) (φ := True) (rest := []) h31 (by kernel_rfl) rfl trivial fun a34 h35 => ?_
  clear h31
  refine nd_done ?_
  refine hK33 _ _ ?_
  clear hK33
  refine c_split h35 (b := (fk15 != 0)) rfl (fun hc36 => ?_) (fun hc36 => ?_)
  ·
    have hc36f : fk15 ≠ 0 := by simpa using hc36
    refine wp_seq_k fun K37 hK37 => ?_
    refine nd_start (l := [0, 1]) rfl ?_
    refine nd_batch tabOk tabZ_ok [(0, {}), (1, {})] [7, 4, 0, 1, 2, 9, 6] (T' := [(7, .pointer (some ⟨b22, 0, none⟩)), (4, .pointer (some ⟨b2, 0, none⟩)), (0, .pointer (some ⟨kb, 0, none⟩)), (1, .agg #[.int .u8 ev.kind, .int .u32 ev.pick, .int .u64 ev.draw, .int .u32 ev.addr, .int .u32 ev.node, .int .u32 ev.dst, .int .u32 ev.xfer, .int .u8 ev.ty, .int .u64 ev.arg, .int .u64 ev.badge, .slice xo ev.ws.length cx]), (2, .pointer (some ⟨bt, 0, none⟩)), (9, .int .u8 fk15), (6, .int .u8 fk15)]) (φ := True) (rest := []) h35 (by kernel_rfl) rfl trivial fun a38 h39 => ?_
    clear h35
    refine nd_done ?_
    refine hK37 _ _ ?_
    clear hK37
    refine wp_ret ?_
    try simp only [Exit.then, Exit.inBlock]
    try rw [if_pos trivial]
    exact s_ret tabOk tabZ_ok h39 [(.tmp 6, {})] (vs := [.int .u8 fk15]) (φ := True) rfl (by kernel_rfl) trivial (by rw [show recvP S C ev ou = (S, C, ou, fk15) from (by unfold recvP; (try dsimp only); rw [hfd16]; (try dsimp only); (first | rw [if_pos hc36f] | rw [if_pos (fun hz => hz hc36f)]))]; exact ⟨rfl, h39.kn (k := 0) rfl, h39.inv, h39.kn (k := 1) rfl, h39.frame⟩)
  ·
    have hc36f : fk15 = 0 := by simpa using hc36
    obtain ⟨fi40, fj40, hfi40, hfj40, hfp40, hfs40, hfcap40, hft40, hfz40, hfo40⟩ := find_fact rS hC hcur he.addr.1 hfd16 hc36f
    have hxfi40 := find_idx hfo40 (by rw [hft40]; decide)
    refine wp_skip ?_
    refine hK32 _ _ ?_
    clear hK32
    refine wp_seq_k fun K41 hK41 => ?_
    refine dr_start (KB := [kb, bt, b2, b22]) (Bi := [[0, 1, 2, 3], [0, 1, 2, 3], [0, 1, 2, 3], [0, 1, 2, 3], [0, 1, 2, 3], [0, 1, 2, 3], [0, 1, 2, 3], [0, 1, 2, 3], [0, 1, 2, 3], [0, 1, 2, 3], [0, 1, 2, 3], [0, 1, 2, 3], []]) mixed h35 fun w42 h43 => ?_
    clear h35
    refine dr_batch tabOk tabZ_ok (by repeat (first | with_reducible exact PF.body | with_reducible apply PF.inB | with_reducible apply PF.next)) [(0, {}), (1, {}), (2, {}), (3, {}), (4, {k := 0, m := 1, vs := [.int .i16 S.cur], p := 0}), (5, {}), (6, {k := 2, p := 2}), (7, {}), (8, {}), (9, {}), (10, {}), (11, {})] [7, 4, 0, 1, 2, 6, 9, 28, 33] (T' := [(7, .pointer (some ⟨b22, 0, none⟩)), (4, .pointer (some ⟨b2, 0, none⟩)), (0, .pointer (some ⟨kb, 0, none⟩)), (1, .agg #[.int .u8 ev.kind, .int .u32 ev.pick, .int .u64 ev.draw, .int .u32 ev.addr, .int .u32 ev.node, .int .u32 ev.dst, .int .u32 ev.xfer, .int .u8 ev.ty, .int .u64 ev.arg, .int .u64 ev.badge, .slice xo ev.ws.length cx]), (2, .pointer (some ⟨bt, 0, none⟩)), (6, .int .u8 0), (9, .int .u8 fk15), (28, .int .u32 ev.dst), (33, .pointer (some ⟨kb, 2 + (S.cur.toNat * 21) + 16, none⟩))]) (φ := (kb = kb ∧ cellsAre (kC bo bc S) 6427 [.int .i16 S.cur]) ∧ (b2 = b2 ∧ Nat.ble (5 + 1) 11 = true) ∧ (0 ≤ S.cur ∧ S.cur < 256) ∧ True) (fuel := 1) h43 (by kernel_rfl) rfl (by kernel_rfl) (by kernel_rfl) ⟨trivial, trivial, trivial, trivial, rfl, trivial, rfl, trivial, trivial, trivial, trivial, trivial, trivial⟩ ⟨⟨rfl, k_cur⟩, ⟨rfl, rfl⟩, ⟨by omega, by omega⟩, trivial⟩ fun a45 h46 => ?_
    clear h43
    refine wpAnyK_one (i := 12) (fuel := 0) (by kernel_rfl) ?_
    refine op_store tabOk {k := 0, m := 1, vs := kC bo bc (S.setT S.cur.toNat { S.tcb S.cur.toNat with dst := ev.dst })} (L' := [(kb, ⟨kC bo bc (S.setT S.cur.toNat { S.tcb S.cur.toNat with dst := ev.dst }), 90, false⟩), (bt, ⟨outC ou, 42, false⟩), (b2, ⟨[.int .u8 ev.kind, .int .u32 ev.pick, .int .u64 ev.draw, .int .u32 ev.addr, .int .u32 ev.node, .int .u32 ev.dst, .int .u32 ev.xfer, .int .u8 ev.ty, .int .u64 ev.arg, .int .u64 ev.badge, .slice xo ev.ws.length cx], 35, false⟩), (b22, ⟨[.int .u8 fc13.ty, .int .u16 fc13.obj.idx, .int .u32 fc13.obj.gen, .int .u8 fc13.rights, .int .u64 fc13.badge], 49, false⟩)]) (φ := kb = kb ∧ Nat.ble (2 + (S.cur.toNat * 21) + 16 + 1) (kC bo bc S).length = true ∧ splice (kC bo bc S) (2 + (S.cur.toNat * 21) + 16) [.int .u32 ev.dst] = kC bo bc (S.setT S.cur.toNat { S.tcb S.cur.toNat with dst := ev.dst })) h46 rfl rfl rfl (by kernel_rfl) ⟨rfl, k_in (by omega), (k_tcb_w (i := S.cur.toNat) (k := 16) (by omega) (Nat.le_of_ble_eq_true rfl) (by omega) rfl)⟩ fun w48 h49 => ?_
    obtain ⟨S47, eS47⟩ : ∃ S9, S9 = (S.setT S.cur.toNat { S.tcb S.cur.toNat with dst := ev.dst }) := ⟨_, rfl⟩
    rw [← eS47] at h49
    have rS47 : RI S47 := by rw [eS47]; exact rS.setT ⟨(rS.t (i := S.cur.toNat) (by omega)).nx, (rS.t (i := S.cur.toNat) (by omega)).pv, (rS.t (i := S.cur.toNat) (by omega)).pr, (rS.t (i := S.cur.toNat) (by omega)).wi, (rS.t (i := S.cur.toNat) (by omega)).ci, (rS.t (i := S.cur.toNat) (by omega)).ri, he.dst⟩
    have hkh49 := h46.known
    refine ⟨keepNil, ?_⟩
    clear h46
    have hcuS47 : 0 ≤ S47.cur ∧ S47.cur < 256 := by rw [eS47]; exact hcur
    refine wpAnyK_done (by kernel_rfl) ?_ _
    refine hK41 _ _ ?_
    clear hK41
    refine wp_seq_k fun K50 hK50 => ?_
    refine nd_start (l := [0, 1, 2, 3, 4]) rfl ?_
    refine nd_batch tabOk tabZ_ok [(0, {}), (1, {}), (2, {k := 3})] [7, 4, 0, 1, 2, 6, 9, 34, 36] (T' := [(7, .pointer (some ⟨b22, 0, none⟩)), (4, .pointer (some ⟨b2, 0, none⟩)), (0, .pointer (some ⟨kb, 0, none⟩)), (1, .agg #[.int .u8 ev.kind, .int .u32 ev.pick, .int .u64 ev.draw, .int .u32 ev.addr, .int .u32 ev.node, .int .u32 ev.dst, .int .u32 ev.xfer, .int .u8 ev.ty, .int .u64 ev.arg, .int .u64 ev.badge, .slice xo ev.ws.length cx]), (2, .pointer (some ⟨bt, 0, none⟩)), (6, .int .u8 0), (9, .int .u8 fk15), (34, .pointer (some ⟨kb, 0, none⟩)), (36, .agg #[.int .u16 fc13.obj.idx, .int .u32 fc13.obj.gen])]) (φ := (b22 = b22 ∧ Nat.ble (1 + 2) 5 = true) ∧ True) (rest := [3, 4]) h49 (by kernel_rfl) rfl ⟨⟨rfl, rfl⟩, trivial⟩ fun a51 h52 => ?_
    clear h49
    refine nd_op ?_
    obtain ⟨od53, eod53⟩ : ∃ t, t = oldestP S47 fc13.obj 3 := ⟨_, rfl⟩
    have lod53 : lk od53 := by rw [eod53]; exact oldest_lk rS47 hxfi40 3
    refine op_call h52 rfl rfl rfl (callOk Tryd.func101 (by decide) rfl) (args := [.pointer (some ⟨kb, 0, none⟩), .agg #[.int .u16 fc13.obj.idx, .int .u32 fc13.obj.gen], .int .u8 3]) rfl (oldestE kb bo bc S47 rS47 fc13.obj 3 hxfi40 _ (h52.kn (k := 0) (blk := ⟨kC bo bc S47, 90, false⟩) rfl) eod53) ?_
    rintro _ w54 ⟨rfl, hf56⟩
    refine ⟨_, rfl, ?_⟩
    have h55 := (h52.grow hf56).put (d := some 37) (v := .int .i16 od53) (T' := [(37, .int .i16 od53), (7, .pointer (some ⟨b22, 0, none⟩)), (4, .pointer (some ⟨b2, 0, none⟩)), (0, .pointer (some ⟨kb, 0, none⟩)), (1, .agg #[.int .u8 ev.kind, .int .u32 ev.pick, .int .u64 ev.draw, .int .u32 ev.addr, .int .u32 ev.node, .int .u32 ev.dst, .int .u32 ev.xfer, .int .u8 ev.ty, .int .u64 ev.arg, .int .u64 ev.badge, .slice xo ev.ws.length cx]), (2, .pointer (some ⟨bt, 0, none⟩)), (6, .int .u8 0), (9, .int .u8 fk15), (34, .pointer (some ⟨kb, 0, none⟩)), (36, .agg #[.int .u16 fc13.obj.idx, .int .u32 fc13.obj.gen])]) rfl
    clear h52
    refine nd_batch tabOk tabZ_ok [(4, {})] [7, 4, 0, 1, 2, 6, 9, 10] (T' := [(7, .pointer (some ⟨b22, 0, none⟩)), (4, .pointer (some ⟨b2, 0, none⟩)), (0, .pointer (some ⟨kb, 0, none⟩)), (1, .agg #[.int .u8 ev.kind, .int .u32 ev.pick, .int .u64 ev.draw, .int .u32 ev.addr, .int .u32 ev.node, .int .u32 ev.dst, .int .u32 ev.xfer, .int .u8 ev.ty, .int .u64 ev.arg, .int .u64 ev.badge, .slice xo ev.ws.length cx]), (2, .pointer (some ⟨bt, 0, none⟩)), (6, .int .u8 0), (9, .int .u8 fk15), (10, .int .i16 od53)]) (φ := True) (rest := []) h55 (by kernel_rfl) rfl trivial fun a57 h58 => ?_
    clear h55
    refine nd_done ?_
    refine hK50 _ _ ?_
    clear hK50
    refine wp_seq_k fun K59 hK59 => ?_
    refine wp_seq_k fun K60 hK60 => ?_
    refine nd_start (l := [0, 1]) rfl ?_
    refine nd_batch tabOk tabZ_ok [(0, {}), (1, {})] [7, 4, 0, 1, 2, 6, 9, 10, 39] (T' := [(7, .pointer (some ⟨b22, 0, none⟩)), (4, .pointer (some ⟨b2, 0, none⟩)), (0, .pointer (some ⟨kb, 0, none⟩)), (1, .agg #[.int .u8 ev.kind, .int .u32 ev.pick, .int .u64 ev.draw, .int .u32 ev.addr, .int .u32 ev.node, .int .u32 ev.dst, .int .u32 ev.xfer, .int .u8 ev.ty, .int .u64 ev.arg, .int .u64 ev.badge, .slice xo ev.ws.length cx]), (2, .pointer (some ⟨bt, 0, none⟩)), (6, .int .u8 0), (9, .int .u8 fk15), (10, .int .i16 od53), (39, .bool (od53 == -1))]) (φ := True) (rest := []) h58 (by kernel_rfl) rfl trivial fun a61 h62 => ?_
    clear h58
    refine nd_done ?_
    refine hK60 _ _ ?_
    clear hK60
    refine c_split h62 (b := (od53 == -1)) rfl (fun hc63 => ?_) (fun hc63 => ?_)
    ·
      have hc63f : od53 = -1 := by simpa using hc63
      refine wp_seq_k fun K64 hK64 => ?_
      refine dr_start (KB := [kb, bt, b2, b22]) (Bi := [[0, 1, 2, 3], [0, 1, 2, 3], [0, 1, 2, 3], [0, 1, 2, 3], [0, 1, 2, 3], [0, 1, 2, 3], [0, 1, 2, 3], []]) mixed h62 fun w65 h66 => ?_
      clear h62
      refine dr_batch tabOk tabZ_ok (by repeat (first | with_reducible exact PF.body | with_reducible apply PF.inB | with_reducible apply PF.next)) [(0, {}), (1, {}), (2, {}), (3, {}), (4, {k := 0, m := 1, vs := [.int .i16 S47.cur], p := 0}), (5, {}), (6, {k := 3, p := 3})] [7, 4, 0, 1, 2, 6, 9, 10, 40, 44, 46] (T' := [(7, .pointer (some ⟨b22, 0, none⟩)), (4, .pointer (some ⟨b2, 0, none⟩)), (0, .pointer (some ⟨kb, 0, none⟩)), (1, .agg #[.int .u8 ev.kind, .int .u32 ev.pick, .int .u64 ev.draw, .int .u32 ev.addr, .int .u32 ev.node, .int .u32 ev.dst, .int .u32 ev.xfer, .int .u8 ev.ty, .int .u64 ev.arg, .int .u64 ev.badge, .slice xo ev.ws.length cx]), (2, .pointer (some ⟨bt, 0, none⟩)), (6, .int .u8 0), (9, .int .u8 fk15), (10, .int .i16 od53), (40, .pointer (some ⟨kb, 0, none⟩)), (44, .int .i16 S47.cur), (46, .agg #[.int .u16 fc13.obj.idx, .int .u32 fc13.obj.gen])]) (φ := (kb = kb ∧ cellsAre (kC bo bc S47) 6427 [.int .i16 S47.cur]) ∧ (b22 = b22 ∧ Nat.ble (1 + 2) 5 = true) ∧ True) (fuel := 1) h66 (by kernel_rfl) rfl (by kernel_rfl) (by kernel_rfl) ⟨trivial, trivial, trivial, trivial, rfl, trivial, rfl, trivial⟩ ⟨⟨rfl, k_cur⟩, ⟨rfl, rfl⟩, trivial⟩ fun a68 h69 => ?_
      clear h66
      refine wpAnyK_one (i := 7) (fuel := 0) (by kernel_rfl) ?_
      refine op_call h69 rfl rfl rfl (callOk Tryd.func103 (by decide) rfl) (args := [.pointer (some ⟨kb, 0, none⟩), .int .i16 S47.cur, .int .u8 4, .agg #[.int .u16 fc13.obj.idx, .int .u32 fc13.obj.gen]]) rfl (block_ok kb bo bc S47 rS47 S47.cur 4 fc13.obj (hcuS47) hxfi40 _ (h69.kn (k := 0) rfl)) ?_
      rintro _ w73 ⟨rfl, hb71, hf72⟩
      refine ⟨_, rfl, ?_⟩
      obtain ⟨S70, eS70⟩ : ∃ S9, S9 = blockP S47 S47.cur 4 fc13.obj := ⟨_, rfl⟩
      rw [← eS70] at hb71
      have rS70 : RI S70 := by rw [eS70]; exact block_RI rS47 (hcuS47) hxfi40
      have h74 := (h69.setBlk (k := 0) rfl rfl hf72 hb71 (L' := [(kb, ⟨kC bo bc S70, 90, false⟩), (bt, ⟨outC ou, 42, false⟩), (b2, ⟨[.int .u8 ev.kind, .int .u32 ev.pick, .int .u64 ev.draw, .int .u32 ev.addr, .int .u32 ev.node, .int .u32 ev.dst, .int .u32 ev.xfer, .int .u8 ev.ty, .int .u64 ev.arg, .int .u64 ev.badge, .slice xo ev.ws.length cx], 35, false⟩), (b22, ⟨[.int .u8 fc13.ty, .int .u16 fc13.obj.idx, .int .u32 fc13.obj.gen, .int .u8 fc13.rights, .int .u64 fc13.badge], 49, false⟩)]) rfl).put (d := some 47) (v := .tuple #[]) (T' := [(47, .tuple #[]), (7, .pointer (some ⟨b22, 0, none⟩)), (4, .pointer (some ⟨b2, 0, none⟩)), (0, .pointer (some ⟨kb, 0, none⟩)), (1, .agg #[.int .u8 ev.kind, .int .u32 ev.pick, .int .u64 ev.draw, .int .u32 ev.addr, .int .u32 ev.node, .int .u32 ev.dst, .int .u32 ev.xfer, .int .u8 ev.ty, .int .u64 ev.arg, .int .u64 ev.badge, .slice xo ev.ws.length cx]), (2, .pointer (some ⟨bt, 0, none⟩)), (6, .int .u8 0), (9, .int .u8 fk15), (10, .int .i16 od53), (40, .pointer (some ⟨kb, 0, none⟩)), (44, .int .i16 S47.cur), (46, .agg #[.int .u16 fc13.obj.idx, .int .u32 fc13.obj.gen])]) rfl
      have hkh74 := h69.known
      refine ⟨keepNil, ?_⟩
      clear h69
      refine wpAnyK_done (by kernel_rfl) ?_ _
      refine hK64 _ _ ?_
      clear hK64
      refine wp_seq_k fun K75 hK75 => ?_
      refine nd_start (l := [0]) rfl ?_
      refine nd_batch tabOk tabZ_ok [(0, {})] [7, 4, 0, 1, 2, 9, 10, 6] (T' := [(7, .pointer (some ⟨b22, 0, none⟩)), (4, .pointer (some ⟨b2, 0, none⟩)), (0, .pointer (some ⟨kb, 0, none⟩)), (1, .agg #[.int .u8 ev.kind, .int .u32 ev.pick, .int .u64 ev.draw, .int .u32 ev.addr, .int .u32 ev.node, .int .u32 ev.dst, .int .u32 ev.xfer, .int .u8 ev.ty, .int .u64 ev.arg, .int .u64 ev.badge, .slice xo ev.ws.length cx]), (2, .pointer (some ⟨bt, 0, none⟩)), (9, .int .u8 fk15), (10, .int .i16 od53), (6, .int .u8 0)]) (φ := True) (rest := []) h74 (by kernel_rfl) rfl trivial fun a76 h77 => ?_
      clear h74
      refine nd_done ?_
      refine hK75 _ _ ?_
      clear hK75
      refine wp_ret ?_
      try simp only [Exit.then, Exit.inBlock]
      try rw [if_pos trivial]
      exact s_ret tabOk tabZ_ok h77 [(.tmp 6, {})] (vs := [.int .u8 0]) (φ := True) rfl (by kernel_rfl) trivial (by rw [show recvP S C ev ou = (S70, C, ou, 0) from (by unfold recvP; (try dsimp only); rw [hfd16]; (try dsimp only); (first | rw [if_neg hc36f] | rw [if_neg (fun hz => hz hc36f)]); rw [← eS47]; rw [← eod53]; (first | rw [if_pos hc63f] | rw [if_pos (fun hz => hz hc63f)]); rw [← eS70])]; exact ⟨rfl, h77.kn (k := 0) rfl, h77.inv, h77.kn (k := 1) rfl, h77.frame⟩)
    ·
      have hc63f : od53 ≠ -1 := by simpa using hc63
      have hod := lk_nat lod53 hc63f
      refine wp_skip ?_
      refine hK59 _ _ ?_
      clear hK59
      refine wp_seq_k fun K78 hK78 => ?_
      refine nd_start (l := [0, 1, 2, 3, 4, 5, 6]) rfl ?_
      refine nd_batch tabOk tabZ_ok [(0, {}), (1, {}), (2, {}), (3, {}), (4, {}), (5, {k := 0, m := 1, vs := [.int .i16 S47.cur]})] [7, 4, 0, 1, 2, 6, 9, 10, 48, 49, 53] (T' := [(7, .pointer (some ⟨b22, 0, none⟩)), (4, .pointer (some ⟨b2, 0, none⟩)), (0, .pointer (some ⟨kb, 0, none⟩)), (1, .agg #[.int .u8 ev.kind, .int .u32 ev.pick, .int .u64 ev.draw, .int .u32 ev.addr, .int .u32 ev.node, .int .u32 ev.dst, .int .u32 ev.xfer, .int .u8 ev.ty, .int .u64 ev.arg, .int .u64 ev.badge, .slice xo ev.ws.length cx]), (2, .pointer (some ⟨bt, 0, none⟩)), (6, .int .u8 0), (9, .int .u8 fk15), (10, .int .i16 od53), (48, .pointer (some ⟨kb, 0, none⟩)), (49, .int .i16 od53), (53, .int .i16 S47.cur)]) (φ := (kb = kb ∧ cellsAre (kC bo bc S47) 6427 [.int .i16 S47.cur]) ∧ True) (rest := [6]) h62 (by kernel_rfl) rfl ⟨⟨rfl, k_cur⟩, trivial⟩ fun a79 h80 => ?_
      clear h62
      refine nd_op ?_
      refine op_call h80 rfl rfl rfl (callOk Tryd.func104 (by decide) rfl) (args := [.pointer (some ⟨kb, 0, none⟩), .int .i16 od53, .int .i16 S47.cur]) rfl (deliver_ok kb bo bc nd S47 rS47 C hC od53 S47.cur hod (hcuS47) _ (h80.kn (k := 0) (blk := ⟨kC bo bc S47, 90, false⟩) rfl) h80.inv hdkb) ?_
      rintro _ w86 ⟨rfl, hb83, hcr84, hf85⟩
      refine ⟨_, rfl, ?_⟩
      obtain ⟨S81, eS81⟩ : ∃ S9, S9 = (deliverP S47 C od53 S47.cur).1 := ⟨_, rfl⟩
      rw [← eS81] at hb83
      have rS81 : RI S81 := by rw [eS81]; exact deliver_RI rS47 C (hcuS47)
      obtain ⟨C82, eC82⟩ : ∃ C9, C9 = (deliverP S47 C od53 S47.cur).2 := ⟨_, rfl⟩
      rw [← eC82] at hcr84
      have pC82 : capF bo bc nd C82 = capF bo bc nd C := by rw [eC82]; exact deliver_capF
      have dC82 : kb ∉ capF bo bc nd C82 := by rw [pC82]; exact hdkb
      have h87 := (h80.turnAt (k := 0) rfl rfl rfl hf85 hb83 (fun b hb => .inl (List.mem_cons_of_mem _ (List.mem_cons_of_mem _ hb))) (kcons (by intro hq; cases hq) (kcons (by intro hq; cases hq) (kcons (by intro hq; cases hq) (kcons (by intro hq; cases hq) knil)))) (L' := [(kb, ⟨kC bo bc S81, 90, false⟩), (bt, ⟨outC ou, 42, false⟩), (b2, ⟨[.int .u8 ev.kind, .int .u32 ev.pick, .int .u64 ev.draw, .int .u32 ev.addr, .int .u32 ev.node, .int .u32 ev.dst, .int .u32 ev.xfer, .int .u8 ev.ty, .int .u64 ev.arg, .int .u64 ev.badge, .slice xo ev.ws.length cx], 35, false⟩), (b22, ⟨[.int .u8 fc13.ty, .int .u16 fc13.obj.idx, .int .u32 fc13.obj.gen, .int .u8 fc13.rights, .int .u64 fc13.badge], 49, false⟩)]) rfl (A' := fun w => CapAt w bo bc nd C82) (F' := capF bo bc nd C82) hcr84 CapAt.stable hcr84.low (fun b hb => .inl (by rw [pC82] at hb; exact hb))).put (d := some 54) (v := .tuple #[]) (T' := [(54, .tuple #[]), (7, .pointer (some ⟨b22, 0, none⟩)), (4, .pointer (some ⟨b2, 0, none⟩)), (0, .pointer (some ⟨kb, 0, none⟩)), (1, .agg #[.int .u8 ev.kind, .int .u32 ev.pick, .int .u64 ev.draw, .int .u32 ev.addr, .int .u32 ev.node, .int .u32 ev.dst, .int .u32 ev.xfer, .int .u8 ev.ty, .int .u64 ev.arg, .int .u64 ev.badge, .slice xo ev.ws.length cx]), (2, .pointer (some ⟨bt, 0, none⟩)), (6, .int .u8 0), (9, .int .u8 fk15), (10, .int .i16 od53), (48, .pointer (some ⟨kb, 0, none⟩)), (49, .int .i16 od53), (53, .int .i16 S47.cur)]) rfl
      clear h80
      have hcuS81 : 0 ≤ S81.cur ∧ S81.cur < 256 := by rw [eS81, deliver_cur]; exact hcuS47
      refine nd_done ?_
      refine hK78 _ _ ?_
      clear hK78
      refine wp_seq_k fun K88 hK88 => ?_
      refine nd_start (l := [0, 1, 2, 3, 4, 5, 6]) rfl ?_
      refine nd_batch tabOk tabZ_ok [(0, {}), (1, {}), (2, {}), (3, {}), (4, {}), (5, {k := 0, m := 1, vs := [.int .i16 S81.cur]})] [7, 4, 0, 1, 2, 6, 9, 10, 55, 56, 60] (T' := [(7, .pointer (some ⟨b22, 0, none⟩)), (4, .pointer (some ⟨b2, 0, none⟩)), (0, .pointer (some ⟨kb, 0, none⟩)), (1, .agg #[.int .u8 ev.kind, .int .u32 ev.pick, .int .u64 ev.draw, .int .u32 ev.addr, .int .u32 ev.node, .int .u32 ev.dst, .int .u32 ev.xfer, .int .u8 ev.ty, .int .u64 ev.arg, .int .u64 ev.badge, .slice xo ev.ws.length cx]), (2, .pointer (some ⟨bt, 0, none⟩)), (6, .int .u8 0), (9, .int .u8 fk15), (10, .int .i16 od53), (55, .pointer (some ⟨kb, 0, none⟩)), (56, .int .i16 od53), (60, .int .i16 S81.cur)]) (φ := (kb = kb ∧ cellsAre (kC bo bc S81) 6427 [.int .i16 S81.cur]) ∧ True) (rest := [6]) h87 (by kernel_rfl) rfl ⟨⟨rfl, k_cur⟩, trivial⟩ fun a89 h90 => ?_
      clear h87
      refine nd_op ?_
      refine op_call h90 rfl rfl rfl (callOk Tryd.func105 (by decide) rfl) (args := [.pointer (some ⟨kb, 0, none⟩), .int .i16 od53, .int .i16 S81.cur]) rfl (settle_ok kb bo bc S81 rS81 C82.ent od53 S81.cur hod (hcuS81) _ (h90.kn (k := 0) (blk := ⟨kC bo bc S81, 90, false⟩) rfl) h90.inv.st hne) ?_
      rintro _ w94 ⟨rfl, hb92, hf93⟩
      refine ⟨_, rfl, ?_⟩
      obtain ⟨S91, eS91⟩ : ∃ S9, S9 = settleP S81 C82.ent od53 S81.cur := ⟨_, rfl⟩
      rw [← eS91] at hb92
      have rS91 : RI S91 := by rw [eS91]; exact settle_RI rS81 _ hod (hcuS81)
      have h95 := (h90.setBlk (k := 0) rfl rfl hf93 hb92 (L' := [(kb, ⟨kC bo bc S91, 90, false⟩), (bt, ⟨outC ou, 42, false⟩), (b2, ⟨[.int .u8 ev.kind, .int .u32 ev.pick, .int .u64 ev.draw, .int .u32 ev.addr, .int .u32 ev.node, .int .u32 ev.dst, .int .u32 ev.xfer, .int .u8 ev.ty, .int .u64 ev.arg, .int .u64 ev.badge, .slice xo ev.ws.length cx], 35, false⟩), (b22, ⟨[.int .u8 fc13.ty, .int .u16 fc13.obj.idx, .int .u32 fc13.obj.gen, .int .u8 fc13.rights, .int .u64 fc13.badge], 49, false⟩)]) rfl).put (d := some 61) (v := .tuple #[]) (T' := [(61, .tuple #[]), (7, .pointer (some ⟨b22, 0, none⟩)), (4, .pointer (some ⟨b2, 0, none⟩)), (0, .pointer (some ⟨kb, 0, none⟩)), (1, .agg #[.int .u8 ev.kind, .int .u32 ev.pick, .int .u64 ev.draw, .int .u32 ev.addr, .int .u32 ev.node, .int .u32 ev.dst, .int .u32 ev.xfer, .int .u8 ev.ty, .int .u64 ev.arg, .int .u64 ev.badge, .slice xo ev.ws.length cx]), (2, .pointer (some ⟨bt, 0, none⟩)), (6, .int .u8 0), (9, .int .u8 fk15), (10, .int .i16 od53), (55, .pointer (some ⟨kb, 0, none⟩)), (56, .int .i16 od53), (60, .int .i16 S81.cur)]) rfl
      clear h90
      have hcuS91 : 0 ≤ S91.cur ∧ S91.cur < 256 := by rw [eS91, settle_cur (by rw [eS81, deliver_st, eod53, oldest_st (by rw [← eod53]; exact hc63f)]; decide)]; exact hcuS81
      refine nd_done ?_
      refine hK88 _ _ ?_
      clear hK88
      refine wp_seq_k fun K96 hK96 => ?_
      refine nd_start (l := [0, 1, 2]) rfl ?_
      refine nd_batch tabOk tabZ_ok [(0, {}), (1, {})] [7, 4, 0, 1, 2, 6, 9, 10, 62, 63] (T' := [(7, .pointer (some ⟨b22, 0, none⟩)), (4, .pointer (some ⟨b2, 0, none⟩)), (0, .pointer (some ⟨kb, 0, none⟩)), (1, .agg #[.int .u8 ev.kind, .int .u32 ev.pick, .int .u64 ev.draw, .int .u32 ev.addr, .int .u32 ev.node, .int .u32 ev.dst, .int .u32 ev.xfer, .int .u8 ev.ty, .int .u64 ev.arg, .int .u64 ev.badge, .slice xo ev.ws.length cx]), (2, .pointer (some ⟨bt, 0, none⟩)), (6, .int .u8 0), (9, .int .u8 fk15), (10, .int .i16 od53), (62, .pointer (some ⟨kb, 0, none⟩)), (63, .pointer (some ⟨bt, 0, none⟩))]) (φ := True) (rest := [2]) h95 (by kernel_rfl) rfl trivial fun a97 h98 => ?_
      clear h95
      refine nd_op ?_
      refine op_call h98 rfl rfl rfl (callOk Tryd.func75 (by decide) rfl) (args := [.pointer (some ⟨kb, 0, none⟩), .pointer (some ⟨bt, 0, none⟩)]) rfl (report_ok kb bo bc S91 rS91 bt hkt ou hcuS91 _ (h98.kn (k := 0) (blk := ⟨kC bo bc S91, 90, false⟩) rfl) (h98.kn (k := 1) (blk := ⟨outC ou, 42, false⟩) rfl)) ?_
      rintro _ w102 ⟨rfl, hb100, hf101⟩
      refine ⟨_, rfl, ?_⟩
      obtain ⟨ou99, eou99⟩ : ∃ o9, o9 = reportP S91 ou := ⟨_, rfl⟩
      rw [← eou99] at hb100
      have h103 := (h98.setBlk (k := 1) rfl rfl hf101 hb100 (L' := [(kb, ⟨kC bo bc S91, 90, false⟩), (bt, ⟨outC ou99, 42, false⟩), (b2, ⟨[.int .u8 ev.kind, .int .u32 ev.pick, .int .u64 ev.draw, .int .u32 ev.addr, .int .u32 ev.node, .int .u32 ev.dst, .int .u32 ev.xfer, .int .u8 ev.ty, .int .u64 ev.arg, .int .u64 ev.badge, .slice xo ev.ws.length cx], 35, false⟩), (b22, ⟨[.int .u8 fc13.ty, .int .u16 fc13.obj.idx, .int .u32 fc13.obj.gen, .int .u8 fc13.rights, .int .u64 fc13.badge], 49, false⟩)]) rfl).put (d := some 64) (v := .tuple #[]) (T' := [(64, .tuple #[]), (7, .pointer (some ⟨b22, 0, none⟩)), (4, .pointer (some ⟨b2, 0, none⟩)), (0, .pointer (some ⟨kb, 0, none⟩)), (1, .agg #[.int .u8 ev.kind, .int .u32 ev.pick, .int .u64 ev.draw, .int .u32 ev.addr, .int .u32 ev.node, .int .u32 ev.dst, .int .u32 ev.xfer, .int .u8 ev.ty, .int .u64 ev.arg, .int .u64 ev.badge, .slice xo ev.ws.length cx]), (2, .pointer (some ⟨bt, 0, none⟩)), (6, .int .u8 0), (9, .int .u8 fk15), (10, .int .i16 od53), (62, .pointer (some ⟨kb, 0, none⟩)), (63, .pointer (some ⟨bt, 0, none⟩))]) rfl
      clear h98
      refine nd_done ?_
      refine hK96 _ _ ?_
      clear hK96
      refine wp_seq_k fun K104 hK104 => ?_
      refine nd_start (l := [0]) rfl ?_
      refine nd_batch tabOk tabZ_ok [(0, {})] [7, 4, 0, 1, 2, 9, 10, 6] (T' := [(7, .pointer (some ⟨b22, 0, none⟩)), (4, .pointer (some ⟨b2, 0, none⟩)), (0, .pointer (some ⟨kb, 0, none⟩)), (1, .agg #[.int .u8 ev.kind, .int .u32 ev.pick, .int .u64 ev.draw, .int .u32 ev.addr, .int .u32 ev.node, .int .u32 ev.dst, .int .u32 ev.xfer, .int .u8 ev.ty, .int .u64 ev.arg, .int .u64 ev.badge, .slice xo ev.ws.length cx]), (2, .pointer (some ⟨bt, 0, none⟩)), (9, .int .u8 fk15), (10, .int .i16 od53), (6, .int .u8 0)]) (φ := True) (rest := []) h103 (by kernel_rfl) rfl trivial fun a105 h106 => ?_
      clear h103
      refine nd_done ?_
      refine hK104 _ _ ?_
      clear hK104
      refine wp_ret ?_
      try simp only [Exit.then, Exit.inBlock]
      try rw [if_pos trivial]
      exact s_ret tabOk tabZ_ok h106 [(.tmp 6, {})] (vs := [.int .u8 0]) (φ := True) rfl (by kernel_rfl) trivial (by rw [show recvP S C ev ou = (S91, C82, ou99, 0) from (by unfold recvP; (try dsimp only); rw [hfd16]; (try dsimp only); (first | rw [if_neg hc36f] | rw [if_neg (fun hz => hz hc36f)]); rw [← eS47]; rw [← eod53]; (first | rw [if_neg hc63f] | rw [if_neg (fun hz => hz hc63f)]); rw [← eS81]; rw [← eC82]; rw [← eS91]; rw [← eou99])]; exact ⟨rfl, h106.kn (k := 0) rfl, h106.inv, h106.kn (k := 1) rfl, h106.frame⟩)

end Go.Proofs.Qxb6500918aDoor
