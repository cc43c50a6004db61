/-
  SchedulerPicksAmongHighest. (Made by program: a symbolic walk that prints its steps.)
-/
import Derived.Test.Qxb6500918aDoorOn
import Derived.Test.Qxb6500918aDoorPF
import Derived.Test.Qxb6500918aDoorKT
namespace Go.Proofs.Qxb6500918aDoor
open Go.Sx Go.Kn
set_option maxRecDepth 100000
set_option maxHeartbeats 4000000
set_option linter.unusedVariables false
set_option linter.unusedSimpArgs false

theorem wrap_u32 (v : Int) : 0 ≤ IntKind.wrap .u32 v ∧ IntKind.wrap .u32 v < 4294967296 := by
  simp [IntKind.wrap, IntKind.bits, IntKind.signed]; omega

theorem boot_TopI {Q : QL → List Nat} (hQ : LIQ bootS Q) : TopI bootS Q := fun p hp h => by
  have h1 := (hQ.bz p hp).2 h
  have h2 : bootS.busy = 0 := rfl
  rw [h2] at h1
  simp at h1

theorem line_len {S : KP} (hR : RI S) {Q : QL → List Nat} (hQ : LIQ S Q) (hc : 0 ≤ S.cur ∧ S.cur < 256) {E : Nat → Ent} {p : Int} (hp : 0 ≤ p ∧ p < 4294967296) : (lineUpP S Q E p).length ≤ 1000 := by
  have hpr := (hR.t (i := S.cur.toNat) (by omega)).pr
  have hxl : (Q (.r (S.tcb S.cur.toNat).prio.toNat)).length ≤ 256 := nodup_len (hQ.lx.ch (L := .r _) (show _ < 8 by omega)).nd (hQ.lx.ch (L := .r _) (show _ < 8 by omega)).lt
  have h1 : p % (((refsP E (Q (.r (S.tcb S.cur.toNat).prio.toNat))).length : Int) + 1) < ((refsP E (Q (.r (S.tcb S.cur.toNat).prio.toNat))).length : Int) + 1 := Int.emod_lt_of_pos _ (by omega)
  unfold lineUpP
  rw [insP_len _ (by omega), refs_len]
  omega

theorem law7_ok (ops : List OpV) (o : Option Addr) (c : Nat) (w : World) (hscr : Scr w o ops) (hev : ∀ x ∈ ops, EvOk x.ev ∧ EvU x.ev) (hwd : ∀ x ∈ ops, WordsAt [] w x.xo x.ev.ws) (hg1 : CellsAt w 1 0 (tcbC noT)) (hgs1 : 1 < w.heap.size) (hg2 : CellsAt w 2 0 (quC noQ)) (hgs2 : 2 < w.heap.size) (hno : ∃ ty, w.heap[0]? = some (Blk.obj ⟨[.int .u16 0, .int .u32 0], ty, true⟩)) :
    Calls Tryd.prog 7 #[.slice o ops.length c] w fun e w' => e = .returned (.bool true) ∧ Fr [] w w' := by
  obtain ⟨ty0, hn0⟩ := hno
  refine enter0 (n := 109) (K := []) (T := [(0, .slice o ops.length c)]) (L := [(0, ⟨[.int .u16 0, .int .u32 0], ty0, true⟩)]) (args := [.slice o ops.length c]) Tryd.func7 rfl rfl rfl rfl (kcons hn0 knil) (by simp) (kcons (by intro hq; cases hq) knil) ?_
  intro a h
  refine wp_seq_k fun K1 hK1 => ?_
  refine nd_start (l := [0]) rfl ?_
  refine nd_batch tabOk tabZ_ok [(0, {})] [0, 2] (T' := [(0, .slice o ops.length c), (2, .bool false)]) (φ := True) (rest := []) h (by kernel_rfl) rfl trivial fun a2 h3 => ?_
  clear h
  refine nd_done ?_
  refine hK1 _ _ ?_
  clear hK1
  refine wp_seq_k fun K4 hK4 => ?_
  refine wp_seq_k fun K5 hK5 => ?_
  refine nd_start (l := [0, 1, 2]) rfl ?_
  refine nd_batch tabOk tabZ_ok [(0, {})] [0, 2, 14] (T' := [(0, .slice o ops.length c), (2, .bool false), (14, .slice o ops.length c)]) (φ := True) (rest := [1, 2]) h3 (by kernel_rfl) rfl trivial fun a6 h7 => ?_
  clear h3
  refine nd_op ?_
  refine op_call h7 rfl rfl rfl (callOk Tryd.func10 (by decide) rfl) (args := [.slice o ops.length c]) rfl (small_ok ops o c _ (scr_fr hscr h7.frame)) ?_
  rintro _ w8 ⟨bb, rfl, hbb, hf9⟩
  refine ⟨_, rfl, ?_⟩
  have h10 := (h7.grow hf9).put (d := some 15) (v := .bool bb) (T' := [(15, .bool bb), (0, .slice o ops.length c), (2, .bool false), (14, .slice o ops.length c)]) rfl
  clear h7
  refine nd_batch tabOk tabZ_ok [(2, {})] [0, 2, 16] (T' := [(0, .slice o ops.length c), (2, .bool false), (16, .bool (!bb))]) (φ := True) (rest := []) h10 (by kernel_rfl) rfl trivial fun a11 h12 => ?_
  clear h10
  refine nd_done ?_
  refine hK5 _ _ ?_
  clear hK5
  refine c_split h12 (b := !bb) rfl (fun hc13 => ?_) (fun hc13 => ?_)
  ·
    refine wp_seq_k fun K14 hK14 => ?_
    refine nd_start (l := [0]) rfl ?_
    refine nd_batch tabOk tabZ_ok [(0, {})] [0, 2] (T' := [(0, .slice o ops.length c), (2, .bool true)]) (φ := True) (rest := []) h12 (by kernel_rfl) rfl trivial fun a15 h16 => ?_
    clear h12
    refine nd_done ?_
    refine hK14 _ _ ?_
    clear hK14
    refine wp_ret ?_
    try simp only [Exit.then, Exit.inBlock]
    try rw [if_pos trivial]
    exact s_ret tabOk tabZ_ok h16 [(.tmp 2, {})] (vs := [.bool true]) (φ := True) rfl (by kernel_rfl) trivial ⟨rfl, h16.frame⟩
  ·
    have hol := hbb (by simpa using hc13)
    refine wp_skip ?_
    refine hK4 _ _ ?_
    clear hK4
    refine wp_seq_k fun K17 hK17 => ?_
    refine nd_start (l := [0, 1]) rfl ?_
    refine nd_op ?_
    have h18a := h12.slotsMono (restr_spec (keep := [0, 2]) rfl)
    have h18 := h18a.pc0
    clear h12 h18a
    refine op_call h18 rfl rfl rfl (callOk Tryd.func11 (by decide) rfl) (args := []) rfl (new_ok _ (cellsK hg1 h18.frame hgs1 (by simp)) (Nat.lt_of_lt_of_le hgs1 h18.frame.size) (cellsK hg2 h18.frame hgs2 (by simp)) (Nat.lt_of_lt_of_le hgs2 h18.frame.size)) ?_
    rintro _ w20 ⟨kb, bo, bc, nd, rfl, hk9, hcp9, hnk9, hkn9, hcn9, hf19⟩
    refine ⟨_, rfl, ?_⟩
    have h21 := (h18.pcAdd (p' := pKer kb bo bc nd bootS bootC) (ps' := [pKer kb bo bc nd bootS bootC]) (pKer_ok ⟨hk9, hcp9, hnk9⟩) hf19 (fun b hb => (List.mem_cons.1 hb).elim (fun e => by rw [e]; exact hkn9) (fun e => hcn9 b e)) rfl).put (d := some 17) (v := .pointer (some ⟨kb, 0, none⟩)) (T' := [(17, .pointer (some ⟨kb, 0, none⟩)), (0, .slice o ops.length c), (2, .bool false)]) rfl
    have hszh21 : w.heap.size ≤ _ := h18.frame.size
    clear h18
    refine nd_batch tabOk tabZ_ok [(1, {})] [0, 2, 3] (T' := [(0, .slice o ops.length c), (2, .bool false), (3, .pointer (some ⟨kb, 0, none⟩))]) (φ := True) (rest := []) h21 (by kernel_rfl) rfl trivial fun a22 h23 => ?_
    clear h21
    refine nd_done ?_
    refine hK17 _ _ ?_
    clear hK17
    refine wp_seq_k fun K24 hK24 => ?_
    refine wp_seq_k fun K25 hK25 => ?_
    refine nd_start (l := [0, 1, 2]) rfl ?_
    refine nd_batch tabOk tabZ_ok [(0, {}), (1, {}), (2, {})] [0, 2, 3, 18, 19, 20] (T' := [(0, .slice o ops.length c), (2, .bool false), (3, .pointer (some ⟨kb, 0, none⟩)), (18, .slice o ops.length c), (19, .int .i64 ((ops.length : Nat) : Int)), (20, .int .i64 0)]) (φ := True) (rest := []) h23 (by kernel_rfl) rfl trivial fun a26 h27 => ?_
    clear h23
    refine nd_done ?_
    refine hK25 _ _ ?_
    clear hK25
    refine wp_block ?_
    obtain ⟨Q0, hQ0⟩ := boot_LI
    refine wp_loop_ghost (fun g ga gw => ∃ (nd : Nat → Nat) (S : KP) (C : CP) (Q : QL → List Nat) (i : Int), ((g : Int) = ops.length - i) ∧ (0 ≤ i ∧ i ≤ ops.length) ∧ (Ok2 S) ∧ (CI C) ∧ (XI S C.ent) ∧ (LIQ S Q) ∧ (TopI S Q) ∧ (WI S C.ent) ∧ (GI C.ent (i + 1)) ∧ St ⟨109, [], w, Pk w.heap.size [pKer kb bo bc nd S C], Pf [pKer kb bo bc nd S C]⟩ [(3, .pointer (some ⟨kb, 0, none⟩)), (18, .slice o ops.length c), (19, .int .i64 ((ops.length : Nat) : Int)), (20, .int .i64 i)] [(0, ⟨[.int .u16 0, .int .u32 0], ty0, true⟩)] ga gw) ops.length ⟨nd, bootS, bootC, Q0, 0, by simp, ⟨by simp, by simp⟩, ⟨boot_RI, boot_LI⟩, boot_CI, boot_XI, hQ0, boot_TopI hQ0, boot_WI, (by rw [Int.zero_add]; exact boot_GI), (h27.slotsMono (restr_spec (keep := [3, 18, 19, 20]) rfl))⟩ ?_
    clear h27
    rintro g a28 w29 ⟨nd, S, C, Q, i, hi31, hi32, hi33, hi34, hi35, hi36, hi37, hi38, hi39, h30⟩
    have hig := hi31
    have hi0 := hi32
    have hok := hi33
    have hci := hi34
    have hX := hi35
    have hQ := hi36
    have hT := hi37
    have hWI := hi38
    have hGI := hi39
    refine wp_seq_k fun K40 hK40 => ?_
    refine nd_start (l := [0]) rfl ?_
    refine nd_batch tabOk tabZ_ok [(0, {})] [3, 18, 19, 20, 21] (T' := [(3, .pointer (some ⟨kb, 0, none⟩)), (18, .slice o ops.length c), (19, .int .i64 ((ops.length : Nat) : Int)), (20, .int .i64 i), (21, .bool (decide (i < ((ops.length : Nat) : Int))))]) (φ := True) (rest := []) h30 (by kernel_rfl) rfl trivial fun a41 h42 => ?_
    clear h30
    refine nd_done ?_
    refine hK40 _ _ ?_
    clear hK40
    refine wp_seq_k fun K43 hK43 => ?_
    refine c_split h42 (b := decide (i < ((ops.length : Nat) : Int))) rfl (fun hc44 => ?_) (fun hc44 => ?_)
    ·
      have hc44f : i < ((ops.length : Nat) : Int) := by simpa using hc44
      obtain ⟨x, hx⟩ : ∃ x, ops[i.toNat]? = some x := ⟨ops[i.toNat]'(by omega), by simp⟩
      have hxm := List.mem_of_getElem? hx
      obtain ⟨sb45, k046, ho9, hsb47, hsc48⟩ := hscr.get hx
      subst ho9
      refine wp_skip ?_
      refine hK43 _ _ ?_
      clear hK43
      refine wp_seq_k fun K49 hK49 => ?_
      refine wp_block ?_
      refine wp_seq_k fun K50 hK50 => ?_
      refine nd_start (l := [0, 1, 2, 3]) rfl ?_
      refine nd_batch tabOk tabZ_ok [(0, {})] [3, 18, 19, 20, 22] (T' := [(3, .pointer (some ⟨kb, 0, none⟩)), (18, .slice (some ⟨sb45, k046, none⟩) ops.length c), (19, .int .i64 ((ops.length : Nat) : Int)), (20, .int .i64 i), (22, .pointer (some ⟨sb45, k046 + (i.toNat * 11), none⟩))]) (φ := (0 ≤ i ∧ i < ((ops.length : Nat) : Int)) ∧ True) (rest := [1, 2, 3]) h42 (by kernel_rfl) rfl ⟨⟨by omega, by omega⟩, trivial⟩ fun a51 h52 => ?_
      clear h42
      refine nd_op ?_
      refine op_loadx tabOk (b := sb45) (k := k046 + (i.toNat * 11)) (vs := opC x) h52 rfl rfl rfl rfl rfl rfl rfl (CellsAt.fr (hsc48 _ _ hx) h52.frame hsb47) ?_
      have h53 := h52.put (d := some 23) (v := .agg #[.int .u8 x.ev.kind, .int .u32 x.ev.pick, .int .u64 x.ev.draw, .int .u32 x.ev.addr, .int .u32 x.ev.node, .int .u32 x.ev.dst, .int .u32 x.ev.xfer, .int .u8 x.ev.ty, .int .u64 x.ev.arg, .int .u64 x.ev.badge, .slice x.xo x.ev.ws.length x.cx]) (T' := [(23, .agg #[.int .u8 x.ev.kind, .int .u32 x.ev.pick, .int .u64 x.ev.draw, .int .u32 x.ev.addr, .int .u32 x.ev.node, .int .u32 x.ev.dst, .int .u32 x.ev.xfer, .int .u8 x.ev.ty, .int .u64 x.ev.arg, .int .u64 x.ev.badge, .slice x.xo x.ev.ws.length x.cx]), (3, .pointer (some ⟨kb, 0, none⟩)), (18, .slice (some ⟨sb45, k046, none⟩) ops.length c), (19, .int .i64 ((ops.length : Nat) : Int)), (20, .int .i64 i), (22, .pointer (some ⟨sb45, k046 + (i.toNat * 11), none⟩))]) rfl
      clear h52
      refine nd_op ?_
      refine op_new tabOk (cells := [.int .u8 0, .int .u32 0, .int .u64 0, .int .u32 0, .int .u32 0, .int .u32 0, .int .u32 0, .int .u8 0, .int .u64 0, .int .u64 0, .slice none 0 0]) (ty := 35) (ln := none) (L1 := fun b54 => [(0, ⟨[.int .u16 0, .int .u32 0], ty0, true⟩), (b54, ⟨[.int .u8 0, .int .u32 0, .int .u64 0, .int .u32 0, .int .u32 0, .int .u32 0, .int .u32 0, .int .u8 0, .int .u64 0, .int .u64 0, .slice none 0 0], 35, false⟩)]) h53 rfl rfl rfl rfl (by kernel_rfl) (fun _ => rfl) fun b54 w55 a56 h57 hf58 hn59 => ?_
      clear h53
      refine nd_op ?_
      refine op_store tabOk {k := 1} (L' := [(0, ⟨[.int .u16 0, .int .u32 0], ty0, true⟩), (b54, ⟨[.int .u8 x.ev.kind, .int .u32 x.ev.pick, .int .u64 x.ev.draw, .int .u32 x.ev.addr, .int .u32 x.ev.node, .int .u32 x.ev.dst, .int .u32 x.ev.xfer, .int .u8 x.ev.ty, .int .u64 x.ev.arg, .int .u64 x.ev.badge, .slice x.xo x.ev.ws.length x.cx], 35, false⟩)]) (φ := b54 = b54 ∧ Nat.ble (0 + 11) 11 = true) h57 rfl rfl rfl (by kernel_rfl) ⟨rfl, rfl⟩ fun w60 h61 => ?_
      clear h57
      refine nd_done ?_
      refine hK50 _ _ ?_
      clear hK50
      refine wp_seq_k fun K62 hK62 => ?_
      refine nd_start (l := [0, 1, 2]) rfl ?_
      refine nd_batch tabOk tabZ_ok [(0, {})] [5, 3, 18, 19, 20, 24] (T' := [(5, .pointer (some ⟨b54, 0, none⟩)), (3, .pointer (some ⟨kb, 0, none⟩)), (18, .slice (some ⟨sb45, k046, none⟩) ops.length c), (19, .int .i64 ((ops.length : Nat) : Int)), (20, .int .i64 i), (24, .pointer (some ⟨kb, 0, none⟩))]) (φ := True) (rest := [1, 2]) h61 (by kernel_rfl) rfl trivial fun a63 h64 => ?_
      clear h61
      refine nd_op ?_
      refine op_call h64 rfl rfl rfl (callOk Tryd.func21 (by decide) rfl) (args := [.pointer (some ⟨kb, 0, none⟩)]) rfl (clone_ok kb bo bc nd S C _ (h64.inv.get (j := 0) (p := pKer kb bo bc nd S C) rfl).ker (h64.inv.get (j := 0) (p := pKer kb bo bc nd S C) rfl).cap) ?_
      rintro _ w67 ⟨kb2, bo2, bc2, nd2, rfl, hk66, hc66, hnk66, hnw66, hf65⟩
      refine ⟨_, rfl, ?_⟩
      have h68 := (h64.pcAdd (p' := pKer kb2 bo2 bc2 nd2 S C) (ps' := [pKer kb bo bc nd S C, pKer kb2 bo2 bc2 nd2 S C]) (pKer_ok ⟨hk66, hc66, hnk66⟩) hf65 hnw66 rfl).put (d := some 25) (v := .pointer (some ⟨kb2, 0, none⟩)) (T' := [(25, .pointer (some ⟨kb2, 0, none⟩)), (5, .pointer (some ⟨b54, 0, none⟩)), (3, .pointer (some ⟨kb, 0, none⟩)), (18, .slice (some ⟨sb45, k046, none⟩) ops.length c), (19, .int .i64 ((ops.length : Nat) : Int)), (20, .int .i64 i), (24, .pointer (some ⟨kb, 0, none⟩))]) rfl
      have hszh68 : w.heap.size ≤ _ := h64.frame.size
      clear h64
      refine nd_batch tabOk tabZ_ok [(2, {})] [5, 3, 18, 19, 20, 6] (T' := [(5, .pointer (some ⟨b54, 0, none⟩)), (3, .pointer (some ⟨kb, 0, none⟩)), (18, .slice (some ⟨sb45, k046, none⟩) ops.length c), (19, .int .i64 ((ops.length : Nat) : Int)), (20, .int .i64 i), (6, .pointer (some ⟨kb2, 0, none⟩))]) (φ := True) (rest := []) h68 (by kernel_rfl) rfl trivial fun a69 h70 => ?_
      clear h68
      refine nd_done ?_
      refine hK62 _ _ ?_
      clear hK62
      refine wp_seq_k fun K71 hK71 => ?_
      refine nd_start (l := [0, 1, 2, 3]) rfl ?_
      refine nd_batch tabOk tabZ_ok [(0, {})] [5, 3, 18, 19, 20, 6, 26] (T' := [(5, .pointer (some ⟨b54, 0, none⟩)), (3, .pointer (some ⟨kb, 0, none⟩)), (18, .slice (some ⟨sb45, k046, none⟩) ops.length c), (19, .int .i64 ((ops.length : Nat) : Int)), (20, .int .i64 i), (6, .pointer (some ⟨kb2, 0, none⟩)), (26, .pointer (some ⟨kb, 0, none⟩))]) (φ := True) (rest := [1, 2, 3]) h70 (by kernel_rfl) rfl trivial fun a72 h73 => ?_
      clear h70
      refine nd_op ?_
      refine op_call h73 rfl rfl rfl (callOk Tryd.func18 (by decide) rfl) (args := [.pointer (some ⟨kb, 0, none⟩)]) rfl (running_ok kb bo bc S hok.ri C.ent _ (h73.inv.get (j := 0) (p := pKer kb bo bc nd S C) rfl).ker (h73.inv.get (j := 0) (p := pKer kb bo bc nd S C) rfl).cap.st (h73.inv.get (j := 0) (p := pKer kb bo bc nd S C) rfl).ne) ?_
      rintro _ w74 ⟨rfl, hf76⟩
      refine ⟨_, rfl, ?_⟩
      have h75 := (h73.grow hf76).put (d := some 27) (v := .agg #[.int .u16 ((refP C.ent S.cur).idx), .int .u32 ((refP C.ent S.cur).gen)]) (T' := [(27, .agg #[.int .u16 ((refP C.ent S.cur).idx), .int .u32 ((refP C.ent S.cur).gen)]), (5, .pointer (some ⟨b54, 0, none⟩)), (3, .pointer (some ⟨kb, 0, none⟩)), (18, .slice (some ⟨sb45, k046, none⟩) ops.length c), (19, .int .i64 ((ops.length : Nat) : Int)), (20, .int .i64 i), (6, .pointer (some ⟨kb2, 0, none⟩)), (26, .pointer (some ⟨kb, 0, none⟩))]) rfl
      clear h73
      refine nd_op ?_
      refine op_new tabOk (cells := [.int .u16 0, .int .u32 0]) (ty := 39) (ln := none) (L1 := fun b77 => [(0, ⟨[.int .u16 0, .int .u32 0], ty0, true⟩), (b54, ⟨[.int .u8 x.ev.kind, .int .u32 x.ev.pick, .int .u64 x.ev.draw, .int .u32 x.ev.addr, .int .u32 x.ev.node, .int .u32 x.ev.dst, .int .u32 x.ev.xfer, .int .u8 x.ev.ty, .int .u64 x.ev.arg, .int .u64 x.ev.badge, .slice x.xo x.ev.ws.length x.cx], 35, false⟩), (b77, ⟨[.int .u16 0, .int .u32 0], 39, false⟩)]) h75 rfl rfl rfl rfl (by kernel_rfl) (fun _ => rfl) fun b77 w78 a79 h80 hf81 hn82 => ?_
      clear h75
      refine nd_op ?_
      refine op_store tabOk {k := 2} (L' := [(0, ⟨[.int .u16 0, .int .u32 0], ty0, true⟩), (b54, ⟨[.int .u8 x.ev.kind, .int .u32 x.ev.pick, .int .u64 x.ev.draw, .int .u32 x.ev.addr, .int .u32 x.ev.node, .int .u32 x.ev.dst, .int .u32 x.ev.xfer, .int .u8 x.ev.ty, .int .u64 x.ev.arg, .int .u64 x.ev.badge, .slice x.xo x.ev.ws.length x.cx], 35, false⟩), (b77, ⟨[.int .u16 ((refP C.ent S.cur).idx), .int .u32 ((refP C.ent S.cur).gen)], 39, false⟩)]) (φ := b77 = b77 ∧ Nat.ble (0 + 2) 2 = true) h80 rfl rfl rfl (by kernel_rfl) ⟨rfl, rfl⟩ fun w83 h84 => ?_
      clear h80
      refine nd_done ?_
      refine hK71 _ _ ?_
      clear hK71
      refine wp_seq_k fun K85 hK85 => ?_
      refine nd_start (l := [0, 1, 2, 3, 4]) rfl ?_
      refine nd_batch tabOk tabZ_ok [(0, {}), (1, {k := 1})] [7, 5, 3, 18, 19, 20, 6, 28, 29] (T' := [(7, .pointer (some ⟨b77, 0, none⟩)), (5, .pointer (some ⟨b54, 0, none⟩)), (3, .pointer (some ⟨kb, 0, none⟩)), (18, .slice (some ⟨sb45, k046, none⟩) ops.length c), (19, .int .i64 ((ops.length : Nat) : Int)), (20, .int .i64 i), (6, .pointer (some ⟨kb2, 0, none⟩)), (28, .pointer (some ⟨kb, 0, none⟩)), (29, .agg #[.int .u8 x.ev.kind, .int .u32 x.ev.pick, .int .u64 x.ev.draw, .int .u32 x.ev.addr, .int .u32 x.ev.node, .int .u32 x.ev.dst, .int .u32 x.ev.xfer, .int .u8 x.ev.ty, .int .u64 x.ev.arg, .int .u64 x.ev.badge, .slice x.xo x.ev.ws.length x.cx])]) (φ := (b54 = b54 ∧ Nat.ble (0 + 11) 11 = true) ∧ True) (rest := [2, 3, 4]) h84 (by kernel_rfl) rfl ⟨⟨rfl, rfl⟩, trivial⟩ fun a86 h87 => ?_
      clear h84
      refine nd_op ?_
      obtain ⟨Sz, Cz, oz, ezSz⟩ : ∃ a b c, stepP S C x.ev = (a, b, c) := ⟨_, _, _, rfl⟩
      have hnwkSz : ∀ b ∈ kb :: capF bo bc nd C, w.heap.size ≤ b := h87.inv.newOf (j := 0) (p := pKer kb bo bc nd S C) rfl
      have hstSz := step_ok kb bo bc nd S hok.ri C hok.li hci x.ev (hev x hxm).1 x.xo x.cx _ (h87.inv.get (j := 0) (p := pKer kb bo bc nd S C) rfl).ker (h87.inv.get (j := 0) (p := pKer kb bo bc nd S C) rfl).cap (h87.inv.get (j := 0) (p := pKer kb bo bc nd S C) rfl).nk (cellsK hg1 h87.frame hgs1 (by simp)) (Nat.lt_of_lt_of_le hgs1 h87.frame.size) (by have := hnwkSz kb (List.mem_cons_self ..); omega) (fun hq => by have := hnwkSz 1 (List.mem_cons_of_mem _ hq); omega) (words_at (hwd x hxm) h87.frame hnwkSz)
      rw [ezSz] at hstSz
      have hgkSz := (h87.inv.get (j := 0) (p := pKer kb bo bc nd S C) rfl).nk
      have hglSz := lt_of_heap (h87.inv.get (j := 0) (p := pKer kb bo bc nd S C) rfl).ker
      refine op_call h87 rfl rfl rfl (callOk Tryd.func14 (by decide) rfl) (args := [.pointer (some ⟨kb, 0, none⟩), .agg #[.int .u8 x.ev.kind, .int .u32 x.ev.pick, .int .u64 x.ev.draw, .int .u32 x.ev.addr, .int .u32 x.ev.node, .int .u32 x.ev.dst, .int .u32 x.ev.xfer, .int .u8 x.ev.ty, .int .u64 x.ev.arg, .int .u64 x.ev.badge, .slice x.xo x.ev.ws.length x.cx]]) rfl (hstSz) ?_
      rintro _ w89 ⟨rfl, hkSz, nd9, hcSz, hsSz, hf88⟩
      refine ⟨_, rfl, ?_⟩
      dsimp only at hkSz hcSz hsSz ⊢
      have hnkSz : kb ∉ capF bo bc nd9 Cz := fun hq => (hsSz _ hq).elim hgkSz (fun h => by omega)
      have h90 := (h87.pcSet (j := 0) (p := pKer kb bo bc nd S C) (p' := pKer kb bo bc nd9 Sz Cz) (ps' := [pKer kb bo bc nd9 Sz Cz, pKer kb2 bo2 bc2 nd2 S C]) rfl (pKer_ok ⟨hkSz, hcSz, hnkSz⟩) hf88 (fun _ h => h) (ker_sub hsSz) (kcons (fun _ => (fun hq => by have := h87.inv.newOf (j := 0) (p := pKer kb bo bc nd S C) rfl 0 hq; omega)) (kcons (by intro hq; cases hq) (kcons (by intro hq; cases hq) knil))) rfl).put (d := some 30) (v := .agg #[.int .u8 oz.code, .int .u16 oz.run.idx, .int .u32 oz.run.gen, .int .u64 oz.badge, .int .u64 oz.m0, .int .u64 oz.m1, .int .u64 oz.m2, .int .u64 oz.m3, .int .u8 oz.len, .int .u8 oz.got]) (T' := [(30, .agg #[.int .u8 oz.code, .int .u16 oz.run.idx, .int .u32 oz.run.gen, .int .u64 oz.badge, .int .u64 oz.m0, .int .u64 oz.m1, .int .u64 oz.m2, .int .u64 oz.m3, .int .u8 oz.len, .int .u8 oz.got]), (7, .pointer (some ⟨b77, 0, none⟩)), (5, .pointer (some ⟨b54, 0, none⟩)), (3, .pointer (some ⟨kb, 0, none⟩)), (18, .slice (some ⟨sb45, k046, none⟩) ops.length c), (19, .int .i64 ((ops.length : Nat) : Int)), (20, .int .i64 i), (6, .pointer (some ⟨kb2, 0, none⟩)), (28, .pointer (some ⟨kb, 0, none⟩)), (29, .agg #[.int .u8 x.ev.kind, .int .u32 x.ev.pick, .int .u64 x.ev.draw, .int .u32 x.ev.addr, .int .u32 x.ev.node, .int .u32 x.ev.dst, .int .u32 x.ev.xfer, .int .u8 x.ev.ty, .int .u64 x.ev.arg, .int .u64 x.ev.badge, .slice x.xo x.ev.ws.length x.cx])]) rfl
      have hszh90 : w.heap.size ≤ _ := h87.frame.size
      clear h87
      have hivz := step_inv hok hci (hev x hxm).1
      rw [ezSz] at hivz
      dsimp only at hivz
      have hXz := hX.step hok hci (hev x hxm).1
      rw [ezSz] at hXz
      dsimp only at hXz
      have hWz := hWI.step hok hci (hev x hxm).1
      rw [ezSz] at hWz
      dsimp only at hWz
      have hgs := step_gen (S := S) (C := C) (ev := x.ev)
      rw [ezSz] at hgs
      dsimp only at hgs
      have hGz := hGI.of (by omega) hgs
      obtain ⟨Qz, hS⟩ := step_S hX hok hci (hev x hxm).1 hQ hT ezSz
      refine nd_op ?_
      refine op_new tabOk (cells := [.int .u8 0, .int .u16 0, .int .u32 0, .int .u64 0, .int .u64 0, .int .u64 0, .int .u64 0, .int .u64 0, .int .u8 0, .int .u8 0]) (ty := 42) (ln := none) (L1 := fun b91 => [(0, ⟨[.int .u16 0, .int .u32 0], ty0, true⟩), (b54, ⟨[.int .u8 x.ev.kind, .int .u32 x.ev.pick, .int .u64 x.ev.draw, .int .u32 x.ev.addr, .int .u32 x.ev.node, .int .u32 x.ev.dst, .int .u32 x.ev.xfer, .int .u8 x.ev.ty, .int .u64 x.ev.arg, .int .u64 x.ev.badge, .slice x.xo x.ev.ws.length x.cx], 35, false⟩), (b77, ⟨[.int .u16 ((refP C.ent S.cur).idx), .int .u32 ((refP C.ent S.cur).gen)], 39, false⟩), (b91, ⟨[.int .u8 0, .int .u16 0, .int .u32 0, .int .u64 0, .int .u64 0, .int .u64 0, .int .u64 0, .int .u64 0, .int .u8 0, .int .u8 0], 42, false⟩)]) h90 rfl rfl rfl rfl (by kernel_rfl) (fun _ => rfl) fun b91 w92 a93 h94 hf95 hn96 => ?_
      clear h90
      refine nd_op ?_
      refine op_store tabOk {k := 3} (L' := [(0, ⟨[.int .u16 0, .int .u32 0], ty0, true⟩), (b54, ⟨[.int .u8 x.ev.kind, .int .u32 x.ev.pick, .int .u64 x.ev.draw, .int .u32 x.ev.addr, .int .u32 x.ev.node, .int .u32 x.ev.dst, .int .u32 x.ev.xfer, .int .u8 x.ev.ty, .int .u64 x.ev.arg, .int .u64 x.ev.badge, .slice x.xo x.ev.ws.length x.cx], 35, false⟩), (b77, ⟨[.int .u16 ((refP C.ent S.cur).idx), .int .u32 ((refP C.ent S.cur).gen)], 39, false⟩), (b91, ⟨[.int .u8 oz.code, .int .u16 oz.run.idx, .int .u32 oz.run.gen, .int .u64 oz.badge, .int .u64 oz.m0, .int .u64 oz.m1, .int .u64 oz.m2, .int .u64 oz.m3, .int .u8 oz.len, .int .u8 oz.got], 42, false⟩)]) (φ := b91 = b91 ∧ Nat.ble (0 + 10) 10 = true) h94 rfl rfl rfl (by kernel_rfl) ⟨rfl, rfl⟩ fun w97 h98 => ?_
      clear h94
      refine nd_done ?_
      refine hK85 _ _ ?_
      clear hK85
      refine wp_seq_k fun K99 hK99 => ?_
      refine wp_seq_k fun K100 hK100 => ?_
      refine nd_start (l := [0, 1, 2]) rfl ?_
      refine nd_batch tabOk tabZ_ok [(0, {})] [8, 7, 5, 3, 18, 19, 20, 6, 31] (T' := [(8, .pointer (some ⟨b91, 0, none⟩)), (7, .pointer (some ⟨b77, 0, none⟩)), (5, .pointer (some ⟨b54, 0, none⟩)), (3, .pointer (some ⟨kb, 0, none⟩)), (18, .slice (some ⟨sb45, k046, none⟩) ops.length c), (19, .int .i64 ((ops.length : Nat) : Int)), (20, .int .i64 i), (6, .pointer (some ⟨kb2, 0, none⟩)), (31, .pointer (some ⟨kb, 0, none⟩))]) (φ := True) (rest := [1, 2]) h98 (by kernel_rfl) rfl trivial fun a101 h102 => ?_
      clear h98
      refine nd_op ?_
      have hnwz := h102.inv.newOf (j := 0) (p := pKer kb bo bc nd9 Sz Cz) rfl
      have hkz : kb ≠ 0 := by have := hnwz kb (List.mem_cons_self ..); omega
      have hoz : bo ≠ 0 := by have := hnwz bo (List.mem_cons_of_mem _ (mem_capF.2 (.inl rfl))); omega
      refine op_call h102 rfl rfl rfl (callOk Tryd.func29 (by decide) rfl) (args := [.pointer (some ⟨kb, 0, none⟩)]) rfl (inOnePlace_ok kb bo bc Sz hivz.1.ri Cz.ent hivz.2.reg.1 Qz hS.liq hXz hWz _ hGz _ (h102.inv.get (j := 0) (p := pKer kb bo bc nd9 Sz Cz) rfl).ker (h102.inv.get (j := 0) (p := pKer kb bo bc nd9 Sz Cz) rfl).cap.st (h102.inv.get (j := 0) (p := pKer kb bo bc nd9 Sz Cz) rfl).ne ty0 (h102.kn (k := 0) (blk := ⟨_, ty0, true⟩) rfl) hkz hoz) ?_
      rintro _ w103 ⟨rfl, hf105⟩
      refine ⟨_, rfl, ?_⟩
      have h104 := (h102.grow hf105).put (d := some 32) (v := .bool true) (T' := [(32, .bool true), (8, .pointer (some ⟨b91, 0, none⟩)), (7, .pointer (some ⟨b77, 0, none⟩)), (5, .pointer (some ⟨b54, 0, none⟩)), (3, .pointer (some ⟨kb, 0, none⟩)), (18, .slice (some ⟨sb45, k046, none⟩) ops.length c), (19, .int .i64 ((ops.length : Nat) : Int)), (20, .int .i64 i), (6, .pointer (some ⟨kb2, 0, none⟩)), (31, .pointer (some ⟨kb, 0, none⟩))]) rfl
      clear h102
      refine nd_batch tabOk tabZ_ok [(2, {})] [8, 7, 5, 3, 18, 19, 20, 6, 33] (T' := [(8, .pointer (some ⟨b91, 0, none⟩)), (7, .pointer (some ⟨b77, 0, none⟩)), (5, .pointer (some ⟨b54, 0, none⟩)), (3, .pointer (some ⟨kb, 0, none⟩)), (18, .slice (some ⟨sb45, k046, none⟩) ops.length c), (19, .int .i64 ((ops.length : Nat) : Int)), (20, .int .i64 i), (6, .pointer (some ⟨kb2, 0, none⟩)), (33, .bool false)]) (φ := True) (rest := []) h104 (by kernel_rfl) rfl trivial fun a106 h107 => ?_
      clear h104
      refine nd_done ?_
      refine hK100 _ _ ?_
      clear hK100
      refine c_false h107 rfl ?_
      refine wp_skip ?_
      refine hK99 _ _ ?_
      clear hK99
      refine wp_seq_k fun K108 hK108 => ?_
      refine nd_start (l := [0, 1, 2, 3, 4, 5, 6, 7, 8, 9]) rfl ?_
      refine nd_batch tabOk tabZ_ok [(0, {}), (1, {})] [8, 7, 5, 3, 18, 19, 20, 6, 35, 36] (T' := [(8, .pointer (some ⟨b91, 0, none⟩)), (7, .pointer (some ⟨b77, 0, none⟩)), (5, .pointer (some ⟨b54, 0, none⟩)), (3, .pointer (some ⟨kb, 0, none⟩)), (18, .slice (some ⟨sb45, k046, none⟩) ops.length c), (19, .int .i64 ((ops.length : Nat) : Int)), (20, .int .i64 i), (6, .pointer (some ⟨kb2, 0, none⟩)), (35, .pointer (some ⟨kb, 0, none⟩)), (36, .pointer (some ⟨kb, 0, none⟩))]) (φ := True) (rest := [2, 3, 4, 5, 6, 7, 8, 9]) h107 (by kernel_rfl) rfl trivial fun a109 h110 => ?_
      clear h107
      refine nd_op ?_
      refine op_call h110 rfl rfl rfl (callOk Tryd.func18 (by decide) rfl) (args := [.pointer (some ⟨kb, 0, none⟩)]) rfl (running_ok kb bo bc Sz hivz.1.ri Cz.ent _ (h110.inv.get (j := 0) (p := pKer kb bo bc nd9 Sz Cz) rfl).ker (h110.inv.get (j := 0) (p := pKer kb bo bc nd9 Sz Cz) rfl).cap.st (h110.inv.get (j := 0) (p := pKer kb bo bc nd9 Sz Cz) rfl).ne) ?_
      rintro _ w111 ⟨rfl, hf113⟩
      refine ⟨_, rfl, ?_⟩
      have h112 := (h110.grow hf113).put (d := some 37) (v := .agg #[.int .u16 ((refP Cz.ent Sz.cur).idx), .int .u32 ((refP Cz.ent Sz.cur).gen)]) (T' := [(37, .agg #[.int .u16 ((refP Cz.ent Sz.cur).idx), .int .u32 ((refP Cz.ent Sz.cur).gen)]), (8, .pointer (some ⟨b91, 0, none⟩)), (7, .pointer (some ⟨b77, 0, none⟩)), (5, .pointer (some ⟨b54, 0, none⟩)), (3, .pointer (some ⟨kb, 0, none⟩)), (18, .slice (some ⟨sb45, k046, none⟩) ops.length c), (19, .int .i64 ((ops.length : Nat) : Int)), (20, .int .i64 i), (6, .pointer (some ⟨kb2, 0, none⟩)), (35, .pointer (some ⟨kb, 0, none⟩)), (36, .pointer (some ⟨kb, 0, none⟩))]) rfl
      clear h110
      refine nd_op ?_
      obtain ⟨mn, okm, emn⟩ : ∃ a b, threadP Sz Cz.ent (refP Cz.ent Sz.cur) = (a, b) := ⟨_, _, rfl⟩
      have hmn : Sz.cur ≠ -1 → mn = Sz.tcb Sz.cur.toNat := fun hc => by have hcz := lk_nat hivz.1.ri.cur hc; rw [thread_live hcz (hXz.curLive hivz.1 hcz).2] at emn; cases emn; rfl
      have hmp : 0 ≤ mn.prio ∧ mn.prio < 8 := by
        by_cases hc : Sz.cur = -1
        · have hz : refP Cz.ent Sz.cur = ⟨0, 0⟩ := by unfold refP; rw [if_pos hc]
          rw [hz] at emn; unfold threadP at emn; split at emn
          · cases emn; exact (hivz.1.ri.t (i := 0) (by decide)).pr
          · cases emn; exact noT_ok.pr
        · have hcz := lk_nat hivz.1.ri.cur hc; rw [hmn hc]; exact (hivz.1.ri.t (by omega)).pr
      have hmer := ref_idx (E := Cz.ent) hivz.1.ri.cur
      refine op_call h112 rfl rfl rfl (callOk Tryd.func25 (by decide) rfl) (args := [.pointer (some ⟨kb, 0, none⟩), .agg #[.int .u16 ((refP Cz.ent Sz.cur).idx), .int .u32 ((refP Cz.ent Sz.cur).gen)]]) rfl (threadE kb bo bc Sz hivz.1.ri hivz.2.reg.1 (refP Cz.ent Sz.cur) ⟨hmer.1, by omega⟩ _ (h112.inv.get (j := 0) (p := pKer kb bo bc nd9 Sz Cz) rfl).ker (h112.inv.get (j := 0) (p := pKer kb bo bc nd9 Sz Cz) rfl).cap.st (h112.inv.get (j := 0) (p := pKer kb bo bc nd9 Sz Cz) rfl).ne emn) ?_
      rintro _ w114 ⟨rfl, hf116⟩
      refine ⟨_, rfl, ?_⟩
      have h115 := (h112.grow hf116).put (d := some 38) (v := .tuple #[.agg #[.int .u8 mn.st, .int .u8 mn.prio, .int .u16 mn.wait.idx, .int .u32 mn.wait.gen, .int .u16 mn.cs.idx, .int .u32 mn.cs.gen, .int .u16 mn.rep.idx, .int .u32 mn.rep.gen, .int .u64 mn.badge, .int .u64 mn.m0, .int .u64 mn.m1, .int .u64 mn.m2, .int .u64 mn.m3, .int .u8 mn.len, .int .u8 mn.got, .int .u32 mn.xfer, .int .u32 mn.dst, .bool mn.grant, .bool mn.call], .bool okm]) (T' := [(38, .tuple #[.agg #[.int .u8 mn.st, .int .u8 mn.prio, .int .u16 mn.wait.idx, .int .u32 mn.wait.gen, .int .u16 mn.cs.idx, .int .u32 mn.cs.gen, .int .u16 mn.rep.idx, .int .u32 mn.rep.gen, .int .u64 mn.badge, .int .u64 mn.m0, .int .u64 mn.m1, .int .u64 mn.m2, .int .u64 mn.m3, .int .u8 mn.len, .int .u8 mn.got, .int .u32 mn.xfer, .int .u32 mn.dst, .bool mn.grant, .bool mn.call], .bool okm]), (37, .agg #[.int .u16 ((refP Cz.ent Sz.cur).idx), .int .u32 ((refP Cz.ent Sz.cur).gen)]), (8, .pointer (some ⟨b91, 0, none⟩)), (7, .pointer (some ⟨b77, 0, none⟩)), (5, .pointer (some ⟨b54, 0, none⟩)), (3, .pointer (some ⟨kb, 0, none⟩)), (18, .slice (some ⟨sb45, k046, none⟩) ops.length c), (19, .int .i64 ((ops.length : Nat) : Int)), (20, .int .i64 i), (6, .pointer (some ⟨kb2, 0, none⟩)), (35, .pointer (some ⟨kb, 0, none⟩)), (36, .pointer (some ⟨kb, 0, none⟩))]) rfl
      clear h112
      refine nd_batch tabOk tabZ_ok [(4, {}), (5, {}), (6, {})] [8, 7, 5, 3, 18, 19, 20, 6, 39, 40] (T' := [(8, .pointer (some ⟨b91, 0, none⟩)), (7, .pointer (some ⟨b77, 0, none⟩)), (5, .pointer (some ⟨b54, 0, none⟩)), (3, .pointer (some ⟨kb, 0, none⟩)), (18, .slice (some ⟨sb45, k046, none⟩) ops.length c), (19, .int .i64 ((ops.length : Nat) : Int)), (20, .int .i64 i), (6, .pointer (some ⟨kb2, 0, none⟩)), (39, .agg #[.int .u8 mn.st, .int .u8 mn.prio, .int .u16 mn.wait.idx, .int .u32 mn.wait.gen, .int .u16 mn.cs.idx, .int .u32 mn.cs.gen, .int .u16 mn.rep.idx, .int .u32 mn.rep.gen, .int .u64 mn.badge, .int .u64 mn.m0, .int .u64 mn.m1, .int .u64 mn.m2, .int .u64 mn.m3, .int .u8 mn.len, .int .u8 mn.got, .int .u32 mn.xfer, .int .u32 mn.dst, .bool mn.grant, .bool mn.call]), (40, .bool okm)]) (φ := True) (rest := [7, 8, 9]) h115 (by kernel_rfl) rfl trivial fun a117 h118 => ?_
      clear h115
      refine nd_op ?_
      refine op_new tabOk (cells := [.int .u8 0, .int .u8 0, .int .u16 0, .int .u32 0, .int .u16 0, .int .u32 0, .int .u16 0, .int .u32 0, .int .u64 0, .int .u64 0, .int .u64 0, .int .u64 0, .int .u64 0, .int .u8 0, .int .u8 0, .int .u32 0, .int .u32 0, .bool false, .bool false]) (ty := 59) (ln := none) (L1 := fun b119 => [(0, ⟨[.int .u16 0, .int .u32 0], ty0, true⟩), (b54, ⟨[.int .u8 x.ev.kind, .int .u32 x.ev.pick, .int .u64 x.ev.draw, .int .u32 x.ev.addr, .int .u32 x.ev.node, .int .u32 x.ev.dst, .int .u32 x.ev.xfer, .int .u8 x.ev.ty, .int .u64 x.ev.arg, .int .u64 x.ev.badge, .slice x.xo x.ev.ws.length x.cx], 35, false⟩), (b77, ⟨[.int .u16 ((refP C.ent S.cur).idx), .int .u32 ((refP C.ent S.cur).gen)], 39, false⟩), (b91, ⟨[.int .u8 oz.code, .int .u16 oz.run.idx, .int .u32 oz.run.gen, .int .u64 oz.badge, .int .u64 oz.m0, .int .u64 oz.m1, .int .u64 oz.m2, .int .u64 oz.m3, .int .u8 oz.len, .int .u8 oz.got], 42, false⟩), (b119, ⟨[.int .u8 0, .int .u8 0, .int .u16 0, .int .u32 0, .int .u16 0, .int .u32 0, .int .u16 0, .int .u32 0, .int .u64 0, .int .u64 0, .int .u64 0, .int .u64 0, .int .u64 0, .int .u8 0, .int .u8 0, .int .u32 0, .int .u32 0, .bool false, .bool false], 59, false⟩)]) h118 rfl rfl rfl rfl (by kernel_rfl) (fun _ => rfl) fun b119 w120 a121 h122 hf123 hn124 => ?_
      clear h118
      refine nd_op ?_
      refine op_store tabOk {k := 4} (L' := [(0, ⟨[.int .u16 0, .int .u32 0], ty0, true⟩), (b54, ⟨[.int .u8 x.ev.kind, .int .u32 x.ev.pick, .int .u64 x.ev.draw, .int .u32 x.ev.addr, .int .u32 x.ev.node, .int .u32 x.ev.dst, .int .u32 x.ev.xfer, .int .u8 x.ev.ty, .int .u64 x.ev.arg, .int .u64 x.ev.badge, .slice x.xo x.ev.ws.length x.cx], 35, false⟩), (b77, ⟨[.int .u16 ((refP C.ent S.cur).idx), .int .u32 ((refP C.ent S.cur).gen)], 39, false⟩), (b91, ⟨[.int .u8 oz.code, .int .u16 oz.run.idx, .int .u32 oz.run.gen, .int .u64 oz.badge, .int .u64 oz.m0, .int .u64 oz.m1, .int .u64 oz.m2, .int .u64 oz.m3, .int .u8 oz.len, .int .u8 oz.got], 42, false⟩), (b119, ⟨[.int .u8 mn.st, .int .u8 mn.prio, .int .u16 mn.wait.idx, .int .u32 mn.wait.gen, .int .u16 mn.cs.idx, .int .u32 mn.cs.gen, .int .u16 mn.rep.idx, .int .u32 mn.rep.gen, .int .u64 mn.badge, .int .u64 mn.m0, .int .u64 mn.m1, .int .u64 mn.m2, .int .u64 mn.m3, .int .u8 mn.len, .int .u8 mn.got, .int .u32 mn.xfer, .int .u32 mn.dst, .bool mn.grant, .bool mn.call], 59, false⟩)]) (φ := b119 = b119 ∧ Nat.ble (0 + 19) 19 = true) h122 rfl rfl rfl (by kernel_rfl) ⟨rfl, rfl⟩ fun w125 h126 => ?_
      clear h122
      refine nd_batch tabOk tabZ_ok [(9, {})] [9, 8, 7, 5, 3, 18, 19, 20, 6] (T' := [(9, .pointer (some ⟨b119, 0, none⟩)), (8, .pointer (some ⟨b91, 0, none⟩)), (7, .pointer (some ⟨b77, 0, none⟩)), (5, .pointer (some ⟨b54, 0, none⟩)), (3, .pointer (some ⟨kb, 0, none⟩)), (18, .slice (some ⟨sb45, k046, none⟩) ops.length c), (19, .int .i64 ((ops.length : Nat) : Int)), (20, .int .i64 i), (6, .pointer (some ⟨kb2, 0, none⟩))]) (φ := True) (rest := []) h126 (by kernel_rfl) rfl trivial fun a127 h128 => ?_
      clear h126
      refine nd_done ?_
      refine hK108 _ _ ?_
      clear hK108
      refine wp_seq_k fun K129 hK129 => ?_
      refine wp_seq_k fun K130 hK130 => ?_
      refine nd_start (l := [0]) rfl ?_
      refine nd_batch tabOk tabZ_ok [(0, {})] [9, 8, 7, 5, 3, 18, 19, 20, 6, 11] (T' := [(9, .pointer (some ⟨b119, 0, none⟩)), (8, .pointer (some ⟨b91, 0, none⟩)), (7, .pointer (some ⟨b77, 0, none⟩)), (5, .pointer (some ⟨b54, 0, none⟩)), (3, .pointer (some ⟨kb, 0, none⟩)), (18, .slice (some ⟨sb45, k046, none⟩) ops.length c), (19, .int .i64 ((ops.length : Nat) : Int)), (20, .int .i64 i), (6, .pointer (some ⟨kb2, 0, none⟩)), (11, .int .i64 0)]) (φ := True) (rest := []) h128 (by kernel_rfl) rfl trivial fun a131 h132 => ?_
      clear h128
      refine nd_done ?_
      refine hK130 _ _ ?_
      clear hK130
      refine wp_block ?_
      refine wp_loop_ghost (fun g2 ga gw => ∃ (p : Int), ((g2 : Int) = 8 - p) ∧ (0 ≤ p ∧ p ≤ 8) ∧ St ⟨109, [], w, Pk w.heap.size [pKer kb bo bc nd9 Sz Cz, pKer kb2 bo2 bc2 nd2 S C], Pf [pKer kb bo bc nd9 Sz Cz, pKer kb2 bo2 bc2 nd2 S C]⟩ [(9, .pointer (some ⟨b119, 0, none⟩)), (8, .pointer (some ⟨b91, 0, none⟩)), (7, .pointer (some ⟨b77, 0, none⟩)), (5, .pointer (some ⟨b54, 0, none⟩)), (3, .pointer (some ⟨kb, 0, none⟩)), (18, .slice (some ⟨sb45, k046, none⟩) ops.length c), (19, .int .i64 ((ops.length : Nat) : Int)), (20, .int .i64 i), (6, .pointer (some ⟨kb2, 0, none⟩)), (11, .int .i64 p)] [(0, ⟨[.int .u16 0, .int .u32 0], ty0, true⟩), (b54, ⟨[.int .u8 x.ev.kind, .int .u32 x.ev.pick, .int .u64 x.ev.draw, .int .u32 x.ev.addr, .int .u32 x.ev.node, .int .u32 x.ev.dst, .int .u32 x.ev.xfer, .int .u8 x.ev.ty, .int .u64 x.ev.arg, .int .u64 x.ev.badge, .slice x.xo x.ev.ws.length x.cx], 35, false⟩), (b77, ⟨[.int .u16 ((refP C.ent S.cur).idx), .int .u32 ((refP C.ent S.cur).gen)], 39, false⟩), (b91, ⟨[.int .u8 oz.code, .int .u16 oz.run.idx, .int .u32 oz.run.gen, .int .u64 oz.badge, .int .u64 oz.m0, .int .u64 oz.m1, .int .u64 oz.m2, .int .u64 oz.m3, .int .u8 oz.len, .int .u8 oz.got], 42, false⟩), (b119, ⟨[.int .u8 mn.st, .int .u8 mn.prio, .int .u16 mn.wait.idx, .int .u32 mn.wait.gen, .int .u16 mn.cs.idx, .int .u32 mn.cs.gen, .int .u16 mn.rep.idx, .int .u32 mn.rep.gen, .int .u64 mn.badge, .int .u64 mn.m0, .int .u64 mn.m1, .int .u64 mn.m2, .int .u64 mn.m3, .int .u8 mn.len, .int .u8 mn.got, .int .u32 mn.xfer, .int .u32 mn.dst, .bool mn.grant, .bool mn.call], 59, false⟩)] ga gw) 8 ⟨0, by simp, ⟨by simp, by simp⟩, (h132.slotsMono (restr_spec (keep := [9, 8, 7, 5, 3, 18, 19, 20, 6, 11]) rfl))⟩ ?_
      clear h132
      rintro g2 a133 w134 ⟨p, hi136, hi137, h135⟩
      have hpg := hi136
      have hp0 := hi137
      refine wp_seq_k fun K138 hK138 => ?_
      refine wp_seq_k fun K139 hK139 => ?_
      refine nd_start (l := [0, 1]) rfl ?_
      refine nd_batch tabOk tabZ_ok [(0, {}), (1, {})] [9, 8, 7, 5, 3, 18, 19, 20, 6, 11, 42] (T' := [(9, .pointer (some ⟨b119, 0, none⟩)), (8, .pointer (some ⟨b91, 0, none⟩)), (7, .pointer (some ⟨b77, 0, none⟩)), (5, .pointer (some ⟨b54, 0, none⟩)), (3, .pointer (some ⟨kb, 0, none⟩)), (18, .slice (some ⟨sb45, k046, none⟩) ops.length c), (19, .int .i64 ((ops.length : Nat) : Int)), (20, .int .i64 i), (6, .pointer (some ⟨kb2, 0, none⟩)), (11, .int .i64 p), (42, .bool (decide (p < 8)))]) (φ := True) (rest := []) h135 (by kernel_rfl) rfl trivial fun a140 h141 => ?_
      clear h135
      refine nd_done ?_
      refine hK139 _ _ ?_
      clear hK139
      refine c_split h141 (b := decide (p < 8)) rfl (fun hc142 => ?_) (fun hc142 => ?_)
      ·
        have hc142f : p < 8 := by simpa using hc142
        have hxl : (Qz (.r p.toNat)).length ≤ 256 := nodup_len (hS.liq.lx.ch (L := .r p.toNat) (show _ < 8 by omega)).nd (hS.liq.lx.ch (L := .r p.toNat) (show _ < 8 by omega)).lt
        by_cases hqe : Qz (.r p.toNat) = []
        ·
          refine wp_skip ?_
          refine hK138 _ _ ?_
          clear hK138
          refine wp_seq_k fun K143 hK143 => ?_
          refine wp_block ?_
          refine wp_seq_k fun K144 hK144 => ?_
          refine dr_start (KB := [0, b54, b77, b91, b119]) (Bi := [[0, 1, 2, 3, 4], [0, 1, 2, 3, 4], [], [0, 1, 2, 3, 4], [0, 1, 2, 3, 4], [0, 1, 2, 3, 4], [0, 1, 2, 3, 4], [0], [0, 1, 2, 3, 4], [0, 1, 2, 3, 4], [0, 1, 2, 3, 4], [0, 1, 2, 3, 4], [0, 1, 2, 3, 4], [0, 1, 2, 3, 4], [0, 1, 2, 3, 4], [0, 1, 2, 3, 4], [0, 1, 2, 3, 4], [0, 1, 2, 3, 4]]) mixed h141 fun w145 h146 => ?_
          clear h141
          refine dr_batch tabOk tabZ_ok (by repeat (first | with_reducible exact PF.body | with_reducible apply PF.inB | with_reducible apply PF.next)) [(0, {}), (1, {})] [9, 8, 7, 5, 3, 18, 19, 20, 6, 11, 45, 46] (T' := [(9, .pointer (some ⟨b119, 0, none⟩)), (8, .pointer (some ⟨b91, 0, none⟩)), (7, .pointer (some ⟨b77, 0, none⟩)), (5, .pointer (some ⟨b54, 0, none⟩)), (3, .pointer (some ⟨kb, 0, none⟩)), (18, .slice (some ⟨sb45, k046, none⟩) ops.length c), (19, .int .i64 ((ops.length : Nat) : Int)), (20, .int .i64 i), (6, .pointer (some ⟨kb2, 0, none⟩)), (11, .int .i64 p), (45, .pointer (some ⟨kb, 0, none⟩)), (46, .int .i64 p)]) (φ := True) (fuel := 16) h146 (by kernel_rfl) rfl (by kernel_rfl) (by kernel_rfl) ⟨trivial, trivial, trivial⟩ trivial fun a148 h149 => ?_
          clear h146
          refine wpAnyK_one (i := 2) (fuel := 15) (by kernel_rfl) ?_
          refine op_call h149 rfl rfl rfl (callOk Tryd.func30 (by decide) rfl) (args := [.pointer (some ⟨kb, 0, none⟩), .int .i64 p]) rfl (ready_ok kb bo bc Sz hivz.1.ri Cz.ent Qz hS.liq p ⟨by omega, by omega⟩ _ (h149.inv.get (j := 0) (p := pKer kb bo bc nd9 Sz Cz) rfl).ker (h149.inv.get (j := 0) (p := pKer kb bo bc nd9 Sz Cz) rfl).cap.st (h149.inv.get (j := 0) (p := pKer kb bo bc nd9 Sz Cz) rfl).ne) ?_
          rintro _ w156 ⟨o150, c151, F152, rfl, hr153, hf154, hF155⟩
          refine ⟨_, rfl, ?_⟩
          have h157 := (h149.pcAdd (p' := pRow (rl rfC 39 2 (refsP Cz.ent (Qz (.r p.toNat))) o150 c151 F152)) (ps' := [pKer kb bo bc nd9 Sz Cz, pKer kb2 bo2 bc2 nd2 S C, pRow (rl rfC 39 2 (refsP Cz.ent (Qz (.r p.toNat))) o150 c151 F152)]) (pRow_ok hr153) hf154 hF155 rfl).put (d := some 47) (v := .slice o150 ((refsP Cz.ent (Qz (.r p.toNat))).length) c151) (T' := [(47, .slice o150 ((refsP Cz.ent (Qz (.r p.toNat))).length) c151), (9, .pointer (some ⟨b119, 0, none⟩)), (8, .pointer (some ⟨b91, 0, none⟩)), (7, .pointer (some ⟨b77, 0, none⟩)), (5, .pointer (some ⟨b54, 0, none⟩)), (3, .pointer (some ⟨kb, 0, none⟩)), (18, .slice (some ⟨sb45, k046, none⟩) ops.length c), (19, .int .i64 ((ops.length : Nat) : Int)), (20, .int .i64 i), (6, .pointer (some ⟨kb2, 0, none⟩)), (11, .int .i64 p), (45, .pointer (some ⟨kb, 0, none⟩)), (46, .int .i64 p)]) rfl
          have hkh157 := h149.known
          refine ⟨keepNil, ?_⟩
          have hszh157 : w.heap.size ≤ _ := h149.frame.size
          clear h149
          refine dr_batch tabOk tabZ_ok (by repeat (first | with_reducible exact PF.body | with_reducible apply PF.inB | with_reducible apply PF.next)) [(3, {}), (4, {f := 1}), (5, {}), (6, {}), (8, {k := 0, p := 0})] [9, 8, 7, 5, 3, 18, 19, 20, 6, 11, 50, 51, 53] (T' := [(9, .pointer (some ⟨b119, 0, none⟩)), (8, .pointer (some ⟨b91, 0, none⟩)), (7, .pointer (some ⟨b77, 0, none⟩)), (5, .pointer (some ⟨b54, 0, none⟩)), (3, .pointer (some ⟨kb, 0, none⟩)), (18, .slice (some ⟨sb45, k046, none⟩) ops.length c), (19, .int .i64 ((ops.length : Nat) : Int)), (20, .int .i64 i), (6, .pointer (some ⟨kb2, 0, none⟩)), (11, .int .i64 p), (50, .bool false), (51, .tuple #[]), (53, .tuple #[])]) (φ := (decide ((((refsP Cz.ent (Qz (.r p.toNat))).length : Nat) : Int) > 0)) = false ∧ True) (fuel := 10) h157 (by kernel_rfl) rfl (by kernel_rfl) (by kernel_rfl) ⟨trivial, trivial, trivial, trivial, rfl, trivial⟩ ⟨(by simp [hqe, refsP]), trivial⟩ fun a158 h159 => ?_
          clear h157
          refine dr_batch tabOk tabZ_ok (by repeat (first | with_reducible exact PF.body | with_reducible apply PF.inB | with_reducible apply PF.next)) [(7, {})] [9, 8, 7, 5, 3, 18, 19, 20, 6, 11, 50, 53, 52] (T' := [(9, .pointer (some ⟨b119, 0, none⟩)), (8, .pointer (some ⟨b91, 0, none⟩)), (7, .pointer (some ⟨b77, 0, none⟩)), (5, .pointer (some ⟨b54, 0, none⟩)), (3, .pointer (some ⟨kb, 0, none⟩)), (18, .slice (some ⟨sb45, k046, none⟩) ops.length c), (19, .int .i64 ((ops.length : Nat) : Int)), (20, .int .i64 i), (6, .pointer (some ⟨kb2, 0, none⟩)), (11, .int .i64 p), (50, .bool false), (53, .tuple #[]), (52, .tuple #[])]) (φ := True) (fuel := 9) h159 (by kernel_rfl) rfl (by kernel_rfl) (by kernel_rfl) ⟨trivial, trivial⟩ trivial fun a160 h161 => ?_
          clear h159
          refine dr_batch tabOk tabZ_ok (by repeat (first | with_reducible exact PF.body | with_reducible apply PF.inB | with_reducible apply PF.next)) [(9, {}), (10, {}), (11, {}), (12, {}), (13, {k := 0, p := 0}), (14, {}), (15, {}), (16, {}), (17, {})] [9, 8, 7, 5, 3, 18, 19, 20, 6, 11, 62] (T' := [(9, .pointer (some ⟨b119, 0, none⟩)), (8, .pointer (some ⟨b91, 0, none⟩)), (7, .pointer (some ⟨b77, 0, none⟩)), (5, .pointer (some ⟨b54, 0, none⟩)), (3, .pointer (some ⟨kb, 0, none⟩)), (18, .slice (some ⟨sb45, k046, none⟩) ops.length c), (19, .int .i64 ((ops.length : Nat) : Int)), (20, .int .i64 i), (6, .pointer (some ⟨kb2, 0, none⟩)), (11, .int .i64 p), (62, .bool false)]) (φ := True) (fuel := 0) h161 (by kernel_rfl) rfl (by kernel_rfl) (by kernel_rfl) ⟨trivial, trivial, trivial, trivial, rfl, trivial, trivial, trivial, trivial, trivial⟩ trivial fun a162 h163 => ?_
          clear h161
          refine wpAnyK_done (by kernel_rfl) ?_ _
          refine hK144 _ _ ?_
          clear hK144
          refine c_false h163 rfl ?_
          refine wp_skip ?_
          refine hK143 _ _ ?_
          clear hK143
          refine nd_start (l := [0, 1, 2]) rfl ?_
          refine nd_batch tabOk tabZ_ok [(0, {}), (1, {}), (2, {})] [9, 8, 7, 5, 3, 18, 19, 20, 6, 11] (T' := [(9, .pointer (some ⟨b119, 0, none⟩)), (8, .pointer (some ⟨b91, 0, none⟩)), (7, .pointer (some ⟨b77, 0, none⟩)), (5, .pointer (some ⟨b54, 0, none⟩)), (3, .pointer (some ⟨kb, 0, none⟩)), (18, .slice (some ⟨sb45, k046, none⟩) ops.length c), (19, .int .i64 ((ops.length : Nat) : Int)), (20, .int .i64 i), (6, .pointer (some ⟨kb2, 0, none⟩)), (11, .int .i64 (p + 1))]) (φ := inR .i64 (p + 1) ∧ True) (rest := []) h163 (by kernel_rfl) rfl ⟨⟨by omega, by omega⟩, trivial⟩ fun a164 h165 => ?_
          clear h163
          refine nd_done ?_
          have h166 := h165.pcSub (ps' := [pKer kb bo bc nd9 Sz Cz, pKer kb2 bo2 bc2 nd2 S C]) (List.Sublist.cons_cons _ (List.Sublist.cons_cons _ (List.Sublist.cons _ List.Sublist.slnil)))
          clear h165
          exact ⟨(g2 - 1), by omega, (p + 1), by omega, ⟨by omega, by omega⟩, (h166.slotsMono (restr_spec (keep := [9, 8, 7, 5, 3, 18, 19, 20, 6, 11]) rfl))⟩
        ·
          obtain ⟨htc, htp⟩ := hS.top p.toNat (by omega) hqe
          have hcz := lk_nat hivz.1.ri.cur htc
          have hcr := ref_live_none hGz hcz
          rw [← hmn htc] at htp
          refine wp_skip ?_
          refine hK138 _ _ ?_
          clear hK138
          refine wp_seq_k fun K167 hK167 => ?_
          refine wp_block ?_
          refine wp_seq_k fun K168 hK168 => ?_
          refine dr_start (KB := [0, b54, b77, b91, b119]) (Bi := [[0, 1, 2, 3, 4], [0, 1, 2, 3, 4], [], [0, 1, 2, 3, 4], [0, 1, 2, 3, 4], [0, 1, 2, 3, 4], [0, 1, 2, 3, 4], [0], [0, 1, 2, 3, 4], [0, 1, 2, 3, 4], [0, 1, 2, 3, 4], [0, 1, 2, 3, 4], [0, 1, 2, 3, 4], [0, 1, 2, 3, 4], [0, 1, 2, 3, 4], [0, 1, 2, 3, 4], [0, 1, 2, 3, 4], [0, 1, 2, 3, 4]]) mixed h141 fun w169 h170 => ?_
          clear h141
          refine dr_batch tabOk tabZ_ok (by repeat (first | with_reducible exact PF.body | with_reducible apply PF.inB | with_reducible apply PF.next)) [(0, {}), (1, {})] [9, 8, 7, 5, 3, 18, 19, 20, 6, 11, 45, 46] (T' := [(9, .pointer (some ⟨b119, 0, none⟩)), (8, .pointer (some ⟨b91, 0, none⟩)), (7, .pointer (some ⟨b77, 0, none⟩)), (5, .pointer (some ⟨b54, 0, none⟩)), (3, .pointer (some ⟨kb, 0, none⟩)), (18, .slice (some ⟨sb45, k046, none⟩) ops.length c), (19, .int .i64 ((ops.length : Nat) : Int)), (20, .int .i64 i), (6, .pointer (some ⟨kb2, 0, none⟩)), (11, .int .i64 p), (45, .pointer (some ⟨kb, 0, none⟩)), (46, .int .i64 p)]) (φ := True) (fuel := 16) h170 (by kernel_rfl) rfl (by kernel_rfl) (by kernel_rfl) ⟨trivial, trivial, trivial⟩ trivial fun a172 h173 => ?_
          clear h170
          refine wpAnyK_one (i := 2) (fuel := 15) (by kernel_rfl) ?_
          refine op_call h173 rfl rfl rfl (callOk Tryd.func30 (by decide) rfl) (args := [.pointer (some ⟨kb, 0, none⟩), .int .i64 p]) rfl (ready_ok kb bo bc Sz hivz.1.ri Cz.ent Qz hS.liq p ⟨by omega, by omega⟩ _ (h173.inv.get (j := 0) (p := pKer kb bo bc nd9 Sz Cz) rfl).ker (h173.inv.get (j := 0) (p := pKer kb bo bc nd9 Sz Cz) rfl).cap.st (h173.inv.get (j := 0) (p := pKer kb bo bc nd9 Sz Cz) rfl).ne) ?_
          rintro _ w180 ⟨o174, c175, F176, rfl, hr177, hf178, hF179⟩
          refine ⟨_, rfl, ?_⟩
          have h181 := (h173.pcAdd (p' := pRow (rl rfC 39 2 (refsP Cz.ent (Qz (.r p.toNat))) o174 c175 F176)) (ps' := [pKer kb bo bc nd9 Sz Cz, pKer kb2 bo2 bc2 nd2 S C, pRow (rl rfC 39 2 (refsP Cz.ent (Qz (.r p.toNat))) o174 c175 F176)]) (pRow_ok hr177) hf178 hF179 rfl).put (d := some 47) (v := .slice o174 ((refsP Cz.ent (Qz (.r p.toNat))).length) c175) (T' := [(47, .slice o174 ((refsP Cz.ent (Qz (.r p.toNat))).length) c175), (9, .pointer (some ⟨b119, 0, none⟩)), (8, .pointer (some ⟨b91, 0, none⟩)), (7, .pointer (some ⟨b77, 0, none⟩)), (5, .pointer (some ⟨b54, 0, none⟩)), (3, .pointer (some ⟨kb, 0, none⟩)), (18, .slice (some ⟨sb45, k046, none⟩) ops.length c), (19, .int .i64 ((ops.length : Nat) : Int)), (20, .int .i64 i), (6, .pointer (some ⟨kb2, 0, none⟩)), (11, .int .i64 p), (45, .pointer (some ⟨kb, 0, none⟩)), (46, .int .i64 p)]) rfl
          have hkh181 := h173.known
          refine ⟨keepNil, ?_⟩
          have hszh181 : w.heap.size ≤ _ := h173.frame.size
          clear h173
          refine dr_batch tabOk tabZ_ok (by repeat (first | with_reducible exact PF.body | with_reducible apply PF.inB | with_reducible apply PF.next)) [(3, {}), (4, {f := 2}), (5, {}), (6, {}), (8, {k := 0, p := 0})] [9, 8, 7, 5, 3, 18, 19, 20, 6, 11, 50, 51, 53] (T' := [(9, .pointer (some ⟨b119, 0, none⟩)), (8, .pointer (some ⟨b91, 0, none⟩)), (7, .pointer (some ⟨b77, 0, none⟩)), (5, .pointer (some ⟨b54, 0, none⟩)), (3, .pointer (some ⟨kb, 0, none⟩)), (18, .slice (some ⟨sb45, k046, none⟩) ops.length c), (19, .int .i64 ((ops.length : Nat) : Int)), (20, .int .i64 i), (6, .pointer (some ⟨kb2, 0, none⟩)), (11, .int .i64 p), (50, .bool true), (51, .pointer (some ⟨kb, 0, none⟩)), (53, .agg #[.int .u16 0, .int .u32 0])]) (φ := (decide ((((refsP Cz.ent (Qz (.r p.toNat))).length : Nat) : Int) > 0)) = true ∧ (0 = 0 ∧ Nat.ble (0 + 2) 2 = true) ∧ True) (fuel := 10) h181 (by kernel_rfl) rfl (by kernel_rfl) (by kernel_rfl) ⟨trivial, trivial, trivial, trivial, rfl, trivial⟩ ⟨(by simp [refs_len]; exact List.length_pos_iff.2 hqe), ⟨rfl, rfl⟩, trivial⟩ fun a182 h183 => ?_
          clear h181
          refine wpAnyK_one (i := 7) (fuel := 9) (by kernel_rfl) ?_
          refine op_call h183 rfl rfl rfl (callOk Tryd.func18 (by decide) rfl) (args := [.pointer (some ⟨kb, 0, none⟩)]) rfl (running_ok kb bo bc Sz hivz.1.ri Cz.ent _ (h183.inv.get (j := 0) (p := pKer kb bo bc nd9 Sz Cz) rfl).ker (h183.inv.get (j := 0) (p := pKer kb bo bc nd9 Sz Cz) rfl).cap.st (h183.inv.get (j := 0) (p := pKer kb bo bc nd9 Sz Cz) rfl).ne) ?_
          rintro _ w184 ⟨rfl, hf186⟩
          refine ⟨_, rfl, ?_⟩
          have h185 := (h183.grow hf186).put (d := some 52) (v := .agg #[.int .u16 ((refP Cz.ent Sz.cur).idx), .int .u32 ((refP Cz.ent Sz.cur).gen)]) (T' := [(52, .agg #[.int .u16 ((refP Cz.ent Sz.cur).idx), .int .u32 ((refP Cz.ent Sz.cur).gen)]), (9, .pointer (some ⟨b119, 0, none⟩)), (8, .pointer (some ⟨b91, 0, none⟩)), (7, .pointer (some ⟨b77, 0, none⟩)), (5, .pointer (some ⟨b54, 0, none⟩)), (3, .pointer (some ⟨kb, 0, none⟩)), (18, .slice (some ⟨sb45, k046, none⟩) ops.length c), (19, .int .i64 ((ops.length : Nat) : Int)), (20, .int .i64 i), (6, .pointer (some ⟨kb2, 0, none⟩)), (11, .int .i64 p), (50, .bool true), (51, .pointer (some ⟨kb, 0, none⟩)), (53, .agg #[.int .u16 0, .int .u32 0])]) rfl
          refine ⟨(h183.keepFr hf186 (kcons (by simp) knil)), ?_⟩
          clear h183
          refine dr_batch tabOk tabZ_ok (by repeat (first | with_reducible exact PF.body | with_reducible apply PF.inB | with_reducible apply PF.next)) [(9, {f := 1}), (10, {}), (11, {}), (12, {}), (13, {k := 4, p := 4}), (14, {}), (15, {f := 1}), (16, {}), (17, {})] [9, 8, 7, 5, 3, 18, 19, 20, 6, 11, 62] (T' := [(9, .pointer (some ⟨b119, 0, none⟩)), (8, .pointer (some ⟨b91, 0, none⟩)), (7, .pointer (some ⟨b77, 0, none⟩)), (5, .pointer (some ⟨b54, 0, none⟩)), (3, .pointer (some ⟨kb, 0, none⟩)), (18, .slice (some ⟨sb45, k046, none⟩) ops.length c), (19, .int .i64 ((ops.length : Nat) : Int)), (20, .int .i64 i), (6, .pointer (some ⟨kb2, 0, none⟩)), (11, .int .i64 p), (62, .bool false)]) (φ := EqRun Tryd.prog 39 (.agg #[.int .u16 ((refP Cz.ent Sz.cur).idx), .int .u32 ((refP Cz.ent Sz.cur).gen)]) (.agg #[.int .u16 0, .int .u32 0]) false ∧ (b119 = b119 ∧ Nat.ble (1 + 1) 19 = true) ∧ inR .i64 mn.prio ∧ (decide (p > mn.prio)) = false ∧ True) (fuel := 0) h185 (by kernel_rfl) rfl (by kernel_rfl) (by kernel_rfl) ⟨trivial, trivial, trivial, trivial, rfl, trivial, trivial, trivial, trivial, trivial⟩ ⟨(runRfD (a := refP Cz.ent Sz.cur) (b := ⟨0, 0⟩) (by simp [hcr])), ⟨rfl, rfl⟩, ⟨by omega, by omega⟩, (by simp; omega), trivial⟩ fun a187 h188 => ?_
          clear h185
          refine wpAnyK_done (by kernel_rfl) ?_ _
          refine hK168 _ _ ?_
          clear hK168
          refine c_false h188 rfl ?_
          refine wp_skip ?_
          refine hK167 _ _ ?_
          clear hK167
          refine nd_start (l := [0, 1, 2]) rfl ?_
          refine nd_batch tabOk tabZ_ok [(0, {}), (1, {}), (2, {})] [9, 8, 7, 5, 3, 18, 19, 20, 6, 11] (T' := [(9, .pointer (some ⟨b119, 0, none⟩)), (8, .pointer (some ⟨b91, 0, none⟩)), (7, .pointer (some ⟨b77, 0, none⟩)), (5, .pointer (some ⟨b54, 0, none⟩)), (3, .pointer (some ⟨kb, 0, none⟩)), (18, .slice (some ⟨sb45, k046, none⟩) ops.length c), (19, .int .i64 ((ops.length : Nat) : Int)), (20, .int .i64 i), (6, .pointer (some ⟨kb2, 0, none⟩)), (11, .int .i64 (p + 1))]) (φ := inR .i64 (p + 1) ∧ True) (rest := []) h188 (by kernel_rfl) rfl ⟨⟨by omega, by omega⟩, trivial⟩ fun a189 h190 => ?_
          clear h188
          refine nd_done ?_
          have h191 := h190.pcSub (ps' := [pKer kb bo bc nd9 Sz Cz, pKer kb2 bo2 bc2 nd2 S C]) (List.Sublist.cons_cons _ (List.Sublist.cons_cons _ (List.Sublist.cons _ List.Sublist.slnil)))
          clear h190
          exact ⟨(g2 - 1), by omega, (p + 1), by omega, ⟨by omega, by omega⟩, (h191.slotsMono (restr_spec (keep := [9, 8, 7, 5, 3, 18, 19, 20, 6, 11]) rfl))⟩
      ·
        have hc142f : ¬ p < 8 := by simpa using hc142
        by_cases hrf : refP Cz.ent Sz.cur = refP C.ent S.cur
        rotate_left
        ·
          by_cases hcz0 : oz.code = 0
          rotate_left
          ·
            refine wp_exit ?_
            refine hK129 _ _ ?_
            clear hK129
            refine wp_seq_k fun K192 hK192 => ?_
            refine dr_start (KB := [0, b54, b77, b91, b119]) (Bi := [[0, 1, 2, 3, 4], [2], [0, 1, 2, 3, 4], [0, 1, 2, 3, 4], [0, 1, 2, 3, 4], [0, 1, 2, 3, 4], [0, 1, 2, 3, 4], [0, 1, 2, 3, 4], [0, 1, 2, 3, 4], [0, 1, 2, 3, 4], [0, 1, 2, 3, 4], [0, 1, 2, 3, 4], [0, 1, 2, 3, 4], [0, 1, 2, 3, 4], [0, 1, 2, 3, 4]]) mixed h141 fun w193 h194 => ?_
            clear h141
            refine dr_batch tabOk tabZ_ok (by repeat (first | with_reducible exact PF.body | with_reducible apply PF.inB | with_reducible apply PF.next)) [(0, {}), (2, {k := 2, p := 2})] [9, 8, 7, 5, 3, 18, 19, 20, 6, 11, 63, 65] (T' := [(9, .pointer (some ⟨b119, 0, none⟩)), (8, .pointer (some ⟨b91, 0, none⟩)), (7, .pointer (some ⟨b77, 0, none⟩)), (5, .pointer (some ⟨b54, 0, none⟩)), (3, .pointer (some ⟨kb, 0, none⟩)), (18, .slice (some ⟨sb45, k046, none⟩) ops.length c), (19, .int .i64 ((ops.length : Nat) : Int)), (20, .int .i64 i), (6, .pointer (some ⟨kb2, 0, none⟩)), (11, .int .i64 p), (63, .pointer (some ⟨kb, 0, none⟩)), (65, .agg #[.int .u16 ((refP C.ent S.cur).idx), .int .u32 ((refP C.ent S.cur).gen)])]) (φ := (b77 = b77 ∧ Nat.ble (0 + 2) 2 = true) ∧ True) (fuel := 13) h194 (by kernel_rfl) rfl (by kernel_rfl) (by kernel_rfl) ⟨trivial, rfl, trivial⟩ ⟨⟨rfl, rfl⟩, trivial⟩ fun a196 h197 => ?_
            clear h194
            refine wpAnyK_one (i := 1) (fuel := 12) (by kernel_rfl) ?_
            refine op_call h197 rfl rfl rfl (callOk Tryd.func18 (by decide) rfl) (args := [.pointer (some ⟨kb, 0, none⟩)]) rfl (running_ok kb bo bc Sz hivz.1.ri Cz.ent _ (h197.inv.get (j := 0) (p := pKer kb bo bc nd9 Sz Cz) rfl).ker (h197.inv.get (j := 0) (p := pKer kb bo bc nd9 Sz Cz) rfl).cap.st (h197.inv.get (j := 0) (p := pKer kb bo bc nd9 Sz Cz) rfl).ne) ?_
            rintro _ w198 ⟨rfl, hf200⟩
            refine ⟨_, rfl, ?_⟩
            have h199 := (h197.grow hf200).put (d := some 64) (v := .agg #[.int .u16 ((refP Cz.ent Sz.cur).idx), .int .u32 ((refP Cz.ent Sz.cur).gen)]) (T' := [(64, .agg #[.int .u16 ((refP Cz.ent Sz.cur).idx), .int .u32 ((refP Cz.ent Sz.cur).gen)]), (9, .pointer (some ⟨b119, 0, none⟩)), (8, .pointer (some ⟨b91, 0, none⟩)), (7, .pointer (some ⟨b77, 0, none⟩)), (5, .pointer (some ⟨b54, 0, none⟩)), (3, .pointer (some ⟨kb, 0, none⟩)), (18, .slice (some ⟨sb45, k046, none⟩) ops.length c), (19, .int .i64 ((ops.length : Nat) : Int)), (20, .int .i64 i), (6, .pointer (some ⟨kb2, 0, none⟩)), (11, .int .i64 p), (63, .pointer (some ⟨kb, 0, none⟩)), (65, .agg #[.int .u16 ((refP C.ent S.cur).idx), .int .u32 ((refP C.ent S.cur).gen)])]) rfl
            refine ⟨(h197.keepFr hf200 (kcons (by simp) knil)), ?_⟩
            clear h197
            refine dr_batch tabOk tabZ_ok (by repeat (first | with_reducible exact PF.body | with_reducible apply PF.inB | with_reducible apply PF.next)) [(3, {f := 2}), (4, {}), (5, {}), (6, {k := 0, p := 0}), (7, {}), (8, {}), (9, {}), (10, {}), (11, {k := 0, p := 0}), (12, {}), (13, {}), (14, {})] [9, 8, 7, 5, 3, 18, 19, 20, 6, 11, 12] (T' := [(9, .pointer (some ⟨b119, 0, none⟩)), (8, .pointer (some ⟨b91, 0, none⟩)), (7, .pointer (some ⟨b77, 0, none⟩)), (5, .pointer (some ⟨b54, 0, none⟩)), (3, .pointer (some ⟨kb, 0, none⟩)), (18, .slice (some ⟨sb45, k046, none⟩) ops.length c), (19, .int .i64 ((ops.length : Nat) : Int)), (20, .int .i64 i), (6, .pointer (some ⟨kb2, 0, none⟩)), (11, .int .i64 p), (12, .bool true)]) (φ := EqRun Tryd.prog 39 (.agg #[.int .u16 ((refP Cz.ent Sz.cur).idx), .int .u32 ((refP Cz.ent Sz.cur).gen)]) (.agg #[.int .u16 ((refP C.ent S.cur).idx), .int .u32 ((refP C.ent S.cur).gen)]) false ∧ True) (fuel := 0) h199 (by kernel_rfl) rfl (by kernel_rfl) (by kernel_rfl) ⟨trivial, trivial, trivial, rfl, trivial, trivial, trivial, trivial, rfl, trivial, trivial, trivial, trivial⟩ ⟨(runRfD (a := refP Cz.ent Sz.cur) (b := refP C.ent S.cur) (by simp [hrf])), trivial⟩ fun a201 h202 => ?_
            clear h199
            refine wpAnyK_done (by kernel_rfl) ?_ _
            refine hK192 _ _ ?_
            clear hK192
            refine wp_seq_k fun K203 hK203 => ?_
            refine wp_seq_k fun K204 hK204 => ?_
            refine dr_start (KB := [0, b54, b77, b91, b119]) (Bi := [[0, 1, 2, 3, 4], [0, 1, 2, 3, 4], [0, 1, 2, 3, 4], [0, 1, 2, 3, 4], [0, 1, 2, 3, 4], [0, 1, 2, 3, 4], [0, 1, 2, 3, 4], [0, 1, 2, 3, 4], [0, 1, 2, 3, 4], [0], [0, 1, 2, 3, 4], [0, 1, 2, 3, 4], [0, 1, 2, 3, 4]]) mixed h202 fun w205 h206 => ?_
            clear h202
            refine dr_batch tabOk tabZ_ok (by repeat (first | with_reducible exact PF.body | with_reducible apply PF.inB | with_reducible apply PF.next)) [(0, {}), (1, {k := 3, p := 3}), (2, {f := 2}), (3, {}), (4, {}), (5, {}), (6, {}), (7, {}), (8, {}), (10, {k := 0, p := 0})] [9, 8, 7, 5, 3, 18, 19, 20, 6, 11, 12, 84, 85, 87] (T' := [(9, .pointer (some ⟨b119, 0, none⟩)), (8, .pointer (some ⟨b91, 0, none⟩)), (7, .pointer (some ⟨b77, 0, none⟩)), (5, .pointer (some ⟨b54, 0, none⟩)), (3, .pointer (some ⟨kb, 0, none⟩)), (18, .slice (some ⟨sb45, k046, none⟩) ops.length c), (19, .int .i64 ((ops.length : Nat) : Int)), (20, .int .i64 i), (6, .pointer (some ⟨kb2, 0, none⟩)), (11, .int .i64 p), (12, .bool true), (84, .bool true), (85, .tuple #[]), (87, .tuple #[])]) (φ := (b91 = b91 ∧ Nat.ble (0 + 1) 10 = true) ∧ ((oz.code != 0)) = true ∧ True) (fuel := 3) h206 (by kernel_rfl) rfl (by kernel_rfl) (by kernel_rfl) ⟨trivial, rfl, trivial, trivial, trivial, trivial, trivial, trivial, trivial, rfl, trivial⟩ ⟨⟨rfl, rfl⟩, (by simp [hcz0]), trivial⟩ fun a208 h209 => ?_
            clear h206
            refine dr_batch tabOk tabZ_ok (by repeat (first | with_reducible exact PF.body | with_reducible apply PF.inB | with_reducible apply PF.next)) [(9, {})] [9, 8, 7, 5, 3, 18, 19, 20, 6, 11, 12, 84, 87, 86] (T' := [(9, .pointer (some ⟨b119, 0, none⟩)), (8, .pointer (some ⟨b91, 0, none⟩)), (7, .pointer (some ⟨b77, 0, none⟩)), (5, .pointer (some ⟨b54, 0, none⟩)), (3, .pointer (some ⟨kb, 0, none⟩)), (18, .slice (some ⟨sb45, k046, none⟩) ops.length c), (19, .int .i64 ((ops.length : Nat) : Int)), (20, .int .i64 i), (6, .pointer (some ⟨kb2, 0, none⟩)), (11, .int .i64 p), (12, .bool true), (84, .bool true), (87, .tuple #[]), (86, .tuple #[])]) (φ := True) (fuel := 2) h209 (by kernel_rfl) rfl (by kernel_rfl) (by kernel_rfl) ⟨trivial, trivial⟩ trivial fun a210 h211 => ?_
            clear h209
            refine dr_batch tabOk tabZ_ok (by repeat (first | with_reducible exact PF.body | with_reducible apply PF.inB | with_reducible apply PF.next)) [(11, {}), (12, {})] [9, 8, 7, 5, 3, 18, 19, 20, 6, 11, 12, 89] (T' := [(9, .pointer (some ⟨b119, 0, none⟩)), (8, .pointer (some ⟨b91, 0, none⟩)), (7, .pointer (some ⟨b77, 0, none⟩)), (5, .pointer (some ⟨b54, 0, none⟩)), (3, .pointer (some ⟨kb, 0, none⟩)), (18, .slice (some ⟨sb45, k046, none⟩) ops.length c), (19, .int .i64 ((ops.length : Nat) : Int)), (20, .int .i64 i), (6, .pointer (some ⟨kb2, 0, none⟩)), (11, .int .i64 p), (12, .bool true), (89, .bool true)]) (φ := True) (fuel := 0) h211 (by kernel_rfl) rfl (by kernel_rfl) (by kernel_rfl) ⟨trivial, trivial, trivial⟩ trivial fun a212 h213 => ?_
            clear h211
            refine wpAnyK_done (by kernel_rfl) ?_ _
            refine hK204 _ _ ?_
            clear hK204
            refine c_true h213 rfl ?_
            refine wp_exit ?_
            refine hK49 _ _ ?_
            clear hK49
            refine nd_start (l := [0, 1]) rfl ?_
            refine nd_batch tabOk tabZ_ok [(0, {}), (1, {})] [9, 8, 7, 5, 3, 18, 19, 6, 11, 12, 20] (T' := [(9, .pointer (some ⟨b119, 0, none⟩)), (8, .pointer (some ⟨b91, 0, none⟩)), (7, .pointer (some ⟨b77, 0, none⟩)), (5, .pointer (some ⟨b54, 0, none⟩)), (3, .pointer (some ⟨kb, 0, none⟩)), (18, .slice (some ⟨sb45, k046, none⟩) ops.length c), (19, .int .i64 ((ops.length : Nat) : Int)), (6, .pointer (some ⟨kb2, 0, none⟩)), (11, .int .i64 p), (12, .bool true), (20, .int .i64 (i + 1))]) (φ := inR .i64 (i + 1) ∧ True) (rest := []) h213 (by kernel_rfl) rfl ⟨⟨by omega, by omega⟩, trivial⟩ fun a214 h215 => ?_
            clear h213
            refine nd_done ?_
            have h216 := h215.memMono (L' := [(0, ⟨[.int .u16 0, .int .u32 0], ty0, true⟩)]) (List.Sublist.cons_cons _ (List.Sublist.cons _ (List.Sublist.cons _ (List.Sublist.cons _ (List.Sublist.cons _ List.Sublist.slnil)))))
            clear h215
            have h217 := h216.pcSub (ps' := [pKer kb bo bc nd9 Sz Cz]) (List.Sublist.cons_cons _ (List.Sublist.cons _ List.Sublist.slnil))
            clear h216
            exact ⟨(g - 1), by omega, nd9, Sz, Cz, Qz, (i + 1), by omega, ⟨by omega, by omega⟩, hivz.1, hivz.2, hXz, hS.liq, hS.top, hWz, hGz, (h217.slotsMono (restr_spec (keep := [3, 18, 19, 20]) rfl))⟩
          by_cases hidl : Sz.cur = -1
          ·
            have hzz : refP Cz.ent Sz.cur = ⟨0, 0⟩ := by unfold refP; rw [if_pos hidl]
            refine wp_exit ?_
            refine hK129 _ _ ?_
            clear hK129
            refine wp_seq_k fun K218 hK218 => ?_
            refine dr_start (KB := [0, b54, b77, b91, b119]) (Bi := [[0, 1, 2, 3, 4], [2], [0, 1, 2, 3, 4], [0, 1, 2, 3, 4], [0, 1, 2, 3, 4], [0, 1, 2, 3, 4], [0, 1, 2, 3, 4], [0, 1, 2, 3, 4], [0, 1, 2, 3, 4], [0, 1, 2, 3, 4], [0, 1, 2, 3, 4], [0, 1, 2, 3, 4], [0, 1, 2, 3, 4], [0, 1, 2, 3, 4], [0, 1, 2, 3, 4]]) mixed h141 fun w219 h220 => ?_
            clear h141
            refine dr_batch tabOk tabZ_ok (by repeat (first | with_reducible exact PF.body | with_reducible apply PF.inB | with_reducible apply PF.next)) [(0, {}), (2, {k := 2, p := 2})] [9, 8, 7, 5, 3, 18, 19, 20, 6, 11, 63, 65] (T' := [(9, .pointer (some ⟨b119, 0, none⟩)), (8, .pointer (some ⟨b91, 0, none⟩)), (7, .pointer (some ⟨b77, 0, none⟩)), (5, .pointer (some ⟨b54, 0, none⟩)), (3, .pointer (some ⟨kb, 0, none⟩)), (18, .slice (some ⟨sb45, k046, none⟩) ops.length c), (19, .int .i64 ((ops.length : Nat) : Int)), (20, .int .i64 i), (6, .pointer (some ⟨kb2, 0, none⟩)), (11, .int .i64 p), (63, .pointer (some ⟨kb, 0, none⟩)), (65, .agg #[.int .u16 ((refP C.ent S.cur).idx), .int .u32 ((refP C.ent S.cur).gen)])]) (φ := (b77 = b77 ∧ Nat.ble (0 + 2) 2 = true) ∧ True) (fuel := 13) h220 (by kernel_rfl) rfl (by kernel_rfl) (by kernel_rfl) ⟨trivial, rfl, trivial⟩ ⟨⟨rfl, rfl⟩, trivial⟩ fun a222 h223 => ?_
            clear h220
            refine wpAnyK_one (i := 1) (fuel := 12) (by kernel_rfl) ?_
            refine op_call h223 rfl rfl rfl (callOk Tryd.func18 (by decide) rfl) (args := [.pointer (some ⟨kb, 0, none⟩)]) rfl (running_ok kb bo bc Sz hivz.1.ri Cz.ent _ (h223.inv.get (j := 0) (p := pKer kb bo bc nd9 Sz Cz) rfl).ker (h223.inv.get (j := 0) (p := pKer kb bo bc nd9 Sz Cz) rfl).cap.st (h223.inv.get (j := 0) (p := pKer kb bo bc nd9 Sz Cz) rfl).ne) ?_
            rintro _ w224 ⟨rfl, hf226⟩
            refine ⟨_, rfl, ?_⟩
            have h225 := (h223.grow hf226).put (d := some 64) (v := .agg #[.int .u16 ((refP Cz.ent Sz.cur).idx), .int .u32 ((refP Cz.ent Sz.cur).gen)]) (T' := [(64, .agg #[.int .u16 ((refP Cz.ent Sz.cur).idx), .int .u32 ((refP Cz.ent Sz.cur).gen)]), (9, .pointer (some ⟨b119, 0, none⟩)), (8, .pointer (some ⟨b91, 0, none⟩)), (7, .pointer (some ⟨b77, 0, none⟩)), (5, .pointer (some ⟨b54, 0, none⟩)), (3, .pointer (some ⟨kb, 0, none⟩)), (18, .slice (some ⟨sb45, k046, none⟩) ops.length c), (19, .int .i64 ((ops.length : Nat) : Int)), (20, .int .i64 i), (6, .pointer (some ⟨kb2, 0, none⟩)), (11, .int .i64 p), (63, .pointer (some ⟨kb, 0, none⟩)), (65, .agg #[.int .u16 ((refP C.ent S.cur).idx), .int .u32 ((refP C.ent S.cur).gen)])]) rfl
            refine ⟨(h223.keepFr hf226 (kcons (by simp) knil)), ?_⟩
            clear h223
            refine dr_batch tabOk tabZ_ok (by repeat (first | with_reducible exact PF.body | with_reducible apply PF.inB | with_reducible apply PF.next)) [(3, {f := 2}), (4, {}), (5, {}), (6, {k := 0, p := 0}), (7, {}), (8, {}), (9, {}), (10, {}), (11, {k := 0, p := 0}), (12, {}), (13, {}), (14, {})] [9, 8, 7, 5, 3, 18, 19, 20, 6, 11, 12] (T' := [(9, .pointer (some ⟨b119, 0, none⟩)), (8, .pointer (some ⟨b91, 0, none⟩)), (7, .pointer (some ⟨b77, 0, none⟩)), (5, .pointer (some ⟨b54, 0, none⟩)), (3, .pointer (some ⟨kb, 0, none⟩)), (18, .slice (some ⟨sb45, k046, none⟩) ops.length c), (19, .int .i64 ((ops.length : Nat) : Int)), (20, .int .i64 i), (6, .pointer (some ⟨kb2, 0, none⟩)), (11, .int .i64 p), (12, .bool true)]) (φ := EqRun Tryd.prog 39 (.agg #[.int .u16 ((refP Cz.ent Sz.cur).idx), .int .u32 ((refP Cz.ent Sz.cur).gen)]) (.agg #[.int .u16 ((refP C.ent S.cur).idx), .int .u32 ((refP C.ent S.cur).gen)]) false ∧ True) (fuel := 0) h225 (by kernel_rfl) rfl (by kernel_rfl) (by kernel_rfl) ⟨trivial, trivial, trivial, rfl, trivial, trivial, trivial, trivial, rfl, trivial, trivial, trivial, trivial⟩ ⟨(runRfD (a := refP Cz.ent Sz.cur) (b := refP C.ent S.cur) (by simp [hrf])), trivial⟩ fun a227 h228 => ?_
            clear h225
            refine wpAnyK_done (by kernel_rfl) ?_ _
            refine hK218 _ _ ?_
            clear hK218
            refine wp_seq_k fun K229 hK229 => ?_
            refine wp_seq_k fun K230 hK230 => ?_
            refine dr_start (KB := [0, b54, b77, b91, b119]) (Bi := [[0, 1, 2, 3, 4], [0, 1, 2, 3, 4], [0, 1, 2, 3, 4], [0, 1, 2, 3, 4], [0, 1, 2, 3, 4], [0, 1, 2, 3, 4], [0, 1, 2, 3, 4], [0, 1, 2, 3, 4], [0, 1, 2, 3, 4], [0], [0, 1, 2, 3, 4], [0, 1, 2, 3, 4], [0, 1, 2, 3, 4]]) mixed h228 fun w231 h232 => ?_
            clear h228
            refine dr_batch tabOk tabZ_ok (by repeat (first | with_reducible exact PF.body | with_reducible apply PF.inB | with_reducible apply PF.next)) [(0, {}), (1, {k := 3, p := 3}), (2, {f := 1}), (3, {}), (4, {}), (5, {}), (6, {}), (7, {}), (8, {}), (10, {k := 0, p := 0})] [9, 8, 7, 5, 3, 18, 19, 20, 6, 11, 12, 84, 85, 87] (T' := [(9, .pointer (some ⟨b119, 0, none⟩)), (8, .pointer (some ⟨b91, 0, none⟩)), (7, .pointer (some ⟨b77, 0, none⟩)), (5, .pointer (some ⟨b54, 0, none⟩)), (3, .pointer (some ⟨kb, 0, none⟩)), (18, .slice (some ⟨sb45, k046, none⟩) ops.length c), (19, .int .i64 ((ops.length : Nat) : Int)), (20, .int .i64 i), (6, .pointer (some ⟨kb2, 0, none⟩)), (11, .int .i64 p), (12, .bool true), (84, .bool false), (85, .pointer (some ⟨kb, 0, none⟩)), (87, .agg #[.int .u16 0, .int .u32 0])]) (φ := (b91 = b91 ∧ Nat.ble (0 + 1) 10 = true) ∧ ((oz.code != 0)) = false ∧ (0 = 0 ∧ Nat.ble (0 + 2) 2 = true) ∧ True) (fuel := 3) h232 (by kernel_rfl) rfl (by kernel_rfl) (by kernel_rfl) ⟨trivial, rfl, trivial, trivial, trivial, trivial, trivial, trivial, trivial, rfl, trivial⟩ ⟨⟨rfl, rfl⟩, (by simp [hcz0]), ⟨rfl, rfl⟩, trivial⟩ fun a234 h235 => ?_
            clear h232
            refine wpAnyK_one (i := 9) (fuel := 2) (by kernel_rfl) ?_
            refine op_call h235 rfl rfl rfl (callOk Tryd.func18 (by decide) rfl) (args := [.pointer (some ⟨kb, 0, none⟩)]) rfl (running_ok kb bo bc Sz hivz.1.ri Cz.ent _ (h235.inv.get (j := 0) (p := pKer kb bo bc nd9 Sz Cz) rfl).ker (h235.inv.get (j := 0) (p := pKer kb bo bc nd9 Sz Cz) rfl).cap.st (h235.inv.get (j := 0) (p := pKer kb bo bc nd9 Sz Cz) rfl).ne) ?_
            rintro _ w236 ⟨rfl, hf238⟩
            refine ⟨_, rfl, ?_⟩
            have h237 := (h235.grow hf238).put (d := some 86) (v := .agg #[.int .u16 ((refP Cz.ent Sz.cur).idx), .int .u32 ((refP Cz.ent Sz.cur).gen)]) (T' := [(86, .agg #[.int .u16 ((refP Cz.ent Sz.cur).idx), .int .u32 ((refP Cz.ent Sz.cur).gen)]), (9, .pointer (some ⟨b119, 0, none⟩)), (8, .pointer (some ⟨b91, 0, none⟩)), (7, .pointer (some ⟨b77, 0, none⟩)), (5, .pointer (some ⟨b54, 0, none⟩)), (3, .pointer (some ⟨kb, 0, none⟩)), (18, .slice (some ⟨sb45, k046, none⟩) ops.length c), (19, .int .i64 ((ops.length : Nat) : Int)), (20, .int .i64 i), (6, .pointer (some ⟨kb2, 0, none⟩)), (11, .int .i64 p), (12, .bool true), (84, .bool false), (85, .pointer (some ⟨kb, 0, none⟩)), (87, .agg #[.int .u16 0, .int .u32 0])]) rfl
            refine ⟨(h235.keepFr hf238 (kcons (by simp) knil)), ?_⟩
            clear h235
            refine dr_batch tabOk tabZ_ok (by repeat (first | with_reducible exact PF.body | with_reducible apply PF.inB | with_reducible apply PF.next)) [(11, {f := 2}), (12, {})] [9, 8, 7, 5, 3, 18, 19, 20, 6, 11, 12, 89] (T' := [(9, .pointer (some ⟨b119, 0, none⟩)), (8, .pointer (some ⟨b91, 0, none⟩)), (7, .pointer (some ⟨b77, 0, none⟩)), (5, .pointer (some ⟨b54, 0, none⟩)), (3, .pointer (some ⟨kb, 0, none⟩)), (18, .slice (some ⟨sb45, k046, none⟩) ops.length c), (19, .int .i64 ((ops.length : Nat) : Int)), (20, .int .i64 i), (6, .pointer (some ⟨kb2, 0, none⟩)), (11, .int .i64 p), (12, .bool true), (89, .bool true)]) (φ := EqRun Tryd.prog 39 (.agg #[.int .u16 ((refP Cz.ent Sz.cur).idx), .int .u32 ((refP Cz.ent Sz.cur).gen)]) (.agg #[.int .u16 0, .int .u32 0]) true ∧ True) (fuel := 0) h237 (by kernel_rfl) rfl (by kernel_rfl) (by kernel_rfl) ⟨trivial, trivial, trivial⟩ ⟨(runRfD (a := refP Cz.ent Sz.cur) (b := ⟨0, 0⟩) (by simp [hzz])), trivial⟩ fun a239 h240 => ?_
            clear h237
            refine wpAnyK_done (by kernel_rfl) ?_ _
            refine hK230 _ _ ?_
            clear hK230
            refine c_true h240 rfl ?_
            refine wp_exit ?_
            refine hK49 _ _ ?_
            clear hK49
            refine nd_start (l := [0, 1]) rfl ?_
            refine nd_batch tabOk tabZ_ok [(0, {}), (1, {})] [9, 8, 7, 5, 3, 18, 19, 6, 11, 12, 20] (T' := [(9, .pointer (some ⟨b119, 0, none⟩)), (8, .pointer (some ⟨b91, 0, none⟩)), (7, .pointer (some ⟨b77, 0, none⟩)), (5, .pointer (some ⟨b54, 0, none⟩)), (3, .pointer (some ⟨kb, 0, none⟩)), (18, .slice (some ⟨sb45, k046, none⟩) ops.length c), (19, .int .i64 ((ops.length : Nat) : Int)), (6, .pointer (some ⟨kb2, 0, none⟩)), (11, .int .i64 p), (12, .bool true), (20, .int .i64 (i + 1))]) (φ := inR .i64 (i + 1) ∧ True) (rest := []) h240 (by kernel_rfl) rfl ⟨⟨by omega, by omega⟩, trivial⟩ fun a241 h242 => ?_
            clear h240
            refine nd_done ?_
            have h243 := h242.memMono (L' := [(0, ⟨[.int .u16 0, .int .u32 0], ty0, true⟩)]) (List.Sublist.cons_cons _ (List.Sublist.cons _ (List.Sublist.cons _ (List.Sublist.cons _ (List.Sublist.cons _ List.Sublist.slnil)))))
            clear h242
            have h244 := h243.pcSub (ps' := [pKer kb bo bc nd9 Sz Cz]) (List.Sublist.cons_cons _ (List.Sublist.cons _ List.Sublist.slnil))
            clear h243
            exact ⟨(g - 1), by omega, nd9, Sz, Cz, Qz, (i + 1), by omega, ⟨by omega, by omega⟩, hivz.1, hivz.2, hXz, hS.liq, hS.top, hWz, hGz, (h244.slotsMono (restr_spec (keep := [3, 18, 19, 20]) rfl))⟩
          ·
            have hcz := lk_nat hivz.1.ri.cur hidl
            have hcr := ref_live_none hGz hcz
            have hpk2 : 0 ≤ (IntKind.wrap .u32 (x.ev.pick + 1)) ∧ (IntKind.wrap .u32 (x.ev.pick + 1)) < 4294967296 := wrap_u32 _
            obtain ⟨Sy, oy, Qy, eySy, hqy, hcy, hline⟩ := hS.line hcz0 (.inl hrf) hidl (IntKind.wrap .u32 (x.ev.pick + 1)) hpk2.1
            have hev2 : EvOk ({ x.ev with pick := (IntKind.wrap .u32 (x.ev.pick + 1)) } : Ev) := ⟨(hev x hxm).1.kind, hpk2, (hev x hxm).1.addr, (hev x hxm).1.node, (hev x hxm).1.dst, (hev x hxm).1.ty, (hev x hxm).1.arg⟩
            have hivy := step_inv hok hci hev2
            rw [eySy] at hivy
            dsimp only at hivy
            have hXy := hX.step hok hci hev2
            rw [eySy] at hXy
            dsimp only at hXy
            have hlnl : (lineUpP Sz Qz Cz.ent x.ev.pick).length ≤ 1000 := line_len hivz.1.ri hS.liq hcz (hev x hxm).1.pick
            refine wp_exit ?_
            refine hK129 _ _ ?_
            clear hK129
            refine wp_seq_k fun K245 hK245 => ?_
            refine dr_start (KB := [0, b54, b77, b91, b119]) (Bi := [[0, 1, 2, 3, 4], [2], [0, 1, 2, 3, 4], [0, 1, 2, 3, 4], [0, 1, 2, 3, 4], [0, 1, 2, 3, 4], [0, 1, 2, 3, 4], [0, 1, 2, 3, 4], [0, 1, 2, 3, 4], [0, 1, 2, 3, 4], [0, 1, 2, 3, 4], [0, 1, 2, 3, 4], [0, 1, 2, 3, 4], [0, 1, 2, 3, 4], [0, 1, 2, 3, 4]]) mixed h141 fun w246 h247 => ?_
            clear h141
            refine dr_batch tabOk tabZ_ok (by repeat (first | with_reducible exact PF.body | with_reducible apply PF.inB | with_reducible apply PF.next)) [(0, {}), (2, {k := 2, p := 2})] [9, 8, 7, 5, 3, 18, 19, 20, 6, 11, 63, 65] (T' := [(9, .pointer (some ⟨b119, 0, none⟩)), (8, .pointer (some ⟨b91, 0, none⟩)), (7, .pointer (some ⟨b77, 0, none⟩)), (5, .pointer (some ⟨b54, 0, none⟩)), (3, .pointer (some ⟨kb, 0, none⟩)), (18, .slice (some ⟨sb45, k046, none⟩) ops.length c), (19, .int .i64 ((ops.length : Nat) : Int)), (20, .int .i64 i), (6, .pointer (some ⟨kb2, 0, none⟩)), (11, .int .i64 p), (63, .pointer (some ⟨kb, 0, none⟩)), (65, .agg #[.int .u16 ((refP C.ent S.cur).idx), .int .u32 ((refP C.ent S.cur).gen)])]) (φ := (b77 = b77 ∧ Nat.ble (0 + 2) 2 = true) ∧ True) (fuel := 13) h247 (by kernel_rfl) rfl (by kernel_rfl) (by kernel_rfl) ⟨trivial, rfl, trivial⟩ ⟨⟨rfl, rfl⟩, trivial⟩ fun a249 h250 => ?_
            clear h247
            refine wpAnyK_one (i := 1) (fuel := 12) (by kernel_rfl) ?_
            refine op_call h250 rfl rfl rfl (callOk Tryd.func18 (by decide) rfl) (args := [.pointer (some ⟨kb, 0, none⟩)]) rfl (running_ok kb bo bc Sz hivz.1.ri Cz.ent _ (h250.inv.get (j := 0) (p := pKer kb bo bc nd9 Sz Cz) rfl).ker (h250.inv.get (j := 0) (p := pKer kb bo bc nd9 Sz Cz) rfl).cap.st (h250.inv.get (j := 0) (p := pKer kb bo bc nd9 Sz Cz) rfl).ne) ?_
            rintro _ w251 ⟨rfl, hf253⟩
            refine ⟨_, rfl, ?_⟩
            have h252 := (h250.grow hf253).put (d := some 64) (v := .agg #[.int .u16 ((refP Cz.ent Sz.cur).idx), .int .u32 ((refP Cz.ent Sz.cur).gen)]) (T' := [(64, .agg #[.int .u16 ((refP Cz.ent Sz.cur).idx), .int .u32 ((refP Cz.ent Sz.cur).gen)]), (9, .pointer (some ⟨b119, 0, none⟩)), (8, .pointer (some ⟨b91, 0, none⟩)), (7, .pointer (some ⟨b77, 0, none⟩)), (5, .pointer (some ⟨b54, 0, none⟩)), (3, .pointer (some ⟨kb, 0, none⟩)), (18, .slice (some ⟨sb45, k046, none⟩) ops.length c), (19, .int .i64 ((ops.length : Nat) : Int)), (20, .int .i64 i), (6, .pointer (some ⟨kb2, 0, none⟩)), (11, .int .i64 p), (63, .pointer (some ⟨kb, 0, none⟩)), (65, .agg #[.int .u16 ((refP C.ent S.cur).idx), .int .u32 ((refP C.ent S.cur).gen)])]) rfl
            refine ⟨(h250.keepFr hf253 (kcons (by simp) knil)), ?_⟩
            clear h250
            refine dr_batch tabOk tabZ_ok (by repeat (first | with_reducible exact PF.body | with_reducible apply PF.inB | with_reducible apply PF.next)) [(3, {f := 2}), (4, {}), (5, {}), (6, {k := 0, p := 0}), (7, {}), (8, {}), (9, {}), (10, {}), (11, {k := 0, p := 0}), (12, {}), (13, {}), (14, {})] [9, 8, 7, 5, 3, 18, 19, 20, 6, 11, 12] (T' := [(9, .pointer (some ⟨b119, 0, none⟩)), (8, .pointer (some ⟨b91, 0, none⟩)), (7, .pointer (some ⟨b77, 0, none⟩)), (5, .pointer (some ⟨b54, 0, none⟩)), (3, .pointer (some ⟨kb, 0, none⟩)), (18, .slice (some ⟨sb45, k046, none⟩) ops.length c), (19, .int .i64 ((ops.length : Nat) : Int)), (20, .int .i64 i), (6, .pointer (some ⟨kb2, 0, none⟩)), (11, .int .i64 p), (12, .bool true)]) (φ := EqRun Tryd.prog 39 (.agg #[.int .u16 ((refP Cz.ent Sz.cur).idx), .int .u32 ((refP Cz.ent Sz.cur).gen)]) (.agg #[.int .u16 ((refP C.ent S.cur).idx), .int .u32 ((refP C.ent S.cur).gen)]) false ∧ True) (fuel := 0) h252 (by kernel_rfl) rfl (by kernel_rfl) (by kernel_rfl) ⟨trivial, trivial, trivial, rfl, trivial, trivial, trivial, trivial, rfl, trivial, trivial, trivial, trivial⟩ ⟨(runRfD (a := refP Cz.ent Sz.cur) (b := refP C.ent S.cur) (by simp [hrf])), trivial⟩ fun a254 h255 => ?_
            clear h252
            refine wpAnyK_done (by kernel_rfl) ?_ _
            refine hK245 _ _ ?_
            clear hK245
            refine wp_seq_k fun K256 hK256 => ?_
            refine wp_seq_k fun K257 hK257 => ?_
            refine dr_start (KB := [0, b54, b77, b91, b119]) (Bi := [[0, 1, 2, 3, 4], [0, 1, 2, 3, 4], [0, 1, 2, 3, 4], [0, 1, 2, 3, 4], [0, 1, 2, 3, 4], [0, 1, 2, 3, 4], [0, 1, 2, 3, 4], [0, 1, 2, 3, 4], [0, 1, 2, 3, 4], [0], [0, 1, 2, 3, 4], [0, 1, 2, 3, 4], [0, 1, 2, 3, 4]]) mixed h255 fun w258 h259 => ?_
            clear h255
            refine dr_batch tabOk tabZ_ok (by repeat (first | with_reducible exact PF.body | with_reducible apply PF.inB | with_reducible apply PF.next)) [(0, {}), (1, {k := 3, p := 3}), (2, {f := 1}), (3, {}), (4, {}), (5, {}), (6, {}), (7, {}), (8, {}), (10, {k := 0, p := 0})] [9, 8, 7, 5, 3, 18, 19, 20, 6, 11, 12, 84, 85, 87] (T' := [(9, .pointer (some ⟨b119, 0, none⟩)), (8, .pointer (some ⟨b91, 0, none⟩)), (7, .pointer (some ⟨b77, 0, none⟩)), (5, .pointer (some ⟨b54, 0, none⟩)), (3, .pointer (some ⟨kb, 0, none⟩)), (18, .slice (some ⟨sb45, k046, none⟩) ops.length c), (19, .int .i64 ((ops.length : Nat) : Int)), (20, .int .i64 i), (6, .pointer (some ⟨kb2, 0, none⟩)), (11, .int .i64 p), (12, .bool true), (84, .bool false), (85, .pointer (some ⟨kb, 0, none⟩)), (87, .agg #[.int .u16 0, .int .u32 0])]) (φ := (b91 = b91 ∧ Nat.ble (0 + 1) 10 = true) ∧ ((oz.code != 0)) = false ∧ (0 = 0 ∧ Nat.ble (0 + 2) 2 = true) ∧ True) (fuel := 3) h259 (by kernel_rfl) rfl (by kernel_rfl) (by kernel_rfl) ⟨trivial, rfl, trivial, trivial, trivial, trivial, trivial, trivial, trivial, rfl, trivial⟩ ⟨⟨rfl, rfl⟩, (by simp [hcz0]), ⟨rfl, rfl⟩, trivial⟩ fun a261 h262 => ?_
            clear h259
            refine wpAnyK_one (i := 9) (fuel := 2) (by kernel_rfl) ?_
            refine op_call h262 rfl rfl rfl (callOk Tryd.func18 (by decide) rfl) (args := [.pointer (some ⟨kb, 0, none⟩)]) rfl (running_ok kb bo bc Sz hivz.1.ri Cz.ent _ (h262.inv.get (j := 0) (p := pKer kb bo bc nd9 Sz Cz) rfl).ker (h262.inv.get (j := 0) (p := pKer kb bo bc nd9 Sz Cz) rfl).cap.st (h262.inv.get (j := 0) (p := pKer kb bo bc nd9 Sz Cz) rfl).ne) ?_
            rintro _ w263 ⟨rfl, hf265⟩
            refine ⟨_, rfl, ?_⟩
            have h264 := (h262.grow hf265).put (d := some 86) (v := .agg #[.int .u16 ((refP Cz.ent Sz.cur).idx), .int .u32 ((refP Cz.ent Sz.cur).gen)]) (T' := [(86, .agg #[.int .u16 ((refP Cz.ent Sz.cur).idx), .int .u32 ((refP Cz.ent Sz.cur).gen)]), (9, .pointer (some ⟨b119, 0, none⟩)), (8, .pointer (some ⟨b91, 0, none⟩)), (7, .pointer (some ⟨b77, 0, none⟩)), (5, .pointer (some ⟨b54, 0, none⟩)), (3, .pointer (some ⟨kb, 0, none⟩)), (18, .slice (some ⟨sb45, k046, none⟩) ops.length c), (19, .int .i64 ((ops.length : Nat) : Int)), (20, .int .i64 i), (6, .pointer (some ⟨kb2, 0, none⟩)), (11, .int .i64 p), (12, .bool true), (84, .bool false), (85, .pointer (some ⟨kb, 0, none⟩)), (87, .agg #[.int .u16 0, .int .u32 0])]) rfl
            refine ⟨(h262.keepFr hf265 (kcons (by simp) knil)), ?_⟩
            clear h262
            refine dr_batch tabOk tabZ_ok (by repeat (first | with_reducible exact PF.body | with_reducible apply PF.inB | with_reducible apply PF.next)) [(11, {f := 1}), (12, {})] [9, 8, 7, 5, 3, 18, 19, 20, 6, 11, 12, 89] (T' := [(9, .pointer (some ⟨b119, 0, none⟩)), (8, .pointer (some ⟨b91, 0, none⟩)), (7, .pointer (some ⟨b77, 0, none⟩)), (5, .pointer (some ⟨b54, 0, none⟩)), (3, .pointer (some ⟨kb, 0, none⟩)), (18, .slice (some ⟨sb45, k046, none⟩) ops.length c), (19, .int .i64 ((ops.length : Nat) : Int)), (20, .int .i64 i), (6, .pointer (some ⟨kb2, 0, none⟩)), (11, .int .i64 p), (12, .bool true), (89, .bool false)]) (φ := EqRun Tryd.prog 39 (.agg #[.int .u16 ((refP Cz.ent Sz.cur).idx), .int .u32 ((refP Cz.ent Sz.cur).gen)]) (.agg #[.int .u16 0, .int .u32 0]) false ∧ True) (fuel := 0) h264 (by kernel_rfl) rfl (by kernel_rfl) (by kernel_rfl) ⟨trivial, trivial, trivial⟩ ⟨(runRfD (a := refP Cz.ent Sz.cur) (b := ⟨0, 0⟩) (by simp [hcr])), trivial⟩ fun a266 h267 => ?_
            clear h264
            refine wpAnyK_done (by kernel_rfl) ?_ _
            refine hK257 _ _ ?_
            clear hK257
            refine c_false h267 rfl ?_
            refine wp_skip ?_
            refine hK256 _ _ ?_
            clear hK256
            refine wp_seq_k fun K268 hK268 => ?_
            refine nd_start (l := [0, 1, 2]) rfl ?_
            refine nd_batch tabOk tabZ_ok [(0, {k := 1})] [9, 8, 7, 5, 3, 18, 19, 20, 6, 11, 12, 90] (T' := [(9, .pointer (some ⟨b119, 0, none⟩)), (8, .pointer (some ⟨b91, 0, none⟩)), (7, .pointer (some ⟨b77, 0, none⟩)), (5, .pointer (some ⟨b54, 0, none⟩)), (3, .pointer (some ⟨kb, 0, none⟩)), (18, .slice (some ⟨sb45, k046, none⟩) ops.length c), (19, .int .i64 ((ops.length : Nat) : Int)), (20, .int .i64 i), (6, .pointer (some ⟨kb2, 0, none⟩)), (11, .int .i64 p), (12, .bool true), (90, .agg #[.int .u8 x.ev.kind, .int .u32 x.ev.pick, .int .u64 x.ev.draw, .int .u32 x.ev.addr, .int .u32 x.ev.node, .int .u32 x.ev.dst, .int .u32 x.ev.xfer, .int .u8 x.ev.ty, .int .u64 x.ev.arg, .int .u64 x.ev.badge, .slice x.xo x.ev.ws.length x.cx])]) (φ := (b54 = b54 ∧ Nat.ble (0 + 11) 11 = true) ∧ True) (rest := [1, 2]) h267 (by kernel_rfl) rfl ⟨⟨rfl, rfl⟩, trivial⟩ fun a269 h270 => ?_
            clear h267
            refine nd_op ?_
            refine op_new tabOk (cells := [.int .u8 0, .int .u32 0, .int .u64 0, .int .u32 0, .int .u32 0, .int .u32 0, .int .u32 0, .int .u8 0, .int .u64 0, .int .u64 0, .slice none 0 0]) (ty := 35) (ln := none) (L1 := fun b271 => [(0, ⟨[.int .u16 0, .int .u32 0], ty0, true⟩), (b54, ⟨[.int .u8 x.ev.kind, .int .u32 x.ev.pick, .int .u64 x.ev.draw, .int .u32 x.ev.addr, .int .u32 x.ev.node, .int .u32 x.ev.dst, .int .u32 x.ev.xfer, .int .u8 x.ev.ty, .int .u64 x.ev.arg, .int .u64 x.ev.badge, .slice x.xo x.ev.ws.length x.cx], 35, false⟩), (b77, ⟨[.int .u16 ((refP C.ent S.cur).idx), .int .u32 ((refP C.ent S.cur).gen)], 39, false⟩), (b91, ⟨[.int .u8 oz.code, .int .u16 oz.run.idx, .int .u32 oz.run.gen, .int .u64 oz.badge, .int .u64 oz.m0, .int .u64 oz.m1, .int .u64 oz.m2, .int .u64 oz.m3, .int .u8 oz.len, .int .u8 oz.got], 42, false⟩), (b119, ⟨[.int .u8 mn.st, .int .u8 mn.prio, .int .u16 mn.wait.idx, .int .u32 mn.wait.gen, .int .u16 mn.cs.idx, .int .u32 mn.cs.gen, .int .u16 mn.rep.idx, .int .u32 mn.rep.gen, .int .u64 mn.badge, .int .u64 mn.m0, .int .u64 mn.m1, .int .u64 mn.m2, .int .u64 mn.m3, .int .u8 mn.len, .int .u8 mn.got, .int .u32 mn.xfer, .int .u32 mn.dst, .bool mn.grant, .bool mn.call], 59, false⟩), (b271, ⟨[.int .u8 0, .int .u32 0, .int .u64 0, .int .u32 0, .int .u32 0, .int .u32 0, .int .u32 0, .int .u8 0, .int .u64 0, .int .u64 0, .slice none 0 0], 35, false⟩)]) h270 rfl rfl rfl rfl (by kernel_rfl) (fun _ => rfl) fun b271 w272 a273 h274 hf275 hn276 => ?_
            clear h270
            refine nd_op ?_
            refine op_store tabOk {k := 5} (L' := [(0, ⟨[.int .u16 0, .int .u32 0], ty0, true⟩), (b54, ⟨[.int .u8 x.ev.kind, .int .u32 x.ev.pick, .int .u64 x.ev.draw, .int .u32 x.ev.addr, .int .u32 x.ev.node, .int .u32 x.ev.dst, .int .u32 x.ev.xfer, .int .u8 x.ev.ty, .int .u64 x.ev.arg, .int .u64 x.ev.badge, .slice x.xo x.ev.ws.length x.cx], 35, false⟩), (b77, ⟨[.int .u16 ((refP C.ent S.cur).idx), .int .u32 ((refP C.ent S.cur).gen)], 39, false⟩), (b91, ⟨[.int .u8 oz.code, .int .u16 oz.run.idx, .int .u32 oz.run.gen, .int .u64 oz.badge, .int .u64 oz.m0, .int .u64 oz.m1, .int .u64 oz.m2, .int .u64 oz.m3, .int .u8 oz.len, .int .u8 oz.got], 42, false⟩), (b119, ⟨[.int .u8 mn.st, .int .u8 mn.prio, .int .u16 mn.wait.idx, .int .u32 mn.wait.gen, .int .u16 mn.cs.idx, .int .u32 mn.cs.gen, .int .u16 mn.rep.idx, .int .u32 mn.rep.gen, .int .u64 mn.badge, .int .u64 mn.m0, .int .u64 mn.m1, .int .u64 mn.m2, .int .u64 mn.m3, .int .u8 mn.len, .int .u8 mn.got, .int .u32 mn.xfer, .int .u32 mn.dst, .bool mn.grant, .bool mn.call], 59, false⟩), (b271, ⟨[.int .u8 x.ev.kind, .int .u32 x.ev.pick, .int .u64 x.ev.draw, .int .u32 x.ev.addr, .int .u32 x.ev.node, .int .u32 x.ev.dst, .int .u32 x.ev.xfer, .int .u8 x.ev.ty, .int .u64 x.ev.arg, .int .u64 x.ev.badge, .slice x.xo x.ev.ws.length x.cx], 35, false⟩)]) (φ := b271 = b271 ∧ Nat.ble (0 + 11) 11 = true) h274 rfl rfl rfl (by kernel_rfl) ⟨rfl, rfl⟩ fun w277 h278 => ?_
            clear h274
            refine nd_done ?_
            refine hK268 _ _ ?_
            clear hK268
            refine wp_seq_k fun K279 hK279 => ?_
            refine nd_start (l := [0, 1, 2, 3, 4]) rfl ?_
            refine nd_batch tabOk tabZ_ok [(0, {}), (1, {k := 5}), (2, {m := 1}), (3, {})] [13, 9, 8, 7, 5, 3, 18, 19, 20, 6, 11, 12, 93, 94] (T' := [(13, .pointer (some ⟨b271, 0, none⟩)), (9, .pointer (some ⟨b119, 0, none⟩)), (8, .pointer (some ⟨b91, 0, none⟩)), (7, .pointer (some ⟨b77, 0, none⟩)), (5, .pointer (some ⟨b54, 0, none⟩)), (3, .pointer (some ⟨kb, 0, none⟩)), (18, .slice (some ⟨sb45, k046, none⟩) ops.length c), (19, .int .i64 ((ops.length : Nat) : Int)), (20, .int .i64 i), (6, .pointer (some ⟨kb2, 0, none⟩)), (11, .int .i64 p), (12, .bool true), (93, .int .u32 (IntKind.wrap .u32 (x.ev.pick + 1))), (94, .pointer (some ⟨b271, 1, none⟩))]) (φ := (b271 = b271 ∧ Nat.ble (1 + 1) 11 = true) ∧ True) (rest := [4]) h278 (by kernel_rfl) rfl ⟨⟨rfl, rfl⟩, trivial⟩ fun a280 h281 => ?_
            clear h278
            refine nd_op ?_
            refine op_store tabOk {k := 5} (L' := [(0, ⟨[.int .u16 0, .int .u32 0], ty0, true⟩), (b54, ⟨[.int .u8 x.ev.kind, .int .u32 x.ev.pick, .int .u64 x.ev.draw, .int .u32 x.ev.addr, .int .u32 x.ev.node, .int .u32 x.ev.dst, .int .u32 x.ev.xfer, .int .u8 x.ev.ty, .int .u64 x.ev.arg, .int .u64 x.ev.badge, .slice x.xo x.ev.ws.length x.cx], 35, false⟩), (b77, ⟨[.int .u16 ((refP C.ent S.cur).idx), .int .u32 ((refP C.ent S.cur).gen)], 39, false⟩), (b91, ⟨[.int .u8 oz.code, .int .u16 oz.run.idx, .int .u32 oz.run.gen, .int .u64 oz.badge, .int .u64 oz.m0, .int .u64 oz.m1, .int .u64 oz.m2, .int .u64 oz.m3, .int .u8 oz.len, .int .u8 oz.got], 42, false⟩), (b119, ⟨[.int .u8 mn.st, .int .u8 mn.prio, .int .u16 mn.wait.idx, .int .u32 mn.wait.gen, .int .u16 mn.cs.idx, .int .u32 mn.cs.gen, .int .u16 mn.rep.idx, .int .u32 mn.rep.gen, .int .u64 mn.badge, .int .u64 mn.m0, .int .u64 mn.m1, .int .u64 mn.m2, .int .u64 mn.m3, .int .u8 mn.len, .int .u8 mn.got, .int .u32 mn.xfer, .int .u32 mn.dst, .bool mn.grant, .bool mn.call], 59, false⟩), (b271, ⟨[.int .u8 x.ev.kind, .int .u32 (IntKind.wrap .u32 (x.ev.pick + 1)), .int .u64 x.ev.draw, .int .u32 x.ev.addr, .int .u32 x.ev.node, .int .u32 x.ev.dst, .int .u32 x.ev.xfer, .int .u8 x.ev.ty, .int .u64 x.ev.arg, .int .u64 x.ev.badge, .slice x.xo x.ev.ws.length x.cx], 35, false⟩)]) (φ := b271 = b271 ∧ Nat.ble (1 + 1) 11 = true) h281 rfl rfl rfl (by kernel_rfl) ⟨rfl, rfl⟩ fun w282 h283 => ?_
            clear h281
            refine nd_done ?_
            refine hK279 _ _ ?_
            clear hK279
            refine wp_seq_k fun K284 hK284 => ?_
            refine nd_start (l := [0, 1, 2]) rfl ?_
            refine nd_batch tabOk tabZ_ok [(0, {}), (1, {k := 5})] [13, 9, 8, 7, 5, 3, 18, 19, 20, 6, 11, 12, 95, 96] (T' := [(13, .pointer (some ⟨b271, 0, none⟩)), (9, .pointer (some ⟨b119, 0, none⟩)), (8, .pointer (some ⟨b91, 0, none⟩)), (7, .pointer (some ⟨b77, 0, none⟩)), (5, .pointer (some ⟨b54, 0, none⟩)), (3, .pointer (some ⟨kb, 0, none⟩)), (18, .slice (some ⟨sb45, k046, none⟩) ops.length c), (19, .int .i64 ((ops.length : Nat) : Int)), (20, .int .i64 i), (6, .pointer (some ⟨kb2, 0, none⟩)), (11, .int .i64 p), (12, .bool true), (95, .pointer (some ⟨kb2, 0, none⟩)), (96, .agg #[.int .u8 x.ev.kind, .int .u32 (IntKind.wrap .u32 (x.ev.pick + 1)), .int .u64 x.ev.draw, .int .u32 x.ev.addr, .int .u32 x.ev.node, .int .u32 x.ev.dst, .int .u32 x.ev.xfer, .int .u8 x.ev.ty, .int .u64 x.ev.arg, .int .u64 x.ev.badge, .slice x.xo x.ev.ws.length x.cx])]) (φ := (b271 = b271 ∧ Nat.ble (0 + 11) 11 = true) ∧ True) (rest := [2]) h283 (by kernel_rfl) rfl ⟨⟨rfl, rfl⟩, trivial⟩ fun a285 h286 => ?_
            clear h283
            refine nd_op ?_
            have hnwkSy : ∀ b ∈ kb2 :: capF bo2 bc2 nd2 C, w.heap.size ≤ b := h286.inv.newOf (j := 1) (p := pKer kb2 bo2 bc2 nd2 S C) rfl
            have hstSy := step_ok kb2 bo2 bc2 nd2 S hok.ri C hok.li hci ({ x.ev with pick := (IntKind.wrap .u32 (x.ev.pick + 1)) } : Ev) hev2 x.xo x.cx _ (h286.inv.get (j := 1) (p := pKer kb2 bo2 bc2 nd2 S C) rfl).ker (h286.inv.get (j := 1) (p := pKer kb2 bo2 bc2 nd2 S C) rfl).cap (h286.inv.get (j := 1) (p := pKer kb2 bo2 bc2 nd2 S C) rfl).nk (cellsK hg1 h286.frame hgs1 (by simp)) (Nat.lt_of_lt_of_le hgs1 h286.frame.size) (by have := hnwkSy kb2 (List.mem_cons_self ..); omega) (fun hq => by have := hnwkSy 1 (List.mem_cons_of_mem _ hq); omega) (words_at (hwd x hxm) h286.frame hnwkSy)
            rw [eySy] at hstSy
            have hgkSy := (h286.inv.get (j := 1) (p := pKer kb2 bo2 bc2 nd2 S C) rfl).nk
            have hglSy := lt_of_heap (h286.inv.get (j := 1) (p := pKer kb2 bo2 bc2 nd2 S C) rfl).ker
            refine op_call h286 rfl rfl rfl (callOk Tryd.func14 (by decide) rfl) (args := [.pointer (some ⟨kb2, 0, none⟩), .agg #[.int .u8 x.ev.kind, .int .u32 (IntKind.wrap .u32 (x.ev.pick + 1)), .int .u64 x.ev.draw, .int .u32 x.ev.addr, .int .u32 x.ev.node, .int .u32 x.ev.dst, .int .u32 x.ev.xfer, .int .u8 x.ev.ty, .int .u64 x.ev.arg, .int .u64 x.ev.badge, .slice x.xo x.ev.ws.length x.cx]]) rfl (hstSy) ?_
            rintro _ w288 ⟨rfl, hkSy, nd8, hcSy, hsSy, hf287⟩
            refine ⟨_, rfl, ?_⟩
            dsimp only at hkSy hcSy hsSy ⊢
            have hnkSy : kb2 ∉ capF bo2 bc2 nd8 Cz := fun hq => (hsSy _ hq).elim hgkSy (fun h => by omega)
            have h289 := (h286.pcSet (j := 1) (p := pKer kb2 bo2 bc2 nd2 S C) (p' := pKer kb2 bo2 bc2 nd8 Sy Cz) (ps' := [pKer kb bo bc nd9 Sz Cz, pKer kb2 bo2 bc2 nd8 Sy Cz]) rfl (pKer_ok ⟨hkSy, hcSy, hnkSy⟩) hf287 (fun _ h => h) (ker_sub hsSy) (kcons (fun _ => (fun hq => by have := h286.inv.newOf (j := 1) (p := pKer kb2 bo2 bc2 nd2 S C) rfl 0 hq; omega)) (kcons (by intro hq; cases hq) (kcons (by intro hq; cases hq) (kcons (by intro hq; cases hq) (kcons (by intro hq; cases hq) (kcons (by intro hq; cases hq) knil)))))) rfl).put (d := some 97) (v := .agg #[.int .u8 oy.code, .int .u16 oy.run.idx, .int .u32 oy.run.gen, .int .u64 oy.badge, .int .u64 oy.m0, .int .u64 oy.m1, .int .u64 oy.m2, .int .u64 oy.m3, .int .u8 oy.len, .int .u8 oy.got]) (T' := [(97, .agg #[.int .u8 oy.code, .int .u16 oy.run.idx, .int .u32 oy.run.gen, .int .u64 oy.badge, .int .u64 oy.m0, .int .u64 oy.m1, .int .u64 oy.m2, .int .u64 oy.m3, .int .u8 oy.len, .int .u8 oy.got]), (13, .pointer (some ⟨b271, 0, none⟩)), (9, .pointer (some ⟨b119, 0, none⟩)), (8, .pointer (some ⟨b91, 0, none⟩)), (7, .pointer (some ⟨b77, 0, none⟩)), (5, .pointer (some ⟨b54, 0, none⟩)), (3, .pointer (some ⟨kb, 0, none⟩)), (18, .slice (some ⟨sb45, k046, none⟩) ops.length c), (19, .int .i64 ((ops.length : Nat) : Int)), (20, .int .i64 i), (6, .pointer (some ⟨kb2, 0, none⟩)), (11, .int .i64 p), (12, .bool true), (95, .pointer (some ⟨kb2, 0, none⟩)), (96, .agg #[.int .u8 x.ev.kind, .int .u32 (IntKind.wrap .u32 (x.ev.pick + 1)), .int .u64 x.ev.draw, .int .u32 x.ev.addr, .int .u32 x.ev.node, .int .u32 x.ev.dst, .int .u32 x.ev.xfer, .int .u8 x.ev.ty, .int .u64 x.ev.arg, .int .u64 x.ev.badge, .slice x.xo x.ev.ws.length x.cx])]) rfl
            have hszh289 : w.heap.size ≤ _ := h286.frame.size
            clear h286
            refine nd_done ?_
            refine hK284 _ _ ?_
            clear hK284
            refine wp_seq_k fun K290 hK290 => ?_
            refine dr_start (KB := [0, b54, b77, b91, b119, b271]) (Bi := [[0, 1, 2, 3, 4, 5], [0, 1, 2, 3, 4, 5], [0, 1, 2, 3, 4, 5], [5], [0, 1, 2, 3, 4, 5], [0, 1, 2, 3, 4, 5], [0, 1, 2, 3, 4, 5], [], [], [0, 1, 2, 3, 4, 5]]) mixed h289 fun w291 h292 => ?_
            clear h289
            refine dr_batch tabOk tabZ_ok (by repeat (first | with_reducible exact PF.body | with_reducible apply PF.inB | with_reducible apply PF.next)) [(0, {}), (1, {}), (2, {k := 1, p := 1}), (4, {}), (5, {}), (6, {k := 5, p := 5})] [13, 9, 8, 7, 5, 3, 18, 19, 20, 6, 11, 12, 98, 100, 102, 104] (T' := [(13, .pointer (some ⟨b271, 0, none⟩)), (9, .pointer (some ⟨b119, 0, none⟩)), (8, .pointer (some ⟨b91, 0, none⟩)), (7, .pointer (some ⟨b77, 0, none⟩)), (5, .pointer (some ⟨b54, 0, none⟩)), (3, .pointer (some ⟨kb, 0, none⟩)), (18, .slice (some ⟨sb45, k046, none⟩) ops.length c), (19, .int .i64 ((ops.length : Nat) : Int)), (20, .int .i64 i), (6, .pointer (some ⟨kb2, 0, none⟩)), (11, .int .i64 p), (12, .bool true), (98, .pointer (some ⟨kb, 0, none⟩)), (100, .int .u32 x.ev.pick), (102, .pointer (some ⟨kb2, 0, none⟩)), (104, .int .u32 (IntKind.wrap .u32 (x.ev.pick + 1)))]) (φ := (b54 = b54 ∧ Nat.ble (1 + 1) 11 = true) ∧ (b271 = b271 ∧ Nat.ble (1 + 1) 11 = true) ∧ True) (fuel := 4) h292 (by kernel_rfl) rfl (by kernel_rfl) (by kernel_rfl) ⟨trivial, trivial, rfl, trivial, trivial, rfl, trivial⟩ ⟨⟨rfl, rfl⟩, ⟨rfl, rfl⟩, trivial⟩ fun a294 h295 => ?_
            clear h292
            refine wpAnyK_one (i := 3) (fuel := 3) (by kernel_rfl) ?_
            refine op_call h295 rfl rfl rfl (callOk Tryd.func31 (by decide) rfl) (args := [.pointer (some ⟨kb, 0, none⟩), .int .u32 x.ev.pick]) rfl (lineUp_ok kb bo bc Sz hivz.1.ri Cz.ent hivz.2.reg.1 Qz hS.liq hXz hcz x.ev.pick (hev x hxm).1.pick _ (h295.inv.get (j := 0) (p := pKer kb bo bc nd9 Sz Cz) rfl).ker (h295.inv.get (j := 0) (p := pKer kb bo bc nd9 Sz Cz) rfl).cap.st (h295.inv.get (j := 0) (p := pKer kb bo bc nd9 Sz Cz) rfl).ne) ?_
            rintro _ w302 ⟨o296, c297, F298, rfl, hr299, hf300, hF301⟩
            refine ⟨_, rfl, ?_⟩
            have h303 := (h295.pcAdd (p' := pRow (rl rfC 39 2 (lineUpP Sz Qz Cz.ent x.ev.pick) o296 c297 F298)) (ps' := [pKer kb bo bc nd9 Sz Cz, pKer kb2 bo2 bc2 nd8 Sy Cz, pRow (rl rfC 39 2 (lineUpP Sz Qz Cz.ent x.ev.pick) o296 c297 F298)]) (pRow_ok hr299) hf300 hF301 rfl).put (d := some 101) (v := .slice o296 ((lineUpP Sz Qz Cz.ent x.ev.pick).length) c297) (T' := [(101, .slice o296 ((lineUpP Sz Qz Cz.ent x.ev.pick).length) c297), (13, .pointer (some ⟨b271, 0, none⟩)), (9, .pointer (some ⟨b119, 0, none⟩)), (8, .pointer (some ⟨b91, 0, none⟩)), (7, .pointer (some ⟨b77, 0, none⟩)), (5, .pointer (some ⟨b54, 0, none⟩)), (3, .pointer (some ⟨kb, 0, none⟩)), (18, .slice (some ⟨sb45, k046, none⟩) ops.length c), (19, .int .i64 ((ops.length : Nat) : Int)), (20, .int .i64 i), (6, .pointer (some ⟨kb2, 0, none⟩)), (11, .int .i64 p), (12, .bool true), (98, .pointer (some ⟨kb, 0, none⟩)), (100, .int .u32 x.ev.pick), (102, .pointer (some ⟨kb2, 0, none⟩)), (104, .int .u32 (IntKind.wrap .u32 (x.ev.pick + 1)))]) rfl
            have hkh303 := h295.known
            refine ⟨(keepOf hkh303 h303.known (kcons (keepAt (q := 5) (q' := 5) rfl rfl) knil)), ?_⟩
            have hszh303 : w.heap.size ≤ _ := h295.frame.size
            clear h295
            refine wpAnyK_one (i := 7) (fuel := 2) (by kernel_rfl) ?_
            refine op_call h303 rfl rfl rfl (callOk Tryd.func31 (by decide) rfl) (args := [.pointer (some ⟨kb2, 0, none⟩), .int .u32 (IntKind.wrap .u32 (x.ev.pick + 1))]) rfl ((by have hq := lineUp_ok kb2 bo2 bc2 Sy hivy.1.ri Cz.ent hivy.2.reg.1 Qy hqy hXy hcy (IntKind.wrap .u32 (x.ev.pick + 1)) hpk2 _ (h303.inv.get (j := 1) (p := pKer kb2 bo2 bc2 nd8 Sy Cz) rfl).ker (h303.inv.get (j := 1) (p := pKer kb2 bo2 bc2 nd8 Sy Cz) rfl).cap.st (h303.inv.get (j := 1) (p := pKer kb2 bo2 bc2 nd8 Sy Cz) rfl).ne; rw [hline] at hq; exact hq)) ?_
            rintro _ w310 ⟨o304, c305, F306, rfl, hr307, hf308, hF309⟩
            refine ⟨_, rfl, ?_⟩
            have h311 := (h303.pcAdd (p' := pRow (rl rfC 39 2 (lineUpP Sz Qz Cz.ent x.ev.pick) o304 c305 F306)) (ps' := [pKer kb bo bc nd9 Sz Cz, pKer kb2 bo2 bc2 nd8 Sy Cz, pRow (rl rfC 39 2 (lineUpP Sz Qz Cz.ent x.ev.pick) o296 c297 F298), pRow (rl rfC 39 2 (lineUpP Sz Qz Cz.ent x.ev.pick) o304 c305 F306)]) (pRow_ok hr307) hf308 hF309 rfl).put (d := some 105) (v := .slice o304 ((lineUpP Sz Qz Cz.ent x.ev.pick).length) c305) (T' := [(105, .slice o304 ((lineUpP Sz Qz Cz.ent x.ev.pick).length) c305), (101, .slice o296 ((lineUpP Sz Qz Cz.ent x.ev.pick).length) c297), (13, .pointer (some ⟨b271, 0, none⟩)), (9, .pointer (some ⟨b119, 0, none⟩)), (8, .pointer (some ⟨b91, 0, none⟩)), (7, .pointer (some ⟨b77, 0, none⟩)), (5, .pointer (some ⟨b54, 0, none⟩)), (3, .pointer (some ⟨kb, 0, none⟩)), (18, .slice (some ⟨sb45, k046, none⟩) ops.length c), (19, .int .i64 ((ops.length : Nat) : Int)), (20, .int .i64 i), (6, .pointer (some ⟨kb2, 0, none⟩)), (11, .int .i64 p), (12, .bool true), (98, .pointer (some ⟨kb, 0, none⟩)), (100, .int .u32 x.ev.pick), (102, .pointer (some ⟨kb2, 0, none⟩)), (104, .int .u32 (IntKind.wrap .u32 (x.ev.pick + 1)))]) rfl
            have hkh311 := h303.known
            refine ⟨keepNil, ?_⟩
            have hszh311 : w.heap.size ≤ _ := h303.frame.size
            clear h303
            refine wpAnyK_one (i := 8) (fuel := 1) (by kernel_rfl) ?_
            refine op_call h311 rfl rfl rfl (callOk Tryd.func23 (by decide) rfl) (args := [.slice o296 ((lineUpP Sz Qz Cz.ent x.ev.pick).length) c297, .slice o304 ((lineUpP Sz Qz Cz.ent x.ev.pick).length) c305]) rfl (equalP hlnl (h311.inv.get (j := 2) (p := pRow (rl rfC 39 2 (lineUpP Sz Qz Cz.ent x.ev.pick) o296 c297 F298)) rfl) (h311.inv.get (j := 3) (p := pRow (rl rfC 39 2 (lineUpP Sz Qz Cz.ent x.ev.pick) o304 c305 F306)) rfl) (Pf_nodup h311.inv.nd (i := 2) (j := 3) (x := pRow (rl rfC 39 2 (lineUpP Sz Qz Cz.ent x.ev.pick) o296 c297 F298)) (y := pRow (rl rfC 39 2 (lineUpP Sz Qz Cz.ent x.ev.pick) o304 c305 F306)) rfl rfl (by decide))) ?_
            rintro _ w312 ⟨rfl, hf314⟩
            refine ⟨_, rfl, ?_⟩
            have h313 := (h311.grow hf314).put (d := some 106) (v := .bool true) (T' := [(106, .bool true), (105, .slice o304 ((lineUpP Sz Qz Cz.ent x.ev.pick).length) c305), (101, .slice o296 ((lineUpP Sz Qz Cz.ent x.ev.pick).length) c297), (13, .pointer (some ⟨b271, 0, none⟩)), (9, .pointer (some ⟨b119, 0, none⟩)), (8, .pointer (some ⟨b91, 0, none⟩)), (7, .pointer (some ⟨b77, 0, none⟩)), (5, .pointer (some ⟨b54, 0, none⟩)), (3, .pointer (some ⟨kb, 0, none⟩)), (18, .slice (some ⟨sb45, k046, none⟩) ops.length c), (19, .int .i64 ((ops.length : Nat) : Int)), (20, .int .i64 i), (6, .pointer (some ⟨kb2, 0, none⟩)), (11, .int .i64 p), (12, .bool true), (98, .pointer (some ⟨kb, 0, none⟩)), (100, .int .u32 x.ev.pick), (102, .pointer (some ⟨kb2, 0, none⟩)), (104, .int .u32 (IntKind.wrap .u32 (x.ev.pick + 1)))]) rfl
            refine ⟨keepNil, ?_⟩
            clear h311
            refine dr_batch tabOk tabZ_ok (by repeat (first | with_reducible exact PF.body | with_reducible apply PF.inB | with_reducible apply PF.next)) [(9, {})] [13, 9, 8, 7, 5, 3, 18, 19, 20, 6, 11, 12, 107] (T' := [(13, .pointer (some ⟨b271, 0, none⟩)), (9, .pointer (some ⟨b119, 0, none⟩)), (8, .pointer (some ⟨b91, 0, none⟩)), (7, .pointer (some ⟨b77, 0, none⟩)), (5, .pointer (some ⟨b54, 0, none⟩)), (3, .pointer (some ⟨kb, 0, none⟩)), (18, .slice (some ⟨sb45, k046, none⟩) ops.length c), (19, .int .i64 ((ops.length : Nat) : Int)), (20, .int .i64 i), (6, .pointer (some ⟨kb2, 0, none⟩)), (11, .int .i64 p), (12, .bool true), (107, .bool false)]) (φ := True) (fuel := 0) h313 (by kernel_rfl) rfl (by kernel_rfl) (by kernel_rfl) ⟨trivial, trivial⟩ trivial fun a315 h316 => ?_
            clear h313
            refine wpAnyK_done (by kernel_rfl) ?_ _
            refine hK290 _ _ ?_
            clear hK290
            refine c_false h316 rfl ?_
            refine wp_skip ?_
            refine hK49 _ _ ?_
            clear hK49
            refine nd_start (l := [0, 1]) rfl ?_
            refine nd_batch tabOk tabZ_ok [(0, {}), (1, {})] [13, 9, 8, 7, 5, 3, 18, 19, 6, 11, 12, 20] (T' := [(13, .pointer (some ⟨b271, 0, none⟩)), (9, .pointer (some ⟨b119, 0, none⟩)), (8, .pointer (some ⟨b91, 0, none⟩)), (7, .pointer (some ⟨b77, 0, none⟩)), (5, .pointer (some ⟨b54, 0, none⟩)), (3, .pointer (some ⟨kb, 0, none⟩)), (18, .slice (some ⟨sb45, k046, none⟩) ops.length c), (19, .int .i64 ((ops.length : Nat) : Int)), (6, .pointer (some ⟨kb2, 0, none⟩)), (11, .int .i64 p), (12, .bool true), (20, .int .i64 (i + 1))]) (φ := inR .i64 (i + 1) ∧ True) (rest := []) h316 (by kernel_rfl) rfl ⟨⟨by omega, by omega⟩, trivial⟩ fun a317 h318 => ?_
            clear h316
            refine nd_done ?_
            have h319 := h318.memMono (L' := [(0, ⟨[.int .u16 0, .int .u32 0], ty0, true⟩)]) (List.Sublist.cons_cons _ (List.Sublist.cons _ (List.Sublist.cons _ (List.Sublist.cons _ (List.Sublist.cons _ (List.Sublist.cons _ List.Sublist.slnil))))))
            clear h318
            have h320 := h319.pcSub (ps' := [pKer kb bo bc nd9 Sz Cz]) (List.Sublist.cons_cons _ (List.Sublist.cons _ (List.Sublist.cons _ (List.Sublist.cons _ List.Sublist.slnil))))
            clear h319
            exact ⟨(g - 1), by omega, nd9, Sz, Cz, Qz, (i + 1), by omega, ⟨by omega, by omega⟩, hivz.1, hivz.2, hXz, hS.liq, hS.top, hWz, hGz, (h320.slotsMono (restr_spec (keep := [3, 18, 19, 20]) rfl))⟩
        by_cases hk0 : x.ev.kind = 0
        ·
          by_cases hcz0 : oz.code = 0
          rotate_left
          ·
            refine wp_exit ?_
            refine hK129 _ _ ?_
            clear hK129
            refine wp_seq_k fun K321 hK321 => ?_
            refine dr_start (KB := [0, b54, b77, b91, b119]) (Bi := [[0, 1, 2, 3, 4], [2], [0, 1, 2, 3, 4], [0, 1, 2, 3, 4], [0, 1, 2, 3, 4], [0, 1, 2, 3, 4], [0, 1, 2, 3, 4], [0, 1, 2, 3, 4], [0, 1, 2, 3, 4], [0, 1, 2, 3, 4], [0, 1, 2, 3, 4], [0, 1, 2, 3, 4], [0, 1, 2, 3, 4], [0, 1, 2, 3, 4], [0, 1, 2, 3, 4]]) mixed h141 fun w322 h323 => ?_
            clear h141
            refine dr_batch tabOk tabZ_ok (by repeat (first | with_reducible exact PF.body | with_reducible apply PF.inB | with_reducible apply PF.next)) [(0, {}), (2, {k := 2, p := 2})] [9, 8, 7, 5, 3, 18, 19, 20, 6, 11, 63, 65] (T' := [(9, .pointer (some ⟨b119, 0, none⟩)), (8, .pointer (some ⟨b91, 0, none⟩)), (7, .pointer (some ⟨b77, 0, none⟩)), (5, .pointer (some ⟨b54, 0, none⟩)), (3, .pointer (some ⟨kb, 0, none⟩)), (18, .slice (some ⟨sb45, k046, none⟩) ops.length c), (19, .int .i64 ((ops.length : Nat) : Int)), (20, .int .i64 i), (6, .pointer (some ⟨kb2, 0, none⟩)), (11, .int .i64 p), (63, .pointer (some ⟨kb, 0, none⟩)), (65, .agg #[.int .u16 ((refP C.ent S.cur).idx), .int .u32 ((refP C.ent S.cur).gen)])]) (φ := (b77 = b77 ∧ Nat.ble (0 + 2) 2 = true) ∧ True) (fuel := 13) h323 (by kernel_rfl) rfl (by kernel_rfl) (by kernel_rfl) ⟨trivial, rfl, trivial⟩ ⟨⟨rfl, rfl⟩, trivial⟩ fun a325 h326 => ?_
            clear h323
            refine wpAnyK_one (i := 1) (fuel := 12) (by kernel_rfl) ?_
            refine op_call h326 rfl rfl rfl (callOk Tryd.func18 (by decide) rfl) (args := [.pointer (some ⟨kb, 0, none⟩)]) rfl (running_ok kb bo bc Sz hivz.1.ri Cz.ent _ (h326.inv.get (j := 0) (p := pKer kb bo bc nd9 Sz Cz) rfl).ker (h326.inv.get (j := 0) (p := pKer kb bo bc nd9 Sz Cz) rfl).cap.st (h326.inv.get (j := 0) (p := pKer kb bo bc nd9 Sz Cz) rfl).ne) ?_
            rintro _ w327 ⟨rfl, hf329⟩
            refine ⟨_, rfl, ?_⟩
            have h328 := (h326.grow hf329).put (d := some 64) (v := .agg #[.int .u16 ((refP Cz.ent Sz.cur).idx), .int .u32 ((refP Cz.ent Sz.cur).gen)]) (T' := [(64, .agg #[.int .u16 ((refP Cz.ent Sz.cur).idx), .int .u32 ((refP Cz.ent Sz.cur).gen)]), (9, .pointer (some ⟨b119, 0, none⟩)), (8, .pointer (some ⟨b91, 0, none⟩)), (7, .pointer (some ⟨b77, 0, none⟩)), (5, .pointer (some ⟨b54, 0, none⟩)), (3, .pointer (some ⟨kb, 0, none⟩)), (18, .slice (some ⟨sb45, k046, none⟩) ops.length c), (19, .int .i64 ((ops.length : Nat) : Int)), (20, .int .i64 i), (6, .pointer (some ⟨kb2, 0, none⟩)), (11, .int .i64 p), (63, .pointer (some ⟨kb, 0, none⟩)), (65, .agg #[.int .u16 ((refP C.ent S.cur).idx), .int .u32 ((refP C.ent S.cur).gen)])]) rfl
            refine ⟨(h326.keepFr hf329 (kcons (by simp) knil)), ?_⟩
            clear h326
            refine dr_batch tabOk tabZ_ok (by repeat (first | with_reducible exact PF.body | with_reducible apply PF.inB | with_reducible apply PF.next)) [(3, {f := 1}), (4, {}), (5, {}), (6, {k := 1, p := 1}), (7, {f := 2}), (8, {}), (9, {}), (10, {}), (11, {k := 0, p := 0}), (12, {}), (13, {}), (14, {})] [9, 8, 7, 5, 3, 18, 19, 20, 6, 11, 12] (T' := [(9, .pointer (some ⟨b119, 0, none⟩)), (8, .pointer (some ⟨b91, 0, none⟩)), (7, .pointer (some ⟨b77, 0, none⟩)), (5, .pointer (some ⟨b54, 0, none⟩)), (3, .pointer (some ⟨kb, 0, none⟩)), (18, .slice (some ⟨sb45, k046, none⟩) ops.length c), (19, .int .i64 ((ops.length : Nat) : Int)), (20, .int .i64 i), (6, .pointer (some ⟨kb2, 0, none⟩)), (11, .int .i64 p), (12, .bool true)]) (φ := EqRun Tryd.prog 39 (.agg #[.int .u16 ((refP Cz.ent Sz.cur).idx), .int .u32 ((refP Cz.ent Sz.cur).gen)]) (.agg #[.int .u16 ((refP C.ent S.cur).idx), .int .u32 ((refP C.ent S.cur).gen)]) true ∧ (b54 = b54 ∧ Nat.ble (0 + 1) 11 = true) ∧ ((x.ev.kind == 0)) = true ∧ True) (fuel := 0) h328 (by kernel_rfl) rfl (by kernel_rfl) (by kernel_rfl) ⟨trivial, trivial, trivial, rfl, trivial, trivial, trivial, trivial, rfl, trivial, trivial, trivial, trivial⟩ ⟨(runRfD (a := refP Cz.ent Sz.cur) (b := refP C.ent S.cur) (by simp [hrf])), ⟨rfl, rfl⟩, (by simp [hk0]), trivial⟩ fun a330 h331 => ?_
            clear h328
            refine wpAnyK_done (by kernel_rfl) ?_ _
            refine hK321 _ _ ?_
            clear hK321
            refine wp_seq_k fun K332 hK332 => ?_
            refine wp_seq_k fun K333 hK333 => ?_
            refine dr_start (KB := [0, b54, b77, b91, b119]) (Bi := [[0, 1, 2, 3, 4], [0, 1, 2, 3, 4], [0, 1, 2, 3, 4], [0, 1, 2, 3, 4], [0, 1, 2, 3, 4], [0, 1, 2, 3, 4], [0, 1, 2, 3, 4], [0, 1, 2, 3, 4], [0, 1, 2, 3, 4], [0], [0, 1, 2, 3, 4], [0, 1, 2, 3, 4], [0, 1, 2, 3, 4]]) mixed h331 fun w334 h335 => ?_
            clear h331
            refine dr_batch tabOk tabZ_ok (by repeat (first | with_reducible exact PF.body | with_reducible apply PF.inB | with_reducible apply PF.next)) [(0, {}), (1, {k := 3, p := 3}), (2, {f := 2}), (3, {}), (4, {}), (5, {}), (6, {}), (7, {}), (8, {}), (10, {k := 0, p := 0})] [9, 8, 7, 5, 3, 18, 19, 20, 6, 11, 12, 84, 85, 87] (T' := [(9, .pointer (some ⟨b119, 0, none⟩)), (8, .pointer (some ⟨b91, 0, none⟩)), (7, .pointer (some ⟨b77, 0, none⟩)), (5, .pointer (some ⟨b54, 0, none⟩)), (3, .pointer (some ⟨kb, 0, none⟩)), (18, .slice (some ⟨sb45, k046, none⟩) ops.length c), (19, .int .i64 ((ops.length : Nat) : Int)), (20, .int .i64 i), (6, .pointer (some ⟨kb2, 0, none⟩)), (11, .int .i64 p), (12, .bool true), (84, .bool true), (85, .tuple #[]), (87, .tuple #[])]) (φ := (b91 = b91 ∧ Nat.ble (0 + 1) 10 = true) ∧ ((oz.code != 0)) = true ∧ True) (fuel := 3) h335 (by kernel_rfl) rfl (by kernel_rfl) (by kernel_rfl) ⟨trivial, rfl, trivial, trivial, trivial, trivial, trivial, trivial, trivial, rfl, trivial⟩ ⟨⟨rfl, rfl⟩, (by simp [hcz0]), trivial⟩ fun a337 h338 => ?_
            clear h335
            refine dr_batch tabOk tabZ_ok (by repeat (first | with_reducible exact PF.body | with_reducible apply PF.inB | with_reducible apply PF.next)) [(9, {})] [9, 8, 7, 5, 3, 18, 19, 20, 6, 11, 12, 84, 87, 86] (T' := [(9, .pointer (some ⟨b119, 0, none⟩)), (8, .pointer (some ⟨b91, 0, none⟩)), (7, .pointer (some ⟨b77, 0, none⟩)), (5, .pointer (some ⟨b54, 0, none⟩)), (3, .pointer (some ⟨kb, 0, none⟩)), (18, .slice (some ⟨sb45, k046, none⟩) ops.length c), (19, .int .i64 ((ops.length : Nat) : Int)), (20, .int .i64 i), (6, .pointer (some ⟨kb2, 0, none⟩)), (11, .int .i64 p), (12, .bool true), (84, .bool true), (87, .tuple #[]), (86, .tuple #[])]) (φ := True) (fuel := 2) h338 (by kernel_rfl) rfl (by kernel_rfl) (by kernel_rfl) ⟨trivial, trivial⟩ trivial fun a339 h340 => ?_
            clear h338
            refine dr_batch tabOk tabZ_ok (by repeat (first | with_reducible exact PF.body | with_reducible apply PF.inB | with_reducible apply PF.next)) [(11, {}), (12, {})] [9, 8, 7, 5, 3, 18, 19, 20, 6, 11, 12, 89] (T' := [(9, .pointer (some ⟨b119, 0, none⟩)), (8, .pointer (some ⟨b91, 0, none⟩)), (7, .pointer (some ⟨b77, 0, none⟩)), (5, .pointer (some ⟨b54, 0, none⟩)), (3, .pointer (some ⟨kb, 0, none⟩)), (18, .slice (some ⟨sb45, k046, none⟩) ops.length c), (19, .int .i64 ((ops.length : Nat) : Int)), (20, .int .i64 i), (6, .pointer (some ⟨kb2, 0, none⟩)), (11, .int .i64 p), (12, .bool true), (89, .bool true)]) (φ := True) (fuel := 0) h340 (by kernel_rfl) rfl (by kernel_rfl) (by kernel_rfl) ⟨trivial, trivial, trivial⟩ trivial fun a341 h342 => ?_
            clear h340
            refine wpAnyK_done (by kernel_rfl) ?_ _
            refine hK333 _ _ ?_
            clear hK333
            refine c_true h342 rfl ?_
            refine wp_exit ?_
            refine hK49 _ _ ?_
            clear hK49
            refine nd_start (l := [0, 1]) rfl ?_
            refine nd_batch tabOk tabZ_ok [(0, {}), (1, {})] [9, 8, 7, 5, 3, 18, 19, 6, 11, 12, 20] (T' := [(9, .pointer (some ⟨b119, 0, none⟩)), (8, .pointer (some ⟨b91, 0, none⟩)), (7, .pointer (some ⟨b77, 0, none⟩)), (5, .pointer (some ⟨b54, 0, none⟩)), (3, .pointer (some ⟨kb, 0, none⟩)), (18, .slice (some ⟨sb45, k046, none⟩) ops.length c), (19, .int .i64 ((ops.length : Nat) : Int)), (6, .pointer (some ⟨kb2, 0, none⟩)), (11, .int .i64 p), (12, .bool true), (20, .int .i64 (i + 1))]) (φ := inR .i64 (i + 1) ∧ True) (rest := []) h342 (by kernel_rfl) rfl ⟨⟨by omega, by omega⟩, trivial⟩ fun a343 h344 => ?_
            clear h342
            refine nd_done ?_
            have h345 := h344.memMono (L' := [(0, ⟨[.int .u16 0, .int .u32 0], ty0, true⟩)]) (List.Sublist.cons_cons _ (List.Sublist.cons _ (List.Sublist.cons _ (List.Sublist.cons _ (List.Sublist.cons _ List.Sublist.slnil)))))
            clear h344
            have h346 := h345.pcSub (ps' := [pKer kb bo bc nd9 Sz Cz]) (List.Sublist.cons_cons _ (List.Sublist.cons _ List.Sublist.slnil))
            clear h345
            exact ⟨(g - 1), by omega, nd9, Sz, Cz, Qz, (i + 1), by omega, ⟨by omega, by omega⟩, hivz.1, hivz.2, hXz, hS.liq, hS.top, hWz, hGz, (h346.slotsMono (restr_spec (keep := [3, 18, 19, 20]) rfl))⟩
          by_cases hidl : Sz.cur = -1
          ·
            have hzz : refP Cz.ent Sz.cur = ⟨0, 0⟩ := by unfold refP; rw [if_pos hidl]
            refine wp_exit ?_
            refine hK129 _ _ ?_
            clear hK129
            refine wp_seq_k fun K347 hK347 => ?_
            refine dr_start (KB := [0, b54, b77, b91, b119]) (Bi := [[0, 1, 2, 3, 4], [2], [0, 1, 2, 3, 4], [0, 1, 2, 3, 4], [0, 1, 2, 3, 4], [0, 1, 2, 3, 4], [0, 1, 2, 3, 4], [0, 1, 2, 3, 4], [0, 1, 2, 3, 4], [0, 1, 2, 3, 4], [0, 1, 2, 3, 4], [0, 1, 2, 3, 4], [0, 1, 2, 3, 4], [0, 1, 2, 3, 4], [0, 1, 2, 3, 4]]) mixed h141 fun w348 h349 => ?_
            clear h141
            refine dr_batch tabOk tabZ_ok (by repeat (first | with_reducible exact PF.body | with_reducible apply PF.inB | with_reducible apply PF.next)) [(0, {}), (2, {k := 2, p := 2})] [9, 8, 7, 5, 3, 18, 19, 20, 6, 11, 63, 65] (T' := [(9, .pointer (some ⟨b119, 0, none⟩)), (8, .pointer (some ⟨b91, 0, none⟩)), (7, .pointer (some ⟨b77, 0, none⟩)), (5, .pointer (some ⟨b54, 0, none⟩)), (3, .pointer (some ⟨kb, 0, none⟩)), (18, .slice (some ⟨sb45, k046, none⟩) ops.length c), (19, .int .i64 ((ops.length : Nat) : Int)), (20, .int .i64 i), (6, .pointer (some ⟨kb2, 0, none⟩)), (11, .int .i64 p), (63, .pointer (some ⟨kb, 0, none⟩)), (65, .agg #[.int .u16 ((refP C.ent S.cur).idx), .int .u32 ((refP C.ent S.cur).gen)])]) (φ := (b77 = b77 ∧ Nat.ble (0 + 2) 2 = true) ∧ True) (fuel := 13) h349 (by kernel_rfl) rfl (by kernel_rfl) (by kernel_rfl) ⟨trivial, rfl, trivial⟩ ⟨⟨rfl, rfl⟩, trivial⟩ fun a351 h352 => ?_
            clear h349
            refine wpAnyK_one (i := 1) (fuel := 12) (by kernel_rfl) ?_
            refine op_call h352 rfl rfl rfl (callOk Tryd.func18 (by decide) rfl) (args := [.pointer (some ⟨kb, 0, none⟩)]) rfl (running_ok kb bo bc Sz hivz.1.ri Cz.ent _ (h352.inv.get (j := 0) (p := pKer kb bo bc nd9 Sz Cz) rfl).ker (h352.inv.get (j := 0) (p := pKer kb bo bc nd9 Sz Cz) rfl).cap.st (h352.inv.get (j := 0) (p := pKer kb bo bc nd9 Sz Cz) rfl).ne) ?_
            rintro _ w353 ⟨rfl, hf355⟩
            refine ⟨_, rfl, ?_⟩
            have h354 := (h352.grow hf355).put (d := some 64) (v := .agg #[.int .u16 ((refP Cz.ent Sz.cur).idx), .int .u32 ((refP Cz.ent Sz.cur).gen)]) (T' := [(64, .agg #[.int .u16 ((refP Cz.ent Sz.cur).idx), .int .u32 ((refP Cz.ent Sz.cur).gen)]), (9, .pointer (some ⟨b119, 0, none⟩)), (8, .pointer (some ⟨b91, 0, none⟩)), (7, .pointer (some ⟨b77, 0, none⟩)), (5, .pointer (some ⟨b54, 0, none⟩)), (3, .pointer (some ⟨kb, 0, none⟩)), (18, .slice (some ⟨sb45, k046, none⟩) ops.length c), (19, .int .i64 ((ops.length : Nat) : Int)), (20, .int .i64 i), (6, .pointer (some ⟨kb2, 0, none⟩)), (11, .int .i64 p), (63, .pointer (some ⟨kb, 0, none⟩)), (65, .agg #[.int .u16 ((refP C.ent S.cur).idx), .int .u32 ((refP C.ent S.cur).gen)])]) rfl
            refine ⟨(h352.keepFr hf355 (kcons (by simp) knil)), ?_⟩
            clear h352
            refine dr_batch tabOk tabZ_ok (by repeat (first | with_reducible exact PF.body | with_reducible apply PF.inB | with_reducible apply PF.next)) [(3, {f := 1}), (4, {}), (5, {}), (6, {k := 1, p := 1}), (7, {f := 2}), (8, {}), (9, {}), (10, {}), (11, {k := 0, p := 0}), (12, {}), (13, {}), (14, {})] [9, 8, 7, 5, 3, 18, 19, 20, 6, 11, 12] (T' := [(9, .pointer (some ⟨b119, 0, none⟩)), (8, .pointer (some ⟨b91, 0, none⟩)), (7, .pointer (some ⟨b77, 0, none⟩)), (5, .pointer (some ⟨b54, 0, none⟩)), (3, .pointer (some ⟨kb, 0, none⟩)), (18, .slice (some ⟨sb45, k046, none⟩) ops.length c), (19, .int .i64 ((ops.length : Nat) : Int)), (20, .int .i64 i), (6, .pointer (some ⟨kb2, 0, none⟩)), (11, .int .i64 p), (12, .bool true)]) (φ := EqRun Tryd.prog 39 (.agg #[.int .u16 ((refP Cz.ent Sz.cur).idx), .int .u32 ((refP Cz.ent Sz.cur).gen)]) (.agg #[.int .u16 ((refP C.ent S.cur).idx), .int .u32 ((refP C.ent S.cur).gen)]) true ∧ (b54 = b54 ∧ Nat.ble (0 + 1) 11 = true) ∧ ((x.ev.kind == 0)) = true ∧ True) (fuel := 0) h354 (by kernel_rfl) rfl (by kernel_rfl) (by kernel_rfl) ⟨trivial, trivial, trivial, rfl, trivial, trivial, trivial, trivial, rfl, trivial, trivial, trivial, trivial⟩ ⟨(runRfD (a := refP Cz.ent Sz.cur) (b := refP C.ent S.cur) (by simp [hrf])), ⟨rfl, rfl⟩, (by simp [hk0]), trivial⟩ fun a356 h357 => ?_
            clear h354
            refine wpAnyK_done (by kernel_rfl) ?_ _
            refine hK347 _ _ ?_
            clear hK347
            refine wp_seq_k fun K358 hK358 => ?_
            refine wp_seq_k fun K359 hK359 => ?_
            refine dr_start (KB := [0, b54, b77, b91, b119]) (Bi := [[0, 1, 2, 3, 4], [0, 1, 2, 3, 4], [0, 1, 2, 3, 4], [0, 1, 2, 3, 4], [0, 1, 2, 3, 4], [0, 1, 2, 3, 4], [0, 1, 2, 3, 4], [0, 1, 2, 3, 4], [0, 1, 2, 3, 4], [0], [0, 1, 2, 3, 4], [0, 1, 2, 3, 4], [0, 1, 2, 3, 4]]) mixed h357 fun w360 h361 => ?_
            clear h357
            refine dr_batch tabOk tabZ_ok (by repeat (first | with_reducible exact PF.body | with_reducible apply PF.inB | with_reducible apply PF.next)) [(0, {}), (1, {k := 3, p := 3}), (2, {f := 1}), (3, {}), (4, {}), (5, {}), (6, {}), (7, {}), (8, {}), (10, {k := 0, p := 0})] [9, 8, 7, 5, 3, 18, 19, 20, 6, 11, 12, 84, 85, 87] (T' := [(9, .pointer (some ⟨b119, 0, none⟩)), (8, .pointer (some ⟨b91, 0, none⟩)), (7, .pointer (some ⟨b77, 0, none⟩)), (5, .pointer (some ⟨b54, 0, none⟩)), (3, .pointer (some ⟨kb, 0, none⟩)), (18, .slice (some ⟨sb45, k046, none⟩) ops.length c), (19, .int .i64 ((ops.length : Nat) : Int)), (20, .int .i64 i), (6, .pointer (some ⟨kb2, 0, none⟩)), (11, .int .i64 p), (12, .bool true), (84, .bool false), (85, .pointer (some ⟨kb, 0, none⟩)), (87, .agg #[.int .u16 0, .int .u32 0])]) (φ := (b91 = b91 ∧ Nat.ble (0 + 1) 10 = true) ∧ ((oz.code != 0)) = false ∧ (0 = 0 ∧ Nat.ble (0 + 2) 2 = true) ∧ True) (fuel := 3) h361 (by kernel_rfl) rfl (by kernel_rfl) (by kernel_rfl) ⟨trivial, rfl, trivial, trivial, trivial, trivial, trivial, trivial, trivial, rfl, trivial⟩ ⟨⟨rfl, rfl⟩, (by simp [hcz0]), ⟨rfl, rfl⟩, trivial⟩ fun a363 h364 => ?_
            clear h361
            refine wpAnyK_one (i := 9) (fuel := 2) (by kernel_rfl) ?_
            refine op_call h364 rfl rfl rfl (callOk Tryd.func18 (by decide) rfl) (args := [.pointer (some ⟨kb, 0, none⟩)]) rfl (running_ok kb bo bc Sz hivz.1.ri Cz.ent _ (h364.inv.get (j := 0) (p := pKer kb bo bc nd9 Sz Cz) rfl).ker (h364.inv.get (j := 0) (p := pKer kb bo bc nd9 Sz Cz) rfl).cap.st (h364.inv.get (j := 0) (p := pKer kb bo bc nd9 Sz Cz) rfl).ne) ?_
            rintro _ w365 ⟨rfl, hf367⟩
            refine ⟨_, rfl, ?_⟩
            have h366 := (h364.grow hf367).put (d := some 86) (v := .agg #[.int .u16 ((refP Cz.ent Sz.cur).idx), .int .u32 ((refP Cz.ent Sz.cur).gen)]) (T' := [(86, .agg #[.int .u16 ((refP Cz.ent Sz.cur).idx), .int .u32 ((refP Cz.ent Sz.cur).gen)]), (9, .pointer (some ⟨b119, 0, none⟩)), (8, .pointer (some ⟨b91, 0, none⟩)), (7, .pointer (some ⟨b77, 0, none⟩)), (5, .pointer (some ⟨b54, 0, none⟩)), (3, .pointer (some ⟨kb, 0, none⟩)), (18, .slice (some ⟨sb45, k046, none⟩) ops.length c), (19, .int .i64 ((ops.length : Nat) : Int)), (20, .int .i64 i), (6, .pointer (some ⟨kb2, 0, none⟩)), (11, .int .i64 p), (12, .bool true), (84, .bool false), (85, .pointer (some ⟨kb, 0, none⟩)), (87, .agg #[.int .u16 0, .int .u32 0])]) rfl
            refine ⟨(h364.keepFr hf367 (kcons (by simp) knil)), ?_⟩
            clear h364
            refine dr_batch tabOk tabZ_ok (by repeat (first | with_reducible exact PF.body | with_reducible apply PF.inB | with_reducible apply PF.next)) [(11, {f := 2}), (12, {})] [9, 8, 7, 5, 3, 18, 19, 20, 6, 11, 12, 89] (T' := [(9, .pointer (some ⟨b119, 0, none⟩)), (8, .pointer (some ⟨b91, 0, none⟩)), (7, .pointer (some ⟨b77, 0, none⟩)), (5, .pointer (some ⟨b54, 0, none⟩)), (3, .pointer (some ⟨kb, 0, none⟩)), (18, .slice (some ⟨sb45, k046, none⟩) ops.length c), (19, .int .i64 ((ops.length : Nat) : Int)), (20, .int .i64 i), (6, .pointer (some ⟨kb2, 0, none⟩)), (11, .int .i64 p), (12, .bool true), (89, .bool true)]) (φ := EqRun Tryd.prog 39 (.agg #[.int .u16 ((refP Cz.ent Sz.cur).idx), .int .u32 ((refP Cz.ent Sz.cur).gen)]) (.agg #[.int .u16 0, .int .u32 0]) true ∧ True) (fuel := 0) h366 (by kernel_rfl) rfl (by kernel_rfl) (by kernel_rfl) ⟨trivial, trivial, trivial⟩ ⟨(runRfD (a := refP Cz.ent Sz.cur) (b := ⟨0, 0⟩) (by simp [hzz])), trivial⟩ fun a368 h369 => ?_
            clear h366
            refine wpAnyK_done (by kernel_rfl) ?_ _
            refine hK359 _ _ ?_
            clear hK359
            refine c_true h369 rfl ?_
            refine wp_exit ?_
            refine hK49 _ _ ?_
            clear hK49
            refine nd_start (l := [0, 1]) rfl ?_
            refine nd_batch tabOk tabZ_ok [(0, {}), (1, {})] [9, 8, 7, 5, 3, 18, 19, 6, 11, 12, 20] (T' := [(9, .pointer (some ⟨b119, 0, none⟩)), (8, .pointer (some ⟨b91, 0, none⟩)), (7, .pointer (some ⟨b77, 0, none⟩)), (5, .pointer (some ⟨b54, 0, none⟩)), (3, .pointer (some ⟨kb, 0, none⟩)), (18, .slice (some ⟨sb45, k046, none⟩) ops.length c), (19, .int .i64 ((ops.length : Nat) : Int)), (6, .pointer (some ⟨kb2, 0, none⟩)), (11, .int .i64 p), (12, .bool true), (20, .int .i64 (i + 1))]) (φ := inR .i64 (i + 1) ∧ True) (rest := []) h369 (by kernel_rfl) rfl ⟨⟨by omega, by omega⟩, trivial⟩ fun a370 h371 => ?_
            clear h369
            refine nd_done ?_
            have h372 := h371.memMono (L' := [(0, ⟨[.int .u16 0, .int .u32 0], ty0, true⟩)]) (List.Sublist.cons_cons _ (List.Sublist.cons _ (List.Sublist.cons _ (List.Sublist.cons _ (List.Sublist.cons _ List.Sublist.slnil)))))
            clear h371
            have h373 := h372.pcSub (ps' := [pKer kb bo bc nd9 Sz Cz]) (List.Sublist.cons_cons _ (List.Sublist.cons _ List.Sublist.slnil))
            clear h372
            exact ⟨(g - 1), by omega, nd9, Sz, Cz, Qz, (i + 1), by omega, ⟨by omega, by omega⟩, hivz.1, hivz.2, hXz, hS.liq, hS.top, hWz, hGz, (h373.slotsMono (restr_spec (keep := [3, 18, 19, 20]) rfl))⟩
          ·
            have hcz := lk_nat hivz.1.ri.cur hidl
            have hcr := ref_live_none hGz hcz
            have hpk2 : 0 ≤ (IntKind.wrap .u32 (x.ev.pick + 1)) ∧ (IntKind.wrap .u32 (x.ev.pick + 1)) < 4294967296 := wrap_u32 _
            obtain ⟨Sy, oy, Qy, eySy, hqy, hcy, hline⟩ := hS.line hcz0 (.inr (.inl hk0)) hidl (IntKind.wrap .u32 (x.ev.pick + 1)) hpk2.1
            have hev2 : EvOk ({ x.ev with pick := (IntKind.wrap .u32 (x.ev.pick + 1)) } : Ev) := ⟨(hev x hxm).1.kind, hpk2, (hev x hxm).1.addr, (hev x hxm).1.node, (hev x hxm).1.dst, (hev x hxm).1.ty, (hev x hxm).1.arg⟩
            have hivy := step_inv hok hci hev2
            rw [eySy] at hivy
            dsimp only at hivy
            have hXy := hX.step hok hci hev2
            rw [eySy] at hXy
            dsimp only at hXy
            have hlnl : (lineUpP Sz Qz Cz.ent x.ev.pick).length ≤ 1000 := line_len hivz.1.ri hS.liq hcz (hev x hxm).1.pick
            refine wp_exit ?_
            refine hK129 _ _ ?_
            clear hK129
            refine wp_seq_k fun K374 hK374 => ?_
            refine dr_start (KB := [0, b54, b77, b91, b119]) (Bi := [[0, 1, 2, 3, 4], [2], [0, 1, 2, 3, 4], [0, 1, 2, 3, 4], [0, 1, 2, 3, 4], [0, 1, 2, 3, 4], [0, 1, 2, 3, 4], [0, 1, 2, 3, 4], [0, 1, 2, 3, 4], [0, 1, 2, 3, 4], [0, 1, 2, 3, 4], [0, 1, 2, 3, 4], [0, 1, 2, 3, 4], [0, 1, 2, 3, 4], [0, 1, 2, 3, 4]]) mixed h141 fun w375 h376 => ?_
            clear h141
            refine dr_batch tabOk tabZ_ok (by repeat (first | with_reducible exact PF.body | with_reducible apply PF.inB | with_reducible apply PF.next)) [(0, {}), (2, {k := 2, p := 2})] [9, 8, 7, 5, 3, 18, 19, 20, 6, 11, 63, 65] (T' := [(9, .pointer (some ⟨b119, 0, none⟩)), (8, .pointer (some ⟨b91, 0, none⟩)), (7, .pointer (some ⟨b77, 0, none⟩)), (5, .pointer (some ⟨b54, 0, none⟩)), (3, .pointer (some ⟨kb, 0, none⟩)), (18, .slice (some ⟨sb45, k046, none⟩) ops.length c), (19, .int .i64 ((ops.length : Nat) : Int)), (20, .int .i64 i), (6, .pointer (some ⟨kb2, 0, none⟩)), (11, .int .i64 p), (63, .pointer (some ⟨kb, 0, none⟩)), (65, .agg #[.int .u16 ((refP C.ent S.cur).idx), .int .u32 ((refP C.ent S.cur).gen)])]) (φ := (b77 = b77 ∧ Nat.ble (0 + 2) 2 = true) ∧ True) (fuel := 13) h376 (by kernel_rfl) rfl (by kernel_rfl) (by kernel_rfl) ⟨trivial, rfl, trivial⟩ ⟨⟨rfl, rfl⟩, trivial⟩ fun a378 h379 => ?_
            clear h376
            refine wpAnyK_one (i := 1) (fuel := 12) (by kernel_rfl) ?_
            refine op_call h379 rfl rfl rfl (callOk Tryd.func18 (by decide) rfl) (args := [.pointer (some ⟨kb, 0, none⟩)]) rfl (running_ok kb bo bc Sz hivz.1.ri Cz.ent _ (h379.inv.get (j := 0) (p := pKer kb bo bc nd9 Sz Cz) rfl).ker (h379.inv.get (j := 0) (p := pKer kb bo bc nd9 Sz Cz) rfl).cap.st (h379.inv.get (j := 0) (p := pKer kb bo bc nd9 Sz Cz) rfl).ne) ?_
            rintro _ w380 ⟨rfl, hf382⟩
            refine ⟨_, rfl, ?_⟩
            have h381 := (h379.grow hf382).put (d := some 64) (v := .agg #[.int .u16 ((refP Cz.ent Sz.cur).idx), .int .u32 ((refP Cz.ent Sz.cur).gen)]) (T' := [(64, .agg #[.int .u16 ((refP Cz.ent Sz.cur).idx), .int .u32 ((refP Cz.ent Sz.cur).gen)]), (9, .pointer (some ⟨b119, 0, none⟩)), (8, .pointer (some ⟨b91, 0, none⟩)), (7, .pointer (some ⟨b77, 0, none⟩)), (5, .pointer (some ⟨b54, 0, none⟩)), (3, .pointer (some ⟨kb, 0, none⟩)), (18, .slice (some ⟨sb45, k046, none⟩) ops.length c), (19, .int .i64 ((ops.length : Nat) : Int)), (20, .int .i64 i), (6, .pointer (some ⟨kb2, 0, none⟩)), (11, .int .i64 p), (63, .pointer (some ⟨kb, 0, none⟩)), (65, .agg #[.int .u16 ((refP C.ent S.cur).idx), .int .u32 ((refP C.ent S.cur).gen)])]) rfl
            refine ⟨(h379.keepFr hf382 (kcons (by simp) knil)), ?_⟩
            clear h379
            refine dr_batch tabOk tabZ_ok (by repeat (first | with_reducible exact PF.body | with_reducible apply PF.inB | with_reducible apply PF.next)) [(3, {f := 1}), (4, {}), (5, {}), (6, {k := 1, p := 1}), (7, {f := 2}), (8, {}), (9, {}), (10, {}), (11, {k := 0, p := 0}), (12, {}), (13, {}), (14, {})] [9, 8, 7, 5, 3, 18, 19, 20, 6, 11, 12] (T' := [(9, .pointer (some ⟨b119, 0, none⟩)), (8, .pointer (some ⟨b91, 0, none⟩)), (7, .pointer (some ⟨b77, 0, none⟩)), (5, .pointer (some ⟨b54, 0, none⟩)), (3, .pointer (some ⟨kb, 0, none⟩)), (18, .slice (some ⟨sb45, k046, none⟩) ops.length c), (19, .int .i64 ((ops.length : Nat) : Int)), (20, .int .i64 i), (6, .pointer (some ⟨kb2, 0, none⟩)), (11, .int .i64 p), (12, .bool true)]) (φ := EqRun Tryd.prog 39 (.agg #[.int .u16 ((refP Cz.ent Sz.cur).idx), .int .u32 ((refP Cz.ent Sz.cur).gen)]) (.agg #[.int .u16 ((refP C.ent S.cur).idx), .int .u32 ((refP C.ent S.cur).gen)]) true ∧ (b54 = b54 ∧ Nat.ble (0 + 1) 11 = true) ∧ ((x.ev.kind == 0)) = true ∧ True) (fuel := 0) h381 (by kernel_rfl) rfl (by kernel_rfl) (by kernel_rfl) ⟨trivial, trivial, trivial, rfl, trivial, trivial, trivial, trivial, rfl, trivial, trivial, trivial, trivial⟩ ⟨(runRfD (a := refP Cz.ent Sz.cur) (b := refP C.ent S.cur) (by simp [hrf])), ⟨rfl, rfl⟩, (by simp [hk0]), trivial⟩ fun a383 h384 => ?_
            clear h381
            refine wpAnyK_done (by kernel_rfl) ?_ _
            refine hK374 _ _ ?_
            clear hK374
            refine wp_seq_k fun K385 hK385 => ?_
            refine wp_seq_k fun K386 hK386 => ?_
            refine dr_start (KB := [0, b54, b77, b91, b119]) (Bi := [[0, 1, 2, 3, 4], [0, 1, 2, 3, 4], [0, 1, 2, 3, 4], [0, 1, 2, 3, 4], [0, 1, 2, 3, 4], [0, 1, 2, 3, 4], [0, 1, 2, 3, 4], [0, 1, 2, 3, 4], [0, 1, 2, 3, 4], [0], [0, 1, 2, 3, 4], [0, 1, 2, 3, 4], [0, 1, 2, 3, 4]]) mixed h384 fun w387 h388 => ?_
            clear h384
            refine dr_batch tabOk tabZ_ok (by repeat (first | with_reducible exact PF.body | with_reducible apply PF.inB | with_reducible apply PF.next)) [(0, {}), (1, {k := 3, p := 3}), (2, {f := 1}), (3, {}), (4, {}), (5, {}), (6, {}), (7, {}), (8, {}), (10, {k := 0, p := 0})] [9, 8, 7, 5, 3, 18, 19, 20, 6, 11, 12, 84, 85, 87] (T' := [(9, .pointer (some ⟨b119, 0, none⟩)), (8, .pointer (some ⟨b91, 0, none⟩)), (7, .pointer (some ⟨b77, 0, none⟩)), (5, .pointer (some ⟨b54, 0, none⟩)), (3, .pointer (some ⟨kb, 0, none⟩)), (18, .slice (some ⟨sb45, k046, none⟩) ops.length c), (19, .int .i64 ((ops.length : Nat) : Int)), (20, .int .i64 i), (6, .pointer (some ⟨kb2, 0, none⟩)), (11, .int .i64 p), (12, .bool true), (84, .bool false), (85, .pointer (some ⟨kb, 0, none⟩)), (87, .agg #[.int .u16 0, .int .u32 0])]) (φ := (b91 = b91 ∧ Nat.ble (0 + 1) 10 = true) ∧ ((oz.code != 0)) = false ∧ (0 = 0 ∧ Nat.ble (0 + 2) 2 = true) ∧ True) (fuel := 3) h388 (by kernel_rfl) rfl (by kernel_rfl) (by kernel_rfl) ⟨trivial, rfl, trivial, trivial, trivial, trivial, trivial, trivial, trivial, rfl, trivial⟩ ⟨⟨rfl, rfl⟩, (by simp [hcz0]), ⟨rfl, rfl⟩, trivial⟩ fun a390 h391 => ?_
            clear h388
            refine wpAnyK_one (i := 9) (fuel := 2) (by kernel_rfl) ?_
            refine op_call h391 rfl rfl rfl (callOk Tryd.func18 (by decide) rfl) (args := [.pointer (some ⟨kb, 0, none⟩)]) rfl (running_ok kb bo bc Sz hivz.1.ri Cz.ent _ (h391.inv.get (j := 0) (p := pKer kb bo bc nd9 Sz Cz) rfl).ker (h391.inv.get (j := 0) (p := pKer kb bo bc nd9 Sz Cz) rfl).cap.st (h391.inv.get (j := 0) (p := pKer kb bo bc nd9 Sz Cz) rfl).ne) ?_
            rintro _ w392 ⟨rfl, hf394⟩
            refine ⟨_, rfl, ?_⟩
            have h393 := (h391.grow hf394).put (d := some 86) (v := .agg #[.int .u16 ((refP Cz.ent Sz.cur).idx), .int .u32 ((refP Cz.ent Sz.cur).gen)]) (T' := [(86, .agg #[.int .u16 ((refP Cz.ent Sz.cur).idx), .int .u32 ((refP Cz.ent Sz.cur).gen)]), (9, .pointer (some ⟨b119, 0, none⟩)), (8, .pointer (some ⟨b91, 0, none⟩)), (7, .pointer (some ⟨b77, 0, none⟩)), (5, .pointer (some ⟨b54, 0, none⟩)), (3, .pointer (some ⟨kb, 0, none⟩)), (18, .slice (some ⟨sb45, k046, none⟩) ops.length c), (19, .int .i64 ((ops.length : Nat) : Int)), (20, .int .i64 i), (6, .pointer (some ⟨kb2, 0, none⟩)), (11, .int .i64 p), (12, .bool true), (84, .bool false), (85, .pointer (some ⟨kb, 0, none⟩)), (87, .agg #[.int .u16 0, .int .u32 0])]) rfl
            refine ⟨(h391.keepFr hf394 (kcons (by simp) knil)), ?_⟩
            clear h391
            refine dr_batch tabOk tabZ_ok (by repeat (first | with_reducible exact PF.body | with_reducible apply PF.inB | with_reducible apply PF.next)) [(11, {f := 1}), (12, {})] [9, 8, 7, 5, 3, 18, 19, 20, 6, 11, 12, 89] (T' := [(9, .pointer (some ⟨b119, 0, none⟩)), (8, .pointer (some ⟨b91, 0, none⟩)), (7, .pointer (some ⟨b77, 0, none⟩)), (5, .pointer (some ⟨b54, 0, none⟩)), (3, .pointer (some ⟨kb, 0, none⟩)), (18, .slice (some ⟨sb45, k046, none⟩) ops.length c), (19, .int .i64 ((ops.length : Nat) : Int)), (20, .int .i64 i), (6, .pointer (some ⟨kb2, 0, none⟩)), (11, .int .i64 p), (12, .bool true), (89, .bool false)]) (φ := EqRun Tryd.prog 39 (.agg #[.int .u16 ((refP Cz.ent Sz.cur).idx), .int .u32 ((refP Cz.ent Sz.cur).gen)]) (.agg #[.int .u16 0, .int .u32 0]) false ∧ True) (fuel := 0) h393 (by kernel_rfl) rfl (by kernel_rfl) (by kernel_rfl) ⟨trivial, trivial, trivial⟩ ⟨(runRfD (a := refP Cz.ent Sz.cur) (b := ⟨0, 0⟩) (by simp [hcr])), trivial⟩ fun a395 h396 => ?_
            clear h393
            refine wpAnyK_done (by kernel_rfl) ?_ _
            refine hK386 _ _ ?_
            clear hK386
            refine c_false h396 rfl ?_
            refine wp_skip ?_
            refine hK385 _ _ ?_
            clear hK385
            refine wp_seq_k fun K397 hK397 => ?_
            refine nd_start (l := [0, 1, 2]) rfl ?_
            refine nd_batch tabOk tabZ_ok [(0, {k := 1})] [9, 8, 7, 5, 3, 18, 19, 20, 6, 11, 12, 90] (T' := [(9, .pointer (some ⟨b119, 0, none⟩)), (8, .pointer (some ⟨b91, 0, none⟩)), (7, .pointer (some ⟨b77, 0, none⟩)), (5, .pointer (some ⟨b54, 0, none⟩)), (3, .pointer (some ⟨kb, 0, none⟩)), (18, .slice (some ⟨sb45, k046, none⟩) ops.length c), (19, .int .i64 ((ops.length : Nat) : Int)), (20, .int .i64 i), (6, .pointer (some ⟨kb2, 0, none⟩)), (11, .int .i64 p), (12, .bool true), (90, .agg #[.int .u8 x.ev.kind, .int .u32 x.ev.pick, .int .u64 x.ev.draw, .int .u32 x.ev.addr, .int .u32 x.ev.node, .int .u32 x.ev.dst, .int .u32 x.ev.xfer, .int .u8 x.ev.ty, .int .u64 x.ev.arg, .int .u64 x.ev.badge, .slice x.xo x.ev.ws.length x.cx])]) (φ := (b54 = b54 ∧ Nat.ble (0 + 11) 11 = true) ∧ True) (rest := [1, 2]) h396 (by kernel_rfl) rfl ⟨⟨rfl, rfl⟩, trivial⟩ fun a398 h399 => ?_
            clear h396
            refine nd_op ?_
            refine op_new tabOk (cells := [.int .u8 0, .int .u32 0, .int .u64 0, .int .u32 0, .int .u32 0, .int .u32 0, .int .u32 0, .int .u8 0, .int .u64 0, .int .u64 0, .slice none 0 0]) (ty := 35) (ln := none) (L1 := fun b400 => [(0, ⟨[.int .u16 0, .int .u32 0], ty0, true⟩), (b54, ⟨[.int .u8 x.ev.kind, .int .u32 x.ev.pick, .int .u64 x.ev.draw, .int .u32 x.ev.addr, .int .u32 x.ev.node, .int .u32 x.ev.dst, .int .u32 x.ev.xfer, .int .u8 x.ev.ty, .int .u64 x.ev.arg, .int .u64 x.ev.badge, .slice x.xo x.ev.ws.length x.cx], 35, false⟩), (b77, ⟨[.int .u16 ((refP C.ent S.cur).idx), .int .u32 ((refP C.ent S.cur).gen)], 39, false⟩), (b91, ⟨[.int .u8 oz.code, .int .u16 oz.run.idx, .int .u32 oz.run.gen, .int .u64 oz.badge, .int .u64 oz.m0, .int .u64 oz.m1, .int .u64 oz.m2, .int .u64 oz.m3, .int .u8 oz.len, .int .u8 oz.got], 42, false⟩), (b119, ⟨[.int .u8 mn.st, .int .u8 mn.prio, .int .u16 mn.wait.idx, .int .u32 mn.wait.gen, .int .u16 mn.cs.idx, .int .u32 mn.cs.gen, .int .u16 mn.rep.idx, .int .u32 mn.rep.gen, .int .u64 mn.badge, .int .u64 mn.m0, .int .u64 mn.m1, .int .u64 mn.m2, .int .u64 mn.m3, .int .u8 mn.len, .int .u8 mn.got, .int .u32 mn.xfer, .int .u32 mn.dst, .bool mn.grant, .bool mn.call], 59, false⟩), (b400, ⟨[.int .u8 0, .int .u32 0, .int .u64 0, .int .u32 0, .int .u32 0, .int .u32 0, .int .u32 0, .int .u8 0, .int .u64 0, .int .u64 0, .slice none 0 0], 35, false⟩)]) h399 rfl rfl rfl rfl (by kernel_rfl) (fun _ => rfl) fun b400 w401 a402 h403 hf404 hn405 => ?_
            clear h399
            refine nd_op ?_
            refine op_store tabOk {k := 5} (L' := [(0, ⟨[.int .u16 0, .int .u32 0], ty0, true⟩), (b54, ⟨[.int .u8 x.ev.kind, .int .u32 x.ev.pick, .int .u64 x.ev.draw, .int .u32 x.ev.addr, .int .u32 x.ev.node, .int .u32 x.ev.dst, .int .u32 x.ev.xfer, .int .u8 x.ev.ty, .int .u64 x.ev.arg, .int .u64 x.ev.badge, .slice x.xo x.ev.ws.length x.cx], 35, false⟩), (b77, ⟨[.int .u16 ((refP C.ent S.cur).idx), .int .u32 ((refP C.ent S.cur).gen)], 39, false⟩), (b91, ⟨[.int .u8 oz.code, .int .u16 oz.run.idx, .int .u32 oz.run.gen, .int .u64 oz.badge, .int .u64 oz.m0, .int .u64 oz.m1, .int .u64 oz.m2, .int .u64 oz.m3, .int .u8 oz.len, .int .u8 oz.got], 42, false⟩), (b119, ⟨[.int .u8 mn.st, .int .u8 mn.prio, .int .u16 mn.wait.idx, .int .u32 mn.wait.gen, .int .u16 mn.cs.idx, .int .u32 mn.cs.gen, .int .u16 mn.rep.idx, .int .u32 mn.rep.gen, .int .u64 mn.badge, .int .u64 mn.m0, .int .u64 mn.m1, .int .u64 mn.m2, .int .u64 mn.m3, .int .u8 mn.len, .int .u8 mn.got, .int .u32 mn.xfer, .int .u32 mn.dst, .bool mn.grant, .bool mn.call], 59, false⟩), (b400, ⟨[.int .u8 x.ev.kind, .int .u32 x.ev.pick, .int .u64 x.ev.draw, .int .u32 x.ev.addr, .int .u32 x.ev.node, .int .u32 x.ev.dst, .int .u32 x.ev.xfer, .int .u8 x.ev.ty, .int .u64 x.ev.arg, .int .u64 x.ev.badge, .slice x.xo x.ev.ws.length x.cx], 35, false⟩)]) (φ := b400 = b400 ∧ Nat.ble (0 + 11) 11 = true) h403 rfl rfl rfl (by kernel_rfl) ⟨rfl, rfl⟩ fun w406 h407 => ?_
            clear h403
            refine nd_done ?_
            refine hK397 _ _ ?_
            clear hK397
            refine wp_seq_k fun K408 hK408 => ?_
            refine nd_start (l := [0, 1, 2, 3, 4]) rfl ?_
            refine nd_batch tabOk tabZ_ok [(0, {}), (1, {k := 5}), (2, {m := 1}), (3, {})] [13, 9, 8, 7, 5, 3, 18, 19, 20, 6, 11, 12, 93, 94] (T' := [(13, .pointer (some ⟨b400, 0, none⟩)), (9, .pointer (some ⟨b119, 0, none⟩)), (8, .pointer (some ⟨b91, 0, none⟩)), (7, .pointer (some ⟨b77, 0, none⟩)), (5, .pointer (some ⟨b54, 0, none⟩)), (3, .pointer (some ⟨kb, 0, none⟩)), (18, .slice (some ⟨sb45, k046, none⟩) ops.length c), (19, .int .i64 ((ops.length : Nat) : Int)), (20, .int .i64 i), (6, .pointer (some ⟨kb2, 0, none⟩)), (11, .int .i64 p), (12, .bool true), (93, .int .u32 (IntKind.wrap .u32 (x.ev.pick + 1))), (94, .pointer (some ⟨b400, 1, none⟩))]) (φ := (b400 = b400 ∧ Nat.ble (1 + 1) 11 = true) ∧ True) (rest := [4]) h407 (by kernel_rfl) rfl ⟨⟨rfl, rfl⟩, trivial⟩ fun a409 h410 => ?_
            clear h407
            refine nd_op ?_
            refine op_store tabOk {k := 5} (L' := [(0, ⟨[.int .u16 0, .int .u32 0], ty0, true⟩), (b54, ⟨[.int .u8 x.ev.kind, .int .u32 x.ev.pick, .int .u64 x.ev.draw, .int .u32 x.ev.addr, .int .u32 x.ev.node, .int .u32 x.ev.dst, .int .u32 x.ev.xfer, .int .u8 x.ev.ty, .int .u64 x.ev.arg, .int .u64 x.ev.badge, .slice x.xo x.ev.ws.length x.cx], 35, false⟩), (b77, ⟨[.int .u16 ((refP C.ent S.cur).idx), .int .u32 ((refP C.ent S.cur).gen)], 39, false⟩), (b91, ⟨[.int .u8 oz.code, .int .u16 oz.run.idx, .int .u32 oz.run.gen, .int .u64 oz.badge, .int .u64 oz.m0, .int .u64 oz.m1, .int .u64 oz.m2, .int .u64 oz.m3, .int .u8 oz.len, .int .u8 oz.got], 42, false⟩), (b119, ⟨[.int .u8 mn.st, .int .u8 mn.prio, .int .u16 mn.wait.idx, .int .u32 mn.wait.gen, .int .u16 mn.cs.idx, .int .u32 mn.cs.gen, .int .u16 mn.rep.idx, .int .u32 mn.rep.gen, .int .u64 mn.badge, .int .u64 mn.m0, .int .u64 mn.m1, .int .u64 mn.m2, .int .u64 mn.m3, .int .u8 mn.len, .int .u8 mn.got, .int .u32 mn.xfer, .int .u32 mn.dst, .bool mn.grant, .bool mn.call], 59, false⟩), (b400, ⟨[.int .u8 x.ev.kind, .int .u32 (IntKind.wrap .u32 (x.ev.pick + 1)), .int .u64 x.ev.draw, .int .u32 x.ev.addr, .int .u32 x.ev.node, .int .u32 x.ev.dst, .int .u32 x.ev.xfer, .int .u8 x.ev.ty, .int .u64 x.ev.arg, .int .u64 x.ev.badge, .slice x.xo x.ev.ws.length x.cx], 35, false⟩)]) (φ := b400 = b400 ∧ Nat.ble (1 + 1) 11 = true) h410 rfl rfl rfl (by kernel_rfl) ⟨rfl, rfl⟩ fun w411 h412 => ?_
            clear h410
            refine nd_done ?_
            refine hK408 _ _ ?_
            clear hK408
            refine wp_seq_k fun K413 hK413 => ?_
            refine nd_start (l := [0, 1, 2]) rfl ?_
            refine nd_batch tabOk tabZ_ok [(0, {}), (1, {k := 5})] [13, 9, 8, 7, 5, 3, 18, 19, 20, 6, 11, 12, 95, 96] (T' := [(13, .pointer (some ⟨b400, 0, none⟩)), (9, .pointer (some ⟨b119, 0, none⟩)), (8, .pointer (some ⟨b91, 0, none⟩)), (7, .pointer (some ⟨b77, 0, none⟩)), (5, .pointer (some ⟨b54, 0, none⟩)), (3, .pointer (some ⟨kb, 0, none⟩)), (18, .slice (some ⟨sb45, k046, none⟩) ops.length c), (19, .int .i64 ((ops.length : Nat) : Int)), (20, .int .i64 i), (6, .pointer (some ⟨kb2, 0, none⟩)), (11, .int .i64 p), (12, .bool true), (95, .pointer (some ⟨kb2, 0, none⟩)), (96, .agg #[.int .u8 x.ev.kind, .int .u32 (IntKind.wrap .u32 (x.ev.pick + 1)), .int .u64 x.ev.draw, .int .u32 x.ev.addr, .int .u32 x.ev.node, .int .u32 x.ev.dst, .int .u32 x.ev.xfer, .int .u8 x.ev.ty, .int .u64 x.ev.arg, .int .u64 x.ev.badge, .slice x.xo x.ev.ws.length x.cx])]) (φ := (b400 = b400 ∧ Nat.ble (0 + 11) 11 = true) ∧ True) (rest := [2]) h412 (by kernel_rfl) rfl ⟨⟨rfl, rfl⟩, trivial⟩ fun a414 h415 => ?_
            clear h412
            refine nd_op ?_
            have hnwkSy : ∀ b ∈ kb2 :: capF bo2 bc2 nd2 C, w.heap.size ≤ b := h415.inv.newOf (j := 1) (p := pKer kb2 bo2 bc2 nd2 S C) rfl
            have hstSy := step_ok kb2 bo2 bc2 nd2 S hok.ri C hok.li hci ({ x.ev with pick := (IntKind.wrap .u32 (x.ev.pick + 1)) } : Ev) hev2 x.xo x.cx _ (h415.inv.get (j := 1) (p := pKer kb2 bo2 bc2 nd2 S C) rfl).ker (h415.inv.get (j := 1) (p := pKer kb2 bo2 bc2 nd2 S C) rfl).cap (h415.inv.get (j := 1) (p := pKer kb2 bo2 bc2 nd2 S C) rfl).nk (cellsK hg1 h415.frame hgs1 (by simp)) (Nat.lt_of_lt_of_le hgs1 h415.frame.size) (by have := hnwkSy kb2 (List.mem_cons_self ..); omega) (fun hq => by have := hnwkSy 1 (List.mem_cons_of_mem _ hq); omega) (words_at (hwd x hxm) h415.frame hnwkSy)
            rw [eySy] at hstSy
            have hgkSy := (h415.inv.get (j := 1) (p := pKer kb2 bo2 bc2 nd2 S C) rfl).nk
            have hglSy := lt_of_heap (h415.inv.get (j := 1) (p := pKer kb2 bo2 bc2 nd2 S C) rfl).ker
            refine op_call h415 rfl rfl rfl (callOk Tryd.func14 (by decide) rfl) (args := [.pointer (some ⟨kb2, 0, none⟩), .agg #[.int .u8 x.ev.kind, .int .u32 (IntKind.wrap .u32 (x.ev.pick + 1)), .int .u64 x.ev.draw, .int .u32 x.ev.addr, .int .u32 x.ev.node, .int .u32 x.ev.dst, .int .u32 x.ev.xfer, .int .u8 x.ev.ty, .int .u64 x.ev.arg, .int .u64 x.ev.badge, .slice x.xo x.ev.ws.length x.cx]]) rfl (hstSy) ?_
            rintro _ w417 ⟨rfl, hkSy, nd8, hcSy, hsSy, hf416⟩
            refine ⟨_, rfl, ?_⟩
            dsimp only at hkSy hcSy hsSy ⊢
            have hnkSy : kb2 ∉ capF bo2 bc2 nd8 Cz := fun hq => (hsSy _ hq).elim hgkSy (fun h => by omega)
            have h418 := (h415.pcSet (j := 1) (p := pKer kb2 bo2 bc2 nd2 S C) (p' := pKer kb2 bo2 bc2 nd8 Sy Cz) (ps' := [pKer kb bo bc nd9 Sz Cz, pKer kb2 bo2 bc2 nd8 Sy Cz]) rfl (pKer_ok ⟨hkSy, hcSy, hnkSy⟩) hf416 (fun _ h => h) (ker_sub hsSy) (kcons (fun _ => (fun hq => by have := h415.inv.newOf (j := 1) (p := pKer kb2 bo2 bc2 nd2 S C) rfl 0 hq; omega)) (kcons (by intro hq; cases hq) (kcons (by intro hq; cases hq) (kcons (by intro hq; cases hq) (kcons (by intro hq; cases hq) (kcons (by intro hq; cases hq) knil)))))) rfl).put (d := some 97) (v := .agg #[.int .u8 oy.code, .int .u16 oy.run.idx, .int .u32 oy.run.gen, .int .u64 oy.badge, .int .u64 oy.m0, .int .u64 oy.m1, .int .u64 oy.m2, .int .u64 oy.m3, .int .u8 oy.len, .int .u8 oy.got]) (T' := [(97, .agg #[.int .u8 oy.code, .int .u16 oy.run.idx, .int .u32 oy.run.gen, .int .u64 oy.badge, .int .u64 oy.m0, .int .u64 oy.m1, .int .u64 oy.m2, .int .u64 oy.m3, .int .u8 oy.len, .int .u8 oy.got]), (13, .pointer (some ⟨b400, 0, none⟩)), (9, .pointer (some ⟨b119, 0, none⟩)), (8, .pointer (some ⟨b91, 0, none⟩)), (7, .pointer (some ⟨b77, 0, none⟩)), (5, .pointer (some ⟨b54, 0, none⟩)), (3, .pointer (some ⟨kb, 0, none⟩)), (18, .slice (some ⟨sb45, k046, none⟩) ops.length c), (19, .int .i64 ((ops.length : Nat) : Int)), (20, .int .i64 i), (6, .pointer (some ⟨kb2, 0, none⟩)), (11, .int .i64 p), (12, .bool true), (95, .pointer (some ⟨kb2, 0, none⟩)), (96, .agg #[.int .u8 x.ev.kind, .int .u32 (IntKind.wrap .u32 (x.ev.pick + 1)), .int .u64 x.ev.draw, .int .u32 x.ev.addr, .int .u32 x.ev.node, .int .u32 x.ev.dst, .int .u32 x.ev.xfer, .int .u8 x.ev.ty, .int .u64 x.ev.arg, .int .u64 x.ev.badge, .slice x.xo x.ev.ws.length x.cx])]) rfl
            have hszh418 : w.heap.size ≤ _ := h415.frame.size
            clear h415
            refine nd_done ?_
            refine hK413 _ _ ?_
            clear hK413
            refine wp_seq_k fun K419 hK419 => ?_
            refine dr_start (KB := [0, b54, b77, b91, b119, b400]) (Bi := [[0, 1, 2, 3, 4, 5], [0, 1, 2, 3, 4, 5], [0, 1, 2, 3, 4, 5], [5], [0, 1, 2, 3, 4, 5], [0, 1, 2, 3, 4, 5], [0, 1, 2, 3, 4, 5], [], [], [0, 1, 2, 3, 4, 5]]) mixed h418 fun w420 h421 => ?_
            clear h418
            refine dr_batch tabOk tabZ_ok (by repeat (first | with_reducible exact PF.body | with_reducible apply PF.inB | with_reducible apply PF.next)) [(0, {}), (1, {}), (2, {k := 1, p := 1}), (4, {}), (5, {}), (6, {k := 5, p := 5})] [13, 9, 8, 7, 5, 3, 18, 19, 20, 6, 11, 12, 98, 100, 102, 104] (T' := [(13, .pointer (some ⟨b400, 0, none⟩)), (9, .pointer (some ⟨b119, 0, none⟩)), (8, .pointer (some ⟨b91, 0, none⟩)), (7, .pointer (some ⟨b77, 0, none⟩)), (5, .pointer (some ⟨b54, 0, none⟩)), (3, .pointer (some ⟨kb, 0, none⟩)), (18, .slice (some ⟨sb45, k046, none⟩) ops.length c), (19, .int .i64 ((ops.length : Nat) : Int)), (20, .int .i64 i), (6, .pointer (some ⟨kb2, 0, none⟩)), (11, .int .i64 p), (12, .bool true), (98, .pointer (some ⟨kb, 0, none⟩)), (100, .int .u32 x.ev.pick), (102, .pointer (some ⟨kb2, 0, none⟩)), (104, .int .u32 (IntKind.wrap .u32 (x.ev.pick + 1)))]) (φ := (b54 = b54 ∧ Nat.ble (1 + 1) 11 = true) ∧ (b400 = b400 ∧ Nat.ble (1 + 1) 11 = true) ∧ True) (fuel := 4) h421 (by kernel_rfl) rfl (by kernel_rfl) (by kernel_rfl) ⟨trivial, trivial, rfl, trivial, trivial, rfl, trivial⟩ ⟨⟨rfl, rfl⟩, ⟨rfl, rfl⟩, trivial⟩ fun a423 h424 => ?_
            clear h421
            refine wpAnyK_one (i := 3) (fuel := 3) (by kernel_rfl) ?_
            refine op_call h424 rfl rfl rfl (callOk Tryd.func31 (by decide) rfl) (args := [.pointer (some ⟨kb, 0, none⟩), .int .u32 x.ev.pick]) rfl (lineUp_ok kb bo bc Sz hivz.1.ri Cz.ent hivz.2.reg.1 Qz hS.liq hXz hcz x.ev.pick (hev x hxm).1.pick _ (h424.inv.get (j := 0) (p := pKer kb bo bc nd9 Sz Cz) rfl).ker (h424.inv.get (j := 0) (p := pKer kb bo bc nd9 Sz Cz) rfl).cap.st (h424.inv.get (j := 0) (p := pKer kb bo bc nd9 Sz Cz) rfl).ne) ?_
            rintro _ w431 ⟨o425, c426, F427, rfl, hr428, hf429, hF430⟩
            refine ⟨_, rfl, ?_⟩
            have h432 := (h424.pcAdd (p' := pRow (rl rfC 39 2 (lineUpP Sz Qz Cz.ent x.ev.pick) o425 c426 F427)) (ps' := [pKer kb bo bc nd9 Sz Cz, pKer kb2 bo2 bc2 nd8 Sy Cz, pRow (rl rfC 39 2 (lineUpP Sz Qz Cz.ent x.ev.pick) o425 c426 F427)]) (pRow_ok hr428) hf429 hF430 rfl).put (d := some 101) (v := .slice o425 ((lineUpP Sz Qz Cz.ent x.ev.pick).length) c426) (T' := [(101, .slice o425 ((lineUpP Sz Qz Cz.ent x.ev.pick).length) c426), (13, .pointer (some ⟨b400, 0, none⟩)), (9, .pointer (some ⟨b119, 0, none⟩)), (8, .pointer (some ⟨b91, 0, none⟩)), (7, .pointer (some ⟨b77, 0, none⟩)), (5, .pointer (some ⟨b54, 0, none⟩)), (3, .pointer (some ⟨kb, 0, none⟩)), (18, .slice (some ⟨sb45, k046, none⟩) ops.length c), (19, .int .i64 ((ops.length : Nat) : Int)), (20, .int .i64 i), (6, .pointer (some ⟨kb2, 0, none⟩)), (11, .int .i64 p), (12, .bool true), (98, .pointer (some ⟨kb, 0, none⟩)), (100, .int .u32 x.ev.pick), (102, .pointer (some ⟨kb2, 0, none⟩)), (104, .int .u32 (IntKind.wrap .u32 (x.ev.pick + 1)))]) rfl
            have hkh432 := h424.known
            refine ⟨(keepOf hkh432 h432.known (kcons (keepAt (q := 5) (q' := 5) rfl rfl) knil)), ?_⟩
            have hszh432 : w.heap.size ≤ _ := h424.frame.size
            clear h424
            refine wpAnyK_one (i := 7) (fuel := 2) (by kernel_rfl) ?_
            refine op_call h432 rfl rfl rfl (callOk Tryd.func31 (by decide) rfl) (args := [.pointer (some ⟨kb2, 0, none⟩), .int .u32 (IntKind.wrap .u32 (x.ev.pick + 1))]) rfl ((by have hq := lineUp_ok kb2 bo2 bc2 Sy hivy.1.ri Cz.ent hivy.2.reg.1 Qy hqy hXy hcy (IntKind.wrap .u32 (x.ev.pick + 1)) hpk2 _ (h432.inv.get (j := 1) (p := pKer kb2 bo2 bc2 nd8 Sy Cz) rfl).ker (h432.inv.get (j := 1) (p := pKer kb2 bo2 bc2 nd8 Sy Cz) rfl).cap.st (h432.inv.get (j := 1) (p := pKer kb2 bo2 bc2 nd8 Sy Cz) rfl).ne; rw [hline] at hq; exact hq)) ?_
            rintro _ w439 ⟨o433, c434, F435, rfl, hr436, hf437, hF438⟩
            refine ⟨_, rfl, ?_⟩
            have h440 := (h432.pcAdd (p' := pRow (rl rfC 39 2 (lineUpP Sz Qz Cz.ent x.ev.pick) o433 c434 F435)) (ps' := [pKer kb bo bc nd9 Sz Cz, pKer kb2 bo2 bc2 nd8 Sy Cz, pRow (rl rfC 39 2 (lineUpP Sz Qz Cz.ent x.ev.pick) o425 c426 F427), pRow (rl rfC 39 2 (lineUpP Sz Qz Cz.ent x.ev.pick) o433 c434 F435)]) (pRow_ok hr436) hf437 hF438 rfl).put (d := some 105) (v := .slice o433 ((lineUpP Sz Qz Cz.ent x.ev.pick).length) c434) (T' := [(105, .slice o433 ((lineUpP Sz Qz Cz.ent x.ev.pick).length) c434), (101, .slice o425 ((lineUpP Sz Qz Cz.ent x.ev.pick).length) c426), (13, .pointer (some ⟨b400, 0, none⟩)), (9, .pointer (some ⟨b119, 0, none⟩)), (8, .pointer (some ⟨b91, 0, none⟩)), (7, .pointer (some ⟨b77, 0, none⟩)), (5, .pointer (some ⟨b54, 0, none⟩)), (3, .pointer (some ⟨kb, 0, none⟩)), (18, .slice (some ⟨sb45, k046, none⟩) ops.length c), (19, .int .i64 ((ops.length : Nat) : Int)), (20, .int .i64 i), (6, .pointer (some ⟨kb2, 0, none⟩)), (11, .int .i64 p), (12, .bool true), (98, .pointer (some ⟨kb, 0, none⟩)), (100, .int .u32 x.ev.pick), (102, .pointer (some ⟨kb2, 0, none⟩)), (104, .int .u32 (IntKind.wrap .u32 (x.ev.pick + 1)))]) rfl
            have hkh440 := h432.known
            refine ⟨keepNil, ?_⟩
            have hszh440 : w.heap.size ≤ _ := h432.frame.size
            clear h432
            refine wpAnyK_one (i := 8) (fuel := 1) (by kernel_rfl) ?_
            refine op_call h440 rfl rfl rfl (callOk Tryd.func23 (by decide) rfl) (args := [.slice o425 ((lineUpP Sz Qz Cz.ent x.ev.pick).length) c426, .slice o433 ((lineUpP Sz Qz Cz.ent x.ev.pick).length) c434]) rfl (equalP hlnl (h440.inv.get (j := 2) (p := pRow (rl rfC 39 2 (lineUpP Sz Qz Cz.ent x.ev.pick) o425 c426 F427)) rfl) (h440.inv.get (j := 3) (p := pRow (rl rfC 39 2 (lineUpP Sz Qz Cz.ent x.ev.pick) o433 c434 F435)) rfl) (Pf_nodup h440.inv.nd (i := 2) (j := 3) (x := pRow (rl rfC 39 2 (lineUpP Sz Qz Cz.ent x.ev.pick) o425 c426 F427)) (y := pRow (rl rfC 39 2 (lineUpP Sz Qz Cz.ent x.ev.pick) o433 c434 F435)) rfl rfl (by decide))) ?_
            rintro _ w441 ⟨rfl, hf443⟩
            refine ⟨_, rfl, ?_⟩
            have h442 := (h440.grow hf443).put (d := some 106) (v := .bool true) (T' := [(106, .bool true), (105, .slice o433 ((lineUpP Sz Qz Cz.ent x.ev.pick).length) c434), (101, .slice o425 ((lineUpP Sz Qz Cz.ent x.ev.pick).length) c426), (13, .pointer (some ⟨b400, 0, none⟩)), (9, .pointer (some ⟨b119, 0, none⟩)), (8, .pointer (some ⟨b91, 0, none⟩)), (7, .pointer (some ⟨b77, 0, none⟩)), (5, .pointer (some ⟨b54, 0, none⟩)), (3, .pointer (some ⟨kb, 0, none⟩)), (18, .slice (some ⟨sb45, k046, none⟩) ops.length c), (19, .int .i64 ((ops.length : Nat) : Int)), (20, .int .i64 i), (6, .pointer (some ⟨kb2, 0, none⟩)), (11, .int .i64 p), (12, .bool true), (98, .pointer (some ⟨kb, 0, none⟩)), (100, .int .u32 x.ev.pick), (102, .pointer (some ⟨kb2, 0, none⟩)), (104, .int .u32 (IntKind.wrap .u32 (x.ev.pick + 1)))]) rfl
            refine ⟨keepNil, ?_⟩
            clear h440
            refine dr_batch tabOk tabZ_ok (by repeat (first | with_reducible exact PF.body | with_reducible apply PF.inB | with_reducible apply PF.next)) [(9, {})] [13, 9, 8, 7, 5, 3, 18, 19, 20, 6, 11, 12, 107] (T' := [(13, .pointer (some ⟨b400, 0, none⟩)), (9, .pointer (some ⟨b119, 0, none⟩)), (8, .pointer (some ⟨b91, 0, none⟩)), (7, .pointer (some ⟨b77, 0, none⟩)), (5, .pointer (some ⟨b54, 0, none⟩)), (3, .pointer (some ⟨kb, 0, none⟩)), (18, .slice (some ⟨sb45, k046, none⟩) ops.length c), (19, .int .i64 ((ops.length : Nat) : Int)), (20, .int .i64 i), (6, .pointer (some ⟨kb2, 0, none⟩)), (11, .int .i64 p), (12, .bool true), (107, .bool false)]) (φ := True) (fuel := 0) h442 (by kernel_rfl) rfl (by kernel_rfl) (by kernel_rfl) ⟨trivial, trivial⟩ trivial fun a444 h445 => ?_
            clear h442
            refine wpAnyK_done (by kernel_rfl) ?_ _
            refine hK419 _ _ ?_
            clear hK419
            refine c_false h445 rfl ?_
            refine wp_skip ?_
            refine hK49 _ _ ?_
            clear hK49
            refine nd_start (l := [0, 1]) rfl ?_
            refine nd_batch tabOk tabZ_ok [(0, {}), (1, {})] [13, 9, 8, 7, 5, 3, 18, 19, 6, 11, 12, 20] (T' := [(13, .pointer (some ⟨b400, 0, none⟩)), (9, .pointer (some ⟨b119, 0, none⟩)), (8, .pointer (some ⟨b91, 0, none⟩)), (7, .pointer (some ⟨b77, 0, none⟩)), (5, .pointer (some ⟨b54, 0, none⟩)), (3, .pointer (some ⟨kb, 0, none⟩)), (18, .slice (some ⟨sb45, k046, none⟩) ops.length c), (19, .int .i64 ((ops.length : Nat) : Int)), (6, .pointer (some ⟨kb2, 0, none⟩)), (11, .int .i64 p), (12, .bool true), (20, .int .i64 (i + 1))]) (φ := inR .i64 (i + 1) ∧ True) (rest := []) h445 (by kernel_rfl) rfl ⟨⟨by omega, by omega⟩, trivial⟩ fun a446 h447 => ?_
            clear h445
            refine nd_done ?_
            have h448 := h447.memMono (L' := [(0, ⟨[.int .u16 0, .int .u32 0], ty0, true⟩)]) (List.Sublist.cons_cons _ (List.Sublist.cons _ (List.Sublist.cons _ (List.Sublist.cons _ (List.Sublist.cons _ (List.Sublist.cons _ List.Sublist.slnil))))))
            clear h447
            have h449 := h448.pcSub (ps' := [pKer kb bo bc nd9 Sz Cz]) (List.Sublist.cons_cons _ (List.Sublist.cons _ (List.Sublist.cons _ (List.Sublist.cons _ List.Sublist.slnil))))
            clear h448
            exact ⟨(g - 1), by omega, nd9, Sz, Cz, Qz, (i + 1), by omega, ⟨by omega, by omega⟩, hivz.1, hivz.2, hXz, hS.liq, hS.top, hWz, hGz, (h449.slotsMono (restr_spec (keep := [3, 18, 19, 20]) rfl))⟩
        by_cases hk2 : x.ev.kind = 2
        ·
          by_cases hcz0 : oz.code = 0
          rotate_left
          ·
            refine wp_exit ?_
            refine hK129 _ _ ?_
            clear hK129
            refine wp_seq_k fun K450 hK450 => ?_
            refine dr_start (KB := [0, b54, b77, b91, b119]) (Bi := [[0, 1, 2, 3, 4], [2], [0, 1, 2, 3, 4], [0, 1, 2, 3, 4], [0, 1, 2, 3, 4], [0, 1, 2, 3, 4], [0, 1, 2, 3, 4], [0, 1, 2, 3, 4], [0, 1, 2, 3, 4], [0, 1, 2, 3, 4], [0, 1, 2, 3, 4], [0, 1, 2, 3, 4], [0, 1, 2, 3, 4], [0, 1, 2, 3, 4], [0, 1, 2, 3, 4]]) mixed h141 fun w451 h452 => ?_
            clear h141
            refine dr_batch tabOk tabZ_ok (by repeat (first | with_reducible exact PF.body | with_reducible apply PF.inB | with_reducible apply PF.next)) [(0, {}), (2, {k := 2, p := 2})] [9, 8, 7, 5, 3, 18, 19, 20, 6, 11, 63, 65] (T' := [(9, .pointer (some ⟨b119, 0, none⟩)), (8, .pointer (some ⟨b91, 0, none⟩)), (7, .pointer (some ⟨b77, 0, none⟩)), (5, .pointer (some ⟨b54, 0, none⟩)), (3, .pointer (some ⟨kb, 0, none⟩)), (18, .slice (some ⟨sb45, k046, none⟩) ops.length c), (19, .int .i64 ((ops.length : Nat) : Int)), (20, .int .i64 i), (6, .pointer (some ⟨kb2, 0, none⟩)), (11, .int .i64 p), (63, .pointer (some ⟨kb, 0, none⟩)), (65, .agg #[.int .u16 ((refP C.ent S.cur).idx), .int .u32 ((refP C.ent S.cur).gen)])]) (φ := (b77 = b77 ∧ Nat.ble (0 + 2) 2 = true) ∧ True) (fuel := 13) h452 (by kernel_rfl) rfl (by kernel_rfl) (by kernel_rfl) ⟨trivial, rfl, trivial⟩ ⟨⟨rfl, rfl⟩, trivial⟩ fun a454 h455 => ?_
            clear h452
            refine wpAnyK_one (i := 1) (fuel := 12) (by kernel_rfl) ?_
            refine op_call h455 rfl rfl rfl (callOk Tryd.func18 (by decide) rfl) (args := [.pointer (some ⟨kb, 0, none⟩)]) rfl (running_ok kb bo bc Sz hivz.1.ri Cz.ent _ (h455.inv.get (j := 0) (p := pKer kb bo bc nd9 Sz Cz) rfl).ker (h455.inv.get (j := 0) (p := pKer kb bo bc nd9 Sz Cz) rfl).cap.st (h455.inv.get (j := 0) (p := pKer kb bo bc nd9 Sz Cz) rfl).ne) ?_
            rintro _ w456 ⟨rfl, hf458⟩
            refine ⟨_, rfl, ?_⟩
            have h457 := (h455.grow hf458).put (d := some 64) (v := .agg #[.int .u16 ((refP Cz.ent Sz.cur).idx), .int .u32 ((refP Cz.ent Sz.cur).gen)]) (T' := [(64, .agg #[.int .u16 ((refP Cz.ent Sz.cur).idx), .int .u32 ((refP Cz.ent Sz.cur).gen)]), (9, .pointer (some ⟨b119, 0, none⟩)), (8, .pointer (some ⟨b91, 0, none⟩)), (7, .pointer (some ⟨b77, 0, none⟩)), (5, .pointer (some ⟨b54, 0, none⟩)), (3, .pointer (some ⟨kb, 0, none⟩)), (18, .slice (some ⟨sb45, k046, none⟩) ops.length c), (19, .int .i64 ((ops.length : Nat) : Int)), (20, .int .i64 i), (6, .pointer (some ⟨kb2, 0, none⟩)), (11, .int .i64 p), (63, .pointer (some ⟨kb, 0, none⟩)), (65, .agg #[.int .u16 ((refP C.ent S.cur).idx), .int .u32 ((refP C.ent S.cur).gen)])]) rfl
            refine ⟨(h455.keepFr hf458 (kcons (by simp) knil)), ?_⟩
            clear h455
            refine dr_batch tabOk tabZ_ok (by repeat (first | with_reducible exact PF.body | with_reducible apply PF.inB | with_reducible apply PF.next)) [(3, {f := 1}), (4, {}), (5, {}), (6, {k := 1, p := 1}), (7, {f := 1}), (8, {}), (9, {}), (10, {}), (11, {k := 1, p := 1}), (12, {f := 2}), (13, {}), (14, {})] [9, 8, 7, 5, 3, 18, 19, 20, 6, 11, 12] (T' := [(9, .pointer (some ⟨b119, 0, none⟩)), (8, .pointer (some ⟨b91, 0, none⟩)), (7, .pointer (some ⟨b77, 0, none⟩)), (5, .pointer (some ⟨b54, 0, none⟩)), (3, .pointer (some ⟨kb, 0, none⟩)), (18, .slice (some ⟨sb45, k046, none⟩) ops.length c), (19, .int .i64 ((ops.length : Nat) : Int)), (20, .int .i64 i), (6, .pointer (some ⟨kb2, 0, none⟩)), (11, .int .i64 p), (12, .bool true)]) (φ := EqRun Tryd.prog 39 (.agg #[.int .u16 ((refP Cz.ent Sz.cur).idx), .int .u32 ((refP Cz.ent Sz.cur).gen)]) (.agg #[.int .u16 ((refP C.ent S.cur).idx), .int .u32 ((refP C.ent S.cur).gen)]) true ∧ (b54 = b54 ∧ Nat.ble (0 + 1) 11 = true) ∧ ((x.ev.kind == 0)) = false ∧ (b54 = b54 ∧ Nat.ble (0 + 1) 11 = true) ∧ ((x.ev.kind == 2)) = true ∧ True) (fuel := 0) h457 (by kernel_rfl) rfl (by kernel_rfl) (by kernel_rfl) ⟨trivial, trivial, trivial, rfl, trivial, trivial, trivial, trivial, rfl, trivial, trivial, trivial, trivial⟩ ⟨(runRfD (a := refP Cz.ent Sz.cur) (b := refP C.ent S.cur) (by simp [hrf])), ⟨rfl, rfl⟩, (by simp [hk0]), ⟨rfl, rfl⟩, (by simp [hk2]), trivial⟩ fun a459 h460 => ?_
            clear h457
            refine wpAnyK_done (by kernel_rfl) ?_ _
            refine hK450 _ _ ?_
            clear hK450
            refine wp_seq_k fun K461 hK461 => ?_
            refine wp_seq_k fun K462 hK462 => ?_
            refine dr_start (KB := [0, b54, b77, b91, b119]) (Bi := [[0, 1, 2, 3, 4], [0, 1, 2, 3, 4], [0, 1, 2, 3, 4], [0, 1, 2, 3, 4], [0, 1, 2, 3, 4], [0, 1, 2, 3, 4], [0, 1, 2, 3, 4], [0, 1, 2, 3, 4], [0, 1, 2, 3, 4], [0], [0, 1, 2, 3, 4], [0, 1, 2, 3, 4], [0, 1, 2, 3, 4]]) mixed h460 fun w463 h464 => ?_
            clear h460
            refine dr_batch tabOk tabZ_ok (by repeat (first | with_reducible exact PF.body | with_reducible apply PF.inB | with_reducible apply PF.next)) [(0, {}), (1, {k := 3, p := 3}), (2, {f := 2}), (3, {}), (4, {}), (5, {}), (6, {}), (7, {}), (8, {}), (10, {k := 0, p := 0})] [9, 8, 7, 5, 3, 18, 19, 20, 6, 11, 12, 84, 85, 87] (T' := [(9, .pointer (some ⟨b119, 0, none⟩)), (8, .pointer (some ⟨b91, 0, none⟩)), (7, .pointer (some ⟨b77, 0, none⟩)), (5, .pointer (some ⟨b54, 0, none⟩)), (3, .pointer (some ⟨kb, 0, none⟩)), (18, .slice (some ⟨sb45, k046, none⟩) ops.length c), (19, .int .i64 ((ops.length : Nat) : Int)), (20, .int .i64 i), (6, .pointer (some ⟨kb2, 0, none⟩)), (11, .int .i64 p), (12, .bool true), (84, .bool true), (85, .tuple #[]), (87, .tuple #[])]) (φ := (b91 = b91 ∧ Nat.ble (0 + 1) 10 = true) ∧ ((oz.code != 0)) = true ∧ True) (fuel := 3) h464 (by kernel_rfl) rfl (by kernel_rfl) (by kernel_rfl) ⟨trivial, rfl, trivial, trivial, trivial, trivial, trivial, trivial, trivial, rfl, trivial⟩ ⟨⟨rfl, rfl⟩, (by simp [hcz0]), trivial⟩ fun a466 h467 => ?_
            clear h464
            refine dr_batch tabOk tabZ_ok (by repeat (first | with_reducible exact PF.body | with_reducible apply PF.inB | with_reducible apply PF.next)) [(9, {})] [9, 8, 7, 5, 3, 18, 19, 20, 6, 11, 12, 84, 87, 86] (T' := [(9, .pointer (some ⟨b119, 0, none⟩)), (8, .pointer (some ⟨b91, 0, none⟩)), (7, .pointer (some ⟨b77, 0, none⟩)), (5, .pointer (some ⟨b54, 0, none⟩)), (3, .pointer (some ⟨kb, 0, none⟩)), (18, .slice (some ⟨sb45, k046, none⟩) ops.length c), (19, .int .i64 ((ops.length : Nat) : Int)), (20, .int .i64 i), (6, .pointer (some ⟨kb2, 0, none⟩)), (11, .int .i64 p), (12, .bool true), (84, .bool true), (87, .tuple #[]), (86, .tuple #[])]) (φ := True) (fuel := 2) h467 (by kernel_rfl) rfl (by kernel_rfl) (by kernel_rfl) ⟨trivial, trivial⟩ trivial fun a468 h469 => ?_
            clear h467
            refine dr_batch tabOk tabZ_ok (by repeat (first | with_reducible exact PF.body | with_reducible apply PF.inB | with_reducible apply PF.next)) [(11, {}), (12, {})] [9, 8, 7, 5, 3, 18, 19, 20, 6, 11, 12, 89] (T' := [(9, .pointer (some ⟨b119, 0, none⟩)), (8, .pointer (some ⟨b91, 0, none⟩)), (7, .pointer (some ⟨b77, 0, none⟩)), (5, .pointer (some ⟨b54, 0, none⟩)), (3, .pointer (some ⟨kb, 0, none⟩)), (18, .slice (some ⟨sb45, k046, none⟩) ops.length c), (19, .int .i64 ((ops.length : Nat) : Int)), (20, .int .i64 i), (6, .pointer (some ⟨kb2, 0, none⟩)), (11, .int .i64 p), (12, .bool true), (89, .bool true)]) (φ := True) (fuel := 0) h469 (by kernel_rfl) rfl (by kernel_rfl) (by kernel_rfl) ⟨trivial, trivial, trivial⟩ trivial fun a470 h471 => ?_
            clear h469
            refine wpAnyK_done (by kernel_rfl) ?_ _
            refine hK462 _ _ ?_
            clear hK462
            refine c_true h471 rfl ?_
            refine wp_exit ?_
            refine hK49 _ _ ?_
            clear hK49
            refine nd_start (l := [0, 1]) rfl ?_
            refine nd_batch tabOk tabZ_ok [(0, {}), (1, {})] [9, 8, 7, 5, 3, 18, 19, 6, 11, 12, 20] (T' := [(9, .pointer (some ⟨b119, 0, none⟩)), (8, .pointer (some ⟨b91, 0, none⟩)), (7, .pointer (some ⟨b77, 0, none⟩)), (5, .pointer (some ⟨b54, 0, none⟩)), (3, .pointer (some ⟨kb, 0, none⟩)), (18, .slice (some ⟨sb45, k046, none⟩) ops.length c), (19, .int .i64 ((ops.length : Nat) : Int)), (6, .pointer (some ⟨kb2, 0, none⟩)), (11, .int .i64 p), (12, .bool true), (20, .int .i64 (i + 1))]) (φ := inR .i64 (i + 1) ∧ True) (rest := []) h471 (by kernel_rfl) rfl ⟨⟨by omega, by omega⟩, trivial⟩ fun a472 h473 => ?_
            clear h471
            refine nd_done ?_
            have h474 := h473.memMono (L' := [(0, ⟨[.int .u16 0, .int .u32 0], ty0, true⟩)]) (List.Sublist.cons_cons _ (List.Sublist.cons _ (List.Sublist.cons _ (List.Sublist.cons _ (List.Sublist.cons _ List.Sublist.slnil)))))
            clear h473
            have h475 := h474.pcSub (ps' := [pKer kb bo bc nd9 Sz Cz]) (List.Sublist.cons_cons _ (List.Sublist.cons _ List.Sublist.slnil))
            clear h474
            exact ⟨(g - 1), by omega, nd9, Sz, Cz, Qz, (i + 1), by omega, ⟨by omega, by omega⟩, hivz.1, hivz.2, hXz, hS.liq, hS.top, hWz, hGz, (h475.slotsMono (restr_spec (keep := [3, 18, 19, 20]) rfl))⟩
          by_cases hidl : Sz.cur = -1
          ·
            have hzz : refP Cz.ent Sz.cur = ⟨0, 0⟩ := by unfold refP; rw [if_pos hidl]
            refine wp_exit ?_
            refine hK129 _ _ ?_
            clear hK129
            refine wp_seq_k fun K476 hK476 => ?_
            refine dr_start (KB := [0, b54, b77, b91, b119]) (Bi := [[0, 1, 2, 3, 4], [2], [0, 1, 2, 3, 4], [0, 1, 2, 3, 4], [0, 1, 2, 3, 4], [0, 1, 2, 3, 4], [0, 1, 2, 3, 4], [0, 1, 2, 3, 4], [0, 1, 2, 3, 4], [0, 1, 2, 3, 4], [0, 1, 2, 3, 4], [0, 1, 2, 3, 4], [0, 1, 2, 3, 4], [0, 1, 2, 3, 4], [0, 1, 2, 3, 4]]) mixed h141 fun w477 h478 => ?_
            clear h141
            refine dr_batch tabOk tabZ_ok (by repeat (first | with_reducible exact PF.body | with_reducible apply PF.inB | with_reducible apply PF.next)) [(0, {}), (2, {k := 2, p := 2})] [9, 8, 7, 5, 3, 18, 19, 20, 6, 11, 63, 65] (T' := [(9, .pointer (some ⟨b119, 0, none⟩)), (8, .pointer (some ⟨b91, 0, none⟩)), (7, .pointer (some ⟨b77, 0, none⟩)), (5, .pointer (some ⟨b54, 0, none⟩)), (3, .pointer (some ⟨kb, 0, none⟩)), (18, .slice (some ⟨sb45, k046, none⟩) ops.length c), (19, .int .i64 ((ops.length : Nat) : Int)), (20, .int .i64 i), (6, .pointer (some ⟨kb2, 0, none⟩)), (11, .int .i64 p), (63, .pointer (some ⟨kb, 0, none⟩)), (65, .agg #[.int .u16 ((refP C.ent S.cur).idx), .int .u32 ((refP C.ent S.cur).gen)])]) (φ := (b77 = b77 ∧ Nat.ble (0 + 2) 2 = true) ∧ True) (fuel := 13) h478 (by kernel_rfl) rfl (by kernel_rfl) (by kernel_rfl) ⟨trivial, rfl, trivial⟩ ⟨⟨rfl, rfl⟩, trivial⟩ fun a480 h481 => ?_
            clear h478
            refine wpAnyK_one (i := 1) (fuel := 12) (by kernel_rfl) ?_
            refine op_call h481 rfl rfl rfl (callOk Tryd.func18 (by decide) rfl) (args := [.pointer (some ⟨kb, 0, none⟩)]) rfl (running_ok kb bo bc Sz hivz.1.ri Cz.ent _ (h481.inv.get (j := 0) (p := pKer kb bo bc nd9 Sz Cz) rfl).ker (h481.inv.get (j := 0) (p := pKer kb bo bc nd9 Sz Cz) rfl).cap.st (h481.inv.get (j := 0) (p := pKer kb bo bc nd9 Sz Cz) rfl).ne) ?_
            rintro _ w482 ⟨rfl, hf484⟩
            refine ⟨_, rfl, ?_⟩
            have h483 := (h481.grow hf484).put (d := some 64) (v := .agg #[.int .u16 ((refP Cz.ent Sz.cur).idx), .int .u32 ((refP Cz.ent Sz.cur).gen)]) (T' := [(64, .agg #[.int .u16 ((refP Cz.ent Sz.cur).idx), .int .u32 ((refP Cz.ent Sz.cur).gen)]), (9, .pointer (some ⟨b119, 0, none⟩)), (8, .pointer (some ⟨b91, 0, none⟩)), (7, .pointer (some ⟨b77, 0, none⟩)), (5, .pointer (some ⟨b54, 0, none⟩)), (3, .pointer (some ⟨kb, 0, none⟩)), (18, .slice (some ⟨sb45, k046, none⟩) ops.length c), (19, .int .i64 ((ops.length : Nat) : Int)), (20, .int .i64 i), (6, .pointer (some ⟨kb2, 0, none⟩)), (11, .int .i64 p), (63, .pointer (some ⟨kb, 0, none⟩)), (65, .agg #[.int .u16 ((refP C.ent S.cur).idx), .int .u32 ((refP C.ent S.cur).gen)])]) rfl
            refine ⟨(h481.keepFr hf484 (kcons (by simp) knil)), ?_⟩
            clear h481
            refine dr_batch tabOk tabZ_ok (by repeat (first | with_reducible exact PF.body | with_reducible apply PF.inB | with_reducible apply PF.next)) [(3, {f := 1}), (4, {}), (5, {}), (6, {k := 1, p := 1}), (7, {f := 1}), (8, {}), (9, {}), (10, {}), (11, {k := 1, p := 1}), (12, {f := 2}), (13, {}), (14, {})] [9, 8, 7, 5, 3, 18, 19, 20, 6, 11, 12] (T' := [(9, .pointer (some ⟨b119, 0, none⟩)), (8, .pointer (some ⟨b91, 0, none⟩)), (7, .pointer (some ⟨b77, 0, none⟩)), (5, .pointer (some ⟨b54, 0, none⟩)), (3, .pointer (some ⟨kb, 0, none⟩)), (18, .slice (some ⟨sb45, k046, none⟩) ops.length c), (19, .int .i64 ((ops.length : Nat) : Int)), (20, .int .i64 i), (6, .pointer (some ⟨kb2, 0, none⟩)), (11, .int .i64 p), (12, .bool true)]) (φ := EqRun Tryd.prog 39 (.agg #[.int .u16 ((refP Cz.ent Sz.cur).idx), .int .u32 ((refP Cz.ent Sz.cur).gen)]) (.agg #[.int .u16 ((refP C.ent S.cur).idx), .int .u32 ((refP C.ent S.cur).gen)]) true ∧ (b54 = b54 ∧ Nat.ble (0 + 1) 11 = true) ∧ ((x.ev.kind == 0)) = false ∧ (b54 = b54 ∧ Nat.ble (0 + 1) 11 = true) ∧ ((x.ev.kind == 2)) = true ∧ True) (fuel := 0) h483 (by kernel_rfl) rfl (by kernel_rfl) (by kernel_rfl) ⟨trivial, trivial, trivial, rfl, trivial, trivial, trivial, trivial, rfl, trivial, trivial, trivial, trivial⟩ ⟨(runRfD (a := refP Cz.ent Sz.cur) (b := refP C.ent S.cur) (by simp [hrf])), ⟨rfl, rfl⟩, (by simp [hk0]), ⟨rfl, rfl⟩, (by simp [hk2]), trivial⟩ fun a485 h486 => ?_
            clear h483
            refine wpAnyK_done (by kernel_rfl) ?_ _
            refine hK476 _ _ ?_
            clear hK476
            refine wp_seq_k fun K487 hK487 => ?_
            refine wp_seq_k fun K488 hK488 => ?_
            refine dr_start (KB := [0, b54, b77, b91, b119]) (Bi := [[0, 1, 2, 3, 4], [0, 1, 2, 3, 4], [0, 1, 2, 3, 4], [0, 1, 2, 3, 4], [0, 1, 2, 3, 4], [0, 1, 2, 3, 4], [0, 1, 2, 3, 4], [0, 1, 2, 3, 4], [0, 1, 2, 3, 4], [0], [0, 1, 2, 3, 4], [0, 1, 2, 3, 4], [0, 1, 2, 3, 4]]) mixed h486 fun w489 h490 => ?_
            clear h486
            refine dr_batch tabOk tabZ_ok (by repeat (first | with_reducible exact PF.body | with_reducible apply PF.inB | with_reducible apply PF.next)) [(0, {}), (1, {k := 3, p := 3}), (2, {f := 1}), (3, {}), (4, {}), (5, {}), (6, {}), (7, {}), (8, {}), (10, {k := 0, p := 0})] [9, 8, 7, 5, 3, 18, 19, 20, 6, 11, 12, 84, 85, 87] (T' := [(9, .pointer (some ⟨b119, 0, none⟩)), (8, .pointer (some ⟨b91, 0, none⟩)), (7, .pointer (some ⟨b77, 0, none⟩)), (5, .pointer (some ⟨b54, 0, none⟩)), (3, .pointer (some ⟨kb, 0, none⟩)), (18, .slice (some ⟨sb45, k046, none⟩) ops.length c), (19, .int .i64 ((ops.length : Nat) : Int)), (20, .int .i64 i), (6, .pointer (some ⟨kb2, 0, none⟩)), (11, .int .i64 p), (12, .bool true), (84, .bool false), (85, .pointer (some ⟨kb, 0, none⟩)), (87, .agg #[.int .u16 0, .int .u32 0])]) (φ := (b91 = b91 ∧ Nat.ble (0 + 1) 10 = true) ∧ ((oz.code != 0)) = false ∧ (0 = 0 ∧ Nat.ble (0 + 2) 2 = true) ∧ True) (fuel := 3) h490 (by kernel_rfl) rfl (by kernel_rfl) (by kernel_rfl) ⟨trivial, rfl, trivial, trivial, trivial, trivial, trivial, trivial, trivial, rfl, trivial⟩ ⟨⟨rfl, rfl⟩, (by simp [hcz0]), ⟨rfl, rfl⟩, trivial⟩ fun a492 h493 => ?_
            clear h490
            refine wpAnyK_one (i := 9) (fuel := 2) (by kernel_rfl) ?_
            refine op_call h493 rfl rfl rfl (callOk Tryd.func18 (by decide) rfl) (args := [.pointer (some ⟨kb, 0, none⟩)]) rfl (running_ok kb bo bc Sz hivz.1.ri Cz.ent _ (h493.inv.get (j := 0) (p := pKer kb bo bc nd9 Sz Cz) rfl).ker (h493.inv.get (j := 0) (p := pKer kb bo bc nd9 Sz Cz) rfl).cap.st (h493.inv.get (j := 0) (p := pKer kb bo bc nd9 Sz Cz) rfl).ne) ?_
            rintro _ w494 ⟨rfl, hf496⟩
            refine ⟨_, rfl, ?_⟩
            have h495 := (h493.grow hf496).put (d := some 86) (v := .agg #[.int .u16 ((refP Cz.ent Sz.cur).idx), .int .u32 ((refP Cz.ent Sz.cur).gen)]) (T' := [(86, .agg #[.int .u16 ((refP Cz.ent Sz.cur).idx), .int .u32 ((refP Cz.ent Sz.cur).gen)]), (9, .pointer (some ⟨b119, 0, none⟩)), (8, .pointer (some ⟨b91, 0, none⟩)), (7, .pointer (some ⟨b77, 0, none⟩)), (5, .pointer (some ⟨b54, 0, none⟩)), (3, .pointer (some ⟨kb, 0, none⟩)), (18, .slice (some ⟨sb45, k046, none⟩) ops.length c), (19, .int .i64 ((ops.length : Nat) : Int)), (20, .int .i64 i), (6, .pointer (some ⟨kb2, 0, none⟩)), (11, .int .i64 p), (12, .bool true), (84, .bool false), (85, .pointer (some ⟨kb, 0, none⟩)), (87, .agg #[.int .u16 0, .int .u32 0])]) rfl
            refine ⟨(h493.keepFr hf496 (kcons (by simp) knil)), ?_⟩
            clear h493
            refine dr_batch tabOk tabZ_ok (by repeat (first | with_reducible exact PF.body | with_reducible apply PF.inB | with_reducible apply PF.next)) [(11, {f := 2}), (12, {})] [9, 8, 7, 5, 3, 18, 19, 20, 6, 11, 12, 89] (T' := [(9, .pointer (some ⟨b119, 0, none⟩)), (8, .pointer (some ⟨b91, 0, none⟩)), (7, .pointer (some ⟨b77, 0, none⟩)), (5, .pointer (some ⟨b54, 0, none⟩)), (3, .pointer (some ⟨kb, 0, none⟩)), (18, .slice (some ⟨sb45, k046, none⟩) ops.length c), (19, .int .i64 ((ops.length : Nat) : Int)), (20, .int .i64 i), (6, .pointer (some ⟨kb2, 0, none⟩)), (11, .int .i64 p), (12, .bool true), (89, .bool true)]) (φ := EqRun Tryd.prog 39 (.agg #[.int .u16 ((refP Cz.ent Sz.cur).idx), .int .u32 ((refP Cz.ent Sz.cur).gen)]) (.agg #[.int .u16 0, .int .u32 0]) true ∧ True) (fuel := 0) h495 (by kernel_rfl) rfl (by kernel_rfl) (by kernel_rfl) ⟨trivial, trivial, trivial⟩ ⟨(runRfD (a := refP Cz.ent Sz.cur) (b := ⟨0, 0⟩) (by simp [hzz])), trivial⟩ fun a497 h498 => ?_
            clear h495
            refine wpAnyK_done (by kernel_rfl) ?_ _
            refine hK488 _ _ ?_
            clear hK488
            refine c_true h498 rfl ?_
            refine wp_exit ?_
            refine hK49 _ _ ?_
            clear hK49
            refine nd_start (l := [0, 1]) rfl ?_
            refine nd_batch tabOk tabZ_ok [(0, {}), (1, {})] [9, 8, 7, 5, 3, 18, 19, 6, 11, 12, 20] (T' := [(9, .pointer (some ⟨b119, 0, none⟩)), (8, .pointer (some ⟨b91, 0, none⟩)), (7, .pointer (some ⟨b77, 0, none⟩)), (5, .pointer (some ⟨b54, 0, none⟩)), (3, .pointer (some ⟨kb, 0, none⟩)), (18, .slice (some ⟨sb45, k046, none⟩) ops.length c), (19, .int .i64 ((ops.length : Nat) : Int)), (6, .pointer (some ⟨kb2, 0, none⟩)), (11, .int .i64 p), (12, .bool true), (20, .int .i64 (i + 1))]) (φ := inR .i64 (i + 1) ∧ True) (rest := []) h498 (by kernel_rfl) rfl ⟨⟨by omega, by omega⟩, trivial⟩ fun a499 h500 => ?_
            clear h498
            refine nd_done ?_
            have h501 := h500.memMono (L' := [(0, ⟨[.int .u16 0, .int .u32 0], ty0, true⟩)]) (List.Sublist.cons_cons _ (List.Sublist.cons _ (List.Sublist.cons _ (List.Sublist.cons _ (List.Sublist.cons _ List.Sublist.slnil)))))
            clear h500
            have h502 := h501.pcSub (ps' := [pKer kb bo bc nd9 Sz Cz]) (List.Sublist.cons_cons _ (List.Sublist.cons _ List.Sublist.slnil))
            clear h501
            exact ⟨(g - 1), by omega, nd9, Sz, Cz, Qz, (i + 1), by omega, ⟨by omega, by omega⟩, hivz.1, hivz.2, hXz, hS.liq, hS.top, hWz, hGz, (h502.slotsMono (restr_spec (keep := [3, 18, 19, 20]) rfl))⟩
          ·
            have hcz := lk_nat hivz.1.ri.cur hidl
            have hcr := ref_live_none hGz hcz
            have hpk2 : 0 ≤ (IntKind.wrap .u32 (x.ev.pick + 1)) ∧ (IntKind.wrap .u32 (x.ev.pick + 1)) < 4294967296 := wrap_u32 _
            obtain ⟨Sy, oy, Qy, eySy, hqy, hcy, hline⟩ := hS.line hcz0 (.inr (.inr hk2)) hidl (IntKind.wrap .u32 (x.ev.pick + 1)) hpk2.1
            have hev2 : EvOk ({ x.ev with pick := (IntKind.wrap .u32 (x.ev.pick + 1)) } : Ev) := ⟨(hev x hxm).1.kind, hpk2, (hev x hxm).1.addr, (hev x hxm).1.node, (hev x hxm).1.dst, (hev x hxm).1.ty, (hev x hxm).1.arg⟩
            have hivy := step_inv hok hci hev2
            rw [eySy] at hivy
            dsimp only at hivy
            have hXy := hX.step hok hci hev2
            rw [eySy] at hXy
            dsimp only at hXy
            have hlnl : (lineUpP Sz Qz Cz.ent x.ev.pick).length ≤ 1000 := line_len hivz.1.ri hS.liq hcz (hev x hxm).1.pick
            refine wp_exit ?_
            refine hK129 _ _ ?_
            clear hK129
            refine wp_seq_k fun K503 hK503 => ?_
            refine dr_start (KB := [0, b54, b77, b91, b119]) (Bi := [[0, 1, 2, 3, 4], [2], [0, 1, 2, 3, 4], [0, 1, 2, 3, 4], [0, 1, 2, 3, 4], [0, 1, 2, 3, 4], [0, 1, 2, 3, 4], [0, 1, 2, 3, 4], [0, 1, 2, 3, 4], [0, 1, 2, 3, 4], [0, 1, 2, 3, 4], [0, 1, 2, 3, 4], [0, 1, 2, 3, 4], [0, 1, 2, 3, 4], [0, 1, 2, 3, 4]]) mixed h141 fun w504 h505 => ?_
            clear h141
            refine dr_batch tabOk tabZ_ok (by repeat (first | with_reducible exact PF.body | with_reducible apply PF.inB | with_reducible apply PF.next)) [(0, {}), (2, {k := 2, p := 2})] [9, 8, 7, 5, 3, 18, 19, 20, 6, 11, 63, 65] (T' := [(9, .pointer (some ⟨b119, 0, none⟩)), (8, .pointer (some ⟨b91, 0, none⟩)), (7, .pointer (some ⟨b77, 0, none⟩)), (5, .pointer (some ⟨b54, 0, none⟩)), (3, .pointer (some ⟨kb, 0, none⟩)), (18, .slice (some ⟨sb45, k046, none⟩) ops.length c), (19, .int .i64 ((ops.length : Nat) : Int)), (20, .int .i64 i), (6, .pointer (some ⟨kb2, 0, none⟩)), (11, .int .i64 p), (63, .pointer (some ⟨kb, 0, none⟩)), (65, .agg #[.int .u16 ((refP C.ent S.cur).idx), .int .u32 ((refP C.ent S.cur).gen)])]) (φ := (b77 = b77 ∧ Nat.ble (0 + 2) 2 = true) ∧ True) (fuel := 13) h505 (by kernel_rfl) rfl (by kernel_rfl) (by kernel_rfl) ⟨trivial, rfl, trivial⟩ ⟨⟨rfl, rfl⟩, trivial⟩ fun a507 h508 => ?_
            clear h505
            refine wpAnyK_one (i := 1) (fuel := 12) (by kernel_rfl) ?_
            refine op_call h508 rfl rfl rfl (callOk Tryd.func18 (by decide) rfl) (args := [.pointer (some ⟨kb, 0, none⟩)]) rfl (running_ok kb bo bc Sz hivz.1.ri Cz.ent _ (h508.inv.get (j := 0) (p := pKer kb bo bc nd9 Sz Cz) rfl).ker (h508.inv.get (j := 0) (p := pKer kb bo bc nd9 Sz Cz) rfl).cap.st (h508.inv.get (j := 0) (p := pKer kb bo bc nd9 Sz Cz) rfl).ne) ?_
            rintro _ w509 ⟨rfl, hf511⟩
            refine ⟨_, rfl, ?_⟩
            have h510 := (h508.grow hf511).put (d := some 64) (v := .agg #[.int .u16 ((refP Cz.ent Sz.cur).idx), .int .u32 ((refP Cz.ent Sz.cur).gen)]) (T' := [(64, .agg #[.int .u16 ((refP Cz.ent Sz.cur).idx), .int .u32 ((refP Cz.ent Sz.cur).gen)]), (9, .pointer (some ⟨b119, 0, none⟩)), (8, .pointer (some ⟨b91, 0, none⟩)), (7, .pointer (some ⟨b77, 0, none⟩)), (5, .pointer (some ⟨b54, 0, none⟩)), (3, .pointer (some ⟨kb, 0, none⟩)), (18, .slice (some ⟨sb45, k046, none⟩) ops.length c), (19, .int .i64 ((ops.length : Nat) : Int)), (20, .int .i64 i), (6, .pointer (some ⟨kb2, 0, none⟩)), (11, .int .i64 p), (63, .pointer (some ⟨kb, 0, none⟩)), (65, .agg #[.int .u16 ((refP C.ent S.cur).idx), .int .u32 ((refP C.ent S.cur).gen)])]) rfl
            refine ⟨(h508.keepFr hf511 (kcons (by simp) knil)), ?_⟩
            clear h508
            refine dr_batch tabOk tabZ_ok (by repeat (first | with_reducible exact PF.body | with_reducible apply PF.inB | with_reducible apply PF.next)) [(3, {f := 1}), (4, {}), (5, {}), (6, {k := 1, p := 1}), (7, {f := 1}), (8, {}), (9, {}), (10, {}), (11, {k := 1, p := 1}), (12, {f := 2}), (13, {}), (14, {})] [9, 8, 7, 5, 3, 18, 19, 20, 6, 11, 12] (T' := [(9, .pointer (some ⟨b119, 0, none⟩)), (8, .pointer (some ⟨b91, 0, none⟩)), (7, .pointer (some ⟨b77, 0, none⟩)), (5, .pointer (some ⟨b54, 0, none⟩)), (3, .pointer (some ⟨kb, 0, none⟩)), (18, .slice (some ⟨sb45, k046, none⟩) ops.length c), (19, .int .i64 ((ops.length : Nat) : Int)), (20, .int .i64 i), (6, .pointer (some ⟨kb2, 0, none⟩)), (11, .int .i64 p), (12, .bool true)]) (φ := EqRun Tryd.prog 39 (.agg #[.int .u16 ((refP Cz.ent Sz.cur).idx), .int .u32 ((refP Cz.ent Sz.cur).gen)]) (.agg #[.int .u16 ((refP C.ent S.cur).idx), .int .u32 ((refP C.ent S.cur).gen)]) true ∧ (b54 = b54 ∧ Nat.ble (0 + 1) 11 = true) ∧ ((x.ev.kind == 0)) = false ∧ (b54 = b54 ∧ Nat.ble (0 + 1) 11 = true) ∧ ((x.ev.kind == 2)) = true ∧ True) (fuel := 0) h510 (by kernel_rfl) rfl (by kernel_rfl) (by kernel_rfl) ⟨trivial, trivial, trivial, rfl, trivial, trivial, trivial, trivial, rfl, trivial, trivial, trivial, trivial⟩ ⟨(runRfD (a := refP Cz.ent Sz.cur) (b := refP C.ent S.cur) (by simp [hrf])), ⟨rfl, rfl⟩, (by simp [hk0]), ⟨rfl, rfl⟩, (by simp [hk2]), trivial⟩ fun a512 h513 => ?_
            clear h510
            refine wpAnyK_done (by kernel_rfl) ?_ _
            refine hK503 _ _ ?_
            clear hK503
            refine wp_seq_k fun K514 hK514 => ?_
            refine wp_seq_k fun K515 hK515 => ?_
            refine dr_start (KB := [0, b54, b77, b91, b119]) (Bi := [[0, 1, 2, 3, 4], [0, 1, 2, 3, 4], [0, 1, 2, 3, 4], [0, 1, 2, 3, 4], [0, 1, 2, 3, 4], [0, 1, 2, 3, 4], [0, 1, 2, 3, 4], [0, 1, 2, 3, 4], [0, 1, 2, 3, 4], [0], [0, 1, 2, 3, 4], [0, 1, 2, 3, 4], [0, 1, 2, 3, 4]]) mixed h513 fun w516 h517 => ?_
            clear h513
            refine dr_batch tabOk tabZ_ok (by repeat (first | with_reducible exact PF.body | with_reducible apply PF.inB | with_reducible apply PF.next)) [(0, {}), (1, {k := 3, p := 3}), (2, {f := 1}), (3, {}), (4, {}), (5, {}), (6, {}), (7, {}), (8, {}), (10, {k := 0, p := 0})] [9, 8, 7, 5, 3, 18, 19, 20, 6, 11, 12, 84, 85, 87] (T' := [(9, .pointer (some ⟨b119, 0, none⟩)), (8, .pointer (some ⟨b91, 0, none⟩)), (7, .pointer (some ⟨b77, 0, none⟩)), (5, .pointer (some ⟨b54, 0, none⟩)), (3, .pointer (some ⟨kb, 0, none⟩)), (18, .slice (some ⟨sb45, k046, none⟩) ops.length c), (19, .int .i64 ((ops.length : Nat) : Int)), (20, .int .i64 i), (6, .pointer (some ⟨kb2, 0, none⟩)), (11, .int .i64 p), (12, .bool true), (84, .bool false), (85, .pointer (some ⟨kb, 0, none⟩)), (87, .agg #[.int .u16 0, .int .u32 0])]) (φ := (b91 = b91 ∧ Nat.ble (0 + 1) 10 = true) ∧ ((oz.code != 0)) = false ∧ (0 = 0 ∧ Nat.ble (0 + 2) 2 = true) ∧ True) (fuel := 3) h517 (by kernel_rfl) rfl (by kernel_rfl) (by kernel_rfl) ⟨trivial, rfl, trivial, trivial, trivial, trivial, trivial, trivial, trivial, rfl, trivial⟩ ⟨⟨rfl, rfl⟩, (by simp [hcz0]), ⟨rfl, rfl⟩, trivial⟩ fun a519 h520 => ?_
            clear h517
            refine wpAnyK_one (i := 9) (fuel := 2) (by kernel_rfl) ?_
            refine op_call h520 rfl rfl rfl (callOk Tryd.func18 (by decide) rfl) (args := [.pointer (some ⟨kb, 0, none⟩)]) rfl (running_ok kb bo bc Sz hivz.1.ri Cz.ent _ (h520.inv.get (j := 0) (p := pKer kb bo bc nd9 Sz Cz) rfl).ker (h520.inv.get (j := 0) (p := pKer kb bo bc nd9 Sz Cz) rfl).cap.st (h520.inv.get (j := 0) (p := pKer kb bo bc nd9 Sz Cz) rfl).ne) ?_
            rintro _ w521 ⟨rfl, hf523⟩
            refine ⟨_, rfl, ?_⟩
            have h522 := (h520.grow hf523).put (d := some 86) (v := .agg #[.int .u16 ((refP Cz.ent Sz.cur).idx), .int .u32 ((refP Cz.ent Sz.cur).gen)]) (T' := [(86, .agg #[.int .u16 ((refP Cz.ent Sz.cur).idx), .int .u32 ((refP Cz.ent Sz.cur).gen)]), (9, .pointer (some ⟨b119, 0, none⟩)), (8, .pointer (some ⟨b91, 0, none⟩)), (7, .pointer (some ⟨b77, 0, none⟩)), (5, .pointer (some ⟨b54, 0, none⟩)), (3, .pointer (some ⟨kb, 0, none⟩)), (18, .slice (some ⟨sb45, k046, none⟩) ops.length c), (19, .int .i64 ((ops.length : Nat) : Int)), (20, .int .i64 i), (6, .pointer (some ⟨kb2, 0, none⟩)), (11, .int .i64 p), (12, .bool true), (84, .bool false), (85, .pointer (some ⟨kb, 0, none⟩)), (87, .agg #[.int .u16 0, .int .u32 0])]) rfl
            refine ⟨(h520.keepFr hf523 (kcons (by simp) knil)), ?_⟩
            clear h520
            refine dr_batch tabOk tabZ_ok (by repeat (first | with_reducible exact PF.body | with_reducible apply PF.inB | with_reducible apply PF.next)) [(11, {f := 1}), (12, {})] [9, 8, 7, 5, 3, 18, 19, 20, 6, 11, 12, 89] (T' := [(9, .pointer (some ⟨b119, 0, none⟩)), (8, .pointer (some ⟨b91, 0, none⟩)), (7, .pointer (some ⟨b77, 0, none⟩)), (5, .pointer (some ⟨b54, 0, none⟩)), (3, .pointer (some ⟨kb, 0, none⟩)), (18, .slice (some ⟨sb45, k046, none⟩) ops.length c), (19, .int .i64 ((ops.length : Nat) : Int)), (20, .int .i64 i), (6, .pointer (some ⟨kb2, 0, none⟩)), (11, .int .i64 p), (12, .bool true), (89, .bool false)]) (φ := EqRun Tryd.prog 39 (.agg #[.int .u16 ((refP Cz.ent Sz.cur).idx), .int .u32 ((refP Cz.ent Sz.cur).gen)]) (.agg #[.int .u16 0, .int .u32 0]) false ∧ True) (fuel := 0) h522 (by kernel_rfl) rfl (by kernel_rfl) (by kernel_rfl) ⟨trivial, trivial, trivial⟩ ⟨(runRfD (a := refP Cz.ent Sz.cur) (b := ⟨0, 0⟩) (by simp [hcr])), trivial⟩ fun a524 h525 => ?_
            clear h522
            refine wpAnyK_done (by kernel_rfl) ?_ _
            refine hK515 _ _ ?_
            clear hK515
            refine c_false h525 rfl ?_
            refine wp_skip ?_
            refine hK514 _ _ ?_
            clear hK514
            refine wp_seq_k fun K526 hK526 => ?_
            refine nd_start (l := [0, 1, 2]) rfl ?_
            refine nd_batch tabOk tabZ_ok [(0, {k := 1})] [9, 8, 7, 5, 3, 18, 19, 20, 6, 11, 12, 90] (T' := [(9, .pointer (some ⟨b119, 0, none⟩)), (8, .pointer (some ⟨b91, 0, none⟩)), (7, .pointer (some ⟨b77, 0, none⟩)), (5, .pointer (some ⟨b54, 0, none⟩)), (3, .pointer (some ⟨kb, 0, none⟩)), (18, .slice (some ⟨sb45, k046, none⟩) ops.length c), (19, .int .i64 ((ops.length : Nat) : Int)), (20, .int .i64 i), (6, .pointer (some ⟨kb2, 0, none⟩)), (11, .int .i64 p), (12, .bool true), (90, .agg #[.int .u8 x.ev.kind, .int .u32 x.ev.pick, .int .u64 x.ev.draw, .int .u32 x.ev.addr, .int .u32 x.ev.node, .int .u32 x.ev.dst, .int .u32 x.ev.xfer, .int .u8 x.ev.ty, .int .u64 x.ev.arg, .int .u64 x.ev.badge, .slice x.xo x.ev.ws.length x.cx])]) (φ := (b54 = b54 ∧ Nat.ble (0 + 11) 11 = true) ∧ True) (rest := [1, 2]) h525 (by kernel_rfl) rfl ⟨⟨rfl, rfl⟩, trivial⟩ fun a527 h528 => ?_
            clear h525
            refine nd_op ?_
            refine op_new tabOk (cells := [.int .u8 0, .int .u32 0, .int .u64 0, .int .u32 0, .int .u32 0, .int .u32 0, .int .u32 0, .int .u8 0, .int .u64 0, .int .u64 0, .slice none 0 0]) (ty := 35) (ln := none) (L1 := fun b529 => [(0, ⟨[.int .u16 0, .int .u32 0], ty0, true⟩), (b54, ⟨[.int .u8 x.ev.kind, .int .u32 x.ev.pick, .int .u64 x.ev.draw, .int .u32 x.ev.addr, .int .u32 x.ev.node, .int .u32 x.ev.dst, .int .u32 x.ev.xfer, .int .u8 x.ev.ty, .int .u64 x.ev.arg, .int .u64 x.ev.badge, .slice x.xo x.ev.ws.length x.cx], 35, false⟩), (b77, ⟨[.int .u16 ((refP C.ent S.cur).idx), .int .u32 ((refP C.ent S.cur).gen)], 39, false⟩), (b91, ⟨[.int .u8 oz.code, .int .u16 oz.run.idx, .int .u32 oz.run.gen, .int .u64 oz.badge, .int .u64 oz.m0, .int .u64 oz.m1, .int .u64 oz.m2, .int .u64 oz.m3, .int .u8 oz.len, .int .u8 oz.got], 42, false⟩), (b119, ⟨[.int .u8 mn.st, .int .u8 mn.prio, .int .u16 mn.wait.idx, .int .u32 mn.wait.gen, .int .u16 mn.cs.idx, .int .u32 mn.cs.gen, .int .u16 mn.rep.idx, .int .u32 mn.rep.gen, .int .u64 mn.badge, .int .u64 mn.m0, .int .u64 mn.m1, .int .u64 mn.m2, .int .u64 mn.m3, .int .u8 mn.len, .int .u8 mn.got, .int .u32 mn.xfer, .int .u32 mn.dst, .bool mn.grant, .bool mn.call], 59, false⟩), (b529, ⟨[.int .u8 0, .int .u32 0, .int .u64 0, .int .u32 0, .int .u32 0, .int .u32 0, .int .u32 0, .int .u8 0, .int .u64 0, .int .u64 0, .slice none 0 0], 35, false⟩)]) h528 rfl rfl rfl rfl (by kernel_rfl) (fun _ => rfl) fun b529 w530 a531 h532 hf533 hn534 => ?_
            clear h528
            refine nd_op ?_
            refine op_store tabOk {k := 5} (L' := [(0, ⟨[.int .u16 0, .int .u32 0], ty0, true⟩), (b54, ⟨[.int .u8 x.ev.kind, .int .u32 x.ev.pick, .int .u64 x.ev.draw, .int .u32 x.ev.addr, .int .u32 x.ev.node, .int .u32 x.ev.dst, .int .u32 x.ev.xfer, .int .u8 x.ev.ty, .int .u64 x.ev.arg, .int .u64 x.ev.badge, .slice x.xo x.ev.ws.length x.cx], 35, false⟩), (b77, ⟨[.int .u16 ((refP C.ent S.cur).idx), .int .u32 ((refP C.ent S.cur).gen)], 39, false⟩), (b91, ⟨[.int .u8 oz.code, .int .u16 oz.run.idx, .int .u32 oz.run.gen, .int .u64 oz.badge, .int .u64 oz.m0, .int .u64 oz.m1, .int .u64 oz.m2, .int .u64 oz.m3, .int .u8 oz.len, .int .u8 oz.got], 42, false⟩), (b119, ⟨[.int .u8 mn.st, .int .u8 mn.prio, .int .u16 mn.wait.idx, .int .u32 mn.wait.gen, .int .u16 mn.cs.idx, .int .u32 mn.cs.gen, .int .u16 mn.rep.idx, .int .u32 mn.rep.gen, .int .u64 mn.badge, .int .u64 mn.m0, .int .u64 mn.m1, .int .u64 mn.m2, .int .u64 mn.m3, .int .u8 mn.len, .int .u8 mn.got, .int .u32 mn.xfer, .int .u32 mn.dst, .bool mn.grant, .bool mn.call], 59, false⟩), (b529, ⟨[.int .u8 x.ev.kind, .int .u32 x.ev.pick, .int .u64 x.ev.draw, .int .u32 x.ev.addr, .int .u32 x.ev.node, .int .u32 x.ev.dst, .int .u32 x.ev.xfer, .int .u8 x.ev.ty, .int .u64 x.ev.arg, .int .u64 x.ev.badge, .slice x.xo x.ev.ws.length x.cx], 35, false⟩)]) (φ := b529 = b529 ∧ Nat.ble (0 + 11) 11 = true) h532 rfl rfl rfl (by kernel_rfl) ⟨rfl, rfl⟩ fun w535 h536 => ?_
            clear h532
            refine nd_done ?_
            refine hK526 _ _ ?_
            clear hK526
            refine wp_seq_k fun K537 hK537 => ?_
            refine nd_start (l := [0, 1, 2, 3, 4]) rfl ?_
            refine nd_batch tabOk tabZ_ok [(0, {}), (1, {k := 5}), (2, {m := 1}), (3, {})] [13, 9, 8, 7, 5, 3, 18, 19, 20, 6, 11, 12, 93, 94] (T' := [(13, .pointer (some ⟨b529, 0, none⟩)), (9, .pointer (some ⟨b119, 0, none⟩)), (8, .pointer (some ⟨b91, 0, none⟩)), (7, .pointer (some ⟨b77, 0, none⟩)), (5, .pointer (some ⟨b54, 0, none⟩)), (3, .pointer (some ⟨kb, 0, none⟩)), (18, .slice (some ⟨sb45, k046, none⟩) ops.length c), (19, .int .i64 ((ops.length : Nat) : Int)), (20, .int .i64 i), (6, .pointer (some ⟨kb2, 0, none⟩)), (11, .int .i64 p), (12, .bool true), (93, .int .u32 (IntKind.wrap .u32 (x.ev.pick + 1))), (94, .pointer (some ⟨b529, 1, none⟩))]) (φ := (b529 = b529 ∧ Nat.ble (1 + 1) 11 = true) ∧ True) (rest := [4]) h536 (by kernel_rfl) rfl ⟨⟨rfl, rfl⟩, trivial⟩ fun a538 h539 => ?_
            clear h536
            refine nd_op ?_
            refine op_store tabOk {k := 5} (L' := [(0, ⟨[.int .u16 0, .int .u32 0], ty0, true⟩), (b54, ⟨[.int .u8 x.ev.kind, .int .u32 x.ev.pick, .int .u64 x.ev.draw, .int .u32 x.ev.addr, .int .u32 x.ev.node, .int .u32 x.ev.dst, .int .u32 x.ev.xfer, .int .u8 x.ev.ty, .int .u64 x.ev.arg, .int .u64 x.ev.badge, .slice x.xo x.ev.ws.length x.cx], 35, false⟩), (b77, ⟨[.int .u16 ((refP C.ent S.cur).idx), .int .u32 ((refP C.ent S.cur).gen)], 39, false⟩), (b91, ⟨[.int .u8 oz.code, .int .u16 oz.run.idx, .int .u32 oz.run.gen, .int .u64 oz.badge, .int .u64 oz.m0, .int .u64 oz.m1, .int .u64 oz.m2, .int .u64 oz.m3, .int .u8 oz.len, .int .u8 oz.got], 42, false⟩), (b119, ⟨[.int .u8 mn.st, .int .u8 mn.prio, .int .u16 mn.wait.idx, .int .u32 mn.wait.gen, .int .u16 mn.cs.idx, .int .u32 mn.cs.gen, .int .u16 mn.rep.idx, .int .u32 mn.rep.gen, .int .u64 mn.badge, .int .u64 mn.m0, .int .u64 mn.m1, .int .u64 mn.m2, .int .u64 mn.m3, .int .u8 mn.len, .int .u8 mn.got, .int .u32 mn.xfer, .int .u32 mn.dst, .bool mn.grant, .bool mn.call], 59, false⟩), (b529, ⟨[.int .u8 x.ev.kind, .int .u32 (IntKind.wrap .u32 (x.ev.pick + 1)), .int .u64 x.ev.draw, .int .u32 x.ev.addr, .int .u32 x.ev.node, .int .u32 x.ev.dst, .int .u32 x.ev.xfer, .int .u8 x.ev.ty, .int .u64 x.ev.arg, .int .u64 x.ev.badge, .slice x.xo x.ev.ws.length x.cx], 35, false⟩)]) (φ := b529 = b529 ∧ Nat.ble (1 + 1) 11 = true) h539 rfl rfl rfl (by kernel_rfl) ⟨rfl, rfl⟩ fun w540 h541 => ?_
            clear h539
            refine nd_done ?_
            refine hK537 _ _ ?_
            clear hK537
            refine wp_seq_k fun K542 hK542 => ?_
            refine nd_start (l := [0, 1, 2]) rfl ?_
            refine nd_batch tabOk tabZ_ok [(0, {}), (1, {k := 5})] [13, 9, 8, 7, 5, 3, 18, 19, 20, 6, 11, 12, 95, 96] (T' := [(13, .pointer (some ⟨b529, 0, none⟩)), (9, .pointer (some ⟨b119, 0, none⟩)), (8, .pointer (some ⟨b91, 0, none⟩)), (7, .pointer (some ⟨b77, 0, none⟩)), (5, .pointer (some ⟨b54, 0, none⟩)), (3, .pointer (some ⟨kb, 0, none⟩)), (18, .slice (some ⟨sb45, k046, none⟩) ops.length c), (19, .int .i64 ((ops.length : Nat) : Int)), (20, .int .i64 i), (6, .pointer (some ⟨kb2, 0, none⟩)), (11, .int .i64 p), (12, .bool true), (95, .pointer (some ⟨kb2, 0, none⟩)), (96, .agg #[.int .u8 x.ev.kind, .int .u32 (IntKind.wrap .u32 (x.ev.pick + 1)), .int .u64 x.ev.draw, .int .u32 x.ev.addr, .int .u32 x.ev.node, .int .u32 x.ev.dst, .int .u32 x.ev.xfer, .int .u8 x.ev.ty, .int .u64 x.ev.arg, .int .u64 x.ev.badge, .slice x.xo x.ev.ws.length x.cx])]) (φ := (b529 = b529 ∧ Nat.ble (0 + 11) 11 = true) ∧ True) (rest := [2]) h541 (by kernel_rfl) rfl ⟨⟨rfl, rfl⟩, trivial⟩ fun a543 h544 => ?_
            clear h541
            refine nd_op ?_
            have hnwkSy : ∀ b ∈ kb2 :: capF bo2 bc2 nd2 C, w.heap.size ≤ b := h544.inv.newOf (j := 1) (p := pKer kb2 bo2 bc2 nd2 S C) rfl
            have hstSy := step_ok kb2 bo2 bc2 nd2 S hok.ri C hok.li hci ({ x.ev with pick := (IntKind.wrap .u32 (x.ev.pick + 1)) } : Ev) hev2 x.xo x.cx _ (h544.inv.get (j := 1) (p := pKer kb2 bo2 bc2 nd2 S C) rfl).ker (h544.inv.get (j := 1) (p := pKer kb2 bo2 bc2 nd2 S C) rfl).cap (h544.inv.get (j := 1) (p := pKer kb2 bo2 bc2 nd2 S C) rfl).nk (cellsK hg1 h544.frame hgs1 (by simp)) (Nat.lt_of_lt_of_le hgs1 h544.frame.size) (by have := hnwkSy kb2 (List.mem_cons_self ..); omega) (fun hq => by have := hnwkSy 1 (List.mem_cons_of_mem _ hq); omega) (words_at (hwd x hxm) h544.frame hnwkSy)
            rw [eySy] at hstSy
            have hgkSy := (h544.inv.get (j := 1) (p := pKer kb2 bo2 bc2 nd2 S C) rfl).nk
            have hglSy := lt_of_heap (h544.inv.get (j := 1) (p := pKer kb2 bo2 bc2 nd2 S C) rfl).ker
            refine op_call h544 rfl rfl rfl (callOk Tryd.func14 (by decide) rfl) (args := [.pointer (some ⟨kb2, 0, none⟩), .agg #[.int .u8 x.ev.kind, .int .u32 (IntKind.wrap .u32 (x.ev.pick + 1)), .int .u64 x.ev.draw, .int .u32 x.ev.addr, .int .u32 x.ev.node, .int .u32 x.ev.dst, .int .u32 x.ev.xfer, .int .u8 x.ev.ty, .int .u64 x.ev.arg, .int .u64 x.ev.badge, .slice x.xo x.ev.ws.length x.cx]]) rfl (hstSy) ?_
            rintro _ w546 ⟨rfl, hkSy, nd8, hcSy, hsSy, hf545⟩
            refine ⟨_, rfl, ?_⟩
            dsimp only at hkSy hcSy hsSy ⊢
            have hnkSy : kb2 ∉ capF bo2 bc2 nd8 Cz := fun hq => (hsSy _ hq).elim hgkSy (fun h => by omega)
            have h547 := (h544.pcSet (j := 1) (p := pKer kb2 bo2 bc2 nd2 S C) (p' := pKer kb2 bo2 bc2 nd8 Sy Cz) (ps' := [pKer kb bo bc nd9 Sz Cz, pKer kb2 bo2 bc2 nd8 Sy Cz]) rfl (pKer_ok ⟨hkSy, hcSy, hnkSy⟩) hf545 (fun _ h => h) (ker_sub hsSy) (kcons (fun _ => (fun hq => by have := h544.inv.newOf (j := 1) (p := pKer kb2 bo2 bc2 nd2 S C) rfl 0 hq; omega)) (kcons (by intro hq; cases hq) (kcons (by intro hq; cases hq) (kcons (by intro hq; cases hq) (kcons (by intro hq; cases hq) (kcons (by intro hq; cases hq) knil)))))) rfl).put (d := some 97) (v := .agg #[.int .u8 oy.code, .int .u16 oy.run.idx, .int .u32 oy.run.gen, .int .u64 oy.badge, .int .u64 oy.m0, .int .u64 oy.m1, .int .u64 oy.m2, .int .u64 oy.m3, .int .u8 oy.len, .int .u8 oy.got]) (T' := [(97, .agg #[.int .u8 oy.code, .int .u16 oy.run.idx, .int .u32 oy.run.gen, .int .u64 oy.badge, .int .u64 oy.m0, .int .u64 oy.m1, .int .u64 oy.m2, .int .u64 oy.m3, .int .u8 oy.len, .int .u8 oy.got]), (13, .pointer (some ⟨b529, 0, none⟩)), (9, .pointer (some ⟨b119, 0, none⟩)), (8, .pointer (some ⟨b91, 0, none⟩)), (7, .pointer (some ⟨b77, 0, none⟩)), (5, .pointer (some ⟨b54, 0, none⟩)), (3, .pointer (some ⟨kb, 0, none⟩)), (18, .slice (some ⟨sb45, k046, none⟩) ops.length c), (19, .int .i64 ((ops.length : Nat) : Int)), (20, .int .i64 i), (6, .pointer (some ⟨kb2, 0, none⟩)), (11, .int .i64 p), (12, .bool true), (95, .pointer (some ⟨kb2, 0, none⟩)), (96, .agg #[.int .u8 x.ev.kind, .int .u32 (IntKind.wrap .u32 (x.ev.pick + 1)), .int .u64 x.ev.draw, .int .u32 x.ev.addr, .int .u32 x.ev.node, .int .u32 x.ev.dst, .int .u32 x.ev.xfer, .int .u8 x.ev.ty, .int .u64 x.ev.arg, .int .u64 x.ev.badge, .slice x.xo x.ev.ws.length x.cx])]) rfl
            have hszh547 : w.heap.size ≤ _ := h544.frame.size
            clear h544
            refine nd_done ?_
            refine hK542 _ _ ?_
            clear hK542
            refine wp_seq_k fun K548 hK548 => ?_
            refine dr_start (KB := [0, b54, b77, b91, b119, b529]) (Bi := [[0, 1, 2, 3, 4, 5], [0, 1, 2, 3, 4, 5], [0, 1, 2, 3, 4, 5], [5], [0, 1, 2, 3, 4, 5], [0, 1, 2, 3, 4, 5], [0, 1, 2, 3, 4, 5], [], [], [0, 1, 2, 3, 4, 5]]) mixed h547 fun w549 h550 => ?_
            clear h547
            refine dr_batch tabOk tabZ_ok (by repeat (first | with_reducible exact PF.body | with_reducible apply PF.inB | with_reducible apply PF.next)) [(0, {}), (1, {}), (2, {k := 1, p := 1}), (4, {}), (5, {}), (6, {k := 5, p := 5})] [13, 9, 8, 7, 5, 3, 18, 19, 20, 6, 11, 12, 98, 100, 102, 104] (T' := [(13, .pointer (some ⟨b529, 0, none⟩)), (9, .pointer (some ⟨b119, 0, none⟩)), (8, .pointer (some ⟨b91, 0, none⟩)), (7, .pointer (some ⟨b77, 0, none⟩)), (5, .pointer (some ⟨b54, 0, none⟩)), (3, .pointer (some ⟨kb, 0, none⟩)), (18, .slice (some ⟨sb45, k046, none⟩) ops.length c), (19, .int .i64 ((ops.length : Nat) : Int)), (20, .int .i64 i), (6, .pointer (some ⟨kb2, 0, none⟩)), (11, .int .i64 p), (12, .bool true), (98, .pointer (some ⟨kb, 0, none⟩)), (100, .int .u32 x.ev.pick), (102, .pointer (some ⟨kb2, 0, none⟩)), (104, .int .u32 (IntKind.wrap .u32 (x.ev.pick + 1)))]) (φ := (b54 = b54 ∧ Nat.ble (1 + 1) 11 = true) ∧ (b529 = b529 ∧ Nat.ble (1 + 1) 11 = true) ∧ True) (fuel := 4) h550 (by kernel_rfl) rfl (by kernel_rfl) (by kernel_rfl) ⟨trivial, trivial, rfl, trivial, trivial, rfl, trivial⟩ ⟨⟨rfl, rfl⟩, ⟨rfl, rfl⟩, trivial⟩ fun a552 h553 => ?_
            clear h550
            refine wpAnyK_one (i := 3) (fuel := 3) (by kernel_rfl) ?_
            refine op_call h553 rfl rfl rfl (callOk Tryd.func31 (by decide) rfl) (args := [.pointer (some ⟨kb, 0, none⟩), .int .u32 x.ev.pick]) rfl (lineUp_ok kb bo bc Sz hivz.1.ri Cz.ent hivz.2.reg.1 Qz hS.liq hXz hcz x.ev.pick (hev x hxm).1.pick _ (h553.inv.get (j := 0) (p := pKer kb bo bc nd9 Sz Cz) rfl).ker (h553.inv.get (j := 0) (p := pKer kb bo bc nd9 Sz Cz) rfl).cap.st (h553.inv.get (j := 0) (p := pKer kb bo bc nd9 Sz Cz) rfl).ne) ?_
            rintro _ w560 ⟨o554, c555, F556, rfl, hr557, hf558, hF559⟩
            refine ⟨_, rfl, ?_⟩
            have h561 := (h553.pcAdd (p' := pRow (rl rfC 39 2 (lineUpP Sz Qz Cz.ent x.ev.pick) o554 c555 F556)) (ps' := [pKer kb bo bc nd9 Sz Cz, pKer kb2 bo2 bc2 nd8 Sy Cz, pRow (rl rfC 39 2 (lineUpP Sz Qz Cz.ent x.ev.pick) o554 c555 F556)]) (pRow_ok hr557) hf558 hF559 rfl).put (d := some 101) (v := .slice o554 ((lineUpP Sz Qz Cz.ent x.ev.pick).length) c555) (T' := [(101, .slice o554 ((lineUpP Sz Qz Cz.ent x.ev.pick).length) c555), (13, .pointer (some ⟨b529, 0, none⟩)), (9, .pointer (some ⟨b119, 0, none⟩)), (8, .pointer (some ⟨b91, 0, none⟩)), (7, .pointer (some ⟨b77, 0, none⟩)), (5, .pointer (some ⟨b54, 0, none⟩)), (3, .pointer (some ⟨kb, 0, none⟩)), (18, .slice (some ⟨sb45, k046, none⟩) ops.length c), (19, .int .i64 ((ops.length : Nat) : Int)), (20, .int .i64 i), (6, .pointer (some ⟨kb2, 0, none⟩)), (11, .int .i64 p), (12, .bool true), (98, .pointer (some ⟨kb, 0, none⟩)), (100, .int .u32 x.ev.pick), (102, .pointer (some ⟨kb2, 0, none⟩)), (104, .int .u32 (IntKind.wrap .u32 (x.ev.pick + 1)))]) rfl
            have hkh561 := h553.known
            refine ⟨(keepOf hkh561 h561.known (kcons (keepAt (q := 5) (q' := 5) rfl rfl) knil)), ?_⟩
            have hszh561 : w.heap.size ≤ _ := h553.frame.size
            clear h553
            refine wpAnyK_one (i := 7) (fuel := 2) (by kernel_rfl) ?_
            refine op_call h561 rfl rfl rfl (callOk Tryd.func31 (by decide) rfl) (args := [.pointer (some ⟨kb2, 0, none⟩), .int .u32 (IntKind.wrap .u32 (x.ev.pick + 1))]) rfl ((by have hq := lineUp_ok kb2 bo2 bc2 Sy hivy.1.ri Cz.ent hivy.2.reg.1 Qy hqy hXy hcy (IntKind.wrap .u32 (x.ev.pick + 1)) hpk2 _ (h561.inv.get (j := 1) (p := pKer kb2 bo2 bc2 nd8 Sy Cz) rfl).ker (h561.inv.get (j := 1) (p := pKer kb2 bo2 bc2 nd8 Sy Cz) rfl).cap.st (h561.inv.get (j := 1) (p := pKer kb2 bo2 bc2 nd8 Sy Cz) rfl).ne; rw [hline] at hq; exact hq)) ?_
            rintro _ w568 ⟨o562, c563, F564, rfl, hr565, hf566, hF567⟩
            refine ⟨_, rfl, ?_⟩
            have h569 := (h561.pcAdd (p' := pRow (rl rfC 39 2 (lineUpP Sz Qz Cz.ent x.ev.pick) o562 c563 F564)) (ps' := [pKer kb bo bc nd9 Sz Cz, pKer kb2 bo2 bc2 nd8 Sy Cz, pRow (rl rfC 39 2 (lineUpP Sz Qz Cz.ent x.ev.pick) o554 c555 F556), pRow (rl rfC 39 2 (lineUpP Sz Qz Cz.ent x.ev.pick) o562 c563 F564)]) (pRow_ok hr565) hf566 hF567 rfl).put (d := some 105) (v := .slice o562 ((lineUpP Sz Qz Cz.ent x.ev.pick).length) c563) (T' := [(105, .slice o562 ((lineUpP Sz Qz Cz.ent x.ev.pick).length) c563), (101, .slice o554 ((lineUpP Sz Qz Cz.ent x.ev.pick).length) c555), (13, .pointer (some ⟨b529, 0, none⟩)), (9, .pointer (some ⟨b119, 0, none⟩)), (8, .pointer (some ⟨b91, 0, none⟩)), (7, .pointer (some ⟨b77, 0, none⟩)), (5, .pointer (some ⟨b54, 0, none⟩)), (3, .pointer (some ⟨kb, 0, none⟩)), (18, .slice (some ⟨sb45, k046, none⟩) ops.length c), (19, .int .i64 ((ops.length : Nat) : Int)), (20, .int .i64 i), (6, .pointer (some ⟨kb2, 0, none⟩)), (11, .int .i64 p), (12, .bool true), (98, .pointer (some ⟨kb, 0, none⟩)), (100, .int .u32 x.ev.pick), (102, .pointer (some ⟨kb2, 0, none⟩)), (104, .int .u32 (IntKind.wrap .u32 (x.ev.pick + 1)))]) rfl
            have hkh569 := h561.known
            refine ⟨keepNil, ?_⟩
            have hszh569 : w.heap.size ≤ _ := h561.frame.size
            clear h561
            refine wpAnyK_one (i := 8) (fuel := 1) (by kernel_rfl) ?_
            refine op_call h569 rfl rfl rfl (callOk Tryd.func23 (by decide) rfl) (args := [.slice o554 ((lineUpP Sz Qz Cz.ent x.ev.pick).length) c555, .slice o562 ((lineUpP Sz Qz Cz.ent x.ev.pick).length) c563]) rfl (equalP hlnl (h569.inv.get (j := 2) (p := pRow (rl rfC 39 2 (lineUpP Sz Qz Cz.ent x.ev.pick) o554 c555 F556)) rfl) (h569.inv.get (j := 3) (p := pRow (rl rfC 39 2 (lineUpP Sz Qz Cz.ent x.ev.pick) o562 c563 F564)) rfl) (Pf_nodup h569.inv.nd (i := 2) (j := 3) (x := pRow (rl rfC 39 2 (lineUpP Sz Qz Cz.ent x.ev.pick) o554 c555 F556)) (y := pRow (rl rfC 39 2 (lineUpP Sz Qz Cz.ent x.ev.pick) o562 c563 F564)) rfl rfl (by decide))) ?_
            rintro _ w570 ⟨rfl, hf572⟩
            refine ⟨_, rfl, ?_⟩
            have h571 := (h569.grow hf572).put (d := some 106) (v := .bool true) (T' := [(106, .bool true), (105, .slice o562 ((lineUpP Sz Qz Cz.ent x.ev.pick).length) c563), (101, .slice o554 ((lineUpP Sz Qz Cz.ent x.ev.pick).length) c555), (13, .pointer (some ⟨b529, 0, none⟩)), (9, .pointer (some ⟨b119, 0, none⟩)), (8, .pointer (some ⟨b91, 0, none⟩)), (7, .pointer (some ⟨b77, 0, none⟩)), (5, .pointer (some ⟨b54, 0, none⟩)), (3, .pointer (some ⟨kb, 0, none⟩)), (18, .slice (some ⟨sb45, k046, none⟩) ops.length c), (19, .int .i64 ((ops.length : Nat) : Int)), (20, .int .i64 i), (6, .pointer (some ⟨kb2, 0, none⟩)), (11, .int .i64 p), (12, .bool true), (98, .pointer (some ⟨kb, 0, none⟩)), (100, .int .u32 x.ev.pick), (102, .pointer (some ⟨kb2, 0, none⟩)), (104, .int .u32 (IntKind.wrap .u32 (x.ev.pick + 1)))]) rfl
            refine ⟨keepNil, ?_⟩
            clear h569
            refine dr_batch tabOk tabZ_ok (by repeat (first | with_reducible exact PF.body | with_reducible apply PF.inB | with_reducible apply PF.next)) [(9, {})] [13, 9, 8, 7, 5, 3, 18, 19, 20, 6, 11, 12, 107] (T' := [(13, .pointer (some ⟨b529, 0, none⟩)), (9, .pointer (some ⟨b119, 0, none⟩)), (8, .pointer (some ⟨b91, 0, none⟩)), (7, .pointer (some ⟨b77, 0, none⟩)), (5, .pointer (some ⟨b54, 0, none⟩)), (3, .pointer (some ⟨kb, 0, none⟩)), (18, .slice (some ⟨sb45, k046, none⟩) ops.length c), (19, .int .i64 ((ops.length : Nat) : Int)), (20, .int .i64 i), (6, .pointer (some ⟨kb2, 0, none⟩)), (11, .int .i64 p), (12, .bool true), (107, .bool false)]) (φ := True) (fuel := 0) h571 (by kernel_rfl) rfl (by kernel_rfl) (by kernel_rfl) ⟨trivial, trivial⟩ trivial fun a573 h574 => ?_
            clear h571
            refine wpAnyK_done (by kernel_rfl) ?_ _
            refine hK548 _ _ ?_
            clear hK548
            refine c_false h574 rfl ?_
            refine wp_skip ?_
            refine hK49 _ _ ?_
            clear hK49
            refine nd_start (l := [0, 1]) rfl ?_
            refine nd_batch tabOk tabZ_ok [(0, {}), (1, {})] [13, 9, 8, 7, 5, 3, 18, 19, 6, 11, 12, 20] (T' := [(13, .pointer (some ⟨b529, 0, none⟩)), (9, .pointer (some ⟨b119, 0, none⟩)), (8, .pointer (some ⟨b91, 0, none⟩)), (7, .pointer (some ⟨b77, 0, none⟩)), (5, .pointer (some ⟨b54, 0, none⟩)), (3, .pointer (some ⟨kb, 0, none⟩)), (18, .slice (some ⟨sb45, k046, none⟩) ops.length c), (19, .int .i64 ((ops.length : Nat) : Int)), (6, .pointer (some ⟨kb2, 0, none⟩)), (11, .int .i64 p), (12, .bool true), (20, .int .i64 (i + 1))]) (φ := inR .i64 (i + 1) ∧ True) (rest := []) h574 (by kernel_rfl) rfl ⟨⟨by omega, by omega⟩, trivial⟩ fun a575 h576 => ?_
            clear h574
            refine nd_done ?_
            have h577 := h576.memMono (L' := [(0, ⟨[.int .u16 0, .int .u32 0], ty0, true⟩)]) (List.Sublist.cons_cons _ (List.Sublist.cons _ (List.Sublist.cons _ (List.Sublist.cons _ (List.Sublist.cons _ (List.Sublist.cons _ List.Sublist.slnil))))))
            clear h576
            have h578 := h577.pcSub (ps' := [pKer kb bo bc nd9 Sz Cz]) (List.Sublist.cons_cons _ (List.Sublist.cons _ (List.Sublist.cons _ (List.Sublist.cons _ List.Sublist.slnil))))
            clear h577
            exact ⟨(g - 1), by omega, nd9, Sz, Cz, Qz, (i + 1), by omega, ⟨by omega, by omega⟩, hivz.1, hivz.2, hXz, hS.liq, hS.top, hWz, hGz, (h578.slotsMono (restr_spec (keep := [3, 18, 19, 20]) rfl))⟩
        by_cases hcz0 : oz.code = 0
        rotate_left
        ·
          refine wp_exit ?_
          refine hK129 _ _ ?_
          clear hK129
          refine wp_seq_k fun K579 hK579 => ?_
          refine dr_start (KB := [0, b54, b77, b91, b119]) (Bi := [[0, 1, 2, 3, 4], [2], [0, 1, 2, 3, 4], [0, 1, 2, 3, 4], [0, 1, 2, 3, 4], [0, 1, 2, 3, 4], [0, 1, 2, 3, 4], [0, 1, 2, 3, 4], [0, 1, 2, 3, 4], [0, 1, 2, 3, 4], [0, 1, 2, 3, 4], [0, 1, 2, 3, 4], [0, 1, 2, 3, 4], [0, 1, 2, 3, 4], [0, 1, 2, 3, 4]]) mixed h141 fun w580 h581 => ?_
          clear h141
          refine dr_batch tabOk tabZ_ok (by repeat (first | with_reducible exact PF.body | with_reducible apply PF.inB | with_reducible apply PF.next)) [(0, {}), (2, {k := 2, p := 2})] [9, 8, 7, 5, 3, 18, 19, 20, 6, 11, 63, 65] (T' := [(9, .pointer (some ⟨b119, 0, none⟩)), (8, .pointer (some ⟨b91, 0, none⟩)), (7, .pointer (some ⟨b77, 0, none⟩)), (5, .pointer (some ⟨b54, 0, none⟩)), (3, .pointer (some ⟨kb, 0, none⟩)), (18, .slice (some ⟨sb45, k046, none⟩) ops.length c), (19, .int .i64 ((ops.length : Nat) : Int)), (20, .int .i64 i), (6, .pointer (some ⟨kb2, 0, none⟩)), (11, .int .i64 p), (63, .pointer (some ⟨kb, 0, none⟩)), (65, .agg #[.int .u16 ((refP C.ent S.cur).idx), .int .u32 ((refP C.ent S.cur).gen)])]) (φ := (b77 = b77 ∧ Nat.ble (0 + 2) 2 = true) ∧ True) (fuel := 13) h581 (by kernel_rfl) rfl (by kernel_rfl) (by kernel_rfl) ⟨trivial, rfl, trivial⟩ ⟨⟨rfl, rfl⟩, trivial⟩ fun a583 h584 => ?_
          clear h581
          refine wpAnyK_one (i := 1) (fuel := 12) (by kernel_rfl) ?_
          refine op_call h584 rfl rfl rfl (callOk Tryd.func18 (by decide) rfl) (args := [.pointer (some ⟨kb, 0, none⟩)]) rfl (running_ok kb bo bc Sz hivz.1.ri Cz.ent _ (h584.inv.get (j := 0) (p := pKer kb bo bc nd9 Sz Cz) rfl).ker (h584.inv.get (j := 0) (p := pKer kb bo bc nd9 Sz Cz) rfl).cap.st (h584.inv.get (j := 0) (p := pKer kb bo bc nd9 Sz Cz) rfl).ne) ?_
          rintro _ w585 ⟨rfl, hf587⟩
          refine ⟨_, rfl, ?_⟩
          have h586 := (h584.grow hf587).put (d := some 64) (v := .agg #[.int .u16 ((refP Cz.ent Sz.cur).idx), .int .u32 ((refP Cz.ent Sz.cur).gen)]) (T' := [(64, .agg #[.int .u16 ((refP Cz.ent Sz.cur).idx), .int .u32 ((refP Cz.ent Sz.cur).gen)]), (9, .pointer (some ⟨b119, 0, none⟩)), (8, .pointer (some ⟨b91, 0, none⟩)), (7, .pointer (some ⟨b77, 0, none⟩)), (5, .pointer (some ⟨b54, 0, none⟩)), (3, .pointer (some ⟨kb, 0, none⟩)), (18, .slice (some ⟨sb45, k046, none⟩) ops.length c), (19, .int .i64 ((ops.length : Nat) : Int)), (20, .int .i64 i), (6, .pointer (some ⟨kb2, 0, none⟩)), (11, .int .i64 p), (63, .pointer (some ⟨kb, 0, none⟩)), (65, .agg #[.int .u16 ((refP C.ent S.cur).idx), .int .u32 ((refP C.ent S.cur).gen)])]) rfl
          refine ⟨(h584.keepFr hf587 (kcons (by simp) knil)), ?_⟩
          clear h584
          refine dr_batch tabOk tabZ_ok (by repeat (first | with_reducible exact PF.body | with_reducible apply PF.inB | with_reducible apply PF.next)) [(3, {f := 1}), (4, {}), (5, {}), (6, {k := 1, p := 1}), (7, {f := 1}), (8, {}), (9, {}), (10, {}), (11, {k := 1, p := 1}), (12, {f := 1}), (13, {}), (14, {})] [9, 8, 7, 5, 3, 18, 19, 20, 6, 11, 12] (T' := [(9, .pointer (some ⟨b119, 0, none⟩)), (8, .pointer (some ⟨b91, 0, none⟩)), (7, .pointer (some ⟨b77, 0, none⟩)), (5, .pointer (some ⟨b54, 0, none⟩)), (3, .pointer (some ⟨kb, 0, none⟩)), (18, .slice (some ⟨sb45, k046, none⟩) ops.length c), (19, .int .i64 ((ops.length : Nat) : Int)), (20, .int .i64 i), (6, .pointer (some ⟨kb2, 0, none⟩)), (11, .int .i64 p), (12, .bool false)]) (φ := EqRun Tryd.prog 39 (.agg #[.int .u16 ((refP Cz.ent Sz.cur).idx), .int .u32 ((refP Cz.ent Sz.cur).gen)]) (.agg #[.int .u16 ((refP C.ent S.cur).idx), .int .u32 ((refP C.ent S.cur).gen)]) true ∧ (b54 = b54 ∧ Nat.ble (0 + 1) 11 = true) ∧ ((x.ev.kind == 0)) = false ∧ (b54 = b54 ∧ Nat.ble (0 + 1) 11 = true) ∧ ((x.ev.kind == 2)) = false ∧ True) (fuel := 0) h586 (by kernel_rfl) rfl (by kernel_rfl) (by kernel_rfl) ⟨trivial, trivial, trivial, rfl, trivial, trivial, trivial, trivial, rfl, trivial, trivial, trivial, trivial⟩ ⟨(runRfD (a := refP Cz.ent Sz.cur) (b := refP C.ent S.cur) (by simp [hrf])), ⟨rfl, rfl⟩, (by simp [hk0]), ⟨rfl, rfl⟩, (by simp [hk2]), trivial⟩ fun a588 h589 => ?_
          clear h586
          refine wpAnyK_done (by kernel_rfl) ?_ _
          refine hK579 _ _ ?_
          clear hK579
          refine wp_seq_k fun K590 hK590 => ?_
          refine wp_seq_k fun K591 hK591 => ?_
          refine dr_start (KB := [0, b54, b77, b91, b119]) (Bi := [[0, 1, 2, 3, 4], [0, 1, 2, 3, 4], [0, 1, 2, 3, 4], [0, 1, 2, 3, 4], [0, 1, 2, 3, 4], [0, 1, 2, 3, 4], [0, 1, 2, 3, 4], [0, 1, 2, 3, 4], [0, 1, 2, 3, 4], [0], [0, 1, 2, 3, 4], [0, 1, 2, 3, 4], [0, 1, 2, 3, 4]]) mixed h589 fun w592 h593 => ?_
          clear h589
          refine dr_batch tabOk tabZ_ok (by repeat (first | with_reducible exact PF.body | with_reducible apply PF.inB | with_reducible apply PF.next)) [(0, {}), (1, {k := 3, p := 3}), (2, {f := 2}), (3, {}), (4, {}), (5, {}), (6, {}), (7, {}), (8, {}), (10, {k := 0, p := 0})] [9, 8, 7, 5, 3, 18, 19, 20, 6, 11, 12, 84, 85, 87] (T' := [(9, .pointer (some ⟨b119, 0, none⟩)), (8, .pointer (some ⟨b91, 0, none⟩)), (7, .pointer (some ⟨b77, 0, none⟩)), (5, .pointer (some ⟨b54, 0, none⟩)), (3, .pointer (some ⟨kb, 0, none⟩)), (18, .slice (some ⟨sb45, k046, none⟩) ops.length c), (19, .int .i64 ((ops.length : Nat) : Int)), (20, .int .i64 i), (6, .pointer (some ⟨kb2, 0, none⟩)), (11, .int .i64 p), (12, .bool false), (84, .bool true), (85, .tuple #[]), (87, .tuple #[])]) (φ := (b91 = b91 ∧ Nat.ble (0 + 1) 10 = true) ∧ ((oz.code != 0)) = true ∧ True) (fuel := 3) h593 (by kernel_rfl) rfl (by kernel_rfl) (by kernel_rfl) ⟨trivial, rfl, trivial, trivial, trivial, trivial, trivial, trivial, trivial, rfl, trivial⟩ ⟨⟨rfl, rfl⟩, (by simp [hcz0]), trivial⟩ fun a595 h596 => ?_
          clear h593
          refine dr_batch tabOk tabZ_ok (by repeat (first | with_reducible exact PF.body | with_reducible apply PF.inB | with_reducible apply PF.next)) [(9, {})] [9, 8, 7, 5, 3, 18, 19, 20, 6, 11, 12, 84, 87, 86] (T' := [(9, .pointer (some ⟨b119, 0, none⟩)), (8, .pointer (some ⟨b91, 0, none⟩)), (7, .pointer (some ⟨b77, 0, none⟩)), (5, .pointer (some ⟨b54, 0, none⟩)), (3, .pointer (some ⟨kb, 0, none⟩)), (18, .slice (some ⟨sb45, k046, none⟩) ops.length c), (19, .int .i64 ((ops.length : Nat) : Int)), (20, .int .i64 i), (6, .pointer (some ⟨kb2, 0, none⟩)), (11, .int .i64 p), (12, .bool false), (84, .bool true), (87, .tuple #[]), (86, .tuple #[])]) (φ := True) (fuel := 2) h596 (by kernel_rfl) rfl (by kernel_rfl) (by kernel_rfl) ⟨trivial, trivial⟩ trivial fun a597 h598 => ?_
          clear h596
          refine dr_batch tabOk tabZ_ok (by repeat (first | with_reducible exact PF.body | with_reducible apply PF.inB | with_reducible apply PF.next)) [(11, {}), (12, {})] [9, 8, 7, 5, 3, 18, 19, 20, 6, 11, 12, 89] (T' := [(9, .pointer (some ⟨b119, 0, none⟩)), (8, .pointer (some ⟨b91, 0, none⟩)), (7, .pointer (some ⟨b77, 0, none⟩)), (5, .pointer (some ⟨b54, 0, none⟩)), (3, .pointer (some ⟨kb, 0, none⟩)), (18, .slice (some ⟨sb45, k046, none⟩) ops.length c), (19, .int .i64 ((ops.length : Nat) : Int)), (20, .int .i64 i), (6, .pointer (some ⟨kb2, 0, none⟩)), (11, .int .i64 p), (12, .bool false), (89, .bool true)]) (φ := True) (fuel := 0) h598 (by kernel_rfl) rfl (by kernel_rfl) (by kernel_rfl) ⟨trivial, trivial, trivial⟩ trivial fun a599 h600 => ?_
          clear h598
          refine wpAnyK_done (by kernel_rfl) ?_ _
          refine hK591 _ _ ?_
          clear hK591
          refine c_true h600 rfl ?_
          refine wp_exit ?_
          refine hK49 _ _ ?_
          clear hK49
          refine nd_start (l := [0, 1]) rfl ?_
          refine nd_batch tabOk tabZ_ok [(0, {}), (1, {})] [9, 8, 7, 5, 3, 18, 19, 6, 11, 12, 20] (T' := [(9, .pointer (some ⟨b119, 0, none⟩)), (8, .pointer (some ⟨b91, 0, none⟩)), (7, .pointer (some ⟨b77, 0, none⟩)), (5, .pointer (some ⟨b54, 0, none⟩)), (3, .pointer (some ⟨kb, 0, none⟩)), (18, .slice (some ⟨sb45, k046, none⟩) ops.length c), (19, .int .i64 ((ops.length : Nat) : Int)), (6, .pointer (some ⟨kb2, 0, none⟩)), (11, .int .i64 p), (12, .bool false), (20, .int .i64 (i + 1))]) (φ := inR .i64 (i + 1) ∧ True) (rest := []) h600 (by kernel_rfl) rfl ⟨⟨by omega, by omega⟩, trivial⟩ fun a601 h602 => ?_
          clear h600
          refine nd_done ?_
          have h603 := h602.memMono (L' := [(0, ⟨[.int .u16 0, .int .u32 0], ty0, true⟩)]) (List.Sublist.cons_cons _ (List.Sublist.cons _ (List.Sublist.cons _ (List.Sublist.cons _ (List.Sublist.cons _ List.Sublist.slnil)))))
          clear h602
          have h604 := h603.pcSub (ps' := [pKer kb bo bc nd9 Sz Cz]) (List.Sublist.cons_cons _ (List.Sublist.cons _ List.Sublist.slnil))
          clear h603
          exact ⟨(g - 1), by omega, nd9, Sz, Cz, Qz, (i + 1), by omega, ⟨by omega, by omega⟩, hivz.1, hivz.2, hXz, hS.liq, hS.top, hWz, hGz, (h604.slotsMono (restr_spec (keep := [3, 18, 19, 20]) rfl))⟩
        ·
          refine wp_exit ?_
          refine hK129 _ _ ?_
          clear hK129
          refine wp_seq_k fun K605 hK605 => ?_
          refine dr_start (KB := [0, b54, b77, b91, b119]) (Bi := [[0, 1, 2, 3, 4], [2], [0, 1, 2, 3, 4], [0, 1, 2, 3, 4], [0, 1, 2, 3, 4], [0, 1, 2, 3, 4], [0, 1, 2, 3, 4], [0, 1, 2, 3, 4], [0, 1, 2, 3, 4], [0, 1, 2, 3, 4], [0, 1, 2, 3, 4], [0, 1, 2, 3, 4], [0, 1, 2, 3, 4], [0, 1, 2, 3, 4], [0, 1, 2, 3, 4]]) mixed h141 fun w606 h607 => ?_
          clear h141
          refine dr_batch tabOk tabZ_ok (by repeat (first | with_reducible exact PF.body | with_reducible apply PF.inB | with_reducible apply PF.next)) [(0, {}), (2, {k := 2, p := 2})] [9, 8, 7, 5, 3, 18, 19, 20, 6, 11, 63, 65] (T' := [(9, .pointer (some ⟨b119, 0, none⟩)), (8, .pointer (some ⟨b91, 0, none⟩)), (7, .pointer (some ⟨b77, 0, none⟩)), (5, .pointer (some ⟨b54, 0, none⟩)), (3, .pointer (some ⟨kb, 0, none⟩)), (18, .slice (some ⟨sb45, k046, none⟩) ops.length c), (19, .int .i64 ((ops.length : Nat) : Int)), (20, .int .i64 i), (6, .pointer (some ⟨kb2, 0, none⟩)), (11, .int .i64 p), (63, .pointer (some ⟨kb, 0, none⟩)), (65, .agg #[.int .u16 ((refP C.ent S.cur).idx), .int .u32 ((refP C.ent S.cur).gen)])]) (φ := (b77 = b77 ∧ Nat.ble (0 + 2) 2 = true) ∧ True) (fuel := 13) h607 (by kernel_rfl) rfl (by kernel_rfl) (by kernel_rfl) ⟨trivial, rfl, trivial⟩ ⟨⟨rfl, rfl⟩, trivial⟩ fun a609 h610 => ?_
          clear h607
          refine wpAnyK_one (i := 1) (fuel := 12) (by kernel_rfl) ?_
          refine op_call h610 rfl rfl rfl (callOk Tryd.func18 (by decide) rfl) (args := [.pointer (some ⟨kb, 0, none⟩)]) rfl (running_ok kb bo bc Sz hivz.1.ri Cz.ent _ (h610.inv.get (j := 0) (p := pKer kb bo bc nd9 Sz Cz) rfl).ker (h610.inv.get (j := 0) (p := pKer kb bo bc nd9 Sz Cz) rfl).cap.st (h610.inv.get (j := 0) (p := pKer kb bo bc nd9 Sz Cz) rfl).ne) ?_
          rintro _ w611 ⟨rfl, hf613⟩
          refine ⟨_, rfl, ?_⟩
          have h612 := (h610.grow hf613).put (d := some 64) (v := .agg #[.int .u16 ((refP Cz.ent Sz.cur).idx), .int .u32 ((refP Cz.ent Sz.cur).gen)]) (T' := [(64, .agg #[.int .u16 ((refP Cz.ent Sz.cur).idx), .int .u32 ((refP Cz.ent Sz.cur).gen)]), (9, .pointer (some ⟨b119, 0, none⟩)), (8, .pointer (some ⟨b91, 0, none⟩)), (7, .pointer (some ⟨b77, 0, none⟩)), (5, .pointer (some ⟨b54, 0, none⟩)), (3, .pointer (some ⟨kb, 0, none⟩)), (18, .slice (some ⟨sb45, k046, none⟩) ops.length c), (19, .int .i64 ((ops.length : Nat) : Int)), (20, .int .i64 i), (6, .pointer (some ⟨kb2, 0, none⟩)), (11, .int .i64 p), (63, .pointer (some ⟨kb, 0, none⟩)), (65, .agg #[.int .u16 ((refP C.ent S.cur).idx), .int .u32 ((refP C.ent S.cur).gen)])]) rfl
          refine ⟨(h610.keepFr hf613 (kcons (by simp) knil)), ?_⟩
          clear h610
          refine dr_batch tabOk tabZ_ok (by repeat (first | with_reducible exact PF.body | with_reducible apply PF.inB | with_reducible apply PF.next)) [(3, {f := 1}), (4, {}), (5, {}), (6, {k := 1, p := 1}), (7, {f := 1}), (8, {}), (9, {}), (10, {}), (11, {k := 1, p := 1}), (12, {f := 1}), (13, {}), (14, {})] [9, 8, 7, 5, 3, 18, 19, 20, 6, 11, 12] (T' := [(9, .pointer (some ⟨b119, 0, none⟩)), (8, .pointer (some ⟨b91, 0, none⟩)), (7, .pointer (some ⟨b77, 0, none⟩)), (5, .pointer (some ⟨b54, 0, none⟩)), (3, .pointer (some ⟨kb, 0, none⟩)), (18, .slice (some ⟨sb45, k046, none⟩) ops.length c), (19, .int .i64 ((ops.length : Nat) : Int)), (20, .int .i64 i), (6, .pointer (some ⟨kb2, 0, none⟩)), (11, .int .i64 p), (12, .bool false)]) (φ := EqRun Tryd.prog 39 (.agg #[.int .u16 ((refP Cz.ent Sz.cur).idx), .int .u32 ((refP Cz.ent Sz.cur).gen)]) (.agg #[.int .u16 ((refP C.ent S.cur).idx), .int .u32 ((refP C.ent S.cur).gen)]) true ∧ (b54 = b54 ∧ Nat.ble (0 + 1) 11 = true) ∧ ((x.ev.kind == 0)) = false ∧ (b54 = b54 ∧ Nat.ble (0 + 1) 11 = true) ∧ ((x.ev.kind == 2)) = false ∧ True) (fuel := 0) h612 (by kernel_rfl) rfl (by kernel_rfl) (by kernel_rfl) ⟨trivial, trivial, trivial, rfl, trivial, trivial, trivial, trivial, rfl, trivial, trivial, trivial, trivial⟩ ⟨(runRfD (a := refP Cz.ent Sz.cur) (b := refP C.ent S.cur) (by simp [hrf])), ⟨rfl, rfl⟩, (by simp [hk0]), ⟨rfl, rfl⟩, (by simp [hk2]), trivial⟩ fun a614 h615 => ?_
          clear h612
          refine wpAnyK_done (by kernel_rfl) ?_ _
          refine hK605 _ _ ?_
          clear hK605
          refine wp_seq_k fun K616 hK616 => ?_
          refine wp_seq_k fun K617 hK617 => ?_
          refine dr_start (KB := [0, b54, b77, b91, b119]) (Bi := [[0, 1, 2, 3, 4], [0, 1, 2, 3, 4], [0, 1, 2, 3, 4], [0, 1, 2, 3, 4], [0, 1, 2, 3, 4], [0, 1, 2, 3, 4], [0, 1, 2, 3, 4], [0, 1, 2, 3, 4], [0, 1, 2, 3, 4], [0], [0, 1, 2, 3, 4], [0, 1, 2, 3, 4], [0, 1, 2, 3, 4]]) mixed h615 fun w618 h619 => ?_
          clear h615
          refine dr_batch tabOk tabZ_ok (by repeat (first | with_reducible exact PF.body | with_reducible apply PF.inB | with_reducible apply PF.next)) [(0, {}), (1, {k := 3, p := 3}), (2, {f := 1}), (3, {}), (4, {}), (5, {}), (6, {}), (7, {}), (8, {}), (10, {k := 0, p := 0})] [9, 8, 7, 5, 3, 18, 19, 20, 6, 11, 12, 84, 85, 87] (T' := [(9, .pointer (some ⟨b119, 0, none⟩)), (8, .pointer (some ⟨b91, 0, none⟩)), (7, .pointer (some ⟨b77, 0, none⟩)), (5, .pointer (some ⟨b54, 0, none⟩)), (3, .pointer (some ⟨kb, 0, none⟩)), (18, .slice (some ⟨sb45, k046, none⟩) ops.length c), (19, .int .i64 ((ops.length : Nat) : Int)), (20, .int .i64 i), (6, .pointer (some ⟨kb2, 0, none⟩)), (11, .int .i64 p), (12, .bool false), (84, .bool true), (85, .tuple #[]), (87, .tuple #[])]) (φ := (b91 = b91 ∧ Nat.ble (0 + 1) 10 = true) ∧ ((oz.code != 0)) = false ∧ True) (fuel := 3) h619 (by kernel_rfl) rfl (by kernel_rfl) (by kernel_rfl) ⟨trivial, rfl, trivial, trivial, trivial, trivial, trivial, trivial, trivial, rfl, trivial⟩ ⟨⟨rfl, rfl⟩, (by simp [hcz0]), trivial⟩ fun a621 h622 => ?_
          clear h619
          refine dr_batch tabOk tabZ_ok (by repeat (first | with_reducible exact PF.body | with_reducible apply PF.inB | with_reducible apply PF.next)) [(9, {})] [9, 8, 7, 5, 3, 18, 19, 20, 6, 11, 12, 84, 87, 86] (T' := [(9, .pointer (some ⟨b119, 0, none⟩)), (8, .pointer (some ⟨b91, 0, none⟩)), (7, .pointer (some ⟨b77, 0, none⟩)), (5, .pointer (some ⟨b54, 0, none⟩)), (3, .pointer (some ⟨kb, 0, none⟩)), (18, .slice (some ⟨sb45, k046, none⟩) ops.length c), (19, .int .i64 ((ops.length : Nat) : Int)), (20, .int .i64 i), (6, .pointer (some ⟨kb2, 0, none⟩)), (11, .int .i64 p), (12, .bool false), (84, .bool true), (87, .tuple #[]), (86, .tuple #[])]) (φ := True) (fuel := 2) h622 (by kernel_rfl) rfl (by kernel_rfl) (by kernel_rfl) ⟨trivial, trivial⟩ trivial fun a623 h624 => ?_
          clear h622
          refine dr_batch tabOk tabZ_ok (by repeat (first | with_reducible exact PF.body | with_reducible apply PF.inB | with_reducible apply PF.next)) [(11, {}), (12, {})] [9, 8, 7, 5, 3, 18, 19, 20, 6, 11, 12, 89] (T' := [(9, .pointer (some ⟨b119, 0, none⟩)), (8, .pointer (some ⟨b91, 0, none⟩)), (7, .pointer (some ⟨b77, 0, none⟩)), (5, .pointer (some ⟨b54, 0, none⟩)), (3, .pointer (some ⟨kb, 0, none⟩)), (18, .slice (some ⟨sb45, k046, none⟩) ops.length c), (19, .int .i64 ((ops.length : Nat) : Int)), (20, .int .i64 i), (6, .pointer (some ⟨kb2, 0, none⟩)), (11, .int .i64 p), (12, .bool false), (89, .bool true)]) (φ := True) (fuel := 0) h624 (by kernel_rfl) rfl (by kernel_rfl) (by kernel_rfl) ⟨trivial, trivial, trivial⟩ trivial fun a625 h626 => ?_
          clear h624
          refine wpAnyK_done (by kernel_rfl) ?_ _
          refine hK617 _ _ ?_
          clear hK617
          refine c_true h626 rfl ?_
          refine wp_exit ?_
          refine hK49 _ _ ?_
          clear hK49
          refine nd_start (l := [0, 1]) rfl ?_
          refine nd_batch tabOk tabZ_ok [(0, {}), (1, {})] [9, 8, 7, 5, 3, 18, 19, 6, 11, 12, 20] (T' := [(9, .pointer (some ⟨b119, 0, none⟩)), (8, .pointer (some ⟨b91, 0, none⟩)), (7, .pointer (some ⟨b77, 0, none⟩)), (5, .pointer (some ⟨b54, 0, none⟩)), (3, .pointer (some ⟨kb, 0, none⟩)), (18, .slice (some ⟨sb45, k046, none⟩) ops.length c), (19, .int .i64 ((ops.length : Nat) : Int)), (6, .pointer (some ⟨kb2, 0, none⟩)), (11, .int .i64 p), (12, .bool false), (20, .int .i64 (i + 1))]) (φ := inR .i64 (i + 1) ∧ True) (rest := []) h626 (by kernel_rfl) rfl ⟨⟨by omega, by omega⟩, trivial⟩ fun a627 h628 => ?_
          clear h626
          refine nd_done ?_
          have h629 := h628.memMono (L' := [(0, ⟨[.int .u16 0, .int .u32 0], ty0, true⟩)]) (List.Sublist.cons_cons _ (List.Sublist.cons _ (List.Sublist.cons _ (List.Sublist.cons _ (List.Sublist.cons _ List.Sublist.slnil)))))
          clear h628
          have h630 := h629.pcSub (ps' := [pKer kb bo bc nd9 Sz Cz]) (List.Sublist.cons_cons _ (List.Sublist.cons _ List.Sublist.slnil))
          clear h629
          exact ⟨(g - 1), by omega, nd9, Sz, Cz, Qz, (i + 1), by omega, ⟨by omega, by omega⟩, hivz.1, hivz.2, hXz, hS.liq, hS.top, hWz, hGz, (h630.slotsMono (restr_spec (keep := [3, 18, 19, 20]) rfl))⟩
    ·
      have hc44f : ¬ i < ((ops.length : Nat) : Int) := by simpa using hc44
      refine wp_exit ?_
      refine hK24 _ _ ?_
      clear hK24
      refine wp_seq_k fun K631 hK631 => ?_
      refine nd_start (l := [0]) rfl ?_
      refine nd_batch tabOk tabZ_ok [(0, {})] [3, 18, 19, 20, 2] (T' := [(3, .pointer (some ⟨kb, 0, none⟩)), (18, .slice o ops.length c), (19, .int .i64 ((ops.length : Nat) : Int)), (20, .int .i64 i), (2, .bool true)]) (φ := True) (rest := []) h42 (by kernel_rfl) rfl trivial fun a632 h633 => ?_
      clear h42
      refine nd_done ?_
      refine hK631 _ _ ?_
      clear hK631
      refine wp_ret ?_
      try simp only [Exit.then, Exit.inBlock]
      try rw [if_pos trivial]
      exact s_ret tabOk tabZ_ok h633 [(.tmp 2, {})] (vs := [.bool true]) (φ := True) rfl (by kernel_rfl) trivial ⟨rfl, h633.frame⟩

end Go.Proofs.Qxb6500918aDoor
