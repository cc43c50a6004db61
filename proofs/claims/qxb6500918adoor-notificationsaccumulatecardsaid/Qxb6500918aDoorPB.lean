/-
  NotificationsAccumulate. (Made by program: a symbolic walk that prints its steps.)
-/
import Derived.Test.Qxb6500918aDoorPA
import Derived.Test.Qxb6500918aDoorKT
namespace Go.Proofs.Qxb6500918aDoor
open Go.Sx Go.Kn
set_option maxRecDepth 100000
set_option maxHeartbeats 4000000
set_option linter.unusedVariables false
set_option linter.unusedSimpArgs false

theorem rl_F {w : World} {b k c : Nat} {xs : List Rf} {F : List Nat} {o : Option Addr} (h : (rl rfC 39 2 xs o c F).at w) (ho : o = some ⟨b, k, none⟩) : F = [b] := by
  rcases h.2 with ⟨e, _⟩ | ⟨b2, cs, e, _, _, _, _, e2⟩
  · have e' : o = none := e
    rw [e'] at ho; cases ho
  · have e' : o = some ⟨b2, 0, none⟩ := e
    rw [e'] at ho; cases ho; exact e2

theorem equalP {w : World} {xs : List Rf} (hl : xs.length ≤ 1000) {o1 o2 : Option Addr} {c1 c2 : Nat} {F1 F2 : List Nat} (h1 : (rl rfC 39 2 xs o1 c1 F1).at w) (h2 : (rl rfC 39 2 xs o2 c2 F2).at w) (hd : ∀ b ∈ F1, b ∉ F2) :
    Calls Tryd.prog 23 #[.slice o1 xs.length c1, .slice o2 xs.length c2] w fun e w' => e = .returned (.bool true) ∧ Fr [] w w' := by
  refine equalR_ok xs hl o1 o2 c1 c2 w (refsIn_row h1) (refsIn_row h2) (fun _ b k b' k' e1 e2 he => ?_)
  have f1 := rl_F h1 e1
  have f2 := rl_F h2 e2
  subst he
  exact hd b (by rw [f1]; simp) (by rw [f2]; simp)

theorem law8_ok (ops : List OpV) (o : Option Addr) (c : Nat) (w : World) (hscr : Scr w o ops) (hev : ∀ x ∈ ops, EvOk x.ev ∧ EvU x.ev) (hwd : ∀ x ∈ ops, WordsAt [] w x.xo x.ev.ws) (hg1 : CellsAt w 1 0 (tcbC noT)) (hgs1 : 1 < w.heap.size) (hg2 : CellsAt w 2 0 (quC noQ)) (hgs2 : 2 < w.heap.size) :
    Calls Tryd.prog 8 #[.slice o ops.length c] w fun e w' => e = .returned (.bool true) ∧ Fr [] w w' := by
  refine enter0 (n := 165) (K := []) (T := [(0, .slice o ops.length c)]) (L := []) (args := [.slice o ops.length c]) Tryd.func8 rfl rfl rfl rfl knil (by simp) knil ?_
  intro a h
  refine wp_seq_k fun K1 hK1 => ?_
  refine nd_start (l := [0]) rfl ?_
  refine nd_batch tabOk tabZ_ok [(0, {})] [0, 2] (T' := [(0, .slice o ops.length c), (2, .bool false)]) (φ := True) (rest := []) h (by kernel_rfl) rfl trivial fun a2 h3 => ?_
  clear h
  refine nd_done ?_
  refine hK1 _ _ ?_
  clear hK1
  refine wp_seq_k fun K4 hK4 => ?_
  refine wp_seq_k fun K5 hK5 => ?_
  refine nd_start (l := [0, 1, 2]) rfl ?_
  refine nd_batch tabOk tabZ_ok [(0, {})] [0, 2, 17] (T' := [(0, .slice o ops.length c), (2, .bool false), (17, .slice o ops.length c)]) (φ := True) (rest := [1, 2]) h3 (by kernel_rfl) rfl trivial fun a6 h7 => ?_
  clear h3
  refine nd_op ?_
  refine op_call h7 rfl rfl rfl (callOk Tryd.func10 (by decide) rfl) (args := [.slice o ops.length c]) rfl (small_ok ops o c _ (scr_fr hscr h7.frame)) ?_
  rintro _ w8 ⟨bb, rfl, hbb, hf9⟩
  refine ⟨_, rfl, ?_⟩
  have h10 := (h7.grow hf9).put (d := some 18) (v := .bool bb) (T' := [(18, .bool bb), (0, .slice o ops.length c), (2, .bool false), (17, .slice o ops.length c)]) rfl
  clear h7
  refine nd_batch tabOk tabZ_ok [(2, {})] [0, 2, 19] (T' := [(0, .slice o ops.length c), (2, .bool false), (19, .bool (!bb))]) (φ := True) (rest := []) h10 (by kernel_rfl) rfl trivial fun a11 h12 => ?_
  clear h10
  refine nd_done ?_
  refine hK5 _ _ ?_
  clear hK5
  refine c_split h12 (b := !bb) rfl (fun hc13 => ?_) (fun hc13 => ?_)
  ·
    refine wp_seq_k fun K14 hK14 => ?_
    refine nd_start (l := [0]) rfl ?_
    refine nd_batch tabOk tabZ_ok [(0, {})] [0, 2] (T' := [(0, .slice o ops.length c), (2, .bool true)]) (φ := True) (rest := []) h12 (by kernel_rfl) rfl trivial fun a15 h16 => ?_
    clear h12
    refine nd_done ?_
    refine hK14 _ _ ?_
    clear hK14
    refine wp_ret ?_
    try simp only [Exit.then, Exit.inBlock]
    try rw [if_pos trivial]
    exact s_ret tabOk tabZ_ok h16 [(.tmp 2, {})] (vs := [.bool true]) (φ := True) rfl (by kernel_rfl) trivial ⟨rfl, h16.frame⟩
  ·
    have hol := hbb (by simpa using hc13)
    refine wp_skip ?_
    refine hK4 _ _ ?_
    clear hK4
    refine wp_seq_k fun K17 hK17 => ?_
    refine nd_start (l := [0, 1]) rfl ?_
    refine nd_op ?_
    have h18a := h12.slotsMono (restr_spec (keep := [0, 2]) rfl)
    have h18 := h18a.pc0
    clear h12 h18a
    refine op_call h18 rfl rfl rfl (callOk Tryd.func11 (by decide) rfl) (args := []) rfl (new_ok _ (cellsK hg1 h18.frame hgs1 (by simp)) (Nat.lt_of_lt_of_le hgs1 h18.frame.size) (cellsK hg2 h18.frame hgs2 (by simp)) (Nat.lt_of_lt_of_le hgs2 h18.frame.size)) ?_
    rintro _ w20 ⟨kb, bo, bc, nd, rfl, hk9, hcp9, hnk9, hkn9, hcn9, hf19⟩
    refine ⟨_, rfl, ?_⟩
    have h21 := (h18.pcAdd (p' := pKer kb bo bc nd bootS bootC) (ps' := [pKer kb bo bc nd bootS bootC]) (pKer_ok ⟨hk9, hcp9, hnk9⟩) hf19 (fun b hb => (List.mem_cons.1 hb).elim (fun e => by rw [e]; exact hkn9) (fun e => hcn9 b e)) rfl).put (d := some 20) (v := .pointer (some ⟨kb, 0, none⟩)) (T' := [(20, .pointer (some ⟨kb, 0, none⟩)), (0, .slice o ops.length c), (2, .bool false)]) rfl
    have hszh21 : w.heap.size ≤ _ := h18.frame.size
    clear h18
    refine nd_batch tabOk tabZ_ok [(1, {})] [0, 2, 3] (T' := [(0, .slice o ops.length c), (2, .bool false), (3, .pointer (some ⟨kb, 0, none⟩))]) (φ := True) (rest := []) h21 (by kernel_rfl) rfl trivial fun a22 h23 => ?_
    clear h21
    refine nd_done ?_
    refine hK17 _ _ ?_
    clear hK17
    refine wp_seq_k fun K24 hK24 => ?_
    refine nd_start (l := [0]) rfl ?_
    refine nd_op ?_
    refine op_new tabOk (cells := [.bool false, .bool false, .bool false, .bool false, .bool false, .bool false, .bool false, .bool false, .bool false, .bool false, .bool false, .bool false, .bool false, .bool false, .bool false, .bool false]) (ty := 68) (ln := none) (L1 := fun b25 => [(b25, ⟨[.bool false, .bool false, .bool false, .bool false, .bool false, .bool false, .bool false, .bool false, .bool false, .bool false, .bool false, .bool false, .bool false, .bool false, .bool false, .bool false], 68, false⟩)]) h23 rfl rfl rfl rfl (by kernel_rfl) (fun _ => rfl) fun b25 w26 a27 h28 hf29 hn30 => ?_
    clear h23
    refine nd_done ?_
    refine hK24 _ _ ?_
    clear hK24
    refine wp_seq_k fun K31 hK31 => ?_
    refine wp_seq_k fun K32 hK32 => ?_
    refine nd_start (l := [0, 1, 2]) rfl ?_
    refine nd_batch tabOk tabZ_ok [(0, {}), (1, {}), (2, {})] [4, 0, 2, 3, 21, 22, 23] (T' := [(4, .pointer (some ⟨b25, 0, none⟩)), (0, .slice o ops.length c), (2, .bool false), (3, .pointer (some ⟨kb, 0, none⟩)), (21, .slice o ops.length c), (22, .int .i64 ((ops.length : Nat) : Int)), (23, .int .i64 0)]) (φ := True) (rest := []) h28 (by kernel_rfl) rfl trivial fun a33 h34 => ?_
    clear h28
    refine nd_done ?_
    refine hK32 _ _ ?_
    clear hK32
    refine wp_block ?_
    have h35 := h34.castL (L' := [(b25, ⟨mkC (fun _ => false), 68, false⟩)]) (by rw [mk_zero])
    clear h34
    obtain ⟨Q0, hQ0⟩ := boot_LI
    refine wp_loop_ghost (fun g ga gw => ∃ (nd : Nat → Nat) (S : KP) (C : CP) (Q : QL → List Nat) (M : Nat → Bool) (i : Int), ((g : Int) = ops.length - i) ∧ (0 ≤ i ∧ i ≤ ops.length) ∧ (Ok2 S) ∧ (CI C) ∧ (XI S C.ent) ∧ (LIQ S Q) ∧ (∀ l, (S.irq l).masked = M l) ∧ St ⟨165, [], w, Pk w.heap.size [pKer kb bo bc nd S C], Pf [pKer kb bo bc nd S C]⟩ [(4, .pointer (some ⟨b25, 0, none⟩)), (3, .pointer (some ⟨kb, 0, none⟩)), (21, .slice o ops.length c), (22, .int .i64 ((ops.length : Nat) : Int)), (23, .int .i64 i)] [(b25, ⟨mkC M, 68, false⟩)] ga gw) ops.length ⟨nd, bootS, bootC, Q0, (fun _ => false), 0, by simp, ⟨by simp, by simp⟩, ⟨boot_RI, boot_LI⟩, boot_CI, boot_XI, hQ0, (fun _ => rfl), (h35.slotsMono (restr_spec (keep := [4, 3, 21, 22, 23]) rfl))⟩ ?_
    clear h35
    rintro g a36 w37 ⟨nd, S, C, Q, M, i, hi39, hi40, hi41, hi42, hi43, hi44, hi45, h38⟩
    have hig := hi39
    have hi0 := hi40
    have hok := hi41
    have hci := hi42
    have hX := hi43
    have hQ := hi44
    have hM := hi45
    refine wp_seq_k fun K46 hK46 => ?_
    refine nd_start (l := [0]) rfl ?_
    refine nd_batch tabOk tabZ_ok [(0, {})] [4, 3, 21, 22, 23, 24] (T' := [(4, .pointer (some ⟨b25, 0, none⟩)), (3, .pointer (some ⟨kb, 0, none⟩)), (21, .slice o ops.length c), (22, .int .i64 ((ops.length : Nat) : Int)), (23, .int .i64 i), (24, .bool (decide (i < ((ops.length : Nat) : Int))))]) (φ := True) (rest := []) h38 (by kernel_rfl) rfl trivial fun a47 h48 => ?_
    clear h38
    refine nd_done ?_
    refine hK46 _ _ ?_
    clear hK46
    refine wp_seq_k fun K49 hK49 => ?_
    refine c_split h48 (b := decide (i < ((ops.length : Nat) : Int))) rfl (fun hc50 => ?_) (fun hc50 => ?_)
    ·
      have hc50f : i < ((ops.length : Nat) : Int) := by simpa using hc50
      obtain ⟨x, hx⟩ : ∃ x, ops[i.toNat]? = some x := ⟨ops[i.toNat]'(by omega), by simp⟩
      have hxm := List.mem_of_getElem? hx
      obtain ⟨sb51, k052, ho9, hsb53, hsc54⟩ := hscr.get hx
      subst ho9
      refine wp_skip ?_
      refine hK49 _ _ ?_
      clear hK49
      refine wp_seq_k fun K55 hK55 => ?_
      refine wp_block ?_
      refine wp_seq_k fun K56 hK56 => ?_
      refine nd_start (l := [0, 1, 2, 3]) rfl ?_
      refine nd_batch tabOk tabZ_ok [(0, {})] [4, 3, 21, 22, 23, 25] (T' := [(4, .pointer (some ⟨b25, 0, none⟩)), (3, .pointer (some ⟨kb, 0, none⟩)), (21, .slice (some ⟨sb51, k052, none⟩) ops.length c), (22, .int .i64 ((ops.length : Nat) : Int)), (23, .int .i64 i), (25, .pointer (some ⟨sb51, k052 + (i.toNat * 11), none⟩))]) (φ := (0 ≤ i ∧ i < ((ops.length : Nat) : Int)) ∧ True) (rest := [1, 2, 3]) h48 (by kernel_rfl) rfl ⟨⟨by omega, by omega⟩, trivial⟩ fun a57 h58 => ?_
      clear h48
      refine nd_op ?_
      refine op_loadx tabOk (b := sb51) (k := k052 + (i.toNat * 11)) (vs := opC x) h58 rfl rfl rfl rfl rfl rfl rfl (CellsAt.fr (hsc54 _ _ hx) h58.frame hsb53) ?_
      have h59 := h58.put (d := some 26) (v := .agg #[.int .u8 x.ev.kind, .int .u32 x.ev.pick, .int .u64 x.ev.draw, .int .u32 x.ev.addr, .int .u32 x.ev.node, .int .u32 x.ev.dst, .int .u32 x.ev.xfer, .int .u8 x.ev.ty, .int .u64 x.ev.arg, .int .u64 x.ev.badge, .slice x.xo x.ev.ws.length x.cx]) (T' := [(26, .agg #[.int .u8 x.ev.kind, .int .u32 x.ev.pick, .int .u64 x.ev.draw, .int .u32 x.ev.addr, .int .u32 x.ev.node, .int .u32 x.ev.dst, .int .u32 x.ev.xfer, .int .u8 x.ev.ty, .int .u64 x.ev.arg, .int .u64 x.ev.badge, .slice x.xo x.ev.ws.length x.cx]), (4, .pointer (some ⟨b25, 0, none⟩)), (3, .pointer (some ⟨kb, 0, none⟩)), (21, .slice (some ⟨sb51, k052, none⟩) ops.length c), (22, .int .i64 ((ops.length : Nat) : Int)), (23, .int .i64 i), (25, .pointer (some ⟨sb51, k052 + (i.toNat * 11), none⟩))]) rfl
      clear h58
      refine nd_op ?_
      refine op_new tabOk (cells := [.int .u8 0, .int .u32 0, .int .u64 0, .int .u32 0, .int .u32 0, .int .u32 0, .int .u32 0, .int .u8 0, .int .u64 0, .int .u64 0, .slice none 0 0]) (ty := 35) (ln := none) (L1 := fun b60 => [(b25, ⟨mkC M, 68, false⟩), (b60, ⟨[.int .u8 0, .int .u32 0, .int .u64 0, .int .u32 0, .int .u32 0, .int .u32 0, .int .u32 0, .int .u8 0, .int .u64 0, .int .u64 0, .slice none 0 0], 35, false⟩)]) h59 rfl rfl rfl rfl (by kernel_rfl) (fun _ => rfl) fun b60 w61 a62 h63 hf64 hn65 => ?_
      clear h59
      refine nd_op ?_
      refine op_store tabOk {k := 1} (L' := [(b25, ⟨mkC M, 68, false⟩), (b60, ⟨[.int .u8 x.ev.kind, .int .u32 x.ev.pick, .int .u64 x.ev.draw, .int .u32 x.ev.addr, .int .u32 x.ev.node, .int .u32 x.ev.dst, .int .u32 x.ev.xfer, .int .u8 x.ev.ty, .int .u64 x.ev.arg, .int .u64 x.ev.badge, .slice x.xo x.ev.ws.length x.cx], 35, false⟩)]) (φ := b60 = b60 ∧ Nat.ble (0 + 11) 11 = true) h63 rfl rfl rfl (by kernel_rfl) ⟨rfl, rfl⟩ fun w66 h67 => ?_
      clear h63
      refine nd_done ?_
      refine hK56 _ _ ?_
      clear hK56
      refine wp_seq_k fun K68 hK68 => ?_
      refine nd_start (l := [0, 1, 2]) rfl ?_
      refine nd_batch tabOk tabZ_ok [(0, {})] [6, 4, 3, 21, 22, 23, 27] (T' := [(6, .pointer (some ⟨b60, 0, none⟩)), (4, .pointer (some ⟨b25, 0, none⟩)), (3, .pointer (some ⟨kb, 0, none⟩)), (21, .slice (some ⟨sb51, k052, none⟩) ops.length c), (22, .int .i64 ((ops.length : Nat) : Int)), (23, .int .i64 i), (27, .pointer (some ⟨kb, 0, none⟩))]) (φ := True) (rest := [1, 2]) h67 (by kernel_rfl) rfl trivial fun a69 h70 => ?_
      clear h67
      refine nd_op ?_
      refine op_call h70 rfl rfl rfl (callOk Tryd.func21 (by decide) rfl) (args := [.pointer (some ⟨kb, 0, none⟩)]) rfl (clone_ok kb bo bc nd S C _ (h70.inv.get (j := 0) (p := pKer kb bo bc nd S C) rfl).ker (h70.inv.get (j := 0) (p := pKer kb bo bc nd S C) rfl).cap) ?_
      rintro _ w73 ⟨kb2, bo2, bc2, nd2, rfl, hk72, hc72, hnk72, hnw72, hf71⟩
      refine ⟨_, rfl, ?_⟩
      have h74 := (h70.pcAdd (p' := pKer kb2 bo2 bc2 nd2 S C) (ps' := [pKer kb bo bc nd S C, pKer kb2 bo2 bc2 nd2 S C]) (pKer_ok ⟨hk72, hc72, hnk72⟩) hf71 hnw72 rfl).put (d := some 28) (v := .pointer (some ⟨kb2, 0, none⟩)) (T' := [(28, .pointer (some ⟨kb2, 0, none⟩)), (6, .pointer (some ⟨b60, 0, none⟩)), (4, .pointer (some ⟨b25, 0, none⟩)), (3, .pointer (some ⟨kb, 0, none⟩)), (21, .slice (some ⟨sb51, k052, none⟩) ops.length c), (22, .int .i64 ((ops.length : Nat) : Int)), (23, .int .i64 i), (27, .pointer (some ⟨kb, 0, none⟩))]) rfl
      have hszh74 : w.heap.size ≤ _ := h70.frame.size
      clear h70
      refine nd_batch tabOk tabZ_ok [(2, {})] [6, 4, 3, 21, 22, 23, 7] (T' := [(6, .pointer (some ⟨b60, 0, none⟩)), (4, .pointer (some ⟨b25, 0, none⟩)), (3, .pointer (some ⟨kb, 0, none⟩)), (21, .slice (some ⟨sb51, k052, none⟩) ops.length c), (22, .int .i64 ((ops.length : Nat) : Int)), (23, .int .i64 i), (7, .pointer (some ⟨kb2, 0, none⟩))]) (φ := True) (rest := []) h74 (by kernel_rfl) rfl trivial fun a75 h76 => ?_
      clear h74
      refine nd_done ?_
      refine hK68 _ _ ?_
      clear hK68
      refine wp_seq_k fun K77 hK77 => ?_
      refine nd_start (l := [0, 1, 2, 3]) rfl ?_
      refine nd_batch tabOk tabZ_ok [(0, {})] [6, 4, 3, 21, 22, 23, 7, 29] (T' := [(6, .pointer (some ⟨b60, 0, none⟩)), (4, .pointer (some ⟨b25, 0, none⟩)), (3, .pointer (some ⟨kb, 0, none⟩)), (21, .slice (some ⟨sb51, k052, none⟩) ops.length c), (22, .int .i64 ((ops.length : Nat) : Int)), (23, .int .i64 i), (7, .pointer (some ⟨kb2, 0, none⟩)), (29, .pointer (some ⟨kb, 0, none⟩))]) (φ := True) (rest := [1, 2, 3]) h76 (by kernel_rfl) rfl trivial fun a78 h79 => ?_
      clear h76
      refine nd_op ?_
      have hmer := ref_idx (E := C.ent) hok.ri.cur
      refine op_call h79 rfl rfl rfl (callOk Tryd.func18 (by decide) rfl) (args := [.pointer (some ⟨kb, 0, none⟩)]) rfl (running_ok kb bo bc S hok.ri C.ent _ (h79.inv.get (j := 0) (p := pKer kb bo bc nd S C) rfl).ker (h79.inv.get (j := 0) (p := pKer kb bo bc nd S C) rfl).cap.st (h79.inv.get (j := 0) (p := pKer kb bo bc nd S C) rfl).ne) ?_
      rintro _ w80 ⟨rfl, hf82⟩
      refine ⟨_, rfl, ?_⟩
      have h81 := (h79.grow hf82).put (d := some 30) (v := .agg #[.int .u16 ((refP C.ent S.cur).idx), .int .u32 ((refP C.ent S.cur).gen)]) (T' := [(30, .agg #[.int .u16 ((refP C.ent S.cur).idx), .int .u32 ((refP C.ent S.cur).gen)]), (6, .pointer (some ⟨b60, 0, none⟩)), (4, .pointer (some ⟨b25, 0, none⟩)), (3, .pointer (some ⟨kb, 0, none⟩)), (21, .slice (some ⟨sb51, k052, none⟩) ops.length c), (22, .int .i64 ((ops.length : Nat) : Int)), (23, .int .i64 i), (7, .pointer (some ⟨kb2, 0, none⟩)), (29, .pointer (some ⟨kb, 0, none⟩))]) rfl
      clear h79
      refine nd_op ?_
      refine op_new tabOk (cells := [.int .u16 0, .int .u32 0]) (ty := 39) (ln := none) (L1 := fun b83 => [(b25, ⟨mkC M, 68, false⟩), (b60, ⟨[.int .u8 x.ev.kind, .int .u32 x.ev.pick, .int .u64 x.ev.draw, .int .u32 x.ev.addr, .int .u32 x.ev.node, .int .u32 x.ev.dst, .int .u32 x.ev.xfer, .int .u8 x.ev.ty, .int .u64 x.ev.arg, .int .u64 x.ev.badge, .slice x.xo x.ev.ws.length x.cx], 35, false⟩), (b83, ⟨[.int .u16 0, .int .u32 0], 39, false⟩)]) h81 rfl rfl rfl rfl (by kernel_rfl) (fun _ => rfl) fun b83 w84 a85 h86 hf87 hn88 => ?_
      clear h81
      refine nd_op ?_
      refine op_store tabOk {k := 2} (L' := [(b25, ⟨mkC M, 68, false⟩), (b60, ⟨[.int .u8 x.ev.kind, .int .u32 x.ev.pick, .int .u64 x.ev.draw, .int .u32 x.ev.addr, .int .u32 x.ev.node, .int .u32 x.ev.dst, .int .u32 x.ev.xfer, .int .u8 x.ev.ty, .int .u64 x.ev.arg, .int .u64 x.ev.badge, .slice x.xo x.ev.ws.length x.cx], 35, false⟩), (b83, ⟨[.int .u16 ((refP C.ent S.cur).idx), .int .u32 ((refP C.ent S.cur).gen)], 39, false⟩)]) (φ := b83 = b83 ∧ Nat.ble (0 + 2) 2 = true) h86 rfl rfl rfl (by kernel_rfl) ⟨rfl, rfl⟩ fun w89 h90 => ?_
      clear h86
      refine nd_done ?_
      refine hK77 _ _ ?_
      clear hK77
      refine wp_seq_k fun K91 hK91 => ?_
      refine nd_start (l := [0, 1, 2, 3, 4, 5, 6]) rfl ?_
      refine nd_batch tabOk tabZ_ok [(0, {}), (1, {k := 2}), (2, {}), (3, {k := 1})] [8, 6, 4, 3, 21, 22, 23, 7, 31, 32, 34] (T' := [(8, .pointer (some ⟨b83, 0, none⟩)), (6, .pointer (some ⟨b60, 0, none⟩)), (4, .pointer (some ⟨b25, 0, none⟩)), (3, .pointer (some ⟨kb, 0, none⟩)), (21, .slice (some ⟨sb51, k052, none⟩) ops.length c), (22, .int .i64 ((ops.length : Nat) : Int)), (23, .int .i64 i), (7, .pointer (some ⟨kb2, 0, none⟩)), (31, .pointer (some ⟨kb, 0, none⟩)), (32, .agg #[.int .u16 ((refP C.ent S.cur).idx), .int .u32 ((refP C.ent S.cur).gen)]), (34, .int .u32 x.ev.addr)]) (φ := (b83 = b83 ∧ Nat.ble (0 + 2) 2 = true) ∧ (b60 = b60 ∧ Nat.ble (3 + 1) 11 = true) ∧ True) (rest := [4, 5, 6]) h90 (by kernel_rfl) rfl ⟨⟨rfl, rfl⟩, ⟨rfl, rfl⟩, trivial⟩ fun a92 h93 => ?_
      clear h90
      refine nd_op ?_
      refine op_call h93 rfl rfl rfl (callOk Tryd.func19 (by decide) rfl) (args := [.pointer (some ⟨kb, 0, none⟩), .agg #[.int .u16 ((refP C.ent S.cur).idx), .int .u32 ((refP C.ent S.cur).gen)], .int .u32 x.ev.addr]) rfl (capAt_ok kb bo bc nd S hok.ri C hci (refP C.ent S.cur) ⟨hmer.1, by omega⟩ x.ev.addr (hev x hxm).1.addr _ (h93.inv.get (j := 0) (p := pKer kb bo bc nd S C) rfl).ker (h93.inv.get (j := 0) (p := pKer kb bo bc nd S C) rfl).cap (h93.inv.get (j := 0) (p := pKer kb bo bc nd S C) rfl).nk) ?_
      rintro _ w94 ⟨rfl, hf96⟩
      refine ⟨_, rfl, ?_⟩
      have h95 := (h93.grow hf96).put (d := some 35) (v := .agg #[.int .u8 ((capAtP S C (refP C.ent S.cur) x.ev.addr).ty), .int .u16 ((capAtP S C (refP C.ent S.cur) x.ev.addr).obj.idx), .int .u32 ((capAtP S C (refP C.ent S.cur) x.ev.addr).obj.gen), .int .u8 ((capAtP S C (refP C.ent S.cur) x.ev.addr).rights), .int .u64 ((capAtP S C (refP C.ent S.cur) x.ev.addr).badge)]) (T' := [(35, .agg #[.int .u8 ((capAtP S C (refP C.ent S.cur) x.ev.addr).ty), .int .u16 ((capAtP S C (refP C.ent S.cur) x.ev.addr).obj.idx), .int .u32 ((capAtP S C (refP C.ent S.cur) x.ev.addr).obj.gen), .int .u8 ((capAtP S C (refP C.ent S.cur) x.ev.addr).rights), .int .u64 ((capAtP S C (refP C.ent S.cur) x.ev.addr).badge)]), (8, .pointer (some ⟨b83, 0, none⟩)), (6, .pointer (some ⟨b60, 0, none⟩)), (4, .pointer (some ⟨b25, 0, none⟩)), (3, .pointer (some ⟨kb, 0, none⟩)), (21, .slice (some ⟨sb51, k052, none⟩) ops.length c), (22, .int .i64 ((ops.length : Nat) : Int)), (23, .int .i64 i), (7, .pointer (some ⟨kb2, 0, none⟩)), (31, .pointer (some ⟨kb, 0, none⟩)), (32, .agg #[.int .u16 ((refP C.ent S.cur).idx), .int .u32 ((refP C.ent S.cur).gen)]), (34, .int .u32 x.ev.addr)]) rfl
      clear h93
      refine nd_op ?_
      refine op_new tabOk (cells := [.int .u8 0, .int .u16 0, .int .u32 0, .int .u8 0, .int .u64 0]) (ty := 49) (ln := none) (L1 := fun b97 => [(b25, ⟨mkC M, 68, false⟩), (b60, ⟨[.int .u8 x.ev.kind, .int .u32 x.ev.pick, .int .u64 x.ev.draw, .int .u32 x.ev.addr, .int .u32 x.ev.node, .int .u32 x.ev.dst, .int .u32 x.ev.xfer, .int .u8 x.ev.ty, .int .u64 x.ev.arg, .int .u64 x.ev.badge, .slice x.xo x.ev.ws.length x.cx], 35, false⟩), (b83, ⟨[.int .u16 ((refP C.ent S.cur).idx), .int .u32 ((refP C.ent S.cur).gen)], 39, false⟩), (b97, ⟨[.int .u8 0, .int .u16 0, .int .u32 0, .int .u8 0, .int .u64 0], 49, false⟩)]) h95 rfl rfl rfl rfl (by kernel_rfl) (fun _ => rfl) fun b97 w98 a99 h100 hf101 hn102 => ?_
      clear h95
      refine nd_op ?_
      refine op_store tabOk {k := 3} (L' := [(b25, ⟨mkC M, 68, false⟩), (b60, ⟨[.int .u8 x.ev.kind, .int .u32 x.ev.pick, .int .u64 x.ev.draw, .int .u32 x.ev.addr, .int .u32 x.ev.node, .int .u32 x.ev.dst, .int .u32 x.ev.xfer, .int .u8 x.ev.ty, .int .u64 x.ev.arg, .int .u64 x.ev.badge, .slice x.xo x.ev.ws.length x.cx], 35, false⟩), (b83, ⟨[.int .u16 ((refP C.ent S.cur).idx), .int .u32 ((refP C.ent S.cur).gen)], 39, false⟩), (b97, ⟨[.int .u8 ((capAtP S C (refP C.ent S.cur) x.ev.addr).ty), .int .u16 ((capAtP S C (refP C.ent S.cur) x.ev.addr).obj.idx), .int .u32 ((capAtP S C (refP C.ent S.cur) x.ev.addr).obj.gen), .int .u8 ((capAtP S C (refP C.ent S.cur) x.ev.addr).rights), .int .u64 ((capAtP S C (refP C.ent S.cur) x.ev.addr).badge)], 49, false⟩)]) (φ := b97 = b97 ∧ Nat.ble (0 + 5) 5 = true) h100 rfl rfl rfl (by kernel_rfl) ⟨rfl, rfl⟩ fun w103 h104 => ?_
      clear h100
      refine nd_done ?_
      refine hK91 _ _ ?_
      clear hK91
      refine wp_seq_k fun K105 hK105 => ?_
      refine nd_start (l := [0, 1, 2, 3, 4]) rfl ?_
      refine nd_batch tabOk tabZ_ok [(0, {}), (1, {k := 1})] [9, 8, 6, 4, 3, 21, 22, 23, 7, 36, 37] (T' := [(9, .pointer (some ⟨b97, 0, none⟩)), (8, .pointer (some ⟨b83, 0, none⟩)), (6, .pointer (some ⟨b60, 0, none⟩)), (4, .pointer (some ⟨b25, 0, none⟩)), (3, .pointer (some ⟨kb, 0, none⟩)), (21, .slice (some ⟨sb51, k052, none⟩) ops.length c), (22, .int .i64 ((ops.length : Nat) : Int)), (23, .int .i64 i), (7, .pointer (some ⟨kb2, 0, none⟩)), (36, .pointer (some ⟨kb, 0, none⟩)), (37, .agg #[.int .u8 x.ev.kind, .int .u32 x.ev.pick, .int .u64 x.ev.draw, .int .u32 x.ev.addr, .int .u32 x.ev.node, .int .u32 x.ev.dst, .int .u32 x.ev.xfer, .int .u8 x.ev.ty, .int .u64 x.ev.arg, .int .u64 x.ev.badge, .slice x.xo x.ev.ws.length x.cx])]) (φ := (b60 = b60 ∧ Nat.ble (0 + 11) 11 = true) ∧ True) (rest := [2, 3, 4]) h104 (by kernel_rfl) rfl ⟨⟨rfl, rfl⟩, trivial⟩ fun a106 h107 => ?_
      clear h104
      refine nd_op ?_
      obtain ⟨Sz, Cz, oz, ezSz⟩ : ∃ a b c, stepP S C x.ev = (a, b, c) := ⟨_, _, _, rfl⟩
      have hnwkSz : ∀ b ∈ kb :: capF bo bc nd C, w.heap.size ≤ b := h107.inv.newOf (j := 0) (p := pKer kb bo bc nd S C) rfl
      have hstSz := step_ok kb bo bc nd S hok.ri C hok.li hci x.ev (hev x hxm).1 x.xo x.cx _ (h107.inv.get (j := 0) (p := pKer kb bo bc nd S C) rfl).ker (h107.inv.get (j := 0) (p := pKer kb bo bc nd S C) rfl).cap (h107.inv.get (j := 0) (p := pKer kb bo bc nd S C) rfl).nk (cellsK hg1 h107.frame hgs1 (by simp)) (Nat.lt_of_lt_of_le hgs1 h107.frame.size) (by have := hnwkSz kb (List.mem_cons_self ..); omega) (fun hq => by have := hnwkSz 1 (List.mem_cons_of_mem _ hq); omega) (words_at (hwd x hxm) h107.frame hnwkSz)
      rw [ezSz] at hstSz
      have hgkSz := (h107.inv.get (j := 0) (p := pKer kb bo bc nd S C) rfl).nk
      have hglSz := lt_of_heap (h107.inv.get (j := 0) (p := pKer kb bo bc nd S C) rfl).ker
      refine op_call h107 rfl rfl rfl (callOk Tryd.func14 (by decide) rfl) (args := [.pointer (some ⟨kb, 0, none⟩), .agg #[.int .u8 x.ev.kind, .int .u32 x.ev.pick, .int .u64 x.ev.draw, .int .u32 x.ev.addr, .int .u32 x.ev.node, .int .u32 x.ev.dst, .int .u32 x.ev.xfer, .int .u8 x.ev.ty, .int .u64 x.ev.arg, .int .u64 x.ev.badge, .slice x.xo x.ev.ws.length x.cx]]) rfl (hstSz) ?_
      rintro _ w109 ⟨rfl, hkSz, nd9, hcSz, hsSz, hf108⟩
      refine ⟨_, rfl, ?_⟩
      dsimp only at hkSz hcSz hsSz ⊢
      have hnkSz : kb ∉ capF bo bc nd9 Cz := fun hq => (hsSz _ hq).elim hgkSz (fun h => by omega)
      have h110 := (h107.pcSet (j := 0) (p := pKer kb bo bc nd S C) (p' := pKer kb bo bc nd9 Sz Cz) (ps' := [pKer kb bo bc nd9 Sz Cz, pKer kb2 bo2 bc2 nd2 S C]) rfl (pKer_ok ⟨hkSz, hcSz, hnkSz⟩) hf108 (fun _ h => h) (ker_sub hsSz) (kcons (by intro hq; cases hq) (kcons (by intro hq; cases hq) (kcons (by intro hq; cases hq) (kcons (by intro hq; cases hq) knil)))) rfl).put (d := some 38) (v := .agg #[.int .u8 oz.code, .int .u16 oz.run.idx, .int .u32 oz.run.gen, .int .u64 oz.badge, .int .u64 oz.m0, .int .u64 oz.m1, .int .u64 oz.m2, .int .u64 oz.m3, .int .u8 oz.len, .int .u8 oz.got]) (T' := [(38, .agg #[.int .u8 oz.code, .int .u16 oz.run.idx, .int .u32 oz.run.gen, .int .u64 oz.badge, .int .u64 oz.m0, .int .u64 oz.m1, .int .u64 oz.m2, .int .u64 oz.m3, .int .u8 oz.len, .int .u8 oz.got]), (9, .pointer (some ⟨b97, 0, none⟩)), (8, .pointer (some ⟨b83, 0, none⟩)), (6, .pointer (some ⟨b60, 0, none⟩)), (4, .pointer (some ⟨b25, 0, none⟩)), (3, .pointer (some ⟨kb, 0, none⟩)), (21, .slice (some ⟨sb51, k052, none⟩) ops.length c), (22, .int .i64 ((ops.length : Nat) : Int)), (23, .int .i64 i), (7, .pointer (some ⟨kb2, 0, none⟩)), (36, .pointer (some ⟨kb, 0, none⟩)), (37, .agg #[.int .u8 x.ev.kind, .int .u32 x.ev.pick, .int .u64 x.ev.draw, .int .u32 x.ev.addr, .int .u32 x.ev.node, .int .u32 x.ev.dst, .int .u32 x.ev.xfer, .int .u8 x.ev.ty, .int .u64 x.ev.arg, .int .u64 x.ev.badge, .slice x.xo x.ev.ws.length x.cx])]) rfl
      have hszh110 : w.heap.size ≤ _ := h107.frame.size
      clear h107
      have hivz := step_inv hok hci (hev x hxm).1
      rw [ezSz] at hivz
      dsimp only at hivz
      have hXz := hX.step hok hci (hev x hxm).1
      rw [ezSz] at hXz
      dsimp only at hXz
      obtain ⟨Qz, hN⟩ := step_N hX hok hci (hev x hxm).1 hQ ezSz
      have harg0 := (hev x hxm).1.arg.1
      have hmf : (fun l => (S.irq l).masked) = M := funext hM
      have hcls : (oz.code ≠ 0 ∧ x.ev.kind ≠ 1) ∨ (oz.code ≠ 0 ∧ x.ev.kind = 1 ∧ ¬ x.ev.arg < 16) ∨ (oz.code ≠ 0 ∧ x.ev.kind = 1 ∧ x.ev.arg < 16 ∧ M x.ev.arg.toNat = false) ∨ (oz.code ≠ 0 ∧ x.ev.kind = 1 ∧ x.ev.arg < 16 ∧ M x.ev.arg.toNat = true) ∨ (oz.code = 0 ∧ x.ev.kind = 1) ∨ (oz.code = 0 ∧ x.ev.kind = 8) ∨ (oz.code = 0 ∧ x.ev.kind = 9) ∨ (oz.code = 0 ∧ x.ev.kind = 19) ∨ (oz.code = 0 ∧ x.ev.kind = 18) ∨ (oz.code = 0 ∧ x.ev.kind ≠ 1 ∧ x.ev.kind ≠ 8 ∧ x.ev.kind ≠ 9 ∧ x.ev.kind ≠ 18 ∧ x.ev.kind ≠ 19) := by
        have hMc : M x.ev.arg.toNat = false ∨ M x.ev.arg.toNat = true := by cases M x.ev.arg.toNat <;> simp
        rcases hMc with hMc | hMc <;> simp only [hMc] <;> simp <;> omega
      rcases hcls with ⟨hc, hk⟩ | ⟨hc, hk, harg⟩ | ⟨hc, hk, harg, hMa⟩ | ⟨hc, hk, harg, hMa⟩ | ⟨hc, hk⟩ | ⟨hc, hk⟩ | ⟨hc, hk⟩ | ⟨hc, hk⟩ | ⟨hc, hk⟩ | ⟨hc, hk1, hk8, hk9, hk18, hk19⟩
      ·
        have hmz : ∀ l, (Sz.irq l).masked = M l := fun l => by rw [hN.msk, hmf]; unfold maskP; rw [if_pos hc]
        refine nd_op ?_
        refine op_new tabOk (cells := [.int .u8 0, .int .u16 0, .int .u32 0, .int .u64 0, .int .u64 0, .int .u64 0, .int .u64 0, .int .u64 0, .int .u8 0, .int .u8 0]) (ty := 42) (ln := none) (L1 := fun b111 => [(b25, ⟨mkC M, 68, false⟩), (b60, ⟨[.int .u8 x.ev.kind, .int .u32 x.ev.pick, .int .u64 x.ev.draw, .int .u32 x.ev.addr, .int .u32 x.ev.node, .int .u32 x.ev.dst, .int .u32 x.ev.xfer, .int .u8 x.ev.ty, .int .u64 x.ev.arg, .int .u64 x.ev.badge, .slice x.xo x.ev.ws.length x.cx], 35, false⟩), (b83, ⟨[.int .u16 ((refP C.ent S.cur).idx), .int .u32 ((refP C.ent S.cur).gen)], 39, false⟩), (b97, ⟨[.int .u8 ((capAtP S C (refP C.ent S.cur) x.ev.addr).ty), .int .u16 ((capAtP S C (refP C.ent S.cur) x.ev.addr).obj.idx), .int .u32 ((capAtP S C (refP C.ent S.cur) x.ev.addr).obj.gen), .int .u8 ((capAtP S C (refP C.ent S.cur) x.ev.addr).rights), .int .u64 ((capAtP S C (refP C.ent S.cur) x.ev.addr).badge)], 49, false⟩), (b111, ⟨[.int .u8 0, .int .u16 0, .int .u32 0, .int .u64 0, .int .u64 0, .int .u64 0, .int .u64 0, .int .u64 0, .int .u8 0, .int .u8 0], 42, false⟩)]) h110 rfl rfl rfl rfl (by kernel_rfl) (fun _ => rfl) fun b111 w112 a113 h114 hf115 hn116 => ?_
        clear h110
        refine nd_op ?_
        refine op_store tabOk {k := 4} (L' := [(b25, ⟨mkC M, 68, false⟩), (b60, ⟨[.int .u8 x.ev.kind, .int .u32 x.ev.pick, .int .u64 x.ev.draw, .int .u32 x.ev.addr, .int .u32 x.ev.node, .int .u32 x.ev.dst, .int .u32 x.ev.xfer, .int .u8 x.ev.ty, .int .u64 x.ev.arg, .int .u64 x.ev.badge, .slice x.xo x.ev.ws.length x.cx], 35, false⟩), (b83, ⟨[.int .u16 ((refP C.ent S.cur).idx), .int .u32 ((refP C.ent S.cur).gen)], 39, false⟩), (b97, ⟨[.int .u8 ((capAtP S C (refP C.ent S.cur) x.ev.addr).ty), .int .u16 ((capAtP S C (refP C.ent S.cur) x.ev.addr).obj.idx), .int .u32 ((capAtP S C (refP C.ent S.cur) x.ev.addr).obj.gen), .int .u8 ((capAtP S C (refP C.ent S.cur) x.ev.addr).rights), .int .u64 ((capAtP S C (refP C.ent S.cur) x.ev.addr).badge)], 49, false⟩), (b111, ⟨[.int .u8 oz.code, .int .u16 oz.run.idx, .int .u32 oz.run.gen, .int .u64 oz.badge, .int .u64 oz.m0, .int .u64 oz.m1, .int .u64 oz.m2, .int .u64 oz.m3, .int .u8 oz.len, .int .u8 oz.got], 42, false⟩)]) (φ := b111 = b111 ∧ Nat.ble (0 + 10) 10 = true) h114 rfl rfl rfl (by kernel_rfl) ⟨rfl, rfl⟩ fun w117 h118 => ?_
        clear h114
        refine nd_done ?_
        refine hK105 _ _ ?_
        clear hK105
        refine wp_seq_k fun K119 hK119 => ?_
        refine nd_start (l := [0, 1, 2, 3]) rfl ?_
        refine nd_batch tabOk tabZ_ok [(0, {}), (1, {k := 1}), (2, {}), (3, {})] [10, 9, 8, 6, 4, 3, 21, 22, 23, 7, 11] (T' := [(10, .pointer (some ⟨b111, 0, none⟩)), (9, .pointer (some ⟨b97, 0, none⟩)), (8, .pointer (some ⟨b83, 0, none⟩)), (6, .pointer (some ⟨b60, 0, none⟩)), (4, .pointer (some ⟨b25, 0, none⟩)), (3, .pointer (some ⟨kb, 0, none⟩)), (21, .slice (some ⟨sb51, k052, none⟩) ops.length c), (22, .int .i64 ((ops.length : Nat) : Int)), (23, .int .i64 i), (7, .pointer (some ⟨kb2, 0, none⟩)), (11, .bool (decide (x.ev.arg < 16)))]) (φ := (b60 = b60 ∧ Nat.ble (8 + 1) 11 = true) ∧ True) (rest := []) h118 (by kernel_rfl) rfl ⟨⟨rfl, rfl⟩, trivial⟩ fun a120 h121 => ?_
        clear h118
        refine nd_done ?_
        refine hK119 _ _ ?_
        clear hK119
        refine wp_seq_k fun K122 hK122 => ?_
        refine wp_seq_k fun K123 hK123 => ?_
        refine nd_start (l := [0, 1, 2, 3, 4, 5, 6, 7, 8, 9, 10, 11, 12, 13, 14, 15, 16]) rfl ?_
        refine nd_batch tabOk tabZ_ok [(0, {}), (1, {k := 1}), (2, {f := 1}), (3, {}), (4, {}), (5, {}), (6, {}), (7, {}), (8, {}), (9, {}), (10, {}), (11, {}), (12, {}), (13, {}), (14, {}), (15, {}), (16, {})] [10, 9, 8, 6, 4, 3, 21, 22, 23, 7, 11, 58] (T' := [(10, .pointer (some ⟨b111, 0, none⟩)), (9, .pointer (some ⟨b97, 0, none⟩)), (8, .pointer (some ⟨b83, 0, none⟩)), (6, .pointer (some ⟨b60, 0, none⟩)), (4, .pointer (some ⟨b25, 0, none⟩)), (3, .pointer (some ⟨kb, 0, none⟩)), (21, .slice (some ⟨sb51, k052, none⟩) ops.length c), (22, .int .i64 ((ops.length : Nat) : Int)), (23, .int .i64 i), (7, .pointer (some ⟨kb2, 0, none⟩)), (11, .bool (decide (x.ev.arg < 16))), (58, .bool false)]) (φ := (b60 = b60 ∧ Nat.ble (0 + 1) 11 = true) ∧ ((x.ev.kind == 1)) = false ∧ True) (rest := []) h121 (by kernel_rfl) rfl ⟨⟨rfl, rfl⟩, (by simp [hk]), trivial⟩ fun a124 h125 => ?_
        clear h121
        refine nd_done ?_
        refine hK123 _ _ ?_
        clear hK123
        refine c_false h125 rfl ?_
        refine wp_skip ?_
        refine hK122 _ _ ?_
        clear hK122
        refine wp_seq_k fun K126 hK126 => ?_
        refine wp_seq_k fun K127 hK127 => ?_
        refine nd_start (l := [0, 1, 2]) rfl ?_
        refine nd_batch tabOk tabZ_ok [(0, {}), (1, {k := 4}), (2, {f := 1})] [10, 9, 8, 6, 4, 3, 21, 22, 23, 7, 11, 61] (T' := [(10, .pointer (some ⟨b111, 0, none⟩)), (9, .pointer (some ⟨b97, 0, none⟩)), (8, .pointer (some ⟨b83, 0, none⟩)), (6, .pointer (some ⟨b60, 0, none⟩)), (4, .pointer (some ⟨b25, 0, none⟩)), (3, .pointer (some ⟨kb, 0, none⟩)), (21, .slice (some ⟨sb51, k052, none⟩) ops.length c), (22, .int .i64 ((ops.length : Nat) : Int)), (23, .int .i64 i), (7, .pointer (some ⟨kb2, 0, none⟩)), (11, .bool (decide (x.ev.arg < 16))), (61, .bool false)]) (φ := (b111 = b111 ∧ Nat.ble (0 + 1) 10 = true) ∧ ((oz.code == 0)) = false ∧ True) (rest := []) h125 (by kernel_rfl) rfl ⟨⟨rfl, rfl⟩, (by simp [hc]), trivial⟩ fun a128 h129 => ?_
        clear h125
        refine nd_done ?_
        refine hK127 _ _ ?_
        clear hK127
        refine c_false h129 rfl ?_
        refine wp_skip ?_
        refine hK126 _ _ ?_
        clear hK126
        refine wp_seq_k fun K130 hK130 => ?_
        refine nd_start (l := [0]) rfl ?_
        refine nd_batch tabOk tabZ_ok [(0, {})] [10, 9, 8, 6, 4, 3, 21, 22, 23, 7, 11, 152] (T' := [(10, .pointer (some ⟨b111, 0, none⟩)), (9, .pointer (some ⟨b97, 0, none⟩)), (8, .pointer (some ⟨b83, 0, none⟩)), (6, .pointer (some ⟨b60, 0, none⟩)), (4, .pointer (some ⟨b25, 0, none⟩)), (3, .pointer (some ⟨kb, 0, none⟩)), (21, .slice (some ⟨sb51, k052, none⟩) ops.length c), (22, .int .i64 ((ops.length : Nat) : Int)), (23, .int .i64 i), (7, .pointer (some ⟨kb2, 0, none⟩)), (11, .bool (decide (x.ev.arg < 16))), (152, .int .i64 0)]) (φ := True) (rest := []) h129 (by kernel_rfl) rfl trivial fun a131 h132 => ?_
        clear h129
        refine nd_done ?_
        refine hK130 _ _ ?_
        clear hK130
        refine wp_block ?_
        have h133 := h132.memMono (L' := [(b25, ⟨mkC M, 68, false⟩)]) (List.Sublist.cons_cons _ (List.Sublist.cons _ (List.Sublist.cons _ (List.Sublist.cons _ (List.Sublist.cons _ List.Sublist.slnil)))))
        clear h132
        have h134 := h133.pcSub (ps' := [pKer kb bo bc nd9 Sz Cz]) (List.Sublist.cons_cons _ (List.Sublist.cons _ List.Sublist.slnil))
        clear h133
        refine wp_loop_ghost (fun g2 ga gw => ∃ (l : Int), ((g2 : Int) = 16 - l) ∧ (0 ≤ l ∧ l ≤ 16) ∧ St ⟨165, [], w, Pk w.heap.size [pKer kb bo bc nd9 Sz Cz], Pf [pKer kb bo bc nd9 Sz Cz]⟩ [(4, .pointer (some ⟨b25, 0, none⟩)), (3, .pointer (some ⟨kb, 0, none⟩)), (21, .slice (some ⟨sb51, k052, none⟩) ops.length c), (22, .int .i64 ((ops.length : Nat) : Int)), (23, .int .i64 i), (152, .int .i64 l)] [(b25, ⟨mkC M, 68, false⟩)] ga gw) 16 ⟨0, by decide, ⟨by decide, by decide⟩, (h134.slotsMono (restr_spec (keep := [4, 3, 21, 22, 23, 152]) rfl))⟩ ?_
        clear h134
        rintro g2 a135 w136 ⟨l, hi138, hi139, h137⟩
        have hlg := hi138
        have hl0 := hi139
        refine wp_seq_k fun K140 hK140 => ?_
        refine nd_start (l := [0]) rfl ?_
        refine nd_batch tabOk tabZ_ok [(0, {})] [4, 3, 21, 22, 23, 152, 153] (T' := [(4, .pointer (some ⟨b25, 0, none⟩)), (3, .pointer (some ⟨kb, 0, none⟩)), (21, .slice (some ⟨sb51, k052, none⟩) ops.length c), (22, .int .i64 ((ops.length : Nat) : Int)), (23, .int .i64 i), (152, .int .i64 l), (153, .bool (decide (l < 16)))]) (φ := True) (rest := []) h137 (by kernel_rfl) rfl trivial fun a141 h142 => ?_
        clear h137
        refine nd_done ?_
        refine hK140 _ _ ?_
        clear hK140
        refine wp_seq_k fun K143 hK143 => ?_
        refine c_split h142 (b := decide (l < 16)) rfl (fun hc144 => ?_) (fun hc144 => ?_)
        ·
          have hc144f : l < 16 := by simpa using hc144
          refine wp_skip ?_
          refine hK143 _ _ ?_
          clear hK143
          refine wp_seq_k fun K145 hK145 => ?_
          refine wp_block ?_
          refine wp_seq_k fun K146 hK146 => ?_
          refine nd_start (l := [0, 1]) rfl ?_
          refine nd_batch tabOk tabZ_ok [(0, {}), (1, {})] [4, 3, 21, 22, 23, 152, 16] (T' := [(4, .pointer (some ⟨b25, 0, none⟩)), (3, .pointer (some ⟨kb, 0, none⟩)), (21, .slice (some ⟨sb51, k052, none⟩) ops.length c), (22, .int .i64 ((ops.length : Nat) : Int)), (23, .int .i64 i), (152, .int .i64 l), (16, .int .i64 l)]) (φ := True) (rest := []) h142 (by kernel_rfl) rfl trivial fun a147 h148 => ?_
          clear h142
          refine nd_done ?_
          refine hK146 _ _ ?_
          clear hK146
          refine wp_seq_k fun K149 hK149 => ?_
          refine dr_start (KB := [b25]) (Bi := [[0], [0], [0], [0], [0], [0], [0], [0]]) mixed h148 fun w150 h151 => ?_
          clear h148
          refine dr_batch tabOk tabZ_ok (by repeat (first | with_reducible exact PF.body | with_reducible apply PF.inB | with_reducible apply PF.next)) [(0, {}), (1, {}), (4, {}), (5, {}), (6, {k := 0, m := 1, vs := [.bool (M l.toNat)], p := 0})] [4, 3, 21, 22, 23, 152, 16, 155, 156, 161] (T' := [(4, .pointer (some ⟨b25, 0, none⟩)), (3, .pointer (some ⟨kb, 0, none⟩)), (21, .slice (some ⟨sb51, k052, none⟩) ops.length c), (22, .int .i64 ((ops.length : Nat) : Int)), (23, .int .i64 i), (152, .int .i64 l), (16, .int .i64 l), (155, .pointer (some ⟨kb, 0, none⟩)), (156, .int .i64 l), (161, .bool (M l.toNat))]) (φ := (0 ≤ l ∧ l < 16) ∧ (b25 = b25 ∧ cellsAre (mkC M) (0 + (l.toNat * 1)) [.bool (M l.toNat)]) ∧ True) (fuel := 3) h151 (by kernel_rfl) rfl (by kernel_rfl) (by kernel_rfl) ⟨trivial, trivial, trivial, trivial, rfl, trivial⟩ ⟨⟨by omega, by omega⟩, ⟨rfl, (mk_read (i := l.toNat) (by omega) (by omega) rfl)⟩, trivial⟩ fun a153 h154 => ?_
          clear h151
          refine wpAnyK_one (i := 2) (fuel := 2) (by kernel_rfl) ?_
          refine op_call h154 rfl rfl rfl (callOk Tryd.func33 (by decide) rfl) (args := [.pointer (some ⟨kb, 0, none⟩), .int .i64 l]) rfl (irq_ok kb bo bc Sz l ⟨by omega, by omega⟩ _ (h154.inv.get (j := 0) (p := pKer kb bo bc nd9 Sz Cz) rfl).ker) ?_
          rintro _ w155 ⟨rfl, hf157⟩
          refine ⟨_, rfl, ?_⟩
          have h156 := (h154.grow hf157).put (d := some 157) (v := .agg #[.int .u16 ((Sz.irq l.toNat).ntfn.idx), .int .u32 ((Sz.irq l.toNat).ntfn.gen), .int .u64 ((Sz.irq l.toNat).badge), .bool ((Sz.irq l.toNat).masked)]) (T' := [(157, .agg #[.int .u16 ((Sz.irq l.toNat).ntfn.idx), .int .u32 ((Sz.irq l.toNat).ntfn.gen), .int .u64 ((Sz.irq l.toNat).badge), .bool ((Sz.irq l.toNat).masked)]), (4, .pointer (some ⟨b25, 0, none⟩)), (3, .pointer (some ⟨kb, 0, none⟩)), (21, .slice (some ⟨sb51, k052, none⟩) ops.length c), (22, .int .i64 ((ops.length : Nat) : Int)), (23, .int .i64 i), (152, .int .i64 l), (16, .int .i64 l), (155, .pointer (some ⟨kb, 0, none⟩)), (156, .int .i64 l), (161, .bool (M l.toNat))]) rfl
          refine ⟨(h154.keepFr hf157 (kcons (by simp) knil)), ?_⟩
          clear h154
          refine dr_batch tabOk tabZ_ok (by repeat (first | with_reducible exact PF.body | with_reducible apply PF.inB | with_reducible apply PF.next)) [(3, {}), (7, {f := 1})] [4, 3, 21, 22, 23, 152, 16, 162] (T' := [(4, .pointer (some ⟨b25, 0, none⟩)), (3, .pointer (some ⟨kb, 0, none⟩)), (21, .slice (some ⟨sb51, k052, none⟩) ops.length c), (22, .int .i64 ((ops.length : Nat) : Int)), (23, .int .i64 i), (152, .int .i64 l), (16, .int .i64 l), (162, .bool false)]) (φ := ((((Sz.irq l.toNat).masked) != (M l.toNat))) = false ∧ True) (fuel := 0) h156 (by kernel_rfl) rfl (by kernel_rfl) (by kernel_rfl) ⟨trivial, trivial, trivial⟩ ⟨(by rw [hmz]; simp), trivial⟩ fun a158 h159 => ?_
          clear h156
          refine wpAnyK_done (by kernel_rfl) ?_ _
          refine hK149 _ _ ?_
          clear hK149
          refine c_false h159 rfl ?_
          refine wp_skip ?_
          refine hK145 _ _ ?_
          clear hK145
          refine nd_start (l := [0, 1]) rfl ?_
          refine nd_batch tabOk tabZ_ok [(0, {}), (1, {})] [4, 3, 21, 22, 23, 16, 152] (T' := [(4, .pointer (some ⟨b25, 0, none⟩)), (3, .pointer (some ⟨kb, 0, none⟩)), (21, .slice (some ⟨sb51, k052, none⟩) ops.length c), (22, .int .i64 ((ops.length : Nat) : Int)), (23, .int .i64 i), (16, .int .i64 l), (152, .int .i64 (l + 1))]) (φ := inR .i64 (l + 1) ∧ True) (rest := []) h159 (by kernel_rfl) rfl ⟨⟨by omega, by omega⟩, trivial⟩ fun a160 h161 => ?_
          clear h159
          refine nd_done ?_
          exact ⟨(g2 - 1), by omega, (l + 1), by omega, ⟨by omega, by omega⟩, (h161.slotsMono (restr_spec (keep := [4, 3, 21, 22, 23, 152]) rfl))⟩
        ·
          have hc144f : ¬ l < 16 := by simpa using hc144
          refine wp_exit ?_
          refine hK55 _ _ ?_
          clear hK55
          refine nd_start (l := [0, 1]) rfl ?_
          refine nd_batch tabOk tabZ_ok [(0, {}), (1, {})] [4, 3, 21, 22, 152, 23] (T' := [(4, .pointer (some ⟨b25, 0, none⟩)), (3, .pointer (some ⟨kb, 0, none⟩)), (21, .slice (some ⟨sb51, k052, none⟩) ops.length c), (22, .int .i64 ((ops.length : Nat) : Int)), (152, .int .i64 l), (23, .int .i64 (i + 1))]) (φ := inR .i64 (i + 1) ∧ True) (rest := []) h142 (by kernel_rfl) rfl ⟨⟨by omega, by omega⟩, trivial⟩ fun a162 h163 => ?_
          clear h142
          refine nd_done ?_
          exact ⟨(g - 1), by omega, nd9, Sz, Cz, Qz, M, (i + 1), by omega, ⟨by omega, by omega⟩, hivz.1, hivz.2, hXz, hN.liq, hmz, (h163.slotsMono (restr_spec (keep := [4, 3, 21, 22, 23]) rfl))⟩
      ·
        have hmz : ∀ l, (Sz.irq l).masked = M l := fun l => by rw [hN.msk, hmf]; unfold maskP; rw [if_pos hc]
        refine nd_op ?_
        refine op_new tabOk (cells := [.int .u8 0, .int .u16 0, .int .u32 0, .int .u64 0, .int .u64 0, .int .u64 0, .int .u64 0, .int .u64 0, .int .u8 0, .int .u8 0]) (ty := 42) (ln := none) (L1 := fun b164 => [(b25, ⟨mkC M, 68, false⟩), (b60, ⟨[.int .u8 x.ev.kind, .int .u32 x.ev.pick, .int .u64 x.ev.draw, .int .u32 x.ev.addr, .int .u32 x.ev.node, .int .u32 x.ev.dst, .int .u32 x.ev.xfer, .int .u8 x.ev.ty, .int .u64 x.ev.arg, .int .u64 x.ev.badge, .slice x.xo x.ev.ws.length x.cx], 35, false⟩), (b83, ⟨[.int .u16 ((refP C.ent S.cur).idx), .int .u32 ((refP C.ent S.cur).gen)], 39, false⟩), (b97, ⟨[.int .u8 ((capAtP S C (refP C.ent S.cur) x.ev.addr).ty), .int .u16 ((capAtP S C (refP C.ent S.cur) x.ev.addr).obj.idx), .int .u32 ((capAtP S C (refP C.ent S.cur) x.ev.addr).obj.gen), .int .u8 ((capAtP S C (refP C.ent S.cur) x.ev.addr).rights), .int .u64 ((capAtP S C (refP C.ent S.cur) x.ev.addr).badge)], 49, false⟩), (b164, ⟨[.int .u8 0, .int .u16 0, .int .u32 0, .int .u64 0, .int .u64 0, .int .u64 0, .int .u64 0, .int .u64 0, .int .u8 0, .int .u8 0], 42, false⟩)]) h110 rfl rfl rfl rfl (by kernel_rfl) (fun _ => rfl) fun b164 w165 a166 h167 hf168 hn169 => ?_
        clear h110
        refine nd_op ?_
        refine op_store tabOk {k := 4} (L' := [(b25, ⟨mkC M, 68, false⟩), (b60, ⟨[.int .u8 x.ev.kind, .int .u32 x.ev.pick, .int .u64 x.ev.draw, .int .u32 x.ev.addr, .int .u32 x.ev.node, .int .u32 x.ev.dst, .int .u32 x.ev.xfer, .int .u8 x.ev.ty, .int .u64 x.ev.arg, .int .u64 x.ev.badge, .slice x.xo x.ev.ws.length x.cx], 35, false⟩), (b83, ⟨[.int .u16 ((refP C.ent S.cur).idx), .int .u32 ((refP C.ent S.cur).gen)], 39, false⟩), (b97, ⟨[.int .u8 ((capAtP S C (refP C.ent S.cur) x.ev.addr).ty), .int .u16 ((capAtP S C (refP C.ent S.cur) x.ev.addr).obj.idx), .int .u32 ((capAtP S C (refP C.ent S.cur) x.ev.addr).obj.gen), .int .u8 ((capAtP S C (refP C.ent S.cur) x.ev.addr).rights), .int .u64 ((capAtP S C (refP C.ent S.cur) x.ev.addr).badge)], 49, false⟩), (b164, ⟨[.int .u8 oz.code, .int .u16 oz.run.idx, .int .u32 oz.run.gen, .int .u64 oz.badge, .int .u64 oz.m0, .int .u64 oz.m1, .int .u64 oz.m2, .int .u64 oz.m3, .int .u8 oz.len, .int .u8 oz.got], 42, false⟩)]) (φ := b164 = b164 ∧ Nat.ble (0 + 10) 10 = true) h167 rfl rfl rfl (by kernel_rfl) ⟨rfl, rfl⟩ fun w170 h171 => ?_
        clear h167
        refine nd_done ?_
        refine hK105 _ _ ?_
        clear hK105
        refine wp_seq_k fun K172 hK172 => ?_
        refine nd_start (l := [0, 1, 2, 3]) rfl ?_
        refine nd_batch tabOk tabZ_ok [(0, {}), (1, {k := 1}), (2, {f := 1}), (3, {})] [10, 9, 8, 6, 4, 3, 21, 22, 23, 7, 11] (T' := [(10, .pointer (some ⟨b164, 0, none⟩)), (9, .pointer (some ⟨b97, 0, none⟩)), (8, .pointer (some ⟨b83, 0, none⟩)), (6, .pointer (some ⟨b60, 0, none⟩)), (4, .pointer (some ⟨b25, 0, none⟩)), (3, .pointer (some ⟨kb, 0, none⟩)), (21, .slice (some ⟨sb51, k052, none⟩) ops.length c), (22, .int .i64 ((ops.length : Nat) : Int)), (23, .int .i64 i), (7, .pointer (some ⟨kb2, 0, none⟩)), (11, .bool false)]) (φ := (b60 = b60 ∧ Nat.ble (8 + 1) 11 = true) ∧ (decide (x.ev.arg < 16)) = false ∧ True) (rest := []) h171 (by kernel_rfl) rfl ⟨⟨rfl, rfl⟩, (by simp; omega), trivial⟩ fun a173 h174 => ?_
        clear h171
        refine nd_done ?_
        refine hK172 _ _ ?_
        clear hK172
        refine wp_seq_k fun K175 hK175 => ?_
        refine wp_seq_k fun K176 hK176 => ?_
        refine nd_start (l := [0, 1, 2, 3, 4, 5, 6, 7, 8, 9, 10, 11, 12, 13, 14, 15, 16]) rfl ?_
        refine nd_batch tabOk tabZ_ok [(0, {}), (1, {k := 1}), (2, {f := 2}), (3, {}), (4, {}), (5, {}), (6, {}), (7, {}), (8, {}), (9, {}), (10, {}), (11, {}), (12, {}), (13, {}), (14, {}), (15, {}), (16, {})] [10, 9, 8, 6, 4, 3, 21, 22, 23, 7, 11, 58] (T' := [(10, .pointer (some ⟨b164, 0, none⟩)), (9, .pointer (some ⟨b97, 0, none⟩)), (8, .pointer (some ⟨b83, 0, none⟩)), (6, .pointer (some ⟨b60, 0, none⟩)), (4, .pointer (some ⟨b25, 0, none⟩)), (3, .pointer (some ⟨kb, 0, none⟩)), (21, .slice (some ⟨sb51, k052, none⟩) ops.length c), (22, .int .i64 ((ops.length : Nat) : Int)), (23, .int .i64 i), (7, .pointer (some ⟨kb2, 0, none⟩)), (11, .bool false), (58, .bool false)]) (φ := (b60 = b60 ∧ Nat.ble (0 + 1) 11 = true) ∧ ((x.ev.kind == 1)) = true ∧ True) (rest := []) h174 (by kernel_rfl) rfl ⟨⟨rfl, rfl⟩, (by simp [hk]), trivial⟩ fun a177 h178 => ?_
        clear h174
        refine nd_done ?_
        refine hK176 _ _ ?_
        clear hK176
        refine c_false h178 rfl ?_
        refine wp_skip ?_
        refine hK175 _ _ ?_
        clear hK175
        refine wp_seq_k fun K179 hK179 => ?_
        refine wp_seq_k fun K180 hK180 => ?_
        refine nd_start (l := [0, 1, 2]) rfl ?_
        refine nd_batch tabOk tabZ_ok [(0, {}), (1, {k := 4}), (2, {f := 1})] [10, 9, 8, 6, 4, 3, 21, 22, 23, 7, 11, 61] (T' := [(10, .pointer (some ⟨b164, 0, none⟩)), (9, .pointer (some ⟨b97, 0, none⟩)), (8, .pointer (some ⟨b83, 0, none⟩)), (6, .pointer (some ⟨b60, 0, none⟩)), (4, .pointer (some ⟨b25, 0, none⟩)), (3, .pointer (some ⟨kb, 0, none⟩)), (21, .slice (some ⟨sb51, k052, none⟩) ops.length c), (22, .int .i64 ((ops.length : Nat) : Int)), (23, .int .i64 i), (7, .pointer (some ⟨kb2, 0, none⟩)), (11, .bool false), (61, .bool false)]) (φ := (b164 = b164 ∧ Nat.ble (0 + 1) 10 = true) ∧ ((oz.code == 0)) = false ∧ True) (rest := []) h178 (by kernel_rfl) rfl ⟨⟨rfl, rfl⟩, (by simp [hc]), trivial⟩ fun a181 h182 => ?_
        clear h178
        refine nd_done ?_
        refine hK180 _ _ ?_
        clear hK180
        refine c_false h182 rfl ?_
        refine wp_skip ?_
        refine hK179 _ _ ?_
        clear hK179
        refine wp_seq_k fun K183 hK183 => ?_
        refine nd_start (l := [0]) rfl ?_
        refine nd_batch tabOk tabZ_ok [(0, {})] [10, 9, 8, 6, 4, 3, 21, 22, 23, 7, 11, 152] (T' := [(10, .pointer (some ⟨b164, 0, none⟩)), (9, .pointer (some ⟨b97, 0, none⟩)), (8, .pointer (some ⟨b83, 0, none⟩)), (6, .pointer (some ⟨b60, 0, none⟩)), (4, .pointer (some ⟨b25, 0, none⟩)), (3, .pointer (some ⟨kb, 0, none⟩)), (21, .slice (some ⟨sb51, k052, none⟩) ops.length c), (22, .int .i64 ((ops.length : Nat) : Int)), (23, .int .i64 i), (7, .pointer (some ⟨kb2, 0, none⟩)), (11, .bool false), (152, .int .i64 0)]) (φ := True) (rest := []) h182 (by kernel_rfl) rfl trivial fun a184 h185 => ?_
        clear h182
        refine nd_done ?_
        refine hK183 _ _ ?_
        clear hK183
        refine wp_block ?_
        have h186 := h185.memMono (L' := [(b25, ⟨mkC M, 68, false⟩)]) (List.Sublist.cons_cons _ (List.Sublist.cons _ (List.Sublist.cons _ (List.Sublist.cons _ (List.Sublist.cons _ List.Sublist.slnil)))))
        clear h185
        have h187 := h186.pcSub (ps' := [pKer kb bo bc nd9 Sz Cz]) (List.Sublist.cons_cons _ (List.Sublist.cons _ List.Sublist.slnil))
        clear h186
        refine wp_loop_ghost (fun g2 ga gw => ∃ (l : Int), ((g2 : Int) = 16 - l) ∧ (0 ≤ l ∧ l ≤ 16) ∧ St ⟨165, [], w, Pk w.heap.size [pKer kb bo bc nd9 Sz Cz], Pf [pKer kb bo bc nd9 Sz Cz]⟩ [(4, .pointer (some ⟨b25, 0, none⟩)), (3, .pointer (some ⟨kb, 0, none⟩)), (21, .slice (some ⟨sb51, k052, none⟩) ops.length c), (22, .int .i64 ((ops.length : Nat) : Int)), (23, .int .i64 i), (152, .int .i64 l)] [(b25, ⟨mkC M, 68, false⟩)] ga gw) 16 ⟨0, by decide, ⟨by decide, by decide⟩, (h187.slotsMono (restr_spec (keep := [4, 3, 21, 22, 23, 152]) rfl))⟩ ?_
        clear h187
        rintro g2 a188 w189 ⟨l, hi191, hi192, h190⟩
        have hlg := hi191
        have hl0 := hi192
        refine wp_seq_k fun K193 hK193 => ?_
        refine nd_start (l := [0]) rfl ?_
        refine nd_batch tabOk tabZ_ok [(0, {})] [4, 3, 21, 22, 23, 152, 153] (T' := [(4, .pointer (some ⟨b25, 0, none⟩)), (3, .pointer (some ⟨kb, 0, none⟩)), (21, .slice (some ⟨sb51, k052, none⟩) ops.length c), (22, .int .i64 ((ops.length : Nat) : Int)), (23, .int .i64 i), (152, .int .i64 l), (153, .bool (decide (l < 16)))]) (φ := True) (rest := []) h190 (by kernel_rfl) rfl trivial fun a194 h195 => ?_
        clear h190
        refine nd_done ?_
        refine hK193 _ _ ?_
        clear hK193
        refine wp_seq_k fun K196 hK196 => ?_
        refine c_split h195 (b := decide (l < 16)) rfl (fun hc197 => ?_) (fun hc197 => ?_)
        ·
          have hc197f : l < 16 := by simpa using hc197
          refine wp_skip ?_
          refine hK196 _ _ ?_
          clear hK196
          refine wp_seq_k fun K198 hK198 => ?_
          refine wp_block ?_
          refine wp_seq_k fun K199 hK199 => ?_
          refine nd_start (l := [0, 1]) rfl ?_
          refine nd_batch tabOk tabZ_ok [(0, {}), (1, {})] [4, 3, 21, 22, 23, 152, 16] (T' := [(4, .pointer (some ⟨b25, 0, none⟩)), (3, .pointer (some ⟨kb, 0, none⟩)), (21, .slice (some ⟨sb51, k052, none⟩) ops.length c), (22, .int .i64 ((ops.length : Nat) : Int)), (23, .int .i64 i), (152, .int .i64 l), (16, .int .i64 l)]) (φ := True) (rest := []) h195 (by kernel_rfl) rfl trivial fun a200 h201 => ?_
          clear h195
          refine nd_done ?_
          refine hK199 _ _ ?_
          clear hK199
          refine wp_seq_k fun K202 hK202 => ?_
          refine dr_start (KB := [b25]) (Bi := [[0], [0], [0], [0], [0], [0], [0], [0]]) mixed h201 fun w203 h204 => ?_
          clear h201
          refine dr_batch tabOk tabZ_ok (by repeat (first | with_reducible exact PF.body | with_reducible apply PF.inB | with_reducible apply PF.next)) [(0, {}), (1, {}), (4, {}), (5, {}), (6, {k := 0, m := 1, vs := [.bool (M l.toNat)], p := 0})] [4, 3, 21, 22, 23, 152, 16, 155, 156, 161] (T' := [(4, .pointer (some ⟨b25, 0, none⟩)), (3, .pointer (some ⟨kb, 0, none⟩)), (21, .slice (some ⟨sb51, k052, none⟩) ops.length c), (22, .int .i64 ((ops.length : Nat) : Int)), (23, .int .i64 i), (152, .int .i64 l), (16, .int .i64 l), (155, .pointer (some ⟨kb, 0, none⟩)), (156, .int .i64 l), (161, .bool (M l.toNat))]) (φ := (0 ≤ l ∧ l < 16) ∧ (b25 = b25 ∧ cellsAre (mkC M) (0 + (l.toNat * 1)) [.bool (M l.toNat)]) ∧ True) (fuel := 3) h204 (by kernel_rfl) rfl (by kernel_rfl) (by kernel_rfl) ⟨trivial, trivial, trivial, trivial, rfl, trivial⟩ ⟨⟨by omega, by omega⟩, ⟨rfl, (mk_read (i := l.toNat) (by omega) (by omega) rfl)⟩, trivial⟩ fun a206 h207 => ?_
          clear h204
          refine wpAnyK_one (i := 2) (fuel := 2) (by kernel_rfl) ?_
          refine op_call h207 rfl rfl rfl (callOk Tryd.func33 (by decide) rfl) (args := [.pointer (some ⟨kb, 0, none⟩), .int .i64 l]) rfl (irq_ok kb bo bc Sz l ⟨by omega, by omega⟩ _ (h207.inv.get (j := 0) (p := pKer kb bo bc nd9 Sz Cz) rfl).ker) ?_
          rintro _ w208 ⟨rfl, hf210⟩
          refine ⟨_, rfl, ?_⟩
          have h209 := (h207.grow hf210).put (d := some 157) (v := .agg #[.int .u16 ((Sz.irq l.toNat).ntfn.idx), .int .u32 ((Sz.irq l.toNat).ntfn.gen), .int .u64 ((Sz.irq l.toNat).badge), .bool ((Sz.irq l.toNat).masked)]) (T' := [(157, .agg #[.int .u16 ((Sz.irq l.toNat).ntfn.idx), .int .u32 ((Sz.irq l.toNat).ntfn.gen), .int .u64 ((Sz.irq l.toNat).badge), .bool ((Sz.irq l.toNat).masked)]), (4, .pointer (some ⟨b25, 0, none⟩)), (3, .pointer (some ⟨kb, 0, none⟩)), (21, .slice (some ⟨sb51, k052, none⟩) ops.length c), (22, .int .i64 ((ops.length : Nat) : Int)), (23, .int .i64 i), (152, .int .i64 l), (16, .int .i64 l), (155, .pointer (some ⟨kb, 0, none⟩)), (156, .int .i64 l), (161, .bool (M l.toNat))]) rfl
          refine ⟨(h207.keepFr hf210 (kcons (by simp) knil)), ?_⟩
          clear h207
          refine dr_batch tabOk tabZ_ok (by repeat (first | with_reducible exact PF.body | with_reducible apply PF.inB | with_reducible apply PF.next)) [(3, {}), (7, {f := 1})] [4, 3, 21, 22, 23, 152, 16, 162] (T' := [(4, .pointer (some ⟨b25, 0, none⟩)), (3, .pointer (some ⟨kb, 0, none⟩)), (21, .slice (some ⟨sb51, k052, none⟩) ops.length c), (22, .int .i64 ((ops.length : Nat) : Int)), (23, .int .i64 i), (152, .int .i64 l), (16, .int .i64 l), (162, .bool false)]) (φ := ((((Sz.irq l.toNat).masked) != (M l.toNat))) = false ∧ True) (fuel := 0) h209 (by kernel_rfl) rfl (by kernel_rfl) (by kernel_rfl) ⟨trivial, trivial, trivial⟩ ⟨(by rw [hmz]; simp), trivial⟩ fun a211 h212 => ?_
          clear h209
          refine wpAnyK_done (by kernel_rfl) ?_ _
          refine hK202 _ _ ?_
          clear hK202
          refine c_false h212 rfl ?_
          refine wp_skip ?_
          refine hK198 _ _ ?_
          clear hK198
          refine nd_start (l := [0, 1]) rfl ?_
          refine nd_batch tabOk tabZ_ok [(0, {}), (1, {})] [4, 3, 21, 22, 23, 16, 152] (T' := [(4, .pointer (some ⟨b25, 0, none⟩)), (3, .pointer (some ⟨kb, 0, none⟩)), (21, .slice (some ⟨sb51, k052, none⟩) ops.length c), (22, .int .i64 ((ops.length : Nat) : Int)), (23, .int .i64 i), (16, .int .i64 l), (152, .int .i64 (l + 1))]) (φ := inR .i64 (l + 1) ∧ True) (rest := []) h212 (by kernel_rfl) rfl ⟨⟨by omega, by omega⟩, trivial⟩ fun a213 h214 => ?_
          clear h212
          refine nd_done ?_
          exact ⟨(g2 - 1), by omega, (l + 1), by omega, ⟨by omega, by omega⟩, (h214.slotsMono (restr_spec (keep := [4, 3, 21, 22, 23, 152]) rfl))⟩
        ·
          have hc197f : ¬ l < 16 := by simpa using hc197
          refine wp_exit ?_
          refine hK55 _ _ ?_
          clear hK55
          refine nd_start (l := [0, 1]) rfl ?_
          refine nd_batch tabOk tabZ_ok [(0, {}), (1, {})] [4, 3, 21, 22, 152, 23] (T' := [(4, .pointer (some ⟨b25, 0, none⟩)), (3, .pointer (some ⟨kb, 0, none⟩)), (21, .slice (some ⟨sb51, k052, none⟩) ops.length c), (22, .int .i64 ((ops.length : Nat) : Int)), (152, .int .i64 l), (23, .int .i64 (i + 1))]) (φ := inR .i64 (i + 1) ∧ True) (rest := []) h195 (by kernel_rfl) rfl ⟨⟨by omega, by omega⟩, trivial⟩ fun a215 h216 => ?_
          clear h195
          refine nd_done ?_
          exact ⟨(g - 1), by omega, nd9, Sz, Cz, Qz, M, (i + 1), by omega, ⟨by omega, by omega⟩, hivz.1, hivz.2, hXz, hN.liq, hmz, (h216.slotsMono (restr_spec (keep := [4, 3, 21, 22, 23]) rfl))⟩
      ·
        have hmz : ∀ l, (Sz.irq l).masked = M l := fun l => by rw [hN.msk, hmf]; unfold maskP; rw [if_pos hc]
        refine nd_op ?_
        refine op_new tabOk (cells := [.int .u8 0, .int .u16 0, .int .u32 0, .int .u64 0, .int .u64 0, .int .u64 0, .int .u64 0, .int .u64 0, .int .u8 0, .int .u8 0]) (ty := 42) (ln := none) (L1 := fun b217 => [(b25, ⟨mkC M, 68, false⟩), (b60, ⟨[.int .u8 x.ev.kind, .int .u32 x.ev.pick, .int .u64 x.ev.draw, .int .u32 x.ev.addr, .int .u32 x.ev.node, .int .u32 x.ev.dst, .int .u32 x.ev.xfer, .int .u8 x.ev.ty, .int .u64 x.ev.arg, .int .u64 x.ev.badge, .slice x.xo x.ev.ws.length x.cx], 35, false⟩), (b83, ⟨[.int .u16 ((refP C.ent S.cur).idx), .int .u32 ((refP C.ent S.cur).gen)], 39, false⟩), (b97, ⟨[.int .u8 ((capAtP S C (refP C.ent S.cur) x.ev.addr).ty), .int .u16 ((capAtP S C (refP C.ent S.cur) x.ev.addr).obj.idx), .int .u32 ((capAtP S C (refP C.ent S.cur) x.ev.addr).obj.gen), .int .u8 ((capAtP S C (refP C.ent S.cur) x.ev.addr).rights), .int .u64 ((capAtP S C (refP C.ent S.cur) x.ev.addr).badge)], 49, false⟩), (b217, ⟨[.int .u8 0, .int .u16 0, .int .u32 0, .int .u64 0, .int .u64 0, .int .u64 0, .int .u64 0, .int .u64 0, .int .u8 0, .int .u8 0], 42, false⟩)]) h110 rfl rfl rfl rfl (by kernel_rfl) (fun _ => rfl) fun b217 w218 a219 h220 hf221 hn222 => ?_
        clear h110
        refine nd_op ?_
        refine op_store tabOk {k := 4} (L' := [(b25, ⟨mkC M, 68, false⟩), (b60, ⟨[.int .u8 x.ev.kind, .int .u32 x.ev.pick, .int .u64 x.ev.draw, .int .u32 x.ev.addr, .int .u32 x.ev.node, .int .u32 x.ev.dst, .int .u32 x.ev.xfer, .int .u8 x.ev.ty, .int .u64 x.ev.arg, .int .u64 x.ev.badge, .slice x.xo x.ev.ws.length x.cx], 35, false⟩), (b83, ⟨[.int .u16 ((refP C.ent S.cur).idx), .int .u32 ((refP C.ent S.cur).gen)], 39, false⟩), (b97, ⟨[.int .u8 ((capAtP S C (refP C.ent S.cur) x.ev.addr).ty), .int .u16 ((capAtP S C (refP C.ent S.cur) x.ev.addr).obj.idx), .int .u32 ((capAtP S C (refP C.ent S.cur) x.ev.addr).obj.gen), .int .u8 ((capAtP S C (refP C.ent S.cur) x.ev.addr).rights), .int .u64 ((capAtP S C (refP C.ent S.cur) x.ev.addr).badge)], 49, false⟩), (b217, ⟨[.int .u8 oz.code, .int .u16 oz.run.idx, .int .u32 oz.run.gen, .int .u64 oz.badge, .int .u64 oz.m0, .int .u64 oz.m1, .int .u64 oz.m2, .int .u64 oz.m3, .int .u8 oz.len, .int .u8 oz.got], 42, false⟩)]) (φ := b217 = b217 ∧ Nat.ble (0 + 10) 10 = true) h220 rfl rfl rfl (by kernel_rfl) ⟨rfl, rfl⟩ fun w223 h224 => ?_
        clear h220
        refine nd_done ?_
        refine hK105 _ _ ?_
        clear hK105
        refine wp_seq_k fun K225 hK225 => ?_
        refine nd_start (l := [0, 1, 2, 3]) rfl ?_
        refine nd_batch tabOk tabZ_ok [(0, {}), (1, {k := 1}), (2, {f := 2}), (3, {})] [10, 9, 8, 6, 4, 3, 21, 22, 23, 7, 11] (T' := [(10, .pointer (some ⟨b217, 0, none⟩)), (9, .pointer (some ⟨b97, 0, none⟩)), (8, .pointer (some ⟨b83, 0, none⟩)), (6, .pointer (some ⟨b60, 0, none⟩)), (4, .pointer (some ⟨b25, 0, none⟩)), (3, .pointer (some ⟨kb, 0, none⟩)), (21, .slice (some ⟨sb51, k052, none⟩) ops.length c), (22, .int .i64 ((ops.length : Nat) : Int)), (23, .int .i64 i), (7, .pointer (some ⟨kb2, 0, none⟩)), (11, .bool true)]) (φ := (b60 = b60 ∧ Nat.ble (8 + 1) 11 = true) ∧ (decide (x.ev.arg < 16)) = true ∧ True) (rest := []) h224 (by kernel_rfl) rfl ⟨⟨rfl, rfl⟩, (by simp [harg]), trivial⟩ fun a226 h227 => ?_
        clear h224
        refine nd_done ?_
        refine hK225 _ _ ?_
        clear hK225
        refine wp_seq_k fun K228 hK228 => ?_
        refine wp_seq_k fun K229 hK229 => ?_
        refine nd_start (l := [0, 1, 2, 3, 4, 5, 6, 7, 8, 9, 10, 11, 12, 13, 14, 15, 16]) rfl ?_
        refine nd_batch tabOk tabZ_ok [(0, {}), (1, {k := 1}), (2, {f := 2}), (3, {}), (4, {}), (5, {}), (6, {}), (7, {}), (8, {k := 1}), (9, {}), (10, {k := 0, m := 1, vs := [.bool false]}), (11, {}), (12, {}), (13, {}), (14, {}), (15, {}), (16, {})] [10, 9, 8, 6, 4, 3, 21, 22, 23, 7, 11, 58] (T' := [(10, .pointer (some ⟨b217, 0, none⟩)), (9, .pointer (some ⟨b97, 0, none⟩)), (8, .pointer (some ⟨b83, 0, none⟩)), (6, .pointer (some ⟨b60, 0, none⟩)), (4, .pointer (some ⟨b25, 0, none⟩)), (3, .pointer (some ⟨kb, 0, none⟩)), (21, .slice (some ⟨sb51, k052, none⟩) ops.length c), (22, .int .i64 ((ops.length : Nat) : Int)), (23, .int .i64 i), (7, .pointer (some ⟨kb2, 0, none⟩)), (11, .bool true), (58, .bool false)]) (φ := (b60 = b60 ∧ Nat.ble (0 + 1) 11 = true) ∧ ((x.ev.kind == 1)) = true ∧ (b60 = b60 ∧ Nat.ble (8 + 1) 11 = true) ∧ (0 ≤ x.ev.arg ∧ x.ev.arg < 16) ∧ (b25 = b25 ∧ cellsAre (mkC M) (0 + (x.ev.arg.toNat * 1)) [.bool false]) ∧ True) (rest := []) h227 (by kernel_rfl) rfl ⟨⟨rfl, rfl⟩, (by simp [hk]), ⟨rfl, rfl⟩, ⟨by omega, by omega⟩, ⟨rfl, (mk_read (i := x.ev.arg.toNat) (by omega) (by omega) hMa)⟩, trivial⟩ fun a230 h231 => ?_
        clear h227
        refine nd_done ?_
        refine hK229 _ _ ?_
        clear hK229
        refine c_false h231 rfl ?_
        refine wp_skip ?_
        refine hK228 _ _ ?_
        clear hK228
        refine wp_seq_k fun K232 hK232 => ?_
        refine wp_seq_k fun K233 hK233 => ?_
        refine nd_start (l := [0, 1, 2]) rfl ?_
        refine nd_batch tabOk tabZ_ok [(0, {}), (1, {k := 4}), (2, {f := 1})] [10, 9, 8, 6, 4, 3, 21, 22, 23, 7, 11, 61] (T' := [(10, .pointer (some ⟨b217, 0, none⟩)), (9, .pointer (some ⟨b97, 0, none⟩)), (8, .pointer (some ⟨b83, 0, none⟩)), (6, .pointer (some ⟨b60, 0, none⟩)), (4, .pointer (some ⟨b25, 0, none⟩)), (3, .pointer (some ⟨kb, 0, none⟩)), (21, .slice (some ⟨sb51, k052, none⟩) ops.length c), (22, .int .i64 ((ops.length : Nat) : Int)), (23, .int .i64 i), (7, .pointer (some ⟨kb2, 0, none⟩)), (11, .bool true), (61, .bool false)]) (φ := (b217 = b217 ∧ Nat.ble (0 + 1) 10 = true) ∧ ((oz.code == 0)) = false ∧ True) (rest := []) h231 (by kernel_rfl) rfl ⟨⟨rfl, rfl⟩, (by simp [hc]), trivial⟩ fun a234 h235 => ?_
        clear h231
        refine nd_done ?_
        refine hK233 _ _ ?_
        clear hK233
        refine c_false h235 rfl ?_
        refine wp_skip ?_
        refine hK232 _ _ ?_
        clear hK232
        refine wp_seq_k fun K236 hK236 => ?_
        refine nd_start (l := [0]) rfl ?_
        refine nd_batch tabOk tabZ_ok [(0, {})] [10, 9, 8, 6, 4, 3, 21, 22, 23, 7, 11, 152] (T' := [(10, .pointer (some ⟨b217, 0, none⟩)), (9, .pointer (some ⟨b97, 0, none⟩)), (8, .pointer (some ⟨b83, 0, none⟩)), (6, .pointer (some ⟨b60, 0, none⟩)), (4, .pointer (some ⟨b25, 0, none⟩)), (3, .pointer (some ⟨kb, 0, none⟩)), (21, .slice (some ⟨sb51, k052, none⟩) ops.length c), (22, .int .i64 ((ops.length : Nat) : Int)), (23, .int .i64 i), (7, .pointer (some ⟨kb2, 0, none⟩)), (11, .bool true), (152, .int .i64 0)]) (φ := True) (rest := []) h235 (by kernel_rfl) rfl trivial fun a237 h238 => ?_
        clear h235
        refine nd_done ?_
        refine hK236 _ _ ?_
        clear hK236
        refine wp_block ?_
        have h239 := h238.memMono (L' := [(b25, ⟨mkC M, 68, false⟩)]) (List.Sublist.cons_cons _ (List.Sublist.cons _ (List.Sublist.cons _ (List.Sublist.cons _ (List.Sublist.cons _ List.Sublist.slnil)))))
        clear h238
        have h240 := h239.pcSub (ps' := [pKer kb bo bc nd9 Sz Cz]) (List.Sublist.cons_cons _ (List.Sublist.cons _ List.Sublist.slnil))
        clear h239
        refine wp_loop_ghost (fun g2 ga gw => ∃ (l : Int), ((g2 : Int) = 16 - l) ∧ (0 ≤ l ∧ l ≤ 16) ∧ St ⟨165, [], w, Pk w.heap.size [pKer kb bo bc nd9 Sz Cz], Pf [pKer kb bo bc nd9 Sz Cz]⟩ [(4, .pointer (some ⟨b25, 0, none⟩)), (3, .pointer (some ⟨kb, 0, none⟩)), (21, .slice (some ⟨sb51, k052, none⟩) ops.length c), (22, .int .i64 ((ops.length : Nat) : Int)), (23, .int .i64 i), (152, .int .i64 l)] [(b25, ⟨mkC M, 68, false⟩)] ga gw) 16 ⟨0, by decide, ⟨by decide, by decide⟩, (h240.slotsMono (restr_spec (keep := [4, 3, 21, 22, 23, 152]) rfl))⟩ ?_
        clear h240
        rintro g2 a241 w242 ⟨l, hi244, hi245, h243⟩
        have hlg := hi244
        have hl0 := hi245
        refine wp_seq_k fun K246 hK246 => ?_
        refine nd_start (l := [0]) rfl ?_
        refine nd_batch tabOk tabZ_ok [(0, {})] [4, 3, 21, 22, 23, 152, 153] (T' := [(4, .pointer (some ⟨b25, 0, none⟩)), (3, .pointer (some ⟨kb, 0, none⟩)), (21, .slice (some ⟨sb51, k052, none⟩) ops.length c), (22, .int .i64 ((ops.length : Nat) : Int)), (23, .int .i64 i), (152, .int .i64 l), (153, .bool (decide (l < 16)))]) (φ := True) (rest := []) h243 (by kernel_rfl) rfl trivial fun a247 h248 => ?_
        clear h243
        refine nd_done ?_
        refine hK246 _ _ ?_
        clear hK246
        refine wp_seq_k fun K249 hK249 => ?_
        refine c_split h248 (b := decide (l < 16)) rfl (fun hc250 => ?_) (fun hc250 => ?_)
        ·
          have hc250f : l < 16 := by simpa using hc250
          refine wp_skip ?_
          refine hK249 _ _ ?_
          clear hK249
          refine wp_seq_k fun K251 hK251 => ?_
          refine wp_block ?_
          refine wp_seq_k fun K252 hK252 => ?_
          refine nd_start (l := [0, 1]) rfl ?_
          refine nd_batch tabOk tabZ_ok [(0, {}), (1, {})] [4, 3, 21, 22, 23, 152, 16] (T' := [(4, .pointer (some ⟨b25, 0, none⟩)), (3, .pointer (some ⟨kb, 0, none⟩)), (21, .slice (some ⟨sb51, k052, none⟩) ops.length c), (22, .int .i64 ((ops.length : Nat) : Int)), (23, .int .i64 i), (152, .int .i64 l), (16, .int .i64 l)]) (φ := True) (rest := []) h248 (by kernel_rfl) rfl trivial fun a253 h254 => ?_
          clear h248
          refine nd_done ?_
          refine hK252 _ _ ?_
          clear hK252
          refine wp_seq_k fun K255 hK255 => ?_
          refine dr_start (KB := [b25]) (Bi := [[0], [0], [0], [0], [0], [0], [0], [0]]) mixed h254 fun w256 h257 => ?_
          clear h254
          refine dr_batch tabOk tabZ_ok (by repeat (first | with_reducible exact PF.body | with_reducible apply PF.inB | with_reducible apply PF.next)) [(0, {}), (1, {}), (4, {}), (5, {}), (6, {k := 0, m := 1, vs := [.bool (M l.toNat)], p := 0})] [4, 3, 21, 22, 23, 152, 16, 155, 156, 161] (T' := [(4, .pointer (some ⟨b25, 0, none⟩)), (3, .pointer (some ⟨kb, 0, none⟩)), (21, .slice (some ⟨sb51, k052, none⟩) ops.length c), (22, .int .i64 ((ops.length : Nat) : Int)), (23, .int .i64 i), (152, .int .i64 l), (16, .int .i64 l), (155, .pointer (some ⟨kb, 0, none⟩)), (156, .int .i64 l), (161, .bool (M l.toNat))]) (φ := (0 ≤ l ∧ l < 16) ∧ (b25 = b25 ∧ cellsAre (mkC M) (0 + (l.toNat * 1)) [.bool (M l.toNat)]) ∧ True) (fuel := 3) h257 (by kernel_rfl) rfl (by kernel_rfl) (by kernel_rfl) ⟨trivial, trivial, trivial, trivial, rfl, trivial⟩ ⟨⟨by omega, by omega⟩, ⟨rfl, (mk_read (i := l.toNat) (by omega) (by omega) rfl)⟩, trivial⟩ fun a259 h260 => ?_
          clear h257
          refine wpAnyK_one (i := 2) (fuel := 2) (by kernel_rfl) ?_
          refine op_call h260 rfl rfl rfl (callOk Tryd.func33 (by decide) rfl) (args := [.pointer (some ⟨kb, 0, none⟩), .int .i64 l]) rfl (irq_ok kb bo bc Sz l ⟨by omega, by omega⟩ _ (h260.inv.get (j := 0) (p := pKer kb bo bc nd9 Sz Cz) rfl).ker) ?_
          rintro _ w261 ⟨rfl, hf263⟩
          refine ⟨_, rfl, ?_⟩
          have h262 := (h260.grow hf263).put (d := some 157) (v := .agg #[.int .u16 ((Sz.irq l.toNat).ntfn.idx), .int .u32 ((Sz.irq l.toNat).ntfn.gen), .int .u64 ((Sz.irq l.toNat).badge), .bool ((Sz.irq l.toNat).masked)]) (T' := [(157, .agg #[.int .u16 ((Sz.irq l.toNat).ntfn.idx), .int .u32 ((Sz.irq l.toNat).ntfn.gen), .int .u64 ((Sz.irq l.toNat).badge), .bool ((Sz.irq l.toNat).masked)]), (4, .pointer (some ⟨b25, 0, none⟩)), (3, .pointer (some ⟨kb, 0, none⟩)), (21, .slice (some ⟨sb51, k052, none⟩) ops.length c), (22, .int .i64 ((ops.length : Nat) : Int)), (23, .int .i64 i), (152, .int .i64 l), (16, .int .i64 l), (155, .pointer (some ⟨kb, 0, none⟩)), (156, .int .i64 l), (161, .bool (M l.toNat))]) rfl
          refine ⟨(h260.keepFr hf263 (kcons (by simp) knil)), ?_⟩
          clear h260
          refine dr_batch tabOk tabZ_ok (by repeat (first | with_reducible exact PF.body | with_reducible apply PF.inB | with_reducible apply PF.next)) [(3, {}), (7, {f := 1})] [4, 3, 21, 22, 23, 152, 16, 162] (T' := [(4, .pointer (some ⟨b25, 0, none⟩)), (3, .pointer (some ⟨kb, 0, none⟩)), (21, .slice (some ⟨sb51, k052, none⟩) ops.length c), (22, .int .i64 ((ops.length : Nat) : Int)), (23, .int .i64 i), (152, .int .i64 l), (16, .int .i64 l), (162, .bool false)]) (φ := ((((Sz.irq l.toNat).masked) != (M l.toNat))) = false ∧ True) (fuel := 0) h262 (by kernel_rfl) rfl (by kernel_rfl) (by kernel_rfl) ⟨trivial, trivial, trivial⟩ ⟨(by rw [hmz]; simp), trivial⟩ fun a264 h265 => ?_
          clear h262
          refine wpAnyK_done (by kernel_rfl) ?_ _
          refine hK255 _ _ ?_
          clear hK255
          refine c_false h265 rfl ?_
          refine wp_skip ?_
          refine hK251 _ _ ?_
          clear hK251
          refine nd_start (l := [0, 1]) rfl ?_
          refine nd_batch tabOk tabZ_ok [(0, {}), (1, {})] [4, 3, 21, 22, 23, 16, 152] (T' := [(4, .pointer (some ⟨b25, 0, none⟩)), (3, .pointer (some ⟨kb, 0, none⟩)), (21, .slice (some ⟨sb51, k052, none⟩) ops.length c), (22, .int .i64 ((ops.length : Nat) : Int)), (23, .int .i64 i), (16, .int .i64 l), (152, .int .i64 (l + 1))]) (φ := inR .i64 (l + 1) ∧ True) (rest := []) h265 (by kernel_rfl) rfl ⟨⟨by omega, by omega⟩, trivial⟩ fun a266 h267 => ?_
          clear h265
          refine nd_done ?_
          exact ⟨(g2 - 1), by omega, (l + 1), by omega, ⟨by omega, by omega⟩, (h267.slotsMono (restr_spec (keep := [4, 3, 21, 22, 23, 152]) rfl))⟩
        ·
          have hc250f : ¬ l < 16 := by simpa using hc250
          refine wp_exit ?_
          refine hK55 _ _ ?_
          clear hK55
          refine nd_start (l := [0, 1]) rfl ?_
          refine nd_batch tabOk tabZ_ok [(0, {}), (1, {})] [4, 3, 21, 22, 152, 23] (T' := [(4, .pointer (some ⟨b25, 0, none⟩)), (3, .pointer (some ⟨kb, 0, none⟩)), (21, .slice (some ⟨sb51, k052, none⟩) ops.length c), (22, .int .i64 ((ops.length : Nat) : Int)), (152, .int .i64 l), (23, .int .i64 (i + 1))]) (φ := inR .i64 (i + 1) ∧ True) (rest := []) h248 (by kernel_rfl) rfl ⟨⟨by omega, by omega⟩, trivial⟩ fun a268 h269 => ?_
          clear h248
          refine nd_done ?_
          exact ⟨(g - 1), by omega, nd9, Sz, Cz, Qz, M, (i + 1), by omega, ⟨by omega, by omega⟩, hivz.1, hivz.2, hXz, hN.liq, hmz, (h269.slotsMono (restr_spec (keep := [4, 3, 21, 22, 23]) rfl))⟩
      ·
        have hmz : ∀ l, (Sz.irq l).masked = M l := fun l => by rw [hN.msk, hmf]; unfold maskP; rw [if_pos hc]
        refine nd_op ?_
        refine op_new tabOk (cells := [.int .u8 0, .int .u16 0, .int .u32 0, .int .u64 0, .int .u64 0, .int .u64 0, .int .u64 0, .int .u64 0, .int .u8 0, .int .u8 0]) (ty := 42) (ln := none) (L1 := fun b270 => [(b25, ⟨mkC M, 68, false⟩), (b60, ⟨[.int .u8 x.ev.kind, .int .u32 x.ev.pick, .int .u64 x.ev.draw, .int .u32 x.ev.addr, .int .u32 x.ev.node, .int .u32 x.ev.dst, .int .u32 x.ev.xfer, .int .u8 x.ev.ty, .int .u64 x.ev.arg, .int .u64 x.ev.badge, .slice x.xo x.ev.ws.length x.cx], 35, false⟩), (b83, ⟨[.int .u16 ((refP C.ent S.cur).idx), .int .u32 ((refP C.ent S.cur).gen)], 39, false⟩), (b97, ⟨[.int .u8 ((capAtP S C (refP C.ent S.cur) x.ev.addr).ty), .int .u16 ((capAtP S C (refP C.ent S.cur) x.ev.addr).obj.idx), .int .u32 ((capAtP S C (refP C.ent S.cur) x.ev.addr).obj.gen), .int .u8 ((capAtP S C (refP C.ent S.cur) x.ev.addr).rights), .int .u64 ((capAtP S C (refP C.ent S.cur) x.ev.addr).badge)], 49, false⟩), (b270, ⟨[.int .u8 0, .int .u16 0, .int .u32 0, .int .u64 0, .int .u64 0, .int .u64 0, .int .u64 0, .int .u64 0, .int .u8 0, .int .u8 0], 42, false⟩)]) h110 rfl rfl rfl rfl (by kernel_rfl) (fun _ => rfl) fun b270 w271 a272 h273 hf274 hn275 => ?_
        clear h110
        refine nd_op ?_
        refine op_store tabOk {k := 4} (L' := [(b25, ⟨mkC M, 68, false⟩), (b60, ⟨[.int .u8 x.ev.kind, .int .u32 x.ev.pick, .int .u64 x.ev.draw, .int .u32 x.ev.addr, .int .u32 x.ev.node, .int .u32 x.ev.dst, .int .u32 x.ev.xfer, .int .u8 x.ev.ty, .int .u64 x.ev.arg, .int .u64 x.ev.badge, .slice x.xo x.ev.ws.length x.cx], 35, false⟩), (b83, ⟨[.int .u16 ((refP C.ent S.cur).idx), .int .u32 ((refP C.ent S.cur).gen)], 39, false⟩), (b97, ⟨[.int .u8 ((capAtP S C (refP C.ent S.cur) x.ev.addr).ty), .int .u16 ((capAtP S C (refP C.ent S.cur) x.ev.addr).obj.idx), .int .u32 ((capAtP S C (refP C.ent S.cur) x.ev.addr).obj.gen), .int .u8 ((capAtP S C (refP C.ent S.cur) x.ev.addr).rights), .int .u64 ((capAtP S C (refP C.ent S.cur) x.ev.addr).badge)], 49, false⟩), (b270, ⟨[.int .u8 oz.code, .int .u16 oz.run.idx, .int .u32 oz.run.gen, .int .u64 oz.badge, .int .u64 oz.m0, .int .u64 oz.m1, .int .u64 oz.m2, .int .u64 oz.m3, .int .u8 oz.len, .int .u8 oz.got], 42, false⟩)]) (φ := b270 = b270 ∧ Nat.ble (0 + 10) 10 = true) h273 rfl rfl rfl (by kernel_rfl) ⟨rfl, rfl⟩ fun w276 h277 => ?_
        clear h273
        refine nd_done ?_
        refine hK105 _ _ ?_
        clear hK105
        refine wp_seq_k fun K278 hK278 => ?_
        refine nd_start (l := [0, 1, 2, 3]) rfl ?_
        refine nd_batch tabOk tabZ_ok [(0, {}), (1, {k := 1}), (2, {f := 2}), (3, {})] [10, 9, 8, 6, 4, 3, 21, 22, 23, 7, 11] (T' := [(10, .pointer (some ⟨b270, 0, none⟩)), (9, .pointer (some ⟨b97, 0, none⟩)), (8, .pointer (some ⟨b83, 0, none⟩)), (6, .pointer (some ⟨b60, 0, none⟩)), (4, .pointer (some ⟨b25, 0, none⟩)), (3, .pointer (some ⟨kb, 0, none⟩)), (21, .slice (some ⟨sb51, k052, none⟩) ops.length c), (22, .int .i64 ((ops.length : Nat) : Int)), (23, .int .i64 i), (7, .pointer (some ⟨kb2, 0, none⟩)), (11, .bool true)]) (φ := (b60 = b60 ∧ Nat.ble (8 + 1) 11 = true) ∧ (decide (x.ev.arg < 16)) = true ∧ True) (rest := []) h277 (by kernel_rfl) rfl ⟨⟨rfl, rfl⟩, (by simp [harg]), trivial⟩ fun a279 h280 => ?_
        clear h277
        refine nd_done ?_
        refine hK278 _ _ ?_
        clear hK278
        refine wp_seq_k fun K281 hK281 => ?_
        refine wp_seq_k fun K282 hK282 => ?_
        refine nd_start (l := [0, 1, 2, 3, 4, 5, 6, 7, 8, 9, 10, 11, 12, 13, 14, 15, 16]) rfl ?_
        refine nd_batch tabOk tabZ_ok [(0, {}), (1, {k := 1}), (2, {f := 2}), (3, {}), (4, {}), (5, {}), (6, {}), (7, {}), (8, {k := 1}), (9, {}), (10, {k := 0, m := 1, vs := [.bool true]}), (11, {}), (12, {}), (13, {}), (14, {k := 4}), (15, {f := 1}), (16, {})] [10, 9, 8, 6, 4, 3, 21, 22, 23, 7, 11, 58] (T' := [(10, .pointer (some ⟨b270, 0, none⟩)), (9, .pointer (some ⟨b97, 0, none⟩)), (8, .pointer (some ⟨b83, 0, none⟩)), (6, .pointer (some ⟨b60, 0, none⟩)), (4, .pointer (some ⟨b25, 0, none⟩)), (3, .pointer (some ⟨kb, 0, none⟩)), (21, .slice (some ⟨sb51, k052, none⟩) ops.length c), (22, .int .i64 ((ops.length : Nat) : Int)), (23, .int .i64 i), (7, .pointer (some ⟨kb2, 0, none⟩)), (11, .bool true), (58, .bool false)]) (φ := (b60 = b60 ∧ Nat.ble (0 + 1) 11 = true) ∧ ((x.ev.kind == 1)) = true ∧ (b60 = b60 ∧ Nat.ble (8 + 1) 11 = true) ∧ (0 ≤ x.ev.arg ∧ x.ev.arg < 16) ∧ (b25 = b25 ∧ cellsAre (mkC M) (0 + (x.ev.arg.toNat * 1)) [.bool true]) ∧ (b270 = b270 ∧ Nat.ble (0 + 1) 10 = true) ∧ ((oz.code == 0)) = false ∧ True) (rest := []) h280 (by kernel_rfl) rfl ⟨⟨rfl, rfl⟩, (by simp [hk]), ⟨rfl, rfl⟩, ⟨by omega, by omega⟩, ⟨rfl, (mk_read (i := x.ev.arg.toNat) (by omega) (by omega) hMa)⟩, ⟨rfl, rfl⟩, (by simp [hc]), trivial⟩ fun a283 h284 => ?_
        clear h280
        refine nd_done ?_
        refine hK282 _ _ ?_
        clear hK282
        refine c_false h284 rfl ?_
        refine wp_skip ?_
        refine hK281 _ _ ?_
        clear hK281
        refine wp_seq_k fun K285 hK285 => ?_
        refine wp_seq_k fun K286 hK286 => ?_
        refine nd_start (l := [0, 1, 2]) rfl ?_
        refine nd_batch tabOk tabZ_ok [(0, {}), (1, {k := 4}), (2, {f := 1})] [10, 9, 8, 6, 4, 3, 21, 22, 23, 7, 11, 61] (T' := [(10, .pointer (some ⟨b270, 0, none⟩)), (9, .pointer (some ⟨b97, 0, none⟩)), (8, .pointer (some ⟨b83, 0, none⟩)), (6, .pointer (some ⟨b60, 0, none⟩)), (4, .pointer (some ⟨b25, 0, none⟩)), (3, .pointer (some ⟨kb, 0, none⟩)), (21, .slice (some ⟨sb51, k052, none⟩) ops.length c), (22, .int .i64 ((ops.length : Nat) : Int)), (23, .int .i64 i), (7, .pointer (some ⟨kb2, 0, none⟩)), (11, .bool true), (61, .bool false)]) (φ := (b270 = b270 ∧ Nat.ble (0 + 1) 10 = true) ∧ ((oz.code == 0)) = false ∧ True) (rest := []) h284 (by kernel_rfl) rfl ⟨⟨rfl, rfl⟩, (by simp [hc]), trivial⟩ fun a287 h288 => ?_
        clear h284
        refine nd_done ?_
        refine hK286 _ _ ?_
        clear hK286
        refine c_false h288 rfl ?_
        refine wp_skip ?_
        refine hK285 _ _ ?_
        clear hK285
        refine wp_seq_k fun K289 hK289 => ?_
        refine nd_start (l := [0]) rfl ?_
        refine nd_batch tabOk tabZ_ok [(0, {})] [10, 9, 8, 6, 4, 3, 21, 22, 23, 7, 11, 152] (T' := [(10, .pointer (some ⟨b270, 0, none⟩)), (9, .pointer (some ⟨b97, 0, none⟩)), (8, .pointer (some ⟨b83, 0, none⟩)), (6, .pointer (some ⟨b60, 0, none⟩)), (4, .pointer (some ⟨b25, 0, none⟩)), (3, .pointer (some ⟨kb, 0, none⟩)), (21, .slice (some ⟨sb51, k052, none⟩) ops.length c), (22, .int .i64 ((ops.length : Nat) : Int)), (23, .int .i64 i), (7, .pointer (some ⟨kb2, 0, none⟩)), (11, .bool true), (152, .int .i64 0)]) (φ := True) (rest := []) h288 (by kernel_rfl) rfl trivial fun a290 h291 => ?_
        clear h288
        refine nd_done ?_
        refine hK289 _ _ ?_
        clear hK289
        refine wp_block ?_
        have h292 := h291.memMono (L' := [(b25, ⟨mkC M, 68, false⟩)]) (List.Sublist.cons_cons _ (List.Sublist.cons _ (List.Sublist.cons _ (List.Sublist.cons _ (List.Sublist.cons _ List.Sublist.slnil)))))
        clear h291
        have h293 := h292.pcSub (ps' := [pKer kb bo bc nd9 Sz Cz]) (List.Sublist.cons_cons _ (List.Sublist.cons _ List.Sublist.slnil))
        clear h292
        refine wp_loop_ghost (fun g2 ga gw => ∃ (l : Int), ((g2 : Int) = 16 - l) ∧ (0 ≤ l ∧ l ≤ 16) ∧ St ⟨165, [], w, Pk w.heap.size [pKer kb bo bc nd9 Sz Cz], Pf [pKer kb bo bc nd9 Sz Cz]⟩ [(4, .pointer (some ⟨b25, 0, none⟩)), (3, .pointer (some ⟨kb, 0, none⟩)), (21, .slice (some ⟨sb51, k052, none⟩) ops.length c), (22, .int .i64 ((ops.length : Nat) : Int)), (23, .int .i64 i), (152, .int .i64 l)] [(b25, ⟨mkC M, 68, false⟩)] ga gw) 16 ⟨0, by decide, ⟨by decide, by decide⟩, (h293.slotsMono (restr_spec (keep := [4, 3, 21, 22, 23, 152]) rfl))⟩ ?_
        clear h293
        rintro g2 a294 w295 ⟨l, hi297, hi298, h296⟩
        have hlg := hi297
        have hl0 := hi298
        refine wp_seq_k fun K299 hK299 => ?_
        refine nd_start (l := [0]) rfl ?_
        refine nd_batch tabOk tabZ_ok [(0, {})] [4, 3, 21, 22, 23, 152, 153] (T' := [(4, .pointer (some ⟨b25, 0, none⟩)), (3, .pointer (some ⟨kb, 0, none⟩)), (21, .slice (some ⟨sb51, k052, none⟩) ops.length c), (22, .int .i64 ((ops.length : Nat) : Int)), (23, .int .i64 i), (152, .int .i64 l), (153, .bool (decide (l < 16)))]) (φ := True) (rest := []) h296 (by kernel_rfl) rfl trivial fun a300 h301 => ?_
        clear h296
        refine nd_done ?_
        refine hK299 _ _ ?_
        clear hK299
        refine wp_seq_k fun K302 hK302 => ?_
        refine c_split h301 (b := decide (l < 16)) rfl (fun hc303 => ?_) (fun hc303 => ?_)
        ·
          have hc303f : l < 16 := by simpa using hc303
          refine wp_skip ?_
          refine hK302 _ _ ?_
          clear hK302
          refine wp_seq_k fun K304 hK304 => ?_
          refine wp_block ?_
          refine wp_seq_k fun K305 hK305 => ?_
          refine nd_start (l := [0, 1]) rfl ?_
          refine nd_batch tabOk tabZ_ok [(0, {}), (1, {})] [4, 3, 21, 22, 23, 152, 16] (T' := [(4, .pointer (some ⟨b25, 0, none⟩)), (3, .pointer (some ⟨kb, 0, none⟩)), (21, .slice (some ⟨sb51, k052, none⟩) ops.length c), (22, .int .i64 ((ops.length : Nat) : Int)), (23, .int .i64 i), (152, .int .i64 l), (16, .int .i64 l)]) (φ := True) (rest := []) h301 (by kernel_rfl) rfl trivial fun a306 h307 => ?_
          clear h301
          refine nd_done ?_
          refine hK305 _ _ ?_
          clear hK305
          refine wp_seq_k fun K308 hK308 => ?_
          refine dr_start (KB := [b25]) (Bi := [[0], [0], [0], [0], [0], [0], [0], [0]]) mixed h307 fun w309 h310 => ?_
          clear h307
          refine dr_batch tabOk tabZ_ok (by repeat (first | with_reducible exact PF.body | with_reducible apply PF.inB | with_reducible apply PF.next)) [(0, {}), (1, {}), (4, {}), (5, {}), (6, {k := 0, m := 1, vs := [.bool (M l.toNat)], p := 0})] [4, 3, 21, 22, 23, 152, 16, 155, 156, 161] (T' := [(4, .pointer (some ⟨b25, 0, none⟩)), (3, .pointer (some ⟨kb, 0, none⟩)), (21, .slice (some ⟨sb51, k052, none⟩) ops.length c), (22, .int .i64 ((ops.length : Nat) : Int)), (23, .int .i64 i), (152, .int .i64 l), (16, .int .i64 l), (155, .pointer (some ⟨kb, 0, none⟩)), (156, .int .i64 l), (161, .bool (M l.toNat))]) (φ := (0 ≤ l ∧ l < 16) ∧ (b25 = b25 ∧ cellsAre (mkC M) (0 + (l.toNat * 1)) [.bool (M l.toNat)]) ∧ True) (fuel := 3) h310 (by kernel_rfl) rfl (by kernel_rfl) (by kernel_rfl) ⟨trivial, trivial, trivial, trivial, rfl, trivial⟩ ⟨⟨by omega, by omega⟩, ⟨rfl, (mk_read (i := l.toNat) (by omega) (by omega) rfl)⟩, trivial⟩ fun a312 h313 => ?_
          clear h310
          refine wpAnyK_one (i := 2) (fuel := 2) (by kernel_rfl) ?_
          refine op_call h313 rfl rfl rfl (callOk Tryd.func33 (by decide) rfl) (args := [.pointer (some ⟨kb, 0, none⟩), .int .i64 l]) rfl (irq_ok kb bo bc Sz l ⟨by omega, by omega⟩ _ (h313.inv.get (j := 0) (p := pKer kb bo bc nd9 Sz Cz) rfl).ker) ?_
          rintro _ w314 ⟨rfl, hf316⟩
          refine ⟨_, rfl, ?_⟩
          have h315 := (h313.grow hf316).put (d := some 157) (v := .agg #[.int .u16 ((Sz.irq l.toNat).ntfn.idx), .int .u32 ((Sz.irq l.toNat).ntfn.gen), .int .u64 ((Sz.irq l.toNat).badge), .bool ((Sz.irq l.toNat).masked)]) (T' := [(157, .agg #[.int .u16 ((Sz.irq l.toNat).ntfn.idx), .int .u32 ((Sz.irq l.toNat).ntfn.gen), .int .u64 ((Sz.irq l.toNat).badge), .bool ((Sz.irq l.toNat).masked)]), (4, .pointer (some ⟨b25, 0, none⟩)), (3, .pointer (some ⟨kb, 0, none⟩)), (21, .slice (some ⟨sb51, k052, none⟩) ops.length c), (22, .int .i64 ((ops.length : Nat) : Int)), (23, .int .i64 i), (152, .int .i64 l), (16, .int .i64 l), (155, .pointer (some ⟨kb, 0, none⟩)), (156, .int .i64 l), (161, .bool (M l.toNat))]) rfl
          refine ⟨(h313.keepFr hf316 (kcons (by simp) knil)), ?_⟩
          clear h313
          refine dr_batch tabOk tabZ_ok (by repeat (first | with_reducible exact PF.body | with_reducible apply PF.inB | with_reducible apply PF.next)) [(3, {}), (7, {f := 1})] [4, 3, 21, 22, 23, 152, 16, 162] (T' := [(4, .pointer (some ⟨b25, 0, none⟩)), (3, .pointer (some ⟨kb, 0, none⟩)), (21, .slice (some ⟨sb51, k052, none⟩) ops.length c), (22, .int .i64 ((ops.length : Nat) : Int)), (23, .int .i64 i), (152, .int .i64 l), (16, .int .i64 l), (162, .bool false)]) (φ := ((((Sz.irq l.toNat).masked) != (M l.toNat))) = false ∧ True) (fuel := 0) h315 (by kernel_rfl) rfl (by kernel_rfl) (by kernel_rfl) ⟨trivial, trivial, trivial⟩ ⟨(by rw [hmz]; simp), trivial⟩ fun a317 h318 => ?_
          clear h315
          refine wpAnyK_done (by kernel_rfl) ?_ _
          refine hK308 _ _ ?_
          clear hK308
          refine c_false h318 rfl ?_
          refine wp_skip ?_
          refine hK304 _ _ ?_
          clear hK304
          refine nd_start (l := [0, 1]) rfl ?_
          refine nd_batch tabOk tabZ_ok [(0, {}), (1, {})] [4, 3, 21, 22, 23, 16, 152] (T' := [(4, .pointer (some ⟨b25, 0, none⟩)), (3, .pointer (some ⟨kb, 0, none⟩)), (21, .slice (some ⟨sb51, k052, none⟩) ops.length c), (22, .int .i64 ((ops.length : Nat) : Int)), (23, .int .i64 i), (16, .int .i64 l), (152, .int .i64 (l + 1))]) (φ := inR .i64 (l + 1) ∧ True) (rest := []) h318 (by kernel_rfl) rfl ⟨⟨by omega, by omega⟩, trivial⟩ fun a319 h320 => ?_
          clear h318
          refine nd_done ?_
          exact ⟨(g2 - 1), by omega, (l + 1), by omega, ⟨by omega, by omega⟩, (h320.slotsMono (restr_spec (keep := [4, 3, 21, 22, 23, 152]) rfl))⟩
        ·
          have hc303f : ¬ l < 16 := by simpa using hc303
          refine wp_exit ?_
          refine hK55 _ _ ?_
          clear hK55
          refine nd_start (l := [0, 1]) rfl ?_
          refine nd_batch tabOk tabZ_ok [(0, {}), (1, {})] [4, 3, 21, 22, 152, 23] (T' := [(4, .pointer (some ⟨b25, 0, none⟩)), (3, .pointer (some ⟨kb, 0, none⟩)), (21, .slice (some ⟨sb51, k052, none⟩) ops.length c), (22, .int .i64 ((ops.length : Nat) : Int)), (152, .int .i64 l), (23, .int .i64 (i + 1))]) (φ := inR .i64 (i + 1) ∧ True) (rest := []) h301 (by kernel_rfl) rfl ⟨⟨by omega, by omega⟩, trivial⟩ fun a321 h322 => ?_
          clear h301
          refine nd_done ?_
          exact ⟨(g - 1), by omega, nd9, Sz, Cz, Qz, M, (i + 1), by omega, ⟨by omega, by omega⟩, hivz.1, hivz.2, hXz, hN.liq, hmz, (h322.slotsMono (restr_spec (keep := [4, 3, 21, 22, 23]) rfl))⟩
      ·
        have harg := (hN.int hc hk).1
        have hMa : M x.ev.arg.toNat = false := by rw [← hM]; exact (hN.int hc hk).2.1
        have hnti := hok.ri.irq (i := x.ev.arg.toNat) (by omega)
        have hmz : ∀ l, (Sz.irq l).masked = (upd M x.ev.arg.toNat true) l := fun l => by rw [hN.msk, hmf]; unfold maskP; rw [if_neg (fun h => h hc), if_pos hk]
        refine nd_op ?_
        refine op_new tabOk (cells := [.int .u8 0, .int .u16 0, .int .u32 0, .int .u64 0, .int .u64 0, .int .u64 0, .int .u64 0, .int .u64 0, .int .u8 0, .int .u8 0]) (ty := 42) (ln := none) (L1 := fun b323 => [(b25, ⟨mkC M, 68, false⟩), (b60, ⟨[.int .u8 x.ev.kind, .int .u32 x.ev.pick, .int .u64 x.ev.draw, .int .u32 x.ev.addr, .int .u32 x.ev.node, .int .u32 x.ev.dst, .int .u32 x.ev.xfer, .int .u8 x.ev.ty, .int .u64 x.ev.arg, .int .u64 x.ev.badge, .slice x.xo x.ev.ws.length x.cx], 35, false⟩), (b83, ⟨[.int .u16 ((refP C.ent S.cur).idx), .int .u32 ((refP C.ent S.cur).gen)], 39, false⟩), (b97, ⟨[.int .u8 ((capAtP S C (refP C.ent S.cur) x.ev.addr).ty), .int .u16 ((capAtP S C (refP C.ent S.cur) x.ev.addr).obj.idx), .int .u32 ((capAtP S C (refP C.ent S.cur) x.ev.addr).obj.gen), .int .u8 ((capAtP S C (refP C.ent S.cur) x.ev.addr).rights), .int .u64 ((capAtP S C (refP C.ent S.cur) x.ev.addr).badge)], 49, false⟩), (b323, ⟨[.int .u8 0, .int .u16 0, .int .u32 0, .int .u64 0, .int .u64 0, .int .u64 0, .int .u64 0, .int .u64 0, .int .u8 0, .int .u8 0], 42, false⟩)]) h110 rfl rfl rfl rfl (by kernel_rfl) (fun _ => rfl) fun b323 w324 a325 h326 hf327 hn328 => ?_
        clear h110
        refine nd_op ?_
        refine op_store tabOk {k := 4} (L' := [(b25, ⟨mkC M, 68, false⟩), (b60, ⟨[.int .u8 x.ev.kind, .int .u32 x.ev.pick, .int .u64 x.ev.draw, .int .u32 x.ev.addr, .int .u32 x.ev.node, .int .u32 x.ev.dst, .int .u32 x.ev.xfer, .int .u8 x.ev.ty, .int .u64 x.ev.arg, .int .u64 x.ev.badge, .slice x.xo x.ev.ws.length x.cx], 35, false⟩), (b83, ⟨[.int .u16 ((refP C.ent S.cur).idx), .int .u32 ((refP C.ent S.cur).gen)], 39, false⟩), (b97, ⟨[.int .u8 ((capAtP S C (refP C.ent S.cur) x.ev.addr).ty), .int .u16 ((capAtP S C (refP C.ent S.cur) x.ev.addr).obj.idx), .int .u32 ((capAtP S C (refP C.ent S.cur) x.ev.addr).obj.gen), .int .u8 ((capAtP S C (refP C.ent S.cur) x.ev.addr).rights), .int .u64 ((capAtP S C (refP C.ent S.cur) x.ev.addr).badge)], 49, false⟩), (b323, ⟨[.int .u8 oz.code, .int .u16 oz.run.idx, .int .u32 oz.run.gen, .int .u64 oz.badge, .int .u64 oz.m0, .int .u64 oz.m1, .int .u64 oz.m2, .int .u64 oz.m3, .int .u8 oz.len, .int .u8 oz.got], 42, false⟩)]) (φ := b323 = b323 ∧ Nat.ble (0 + 10) 10 = true) h326 rfl rfl rfl (by kernel_rfl) ⟨rfl, rfl⟩ fun w329 h330 => ?_
        clear h326
        refine nd_done ?_
        refine hK105 _ _ ?_
        clear hK105
        refine wp_seq_k fun K331 hK331 => ?_
        refine nd_start (l := [0, 1, 2, 3]) rfl ?_
        refine nd_batch tabOk tabZ_ok [(0, {}), (1, {k := 1}), (2, {f := 2}), (3, {})] [10, 9, 8, 6, 4, 3, 21, 22, 23, 7, 11] (T' := [(10, .pointer (some ⟨b323, 0, none⟩)), (9, .pointer (some ⟨b97, 0, none⟩)), (8, .pointer (some ⟨b83, 0, none⟩)), (6, .pointer (some ⟨b60, 0, none⟩)), (4, .pointer (some ⟨b25, 0, none⟩)), (3, .pointer (some ⟨kb, 0, none⟩)), (21, .slice (some ⟨sb51, k052, none⟩) ops.length c), (22, .int .i64 ((ops.length : Nat) : Int)), (23, .int .i64 i), (7, .pointer (some ⟨kb2, 0, none⟩)), (11, .bool true)]) (φ := (b60 = b60 ∧ Nat.ble (8 + 1) 11 = true) ∧ (decide (x.ev.arg < 16)) = true ∧ True) (rest := []) h330 (by kernel_rfl) rfl ⟨⟨rfl, rfl⟩, (by simp [harg]), trivial⟩ fun a332 h333 => ?_
        clear h330
        refine nd_done ?_
        refine hK331 _ _ ?_
        clear hK331
        refine wp_seq_k fun K334 hK334 => ?_
        refine wp_seq_k fun K335 hK335 => ?_
        refine nd_start (l := [0, 1, 2, 3, 4, 5, 6, 7, 8, 9, 10, 11, 12, 13, 14, 15, 16]) rfl ?_
        refine nd_batch tabOk tabZ_ok [(0, {}), (1, {k := 1}), (2, {f := 2}), (3, {}), (4, {}), (5, {}), (6, {}), (7, {}), (8, {k := 1}), (9, {}), (10, {k := 0, m := 1, vs := [.bool false]}), (11, {}), (12, {}), (13, {}), (14, {}), (15, {}), (16, {})] [10, 9, 8, 6, 4, 3, 21, 22, 23, 7, 11, 58] (T' := [(10, .pointer (some ⟨b323, 0, none⟩)), (9, .pointer (some ⟨b97, 0, none⟩)), (8, .pointer (some ⟨b83, 0, none⟩)), (6, .pointer (some ⟨b60, 0, none⟩)), (4, .pointer (some ⟨b25, 0, none⟩)), (3, .pointer (some ⟨kb, 0, none⟩)), (21, .slice (some ⟨sb51, k052, none⟩) ops.length c), (22, .int .i64 ((ops.length : Nat) : Int)), (23, .int .i64 i), (7, .pointer (some ⟨kb2, 0, none⟩)), (11, .bool true), (58, .bool false)]) (φ := (b60 = b60 ∧ Nat.ble (0 + 1) 11 = true) ∧ ((x.ev.kind == 1)) = true ∧ (b60 = b60 ∧ Nat.ble (8 + 1) 11 = true) ∧ (0 ≤ x.ev.arg ∧ x.ev.arg < 16) ∧ (b25 = b25 ∧ cellsAre (mkC M) (0 + (x.ev.arg.toNat * 1)) [.bool false]) ∧ True) (rest := []) h333 (by kernel_rfl) rfl ⟨⟨rfl, rfl⟩, (by simp [hk]), ⟨rfl, rfl⟩, ⟨by omega, by omega⟩, ⟨rfl, (mk_read (i := x.ev.arg.toNat) (by omega) (by omega) hMa)⟩, trivial⟩ fun a336 h337 => ?_
        clear h333
        refine nd_done ?_
        refine hK335 _ _ ?_
        clear hK335
        refine c_false h337 rfl ?_
        refine wp_skip ?_
        refine hK334 _ _ ?_
        clear hK334
        refine wp_seq_k fun K338 hK338 => ?_
        refine wp_seq_k fun K339 hK339 => ?_
        refine nd_start (l := [0, 1, 2]) rfl ?_
        refine nd_batch tabOk tabZ_ok [(0, {}), (1, {k := 4}), (2, {f := 2})] [10, 9, 8, 6, 4, 3, 21, 22, 23, 7, 11, 61] (T' := [(10, .pointer (some ⟨b323, 0, none⟩)), (9, .pointer (some ⟨b97, 0, none⟩)), (8, .pointer (some ⟨b83, 0, none⟩)), (6, .pointer (some ⟨b60, 0, none⟩)), (4, .pointer (some ⟨b25, 0, none⟩)), (3, .pointer (some ⟨kb, 0, none⟩)), (21, .slice (some ⟨sb51, k052, none⟩) ops.length c), (22, .int .i64 ((ops.length : Nat) : Int)), (23, .int .i64 i), (7, .pointer (some ⟨kb2, 0, none⟩)), (11, .bool true), (61, .bool true)]) (φ := (b323 = b323 ∧ Nat.ble (0 + 1) 10 = true) ∧ ((oz.code == 0)) = true ∧ True) (rest := []) h337 (by kernel_rfl) rfl ⟨⟨rfl, rfl⟩, (by simp [hc]), trivial⟩ fun a340 h341 => ?_
        clear h337
        refine nd_done ?_
        refine hK339 _ _ ?_
        clear hK339
        refine c_true h341 rfl ?_
        refine wp_seq_k fun K342 hK342 => ?_
        refine nd_start (l := [0, 1]) rfl ?_
        refine nd_batch tabOk tabZ_ok [(0, {}), (1, {k := 1})] [10, 9, 8, 6, 4, 3, 21, 22, 23, 7, 11, 63] (T' := [(10, .pointer (some ⟨b323, 0, none⟩)), (9, .pointer (some ⟨b97, 0, none⟩)), (8, .pointer (some ⟨b83, 0, none⟩)), (6, .pointer (some ⟨b60, 0, none⟩)), (4, .pointer (some ⟨b25, 0, none⟩)), (3, .pointer (some ⟨kb, 0, none⟩)), (21, .slice (some ⟨sb51, k052, none⟩) ops.length c), (22, .int .i64 ((ops.length : Nat) : Int)), (23, .int .i64 i), (7, .pointer (some ⟨kb2, 0, none⟩)), (11, .bool true), (63, .int .u8 x.ev.kind)]) (φ := (b60 = b60 ∧ Nat.ble (0 + 1) 11 = true) ∧ True) (rest := []) h341 (by kernel_rfl) rfl ⟨⟨rfl, rfl⟩, trivial⟩ fun a343 h344 => ?_
        clear h341
        refine nd_done ?_
        refine hK342 _ _ ?_
        clear hK342
        refine wp_block ?_
        refine wp_seq_k fun K345 hK345 => ?_
        refine nd_start (l := [0, 1]) rfl ?_
        refine nd_batch tabOk tabZ_ok [(0, {f := 1}), (1, {})] [10, 9, 8, 6, 4, 3, 21, 22, 23, 7, 11, 63, 64] (T' := [(10, .pointer (some ⟨b323, 0, none⟩)), (9, .pointer (some ⟨b97, 0, none⟩)), (8, .pointer (some ⟨b83, 0, none⟩)), (6, .pointer (some ⟨b60, 0, none⟩)), (4, .pointer (some ⟨b25, 0, none⟩)), (3, .pointer (some ⟨kb, 0, none⟩)), (21, .slice (some ⟨sb51, k052, none⟩) ops.length c), (22, .int .i64 ((ops.length : Nat) : Int)), (23, .int .i64 i), (7, .pointer (some ⟨kb2, 0, none⟩)), (11, .bool true), (63, .int .u8 x.ev.kind), (64, .bool false)]) (φ := ((x.ev.kind == 8)) = false ∧ True) (rest := []) h344 (by kernel_rfl) rfl ⟨(by simp [hk]), trivial⟩ fun a346 h347 => ?_
        clear h344
        refine nd_done ?_
        refine hK345 _ _ ?_
        clear hK345
        refine c_false h347 rfl ?_
        refine wp_seq_k fun K348 hK348 => ?_
        refine nd_start (l := [0, 1]) rfl ?_
        refine nd_batch tabOk tabZ_ok [(0, {f := 2}), (1, {})] [10, 9, 8, 6, 4, 3, 21, 22, 23, 7, 11, 63, 74] (T' := [(10, .pointer (some ⟨b323, 0, none⟩)), (9, .pointer (some ⟨b97, 0, none⟩)), (8, .pointer (some ⟨b83, 0, none⟩)), (6, .pointer (some ⟨b60, 0, none⟩)), (4, .pointer (some ⟨b25, 0, none⟩)), (3, .pointer (some ⟨kb, 0, none⟩)), (21, .slice (some ⟨sb51, k052, none⟩) ops.length c), (22, .int .i64 ((ops.length : Nat) : Int)), (23, .int .i64 i), (7, .pointer (some ⟨kb2, 0, none⟩)), (11, .bool true), (63, .int .u8 x.ev.kind), (74, .bool true)]) (φ := ((x.ev.kind == 1)) = true ∧ True) (rest := []) h347 (by kernel_rfl) rfl ⟨(by simp [hk]), trivial⟩ fun a349 h350 => ?_
        clear h347
        refine nd_done ?_
        refine hK348 _ _ ?_
        clear hK348
        refine c_true h350 rfl ?_
        refine wp_seq_k fun K351 hK351 => ?_
        refine nd_start (l := [0, 1, 2, 3]) rfl ?_
        refine nd_batch tabOk tabZ_ok [(0, {}), (1, {k := 1}), (2, {})] [10, 9, 8, 6, 4, 3, 21, 22, 23, 7, 11, 63, 78] (T' := [(10, .pointer (some ⟨b323, 0, none⟩)), (9, .pointer (some ⟨b97, 0, none⟩)), (8, .pointer (some ⟨b83, 0, none⟩)), (6, .pointer (some ⟨b60, 0, none⟩)), (4, .pointer (some ⟨b25, 0, none⟩)), (3, .pointer (some ⟨kb, 0, none⟩)), (21, .slice (some ⟨sb51, k052, none⟩) ops.length c), (22, .int .i64 ((ops.length : Nat) : Int)), (23, .int .i64 i), (7, .pointer (some ⟨kb2, 0, none⟩)), (11, .bool true), (63, .int .u8 x.ev.kind), (78, .pointer (some ⟨b25, 0 + (x.ev.arg.toNat * 1), none⟩))]) (φ := (b60 = b60 ∧ Nat.ble (8 + 1) 11 = true) ∧ (0 ≤ x.ev.arg ∧ x.ev.arg < 16) ∧ True) (rest := [3]) h350 (by kernel_rfl) rfl ⟨⟨rfl, rfl⟩, ⟨by omega, by omega⟩, trivial⟩ fun a352 h353 => ?_
        clear h350
        refine nd_op ?_
        refine op_store tabOk {k := 0, m := 1, vs := mkC (upd M x.ev.arg.toNat true)} (L' := [(b25, ⟨mkC (upd M x.ev.arg.toNat true), 68, false⟩), (b60, ⟨[.int .u8 x.ev.kind, .int .u32 x.ev.pick, .int .u64 x.ev.draw, .int .u32 x.ev.addr, .int .u32 x.ev.node, .int .u32 x.ev.dst, .int .u32 x.ev.xfer, .int .u8 x.ev.ty, .int .u64 x.ev.arg, .int .u64 x.ev.badge, .slice x.xo x.ev.ws.length x.cx], 35, false⟩), (b83, ⟨[.int .u16 ((refP C.ent S.cur).idx), .int .u32 ((refP C.ent S.cur).gen)], 39, false⟩), (b97, ⟨[.int .u8 ((capAtP S C (refP C.ent S.cur) x.ev.addr).ty), .int .u16 ((capAtP S C (refP C.ent S.cur) x.ev.addr).obj.idx), .int .u32 ((capAtP S C (refP C.ent S.cur) x.ev.addr).obj.gen), .int .u8 ((capAtP S C (refP C.ent S.cur) x.ev.addr).rights), .int .u64 ((capAtP S C (refP C.ent S.cur) x.ev.addr).badge)], 49, false⟩), (b323, ⟨[.int .u8 oz.code, .int .u16 oz.run.idx, .int .u32 oz.run.gen, .int .u64 oz.badge, .int .u64 oz.m0, .int .u64 oz.m1, .int .u64 oz.m2, .int .u64 oz.m3, .int .u8 oz.len, .int .u8 oz.got], 42, false⟩)]) (φ := b25 = b25 ∧ Nat.ble (0 + (x.ev.arg.toNat * 1) + 1) (mkC M).length = true ∧ splice (mkC M) (0 + (x.ev.arg.toNat * 1)) [.bool true] = mkC (upd M x.ev.arg.toNat true)) h353 rfl rfl rfl (by kernel_rfl) ⟨rfl, mk_in (by omega), (mk_write (by omega) (by omega) true)⟩ fun w354 h355 => ?_
        clear h353
        refine nd_done ?_
        refine hK351 _ _ ?_
        clear hK351
        refine wp_seq_k fun K356 hK356 => ?_
        refine dr_start (KB := [b25, b60, b83, b97, b323]) (Bi := [[0, 1, 2, 3, 4], [0, 1, 2, 3, 4], [0, 1, 2, 3, 4], [0, 1, 2, 3, 4], [0, 1, 2, 3, 4], [0, 1, 2, 3, 4], [1], [0, 1, 2, 3, 4], [0, 1, 2, 3, 4], [0, 1, 2, 3, 4], [0, 1, 2, 3, 4], [0, 1, 2, 3, 4], [], [0, 1, 2, 3, 4], [], [0, 1, 2, 3, 4]]) mixed h355 fun w357 h358 => ?_
        clear h355
        refine dr_batch tabOk tabZ_ok (by repeat (first | with_reducible exact PF.body | with_reducible apply PF.inB | with_reducible apply PF.next)) [(0, {}), (1, {}), (2, {}), (3, {}), (4, {k := 1, p := 1}), (5, {}), (8, {}), (9, {}), (10, {k := 1, p := 1}), (11, {})] [10, 9, 8, 6, 4, 3, 21, 22, 23, 7, 11, 63, 79, 80, 81, 84, 87, 90] (T' := [(10, .pointer (some ⟨b323, 0, none⟩)), (9, .pointer (some ⟨b97, 0, none⟩)), (8, .pointer (some ⟨b83, 0, none⟩)), (6, .pointer (some ⟨b60, 0, none⟩)), (4, .pointer (some ⟨b25, 0, none⟩)), (3, .pointer (some ⟨kb, 0, none⟩)), (21, .slice (some ⟨sb51, k052, none⟩) ops.length c), (22, .int .i64 ((ops.length : Nat) : Int)), (23, .int .i64 i), (7, .pointer (some ⟨kb2, 0, none⟩)), (11, .bool true), (63, .int .u8 x.ev.kind), (79, .pointer (some ⟨kb2, 0, none⟩)), (80, .pointer (some ⟨kb, 0, none⟩)), (81, .pointer (some ⟨kb2, 0, none⟩)), (84, .int .i64 x.ev.arg), (87, .pointer (some ⟨kb2, 0, none⟩)), (90, .int .i64 x.ev.arg)]) (φ := (b60 = b60 ∧ Nat.ble (8 + 1) 11 = true) ∧ inR .i64 x.ev.arg ∧ (b60 = b60 ∧ Nat.ble (8 + 1) 11 = true) ∧ inR .i64 x.ev.arg ∧ True) (fuel := 6) h358 (by kernel_rfl) rfl (by kernel_rfl) (by kernel_rfl) ⟨trivial, trivial, trivial, trivial, rfl, trivial, trivial, trivial, rfl, trivial, trivial⟩ ⟨⟨rfl, rfl⟩, ⟨by omega, by omega⟩, ⟨rfl, rfl⟩, ⟨by omega, by omega⟩, trivial⟩ fun a360 h361 => ?_
        clear h358
        refine wpAnyK_one (i := 6) (fuel := 5) (by kernel_rfl) ?_
        refine op_call h361 rfl rfl rfl (callOk Tryd.func33 (by decide) rfl) (args := [.pointer (some ⟨kb2, 0, none⟩), .int .i64 x.ev.arg]) rfl (irq_ok kb2 bo2 bc2 S x.ev.arg ⟨by omega, by omega⟩ _ (h361.inv.get (j := 1) (p := pKer kb2 bo2 bc2 nd2 S C) rfl).ker) ?_
        rintro _ w362 ⟨rfl, hf364⟩
        refine ⟨_, rfl, ?_⟩
        have h363 := (h361.grow hf364).put (d := some 85) (v := .agg #[.int .u16 ((S.irq x.ev.arg.toNat).ntfn.idx), .int .u32 ((S.irq x.ev.arg.toNat).ntfn.gen), .int .u64 ((S.irq x.ev.arg.toNat).badge), .bool ((S.irq x.ev.arg.toNat).masked)]) (T' := [(85, .agg #[.int .u16 ((S.irq x.ev.arg.toNat).ntfn.idx), .int .u32 ((S.irq x.ev.arg.toNat).ntfn.gen), .int .u64 ((S.irq x.ev.arg.toNat).badge), .bool ((S.irq x.ev.arg.toNat).masked)]), (10, .pointer (some ⟨b323, 0, none⟩)), (9, .pointer (some ⟨b97, 0, none⟩)), (8, .pointer (some ⟨b83, 0, none⟩)), (6, .pointer (some ⟨b60, 0, none⟩)), (4, .pointer (some ⟨b25, 0, none⟩)), (3, .pointer (some ⟨kb, 0, none⟩)), (21, .slice (some ⟨sb51, k052, none⟩) ops.length c), (22, .int .i64 ((ops.length : Nat) : Int)), (23, .int .i64 i), (7, .pointer (some ⟨kb2, 0, none⟩)), (11, .bool true), (63, .int .u8 x.ev.kind), (79, .pointer (some ⟨kb2, 0, none⟩)), (80, .pointer (some ⟨kb, 0, none⟩)), (81, .pointer (some ⟨kb2, 0, none⟩)), (84, .int .i64 x.ev.arg), (87, .pointer (some ⟨kb2, 0, none⟩)), (90, .int .i64 x.ev.arg)]) rfl
        refine ⟨(h361.keepFr hf364 (kcons (by simp) knil)), ?_⟩
        clear h361
        refine dr_batch tabOk tabZ_ok (by repeat (first | with_reducible exact PF.body | with_reducible apply PF.inB | with_reducible apply PF.next)) [(7, {})] [10, 9, 8, 6, 4, 3, 21, 22, 23, 7, 11, 63, 79, 80, 87, 90, 86] (T' := [(10, .pointer (some ⟨b323, 0, none⟩)), (9, .pointer (some ⟨b97, 0, none⟩)), (8, .pointer (some ⟨b83, 0, none⟩)), (6, .pointer (some ⟨b60, 0, none⟩)), (4, .pointer (some ⟨b25, 0, none⟩)), (3, .pointer (some ⟨kb, 0, none⟩)), (21, .slice (some ⟨sb51, k052, none⟩) ops.length c), (22, .int .i64 ((ops.length : Nat) : Int)), (23, .int .i64 i), (7, .pointer (some ⟨kb2, 0, none⟩)), (11, .bool true), (63, .int .u8 x.ev.kind), (79, .pointer (some ⟨kb2, 0, none⟩)), (80, .pointer (some ⟨kb, 0, none⟩)), (87, .pointer (some ⟨kb2, 0, none⟩)), (90, .int .i64 x.ev.arg), (86, .agg #[.int .u16 ((S.irq x.ev.arg.toNat).ntfn.idx), .int .u32 ((S.irq x.ev.arg.toNat).ntfn.gen)])]) (φ := Nat.ble (0 + 2) 4 = true ∧ True) (fuel := 4) h363 (by kernel_rfl) rfl (by kernel_rfl) (by kernel_rfl) ⟨trivial, trivial⟩ ⟨rfl, trivial⟩ fun a365 h366 => ?_
        clear h363
        refine wpAnyK_one (i := 12) (fuel := 3) (by kernel_rfl) ?_
        refine op_call h366 rfl rfl rfl (callOk Tryd.func33 (by decide) rfl) (args := [.pointer (some ⟨kb2, 0, none⟩), .int .i64 x.ev.arg]) rfl (irq_ok kb2 bo2 bc2 S x.ev.arg ⟨by omega, by omega⟩ _ (h366.inv.get (j := 1) (p := pKer kb2 bo2 bc2 nd2 S C) rfl).ker) ?_
        rintro _ w367 ⟨rfl, hf369⟩
        refine ⟨_, rfl, ?_⟩
        have h368 := (h366.grow hf369).put (d := some 91) (v := .agg #[.int .u16 ((S.irq x.ev.arg.toNat).ntfn.idx), .int .u32 ((S.irq x.ev.arg.toNat).ntfn.gen), .int .u64 ((S.irq x.ev.arg.toNat).badge), .bool ((S.irq x.ev.arg.toNat).masked)]) (T' := [(91, .agg #[.int .u16 ((S.irq x.ev.arg.toNat).ntfn.idx), .int .u32 ((S.irq x.ev.arg.toNat).ntfn.gen), .int .u64 ((S.irq x.ev.arg.toNat).badge), .bool ((S.irq x.ev.arg.toNat).masked)]), (10, .pointer (some ⟨b323, 0, none⟩)), (9, .pointer (some ⟨b97, 0, none⟩)), (8, .pointer (some ⟨b83, 0, none⟩)), (6, .pointer (some ⟨b60, 0, none⟩)), (4, .pointer (some ⟨b25, 0, none⟩)), (3, .pointer (some ⟨kb, 0, none⟩)), (21, .slice (some ⟨sb51, k052, none⟩) ops.length c), (22, .int .i64 ((ops.length : Nat) : Int)), (23, .int .i64 i), (7, .pointer (some ⟨kb2, 0, none⟩)), (11, .bool true), (63, .int .u8 x.ev.kind), (79, .pointer (some ⟨kb2, 0, none⟩)), (80, .pointer (some ⟨kb, 0, none⟩)), (87, .pointer (some ⟨kb2, 0, none⟩)), (90, .int .i64 x.ev.arg), (86, .agg #[.int .u16 ((S.irq x.ev.arg.toNat).ntfn.idx), .int .u32 ((S.irq x.ev.arg.toNat).ntfn.gen)])]) rfl
        refine ⟨keepNil, ?_⟩
        clear h366
        refine dr_batch tabOk tabZ_ok (by repeat (first | with_reducible exact PF.body | with_reducible apply PF.inB | with_reducible apply PF.next)) [(13, {})] [10, 9, 8, 6, 4, 3, 21, 22, 23, 7, 11, 63, 79, 80, 86, 92] (T' := [(10, .pointer (some ⟨b323, 0, none⟩)), (9, .pointer (some ⟨b97, 0, none⟩)), (8, .pointer (some ⟨b83, 0, none⟩)), (6, .pointer (some ⟨b60, 0, none⟩)), (4, .pointer (some ⟨b25, 0, none⟩)), (3, .pointer (some ⟨kb, 0, none⟩)), (21, .slice (some ⟨sb51, k052, none⟩) ops.length c), (22, .int .i64 ((ops.length : Nat) : Int)), (23, .int .i64 i), (7, .pointer (some ⟨kb2, 0, none⟩)), (11, .bool true), (63, .int .u8 x.ev.kind), (79, .pointer (some ⟨kb2, 0, none⟩)), (80, .pointer (some ⟨kb, 0, none⟩)), (86, .agg #[.int .u16 ((S.irq x.ev.arg.toNat).ntfn.idx), .int .u32 ((S.irq x.ev.arg.toNat).ntfn.gen)]), (92, .int .u64 ((S.irq x.ev.arg.toNat).badge))]) (φ := True) (fuel := 2) h368 (by kernel_rfl) rfl (by kernel_rfl) (by kernel_rfl) ⟨trivial, trivial⟩ trivial fun a370 h371 => ?_
        clear h368
        refine wpAnyK_one (i := 14) (fuel := 1) (by kernel_rfl) ?_
        refine op_call h371 rfl rfl rfl (callOk Tryd.func32 (by decide) rfl) (args := [.pointer (some ⟨kb2, 0, none⟩), .pointer (some ⟨kb, 0, none⟩), .agg #[.int .u16 ((S.irq x.ev.arg.toNat).ntfn.idx), .int .u32 ((S.irq x.ev.arg.toNat).ntfn.gen)], .int .u64 ((S.irq x.ev.arg.toNat).badge)]) rfl (signalled_ok hok.ri hci hQ hivz.1.ri hivz.2 hN.liq hnti (hN.int hc hk).2.2 (h371.inv.get (j := 1) (p := pKer kb2 bo2 bc2 nd2 S C) rfl) (h371.inv.get (j := 0) (p := pKer kb bo bc nd9 Sz Cz) rfl)) ?_
        rintro _ w372 ⟨rfl, hf374⟩
        refine ⟨_, rfl, ?_⟩
        have h373 := (h371.grow hf374).put (d := some 93) (v := .bool true) (T' := [(93, .bool true), (10, .pointer (some ⟨b323, 0, none⟩)), (9, .pointer (some ⟨b97, 0, none⟩)), (8, .pointer (some ⟨b83, 0, none⟩)), (6, .pointer (some ⟨b60, 0, none⟩)), (4, .pointer (some ⟨b25, 0, none⟩)), (3, .pointer (some ⟨kb, 0, none⟩)), (21, .slice (some ⟨sb51, k052, none⟩) ops.length c), (22, .int .i64 ((ops.length : Nat) : Int)), (23, .int .i64 i), (7, .pointer (some ⟨kb2, 0, none⟩)), (11, .bool true), (63, .int .u8 x.ev.kind), (79, .pointer (some ⟨kb2, 0, none⟩)), (80, .pointer (some ⟨kb, 0, none⟩)), (86, .agg #[.int .u16 ((S.irq x.ev.arg.toNat).ntfn.idx), .int .u32 ((S.irq x.ev.arg.toNat).ntfn.gen)]), (92, .int .u64 ((S.irq x.ev.arg.toNat).badge))]) rfl
        refine ⟨keepNil, ?_⟩
        clear h371
        refine dr_batch tabOk tabZ_ok (by repeat (first | with_reducible exact PF.body | with_reducible apply PF.inB | with_reducible apply PF.next)) [(15, {})] [10, 9, 8, 6, 4, 3, 21, 22, 23, 7, 11, 63, 94] (T' := [(10, .pointer (some ⟨b323, 0, none⟩)), (9, .pointer (some ⟨b97, 0, none⟩)), (8, .pointer (some ⟨b83, 0, none⟩)), (6, .pointer (some ⟨b60, 0, none⟩)), (4, .pointer (some ⟨b25, 0, none⟩)), (3, .pointer (some ⟨kb, 0, none⟩)), (21, .slice (some ⟨sb51, k052, none⟩) ops.length c), (22, .int .i64 ((ops.length : Nat) : Int)), (23, .int .i64 i), (7, .pointer (some ⟨kb2, 0, none⟩)), (11, .bool true), (63, .int .u8 x.ev.kind), (94, .bool false)]) (φ := True) (fuel := 0) h373 (by kernel_rfl) rfl (by kernel_rfl) (by kernel_rfl) ⟨trivial, trivial⟩ trivial fun a375 h376 => ?_
        clear h373
        refine wpAnyK_done (by kernel_rfl) ?_ _
        refine hK356 _ _ ?_
        clear hK356
        refine c_false h376 rfl ?_
        refine wp_skip ?_
        refine hK338 _ _ ?_
        clear hK338
        refine wp_seq_k fun K377 hK377 => ?_
        refine nd_start (l := [0]) rfl ?_
        refine nd_batch tabOk tabZ_ok [(0, {})] [10, 9, 8, 6, 4, 3, 21, 22, 23, 7, 11, 63, 152] (T' := [(10, .pointer (some ⟨b323, 0, none⟩)), (9, .pointer (some ⟨b97, 0, none⟩)), (8, .pointer (some ⟨b83, 0, none⟩)), (6, .pointer (some ⟨b60, 0, none⟩)), (4, .pointer (some ⟨b25, 0, none⟩)), (3, .pointer (some ⟨kb, 0, none⟩)), (21, .slice (some ⟨sb51, k052, none⟩) ops.length c), (22, .int .i64 ((ops.length : Nat) : Int)), (23, .int .i64 i), (7, .pointer (some ⟨kb2, 0, none⟩)), (11, .bool true), (63, .int .u8 x.ev.kind), (152, .int .i64 0)]) (φ := True) (rest := []) h376 (by kernel_rfl) rfl trivial fun a378 h379 => ?_
        clear h376
        refine nd_done ?_
        refine hK377 _ _ ?_
        clear hK377
        refine wp_block ?_
        have h380 := h379.memMono (L' := [(b25, ⟨mkC (upd M x.ev.arg.toNat true), 68, false⟩)]) (List.Sublist.cons_cons _ (List.Sublist.cons _ (List.Sublist.cons _ (List.Sublist.cons _ (List.Sublist.cons _ List.Sublist.slnil)))))
        clear h379
        have h381 := h380.pcSub (ps' := [pKer kb bo bc nd9 Sz Cz]) (List.Sublist.cons_cons _ (List.Sublist.cons _ List.Sublist.slnil))
        clear h380
        refine wp_loop_ghost (fun g2 ga gw => ∃ (l : Int), ((g2 : Int) = 16 - l) ∧ (0 ≤ l ∧ l ≤ 16) ∧ St ⟨165, [], w, Pk w.heap.size [pKer kb bo bc nd9 Sz Cz], Pf [pKer kb bo bc nd9 Sz Cz]⟩ [(4, .pointer (some ⟨b25, 0, none⟩)), (3, .pointer (some ⟨kb, 0, none⟩)), (21, .slice (some ⟨sb51, k052, none⟩) ops.length c), (22, .int .i64 ((ops.length : Nat) : Int)), (23, .int .i64 i), (152, .int .i64 l)] [(b25, ⟨mkC (upd M x.ev.arg.toNat true), 68, false⟩)] ga gw) 16 ⟨0, by decide, ⟨by decide, by decide⟩, (h381.slotsMono (restr_spec (keep := [4, 3, 21, 22, 23, 152]) rfl))⟩ ?_
        clear h381
        rintro g2 a382 w383 ⟨l, hi385, hi386, h384⟩
        have hlg := hi385
        have hl0 := hi386
        refine wp_seq_k fun K387 hK387 => ?_
        refine nd_start (l := [0]) rfl ?_
        refine nd_batch tabOk tabZ_ok [(0, {})] [4, 3, 21, 22, 23, 152, 153] (T' := [(4, .pointer (some ⟨b25, 0, none⟩)), (3, .pointer (some ⟨kb, 0, none⟩)), (21, .slice (some ⟨sb51, k052, none⟩) ops.length c), (22, .int .i64 ((ops.length : Nat) : Int)), (23, .int .i64 i), (152, .int .i64 l), (153, .bool (decide (l < 16)))]) (φ := True) (rest := []) h384 (by kernel_rfl) rfl trivial fun a388 h389 => ?_
        clear h384
        refine nd_done ?_
        refine hK387 _ _ ?_
        clear hK387
        refine wp_seq_k fun K390 hK390 => ?_
        refine c_split h389 (b := decide (l < 16)) rfl (fun hc391 => ?_) (fun hc391 => ?_)
        ·
          have hc391f : l < 16 := by simpa using hc391
          refine wp_skip ?_
          refine hK390 _ _ ?_
          clear hK390
          refine wp_seq_k fun K392 hK392 => ?_
          refine wp_block ?_
          refine wp_seq_k fun K393 hK393 => ?_
          refine nd_start (l := [0, 1]) rfl ?_
          refine nd_batch tabOk tabZ_ok [(0, {}), (1, {})] [4, 3, 21, 22, 23, 152, 16] (T' := [(4, .pointer (some ⟨b25, 0, none⟩)), (3, .pointer (some ⟨kb, 0, none⟩)), (21, .slice (some ⟨sb51, k052, none⟩) ops.length c), (22, .int .i64 ((ops.length : Nat) : Int)), (23, .int .i64 i), (152, .int .i64 l), (16, .int .i64 l)]) (φ := True) (rest := []) h389 (by kernel_rfl) rfl trivial fun a394 h395 => ?_
          clear h389
          refine nd_done ?_
          refine hK393 _ _ ?_
          clear hK393
          refine wp_seq_k fun K396 hK396 => ?_
          refine dr_start (KB := [b25]) (Bi := [[0], [0], [0], [0], [0], [0], [0], [0]]) mixed h395 fun w397 h398 => ?_
          clear h395
          refine dr_batch tabOk tabZ_ok (by repeat (first | with_reducible exact PF.body | with_reducible apply PF.inB | with_reducible apply PF.next)) [(0, {}), (1, {}), (4, {}), (5, {}), (6, {k := 0, m := 1, vs := [.bool ((upd M x.ev.arg.toNat true) l.toNat)], p := 0})] [4, 3, 21, 22, 23, 152, 16, 155, 156, 161] (T' := [(4, .pointer (some ⟨b25, 0, none⟩)), (3, .pointer (some ⟨kb, 0, none⟩)), (21, .slice (some ⟨sb51, k052, none⟩) ops.length c), (22, .int .i64 ((ops.length : Nat) : Int)), (23, .int .i64 i), (152, .int .i64 l), (16, .int .i64 l), (155, .pointer (some ⟨kb, 0, none⟩)), (156, .int .i64 l), (161, .bool ((upd M x.ev.arg.toNat true) l.toNat))]) (φ := (0 ≤ l ∧ l < 16) ∧ (b25 = b25 ∧ cellsAre (mkC (upd M x.ev.arg.toNat true)) (0 + (l.toNat * 1)) [.bool ((upd M x.ev.arg.toNat true) l.toNat)]) ∧ True) (fuel := 3) h398 (by kernel_rfl) rfl (by kernel_rfl) (by kernel_rfl) ⟨trivial, trivial, trivial, trivial, rfl, trivial⟩ ⟨⟨by omega, by omega⟩, ⟨rfl, (mk_read (i := l.toNat) (by omega) (by omega) rfl)⟩, trivial⟩ fun a400 h401 => ?_
          clear h398
          refine wpAnyK_one (i := 2) (fuel := 2) (by kernel_rfl) ?_
          refine op_call h401 rfl rfl rfl (callOk Tryd.func33 (by decide) rfl) (args := [.pointer (some ⟨kb, 0, none⟩), .int .i64 l]) rfl (irq_ok kb bo bc Sz l ⟨by omega, by omega⟩ _ (h401.inv.get (j := 0) (p := pKer kb bo bc nd9 Sz Cz) rfl).ker) ?_
          rintro _ w402 ⟨rfl, hf404⟩
          refine ⟨_, rfl, ?_⟩
          have h403 := (h401.grow hf404).put (d := some 157) (v := .agg #[.int .u16 ((Sz.irq l.toNat).ntfn.idx), .int .u32 ((Sz.irq l.toNat).ntfn.gen), .int .u64 ((Sz.irq l.toNat).badge), .bool ((Sz.irq l.toNat).masked)]) (T' := [(157, .agg #[.int .u16 ((Sz.irq l.toNat).ntfn.idx), .int .u32 ((Sz.irq l.toNat).ntfn.gen), .int .u64 ((Sz.irq l.toNat).badge), .bool ((Sz.irq l.toNat).masked)]), (4, .pointer (some ⟨b25, 0, none⟩)), (3, .pointer (some ⟨kb, 0, none⟩)), (21, .slice (some ⟨sb51, k052, none⟩) ops.length c), (22, .int .i64 ((ops.length : Nat) : Int)), (23, .int .i64 i), (152, .int .i64 l), (16, .int .i64 l), (155, .pointer (some ⟨kb, 0, none⟩)), (156, .int .i64 l), (161, .bool ((upd M x.ev.arg.toNat true) l.toNat))]) rfl
          refine ⟨(h401.keepFr hf404 (kcons (by simp) knil)), ?_⟩
          clear h401
          refine dr_batch tabOk tabZ_ok (by repeat (first | with_reducible exact PF.body | with_reducible apply PF.inB | with_reducible apply PF.next)) [(3, {}), (7, {f := 1})] [4, 3, 21, 22, 23, 152, 16, 162] (T' := [(4, .pointer (some ⟨b25, 0, none⟩)), (3, .pointer (some ⟨kb, 0, none⟩)), (21, .slice (some ⟨sb51, k052, none⟩) ops.length c), (22, .int .i64 ((ops.length : Nat) : Int)), (23, .int .i64 i), (152, .int .i64 l), (16, .int .i64 l), (162, .bool false)]) (φ := ((((Sz.irq l.toNat).masked) != ((upd M x.ev.arg.toNat true) l.toNat))) = false ∧ True) (fuel := 0) h403 (by kernel_rfl) rfl (by kernel_rfl) (by kernel_rfl) ⟨trivial, trivial, trivial⟩ ⟨(by rw [hmz]; simp), trivial⟩ fun a405 h406 => ?_
          clear h403
          refine wpAnyK_done (by kernel_rfl) ?_ _
          refine hK396 _ _ ?_
          clear hK396
          refine c_false h406 rfl ?_
          refine wp_skip ?_
          refine hK392 _ _ ?_
          clear hK392
          refine nd_start (l := [0, 1]) rfl ?_
          refine nd_batch tabOk tabZ_ok [(0, {}), (1, {})] [4, 3, 21, 22, 23, 16, 152] (T' := [(4, .pointer (some ⟨b25, 0, none⟩)), (3, .pointer (some ⟨kb, 0, none⟩)), (21, .slice (some ⟨sb51, k052, none⟩) ops.length c), (22, .int .i64 ((ops.length : Nat) : Int)), (23, .int .i64 i), (16, .int .i64 l), (152, .int .i64 (l + 1))]) (φ := inR .i64 (l + 1) ∧ True) (rest := []) h406 (by kernel_rfl) rfl ⟨⟨by omega, by omega⟩, trivial⟩ fun a407 h408 => ?_
          clear h406
          refine nd_done ?_
          exact ⟨(g2 - 1), by omega, (l + 1), by omega, ⟨by omega, by omega⟩, (h408.slotsMono (restr_spec (keep := [4, 3, 21, 22, 23, 152]) rfl))⟩
        ·
          have hc391f : ¬ l < 16 := by simpa using hc391
          refine wp_exit ?_
          refine hK55 _ _ ?_
          clear hK55
          refine nd_start (l := [0, 1]) rfl ?_
          refine nd_batch tabOk tabZ_ok [(0, {}), (1, {})] [4, 3, 21, 22, 152, 23] (T' := [(4, .pointer (some ⟨b25, 0, none⟩)), (3, .pointer (some ⟨kb, 0, none⟩)), (21, .slice (some ⟨sb51, k052, none⟩) ops.length c), (22, .int .i64 ((ops.length : Nat) : Int)), (152, .int .i64 l), (23, .int .i64 (i + 1))]) (φ := inR .i64 (i + 1) ∧ True) (rest := []) h389 (by kernel_rfl) rfl ⟨⟨by omega, by omega⟩, trivial⟩ fun a409 h410 => ?_
          clear h389
          refine nd_done ?_
          exact ⟨(g - 1), by omega, nd9, Sz, Cz, Qz, (upd M x.ev.arg.toNat true), (i + 1), by omega, ⟨by omega, by omega⟩, hivz.1, hivz.2, hXz, hN.liq, hmz, (h410.slotsMono (restr_spec (keep := [4, 3, 21, 22, 23]) rfl))⟩
      ·
        have hmz : ∀ l, (Sz.irq l).masked = M l := fun l => by rw [hN.msk, hmf]; unfold maskP; rw [if_neg (fun h => h hc), if_neg (by omega), if_neg (by omega)]
        refine nd_op ?_
        refine op_new tabOk (cells := [.int .u8 0, .int .u16 0, .int .u32 0, .int .u64 0, .int .u64 0, .int .u64 0, .int .u64 0, .int .u64 0, .int .u8 0, .int .u8 0]) (ty := 42) (ln := none) (L1 := fun b411 => [(b25, ⟨mkC M, 68, false⟩), (b60, ⟨[.int .u8 x.ev.kind, .int .u32 x.ev.pick, .int .u64 x.ev.draw, .int .u32 x.ev.addr, .int .u32 x.ev.node, .int .u32 x.ev.dst, .int .u32 x.ev.xfer, .int .u8 x.ev.ty, .int .u64 x.ev.arg, .int .u64 x.ev.badge, .slice x.xo x.ev.ws.length x.cx], 35, false⟩), (b83, ⟨[.int .u16 ((refP C.ent S.cur).idx), .int .u32 ((refP C.ent S.cur).gen)], 39, false⟩), (b97, ⟨[.int .u8 ((capAtP S C (refP C.ent S.cur) x.ev.addr).ty), .int .u16 ((capAtP S C (refP C.ent S.cur) x.ev.addr).obj.idx), .int .u32 ((capAtP S C (refP C.ent S.cur) x.ev.addr).obj.gen), .int .u8 ((capAtP S C (refP C.ent S.cur) x.ev.addr).rights), .int .u64 ((capAtP S C (refP C.ent S.cur) x.ev.addr).badge)], 49, false⟩), (b411, ⟨[.int .u8 0, .int .u16 0, .int .u32 0, .int .u64 0, .int .u64 0, .int .u64 0, .int .u64 0, .int .u64 0, .int .u8 0, .int .u8 0], 42, false⟩)]) h110 rfl rfl rfl rfl (by kernel_rfl) (fun _ => rfl) fun b411 w412 a413 h414 hf415 hn416 => ?_
        clear h110
        refine nd_op ?_
        refine op_store tabOk {k := 4} (L' := [(b25, ⟨mkC M, 68, false⟩), (b60, ⟨[.int .u8 x.ev.kind, .int .u32 x.ev.pick, .int .u64 x.ev.draw, .int .u32 x.ev.addr, .int .u32 x.ev.node, .int .u32 x.ev.dst, .int .u32 x.ev.xfer, .int .u8 x.ev.ty, .int .u64 x.ev.arg, .int .u64 x.ev.badge, .slice x.xo x.ev.ws.length x.cx], 35, false⟩), (b83, ⟨[.int .u16 ((refP C.ent S.cur).idx), .int .u32 ((refP C.ent S.cur).gen)], 39, false⟩), (b97, ⟨[.int .u8 ((capAtP S C (refP C.ent S.cur) x.ev.addr).ty), .int .u16 ((capAtP S C (refP C.ent S.cur) x.ev.addr).obj.idx), .int .u32 ((capAtP S C (refP C.ent S.cur) x.ev.addr).obj.gen), .int .u8 ((capAtP S C (refP C.ent S.cur) x.ev.addr).rights), .int .u64 ((capAtP S C (refP C.ent S.cur) x.ev.addr).badge)], 49, false⟩), (b411, ⟨[.int .u8 oz.code, .int .u16 oz.run.idx, .int .u32 oz.run.gen, .int .u64 oz.badge, .int .u64 oz.m0, .int .u64 oz.m1, .int .u64 oz.m2, .int .u64 oz.m3, .int .u8 oz.len, .int .u8 oz.got], 42, false⟩)]) (φ := b411 = b411 ∧ Nat.ble (0 + 10) 10 = true) h414 rfl rfl rfl (by kernel_rfl) ⟨rfl, rfl⟩ fun w417 h418 => ?_
        clear h414
        refine nd_done ?_
        refine hK105 _ _ ?_
        clear hK105
        refine wp_seq_k fun K419 hK419 => ?_
        refine nd_start (l := [0, 1, 2, 3]) rfl ?_
        refine nd_batch tabOk tabZ_ok [(0, {}), (1, {k := 1}), (2, {}), (3, {})] [10, 9, 8, 6, 4, 3, 21, 22, 23, 7, 11] (T' := [(10, .pointer (some ⟨b411, 0, none⟩)), (9, .pointer (some ⟨b97, 0, none⟩)), (8, .pointer (some ⟨b83, 0, none⟩)), (6, .pointer (some ⟨b60, 0, none⟩)), (4, .pointer (some ⟨b25, 0, none⟩)), (3, .pointer (some ⟨kb, 0, none⟩)), (21, .slice (some ⟨sb51, k052, none⟩) ops.length c), (22, .int .i64 ((ops.length : Nat) : Int)), (23, .int .i64 i), (7, .pointer (some ⟨kb2, 0, none⟩)), (11, .bool (decide (x.ev.arg < 16)))]) (φ := (b60 = b60 ∧ Nat.ble (8 + 1) 11 = true) ∧ True) (rest := []) h418 (by kernel_rfl) rfl ⟨⟨rfl, rfl⟩, trivial⟩ fun a420 h421 => ?_
        clear h418
        refine nd_done ?_
        refine hK419 _ _ ?_
        clear hK419
        refine wp_seq_k fun K422 hK422 => ?_
        refine wp_seq_k fun K423 hK423 => ?_
        refine nd_start (l := [0, 1, 2, 3, 4, 5, 6, 7, 8, 9, 10, 11, 12, 13, 14, 15, 16]) rfl ?_
        refine nd_batch tabOk tabZ_ok [(0, {}), (1, {k := 1}), (2, {f := 1}), (3, {}), (4, {}), (5, {}), (6, {}), (7, {}), (8, {}), (9, {}), (10, {}), (11, {}), (12, {}), (13, {}), (14, {}), (15, {}), (16, {})] [10, 9, 8, 6, 4, 3, 21, 22, 23, 7, 11, 58] (T' := [(10, .pointer (some ⟨b411, 0, none⟩)), (9, .pointer (some ⟨b97, 0, none⟩)), (8, .pointer (some ⟨b83, 0, none⟩)), (6, .pointer (some ⟨b60, 0, none⟩)), (4, .pointer (some ⟨b25, 0, none⟩)), (3, .pointer (some ⟨kb, 0, none⟩)), (21, .slice (some ⟨sb51, k052, none⟩) ops.length c), (22, .int .i64 ((ops.length : Nat) : Int)), (23, .int .i64 i), (7, .pointer (some ⟨kb2, 0, none⟩)), (11, .bool (decide (x.ev.arg < 16))), (58, .bool false)]) (φ := (b60 = b60 ∧ Nat.ble (0 + 1) 11 = true) ∧ ((x.ev.kind == 1)) = false ∧ True) (rest := []) h421 (by kernel_rfl) rfl ⟨⟨rfl, rfl⟩, (by simp [hk]), trivial⟩ fun a424 h425 => ?_
        clear h421
        refine nd_done ?_
        refine hK423 _ _ ?_
        clear hK423
        refine c_false h425 rfl ?_
        refine wp_skip ?_
        refine hK422 _ _ ?_
        clear hK422
        refine wp_seq_k fun K426 hK426 => ?_
        refine wp_seq_k fun K427 hK427 => ?_
        refine nd_start (l := [0, 1, 2]) rfl ?_
        refine nd_batch tabOk tabZ_ok [(0, {}), (1, {k := 4}), (2, {f := 2})] [10, 9, 8, 6, 4, 3, 21, 22, 23, 7, 11, 61] (T' := [(10, .pointer (some ⟨b411, 0, none⟩)), (9, .pointer (some ⟨b97, 0, none⟩)), (8, .pointer (some ⟨b83, 0, none⟩)), (6, .pointer (some ⟨b60, 0, none⟩)), (4, .pointer (some ⟨b25, 0, none⟩)), (3, .pointer (some ⟨kb, 0, none⟩)), (21, .slice (some ⟨sb51, k052, none⟩) ops.length c), (22, .int .i64 ((ops.length : Nat) : Int)), (23, .int .i64 i), (7, .pointer (some ⟨kb2, 0, none⟩)), (11, .bool (decide (x.ev.arg < 16))), (61, .bool true)]) (φ := (b411 = b411 ∧ Nat.ble (0 + 1) 10 = true) ∧ ((oz.code == 0)) = true ∧ True) (rest := []) h425 (by kernel_rfl) rfl ⟨⟨rfl, rfl⟩, (by simp [hc]), trivial⟩ fun a428 h429 => ?_
        clear h425
        refine nd_done ?_
        refine hK427 _ _ ?_
        clear hK427
        refine c_true h429 rfl ?_
        refine wp_seq_k fun K430 hK430 => ?_
        refine nd_start (l := [0, 1]) rfl ?_
        refine nd_batch tabOk tabZ_ok [(0, {}), (1, {k := 1})] [10, 9, 8, 6, 4, 3, 21, 22, 23, 7, 11, 63] (T' := [(10, .pointer (some ⟨b411, 0, none⟩)), (9, .pointer (some ⟨b97, 0, none⟩)), (8, .pointer (some ⟨b83, 0, none⟩)), (6, .pointer (some ⟨b60, 0, none⟩)), (4, .pointer (some ⟨b25, 0, none⟩)), (3, .pointer (some ⟨kb, 0, none⟩)), (21, .slice (some ⟨sb51, k052, none⟩) ops.length c), (22, .int .i64 ((ops.length : Nat) : Int)), (23, .int .i64 i), (7, .pointer (some ⟨kb2, 0, none⟩)), (11, .bool (decide (x.ev.arg < 16))), (63, .int .u8 x.ev.kind)]) (φ := (b60 = b60 ∧ Nat.ble (0 + 1) 11 = true) ∧ True) (rest := []) h429 (by kernel_rfl) rfl ⟨⟨rfl, rfl⟩, trivial⟩ fun a431 h432 => ?_
        clear h429
        refine nd_done ?_
        refine hK430 _ _ ?_
        clear hK430
        refine wp_block ?_
        refine wp_seq_k fun K433 hK433 => ?_
        refine nd_start (l := [0, 1]) rfl ?_
        refine nd_batch tabOk tabZ_ok [(0, {f := 2}), (1, {})] [10, 9, 8, 6, 4, 3, 21, 22, 23, 7, 11, 63, 64] (T' := [(10, .pointer (some ⟨b411, 0, none⟩)), (9, .pointer (some ⟨b97, 0, none⟩)), (8, .pointer (some ⟨b83, 0, none⟩)), (6, .pointer (some ⟨b60, 0, none⟩)), (4, .pointer (some ⟨b25, 0, none⟩)), (3, .pointer (some ⟨kb, 0, none⟩)), (21, .slice (some ⟨sb51, k052, none⟩) ops.length c), (22, .int .i64 ((ops.length : Nat) : Int)), (23, .int .i64 i), (7, .pointer (some ⟨kb2, 0, none⟩)), (11, .bool (decide (x.ev.arg < 16))), (63, .int .u8 x.ev.kind), (64, .bool true)]) (φ := ((x.ev.kind == 8)) = true ∧ True) (rest := []) h432 (by kernel_rfl) rfl ⟨(by simp [hk]), trivial⟩ fun a434 h435 => ?_
        clear h432
        refine nd_done ?_
        refine hK433 _ _ ?_
        clear hK433
        refine c_true h435 rfl ?_
        refine wp_seq_k fun K436 hK436 => ?_
        refine nd_start (l := [0, 1, 2, 3, 4, 5, 6, 7]) rfl ?_
        refine nd_batch tabOk tabZ_ok [(0, {}), (1, {}), (2, {}), (3, {k := 3}), (4, {}), (5, {k := 3})] [10, 9, 8, 6, 4, 3, 21, 22, 23, 7, 11, 63, 66, 67, 69, 71] (T' := [(10, .pointer (some ⟨b411, 0, none⟩)), (9, .pointer (some ⟨b97, 0, none⟩)), (8, .pointer (some ⟨b83, 0, none⟩)), (6, .pointer (some ⟨b60, 0, none⟩)), (4, .pointer (some ⟨b25, 0, none⟩)), (3, .pointer (some ⟨kb, 0, none⟩)), (21, .slice (some ⟨sb51, k052, none⟩) ops.length c), (22, .int .i64 ((ops.length : Nat) : Int)), (23, .int .i64 i), (7, .pointer (some ⟨kb2, 0, none⟩)), (11, .bool (decide (x.ev.arg < 16))), (63, .int .u8 x.ev.kind), (66, .pointer (some ⟨kb2, 0, none⟩)), (67, .pointer (some ⟨kb, 0, none⟩)), (69, .agg #[.int .u16 ((capAtP S C (refP C.ent S.cur) x.ev.addr).obj.idx), .int .u32 ((capAtP S C (refP C.ent S.cur) x.ev.addr).obj.gen)]), (71, .int .u64 ((capAtP S C (refP C.ent S.cur) x.ev.addr).badge))]) (φ := (b97 = b97 ∧ Nat.ble (1 + 2) 5 = true) ∧ (b97 = b97 ∧ Nat.ble (4 + 1) 5 = true) ∧ True) (rest := [6, 7]) h435 (by kernel_rfl) rfl ⟨⟨rfl, rfl⟩, ⟨rfl, rfl⟩, trivial⟩ fun a437 h438 => ?_
        clear h435
        refine nd_op ?_
        refine op_call h438 rfl rfl rfl (callOk Tryd.func32 (by decide) rfl) (args := [.pointer (some ⟨kb2, 0, none⟩), .pointer (some ⟨kb, 0, none⟩), .agg #[.int .u16 ((capAtP S C (refP C.ent S.cur) x.ev.addr).obj.idx), .int .u32 ((capAtP S C (refP C.ent S.cur) x.ev.addr).obj.gen)], .int .u64 ((capAtP S C (refP C.ent S.cur) x.ev.addr).badge)]) rfl (signalled_ok hok.ri hci hQ hivz.1.ri hivz.2 hN.liq (hN.sig hc hk).1 (hN.sig hc hk).2 (h438.inv.get (j := 1) (p := pKer kb2 bo2 bc2 nd2 S C) rfl) (h438.inv.get (j := 0) (p := pKer kb bo bc nd9 Sz Cz) rfl)) ?_
        rintro _ w439 ⟨rfl, hf441⟩
        refine ⟨_, rfl, ?_⟩
        have h440 := (h438.grow hf441).put (d := some 72) (v := .bool true) (T' := [(72, .bool true), (10, .pointer (some ⟨b411, 0, none⟩)), (9, .pointer (some ⟨b97, 0, none⟩)), (8, .pointer (some ⟨b83, 0, none⟩)), (6, .pointer (some ⟨b60, 0, none⟩)), (4, .pointer (some ⟨b25, 0, none⟩)), (3, .pointer (some ⟨kb, 0, none⟩)), (21, .slice (some ⟨sb51, k052, none⟩) ops.length c), (22, .int .i64 ((ops.length : Nat) : Int)), (23, .int .i64 i), (7, .pointer (some ⟨kb2, 0, none⟩)), (11, .bool (decide (x.ev.arg < 16))), (63, .int .u8 x.ev.kind), (66, .pointer (some ⟨kb2, 0, none⟩)), (67, .pointer (some ⟨kb, 0, none⟩)), (69, .agg #[.int .u16 ((capAtP S C (refP C.ent S.cur) x.ev.addr).obj.idx), .int .u32 ((capAtP S C (refP C.ent S.cur) x.ev.addr).obj.gen)]), (71, .int .u64 ((capAtP S C (refP C.ent S.cur) x.ev.addr).badge))]) rfl
        clear h438
        refine nd_batch tabOk tabZ_ok [(7, {})] [10, 9, 8, 6, 4, 3, 21, 22, 23, 7, 11, 63, 73] (T' := [(10, .pointer (some ⟨b411, 0, none⟩)), (9, .pointer (some ⟨b97, 0, none⟩)), (8, .pointer (some ⟨b83, 0, none⟩)), (6, .pointer (some ⟨b60, 0, none⟩)), (4, .pointer (some ⟨b25, 0, none⟩)), (3, .pointer (some ⟨kb, 0, none⟩)), (21, .slice (some ⟨sb51, k052, none⟩) ops.length c), (22, .int .i64 ((ops.length : Nat) : Int)), (23, .int .i64 i), (7, .pointer (some ⟨kb2, 0, none⟩)), (11, .bool (decide (x.ev.arg < 16))), (63, .int .u8 x.ev.kind), (73, .bool false)]) (φ := True) (rest := []) h440 (by kernel_rfl) rfl trivial fun a442 h443 => ?_
        clear h440
        refine nd_done ?_
        refine hK436 _ _ ?_
        clear hK436
        refine c_false h443 rfl ?_
        refine wp_skip ?_
        refine hK426 _ _ ?_
        clear hK426
        refine wp_seq_k fun K444 hK444 => ?_
        refine nd_start (l := [0]) rfl ?_
        refine nd_batch tabOk tabZ_ok [(0, {})] [10, 9, 8, 6, 4, 3, 21, 22, 23, 7, 11, 63, 152] (T' := [(10, .pointer (some ⟨b411, 0, none⟩)), (9, .pointer (some ⟨b97, 0, none⟩)), (8, .pointer (some ⟨b83, 0, none⟩)), (6, .pointer (some ⟨b60, 0, none⟩)), (4, .pointer (some ⟨b25, 0, none⟩)), (3, .pointer (some ⟨kb, 0, none⟩)), (21, .slice (some ⟨sb51, k052, none⟩) ops.length c), (22, .int .i64 ((ops.length : Nat) : Int)), (23, .int .i64 i), (7, .pointer (some ⟨kb2, 0, none⟩)), (11, .bool (decide (x.ev.arg < 16))), (63, .int .u8 x.ev.kind), (152, .int .i64 0)]) (φ := True) (rest := []) h443 (by kernel_rfl) rfl trivial fun a445 h446 => ?_
        clear h443
        refine nd_done ?_
        refine hK444 _ _ ?_
        clear hK444
        refine wp_block ?_
        have h447 := h446.memMono (L' := [(b25, ⟨mkC M, 68, false⟩)]) (List.Sublist.cons_cons _ (List.Sublist.cons _ (List.Sublist.cons _ (List.Sublist.cons _ (List.Sublist.cons _ List.Sublist.slnil)))))
        clear h446
        have h448 := h447.pcSub (ps' := [pKer kb bo bc nd9 Sz Cz]) (List.Sublist.cons_cons _ (List.Sublist.cons _ List.Sublist.slnil))
        clear h447
        refine wp_loop_ghost (fun g2 ga gw => ∃ (l : Int), ((g2 : Int) = 16 - l) ∧ (0 ≤ l ∧ l ≤ 16) ∧ St ⟨165, [], w, Pk w.heap.size [pKer kb bo bc nd9 Sz Cz], Pf [pKer kb bo bc nd9 Sz Cz]⟩ [(4, .pointer (some ⟨b25, 0, none⟩)), (3, .pointer (some ⟨kb, 0, none⟩)), (21, .slice (some ⟨sb51, k052, none⟩) ops.length c), (22, .int .i64 ((ops.length : Nat) : Int)), (23, .int .i64 i), (152, .int .i64 l)] [(b25, ⟨mkC M, 68, false⟩)] ga gw) 16 ⟨0, by decide, ⟨by decide, by decide⟩, (h448.slotsMono (restr_spec (keep := [4, 3, 21, 22, 23, 152]) rfl))⟩ ?_
        clear h448
        rintro g2 a449 w450 ⟨l, hi452, hi453, h451⟩
        have hlg := hi452
        have hl0 := hi453
        refine wp_seq_k fun K454 hK454 => ?_
        refine nd_start (l := [0]) rfl ?_
        refine nd_batch tabOk tabZ_ok [(0, {})] [4, 3, 21, 22, 23, 152, 153] (T' := [(4, .pointer (some ⟨b25, 0, none⟩)), (3, .pointer (some ⟨kb, 0, none⟩)), (21, .slice (some ⟨sb51, k052, none⟩) ops.length c), (22, .int .i64 ((ops.length : Nat) : Int)), (23, .int .i64 i), (152, .int .i64 l), (153, .bool (decide (l < 16)))]) (φ := True) (rest := []) h451 (by kernel_rfl) rfl trivial fun a455 h456 => ?_
        clear h451
        refine nd_done ?_
        refine hK454 _ _ ?_
        clear hK454
        refine wp_seq_k fun K457 hK457 => ?_
        refine c_split h456 (b := decide (l < 16)) rfl (fun hc458 => ?_) (fun hc458 => ?_)
        ·
          have hc458f : l < 16 := by simpa using hc458
          refine wp_skip ?_
          refine hK457 _ _ ?_
          clear hK457
          refine wp_seq_k fun K459 hK459 => ?_
          refine wp_block ?_
          refine wp_seq_k fun K460 hK460 => ?_
          refine nd_start (l := [0, 1]) rfl ?_
          refine nd_batch tabOk tabZ_ok [(0, {}), (1, {})] [4, 3, 21, 22, 23, 152, 16] (T' := [(4, .pointer (some ⟨b25, 0, none⟩)), (3, .pointer (some ⟨kb, 0, none⟩)), (21, .slice (some ⟨sb51, k052, none⟩) ops.length c), (22, .int .i64 ((ops.length : Nat) : Int)), (23, .int .i64 i), (152, .int .i64 l), (16, .int .i64 l)]) (φ := True) (rest := []) h456 (by kernel_rfl) rfl trivial fun a461 h462 => ?_
          clear h456
          refine nd_done ?_
          refine hK460 _ _ ?_
          clear hK460
          refine wp_seq_k fun K463 hK463 => ?_
          refine dr_start (KB := [b25]) (Bi := [[0], [0], [0], [0], [0], [0], [0], [0]]) mixed h462 fun w464 h465 => ?_
          clear h462
          refine dr_batch tabOk tabZ_ok (by repeat (first | with_reducible exact PF.body | with_reducible apply PF.inB | with_reducible apply PF.next)) [(0, {}), (1, {}), (4, {}), (5, {}), (6, {k := 0, m := 1, vs := [.bool (M l.toNat)], p := 0})] [4, 3, 21, 22, 23, 152, 16, 155, 156, 161] (T' := [(4, .pointer (some ⟨b25, 0, none⟩)), (3, .pointer (some ⟨kb, 0, none⟩)), (21, .slice (some ⟨sb51, k052, none⟩) ops.length c), (22, .int .i64 ((ops.length : Nat) : Int)), (23, .int .i64 i), (152, .int .i64 l), (16, .int .i64 l), (155, .pointer (some ⟨kb, 0, none⟩)), (156, .int .i64 l), (161, .bool (M l.toNat))]) (φ := (0 ≤ l ∧ l < 16) ∧ (b25 = b25 ∧ cellsAre (mkC M) (0 + (l.toNat * 1)) [.bool (M l.toNat)]) ∧ True) (fuel := 3) h465 (by kernel_rfl) rfl (by kernel_rfl) (by kernel_rfl) ⟨trivial, trivial, trivial, trivial, rfl, trivial⟩ ⟨⟨by omega, by omega⟩, ⟨rfl, (mk_read (i := l.toNat) (by omega) (by omega) rfl)⟩, trivial⟩ fun a467 h468 => ?_
          clear h465
          refine wpAnyK_one (i := 2) (fuel := 2) (by kernel_rfl) ?_
          refine op_call h468 rfl rfl rfl (callOk Tryd.func33 (by decide) rfl) (args := [.pointer (some ⟨kb, 0, none⟩), .int .i64 l]) rfl (irq_ok kb bo bc Sz l ⟨by omega, by omega⟩ _ (h468.inv.get (j := 0) (p := pKer kb bo bc nd9 Sz Cz) rfl).ker) ?_
          rintro _ w469 ⟨rfl, hf471⟩
          refine ⟨_, rfl, ?_⟩
          have h470 := (h468.grow hf471).put (d := some 157) (v := .agg #[.int .u16 ((Sz.irq l.toNat).ntfn.idx), .int .u32 ((Sz.irq l.toNat).ntfn.gen), .int .u64 ((Sz.irq l.toNat).badge), .bool ((Sz.irq l.toNat).masked)]) (T' := [(157, .agg #[.int .u16 ((Sz.irq l.toNat).ntfn.idx), .int .u32 ((Sz.irq l.toNat).ntfn.gen), .int .u64 ((Sz.irq l.toNat).badge), .bool ((Sz.irq l.toNat).masked)]), (4, .pointer (some ⟨b25, 0, none⟩)), (3, .pointer (some ⟨kb, 0, none⟩)), (21, .slice (some ⟨sb51, k052, none⟩) ops.length c), (22, .int .i64 ((ops.length : Nat) : Int)), (23, .int .i64 i), (152, .int .i64 l), (16, .int .i64 l), (155, .pointer (some ⟨kb, 0, none⟩)), (156, .int .i64 l), (161, .bool (M l.toNat))]) rfl
          refine ⟨(h468.keepFr hf471 (kcons (by simp) knil)), ?_⟩
          clear h468
          refine dr_batch tabOk tabZ_ok (by repeat (first | with_reducible exact PF.body | with_reducible apply PF.inB | with_reducible apply PF.next)) [(3, {}), (7, {f := 1})] [4, 3, 21, 22, 23, 152, 16, 162] (T' := [(4, .pointer (some ⟨b25, 0, none⟩)), (3, .pointer (some ⟨kb, 0, none⟩)), (21, .slice (some ⟨sb51, k052, none⟩) ops.length c), (22, .int .i64 ((ops.length : Nat) : Int)), (23, .int .i64 i), (152, .int .i64 l), (16, .int .i64 l), (162, .bool false)]) (φ := ((((Sz.irq l.toNat).masked) != (M l.toNat))) = false ∧ True) (fuel := 0) h470 (by kernel_rfl) rfl (by kernel_rfl) (by kernel_rfl) ⟨trivial, trivial, trivial⟩ ⟨(by rw [hmz]; simp), trivial⟩ fun a472 h473 => ?_
          clear h470
          refine wpAnyK_done (by kernel_rfl) ?_ _
          refine hK463 _ _ ?_
          clear hK463
          refine c_false h473 rfl ?_
          refine wp_skip ?_
          refine hK459 _ _ ?_
          clear hK459
          refine nd_start (l := [0, 1]) rfl ?_
          refine nd_batch tabOk tabZ_ok [(0, {}), (1, {})] [4, 3, 21, 22, 23, 16, 152] (T' := [(4, .pointer (some ⟨b25, 0, none⟩)), (3, .pointer (some ⟨kb, 0, none⟩)), (21, .slice (some ⟨sb51, k052, none⟩) ops.length c), (22, .int .i64 ((ops.length : Nat) : Int)), (23, .int .i64 i), (16, .int .i64 l), (152, .int .i64 (l + 1))]) (φ := inR .i64 (l + 1) ∧ True) (rest := []) h473 (by kernel_rfl) rfl ⟨⟨by omega, by omega⟩, trivial⟩ fun a474 h475 => ?_
          clear h473
          refine nd_done ?_
          exact ⟨(g2 - 1), by omega, (l + 1), by omega, ⟨by omega, by omega⟩, (h475.slotsMono (restr_spec (keep := [4, 3, 21, 22, 23, 152]) rfl))⟩
        ·
          have hc458f : ¬ l < 16 := by simpa using hc458
          refine wp_exit ?_
          refine hK55 _ _ ?_
          clear hK55
          refine nd_start (l := [0, 1]) rfl ?_
          refine nd_batch tabOk tabZ_ok [(0, {}), (1, {})] [4, 3, 21, 22, 152, 23] (T' := [(4, .pointer (some ⟨b25, 0, none⟩)), (3, .pointer (some ⟨kb, 0, none⟩)), (21, .slice (some ⟨sb51, k052, none⟩) ops.length c), (22, .int .i64 ((ops.length : Nat) : Int)), (152, .int .i64 l), (23, .int .i64 (i + 1))]) (φ := inR .i64 (i + 1) ∧ True) (rest := []) h456 (by kernel_rfl) rfl ⟨⟨by omega, by omega⟩, trivial⟩ fun a476 h477 => ?_
          clear h456
          refine nd_done ?_
          exact ⟨(g - 1), by omega, nd9, Sz, Cz, Qz, M, (i + 1), by omega, ⟨by omega, by omega⟩, hivz.1, hivz.2, hXz, hN.liq, hmz, (h477.slotsMono (restr_spec (keep := [4, 3, 21, 22, 23]) rfl))⟩
      ·
        obtain ⟨hcr, hcur, bs, wd, us, wd', e1, e2, hbl, hw⟩ := hN.wai hc hk
        rcases hw with ⟨hw0, hbd, hwd0, hus, hst5⟩ | ⟨hw0, hus⟩
        ·
          subst hus hwd0
          have hmz : ∀ l, (Sz.irq l).masked = M l := fun l => by rw [hN.msk, hmf]; unfold maskP; rw [if_neg (fun h => h hc), if_neg (by omega), if_neg (by omega)]
          refine nd_op ?_
          refine op_new tabOk (cells := [.int .u8 0, .int .u16 0, .int .u32 0, .int .u64 0, .int .u64 0, .int .u64 0, .int .u64 0, .int .u64 0, .int .u8 0, .int .u8 0]) (ty := 42) (ln := none) (L1 := fun b478 => [(b25, ⟨mkC M, 68, false⟩), (b60, ⟨[.int .u8 x.ev.kind, .int .u32 x.ev.pick, .int .u64 x.ev.draw, .int .u32 x.ev.addr, .int .u32 x.ev.node, .int .u32 x.ev.dst, .int .u32 x.ev.xfer, .int .u8 x.ev.ty, .int .u64 x.ev.arg, .int .u64 x.ev.badge, .slice x.xo x.ev.ws.length x.cx], 35, false⟩), (b83, ⟨[.int .u16 ((refP C.ent S.cur).idx), .int .u32 ((refP C.ent S.cur).gen)], 39, false⟩), (b97, ⟨[.int .u8 ((capAtP S C (refP C.ent S.cur) x.ev.addr).ty), .int .u16 ((capAtP S C (refP C.ent S.cur) x.ev.addr).obj.idx), .int .u32 ((capAtP S C (refP C.ent S.cur) x.ev.addr).obj.gen), .int .u8 ((capAtP S C (refP C.ent S.cur) x.ev.addr).rights), .int .u64 ((capAtP S C (refP C.ent S.cur) x.ev.addr).badge)], 49, false⟩), (b478, ⟨[.int .u8 0, .int .u16 0, .int .u32 0, .int .u64 0, .int .u64 0, .int .u64 0, .int .u64 0, .int .u64 0, .int .u8 0, .int .u8 0], 42, false⟩)]) h110 rfl rfl rfl rfl (by kernel_rfl) (fun _ => rfl) fun b478 w479 a480 h481 hf482 hn483 => ?_
          clear h110
          refine nd_op ?_
          refine op_store tabOk {k := 4} (L' := [(b25, ⟨mkC M, 68, false⟩), (b60, ⟨[.int .u8 x.ev.kind, .int .u32 x.ev.pick, .int .u64 x.ev.draw, .int .u32 x.ev.addr, .int .u32 x.ev.node, .int .u32 x.ev.dst, .int .u32 x.ev.xfer, .int .u8 x.ev.ty, .int .u64 x.ev.arg, .int .u64 x.ev.badge, .slice x.xo x.ev.ws.length x.cx], 35, false⟩), (b83, ⟨[.int .u16 ((refP C.ent S.cur).idx), .int .u32 ((refP C.ent S.cur).gen)], 39, false⟩), (b97, ⟨[.int .u8 ((capAtP S C (refP C.ent S.cur) x.ev.addr).ty), .int .u16 ((capAtP S C (refP C.ent S.cur) x.ev.addr).obj.idx), .int .u32 ((capAtP S C (refP C.ent S.cur) x.ev.addr).obj.gen), .int .u8 ((capAtP S C (refP C.ent S.cur) x.ev.addr).rights), .int .u64 ((capAtP S C (refP C.ent S.cur) x.ev.addr).badge)], 49, false⟩), (b478, ⟨[.int .u8 oz.code, .int .u16 oz.run.idx, .int .u32 oz.run.gen, .int .u64 oz.badge, .int .u64 oz.m0, .int .u64 oz.m1, .int .u64 oz.m2, .int .u64 oz.m3, .int .u8 oz.len, .int .u8 oz.got], 42, false⟩)]) (φ := b478 = b478 ∧ Nat.ble (0 + 10) 10 = true) h481 rfl rfl rfl (by kernel_rfl) ⟨rfl, rfl⟩ fun w484 h485 => ?_
          clear h481
          refine nd_done ?_
          refine hK105 _ _ ?_
          clear hK105
          refine wp_seq_k fun K486 hK486 => ?_
          refine nd_start (l := [0, 1, 2, 3]) rfl ?_
          refine nd_batch tabOk tabZ_ok [(0, {}), (1, {k := 1}), (2, {}), (3, {})] [10, 9, 8, 6, 4, 3, 21, 22, 23, 7, 11] (T' := [(10, .pointer (some ⟨b478, 0, none⟩)), (9, .pointer (some ⟨b97, 0, none⟩)), (8, .pointer (some ⟨b83, 0, none⟩)), (6, .pointer (some ⟨b60, 0, none⟩)), (4, .pointer (some ⟨b25, 0, none⟩)), (3, .pointer (some ⟨kb, 0, none⟩)), (21, .slice (some ⟨sb51, k052, none⟩) ops.length c), (22, .int .i64 ((ops.length : Nat) : Int)), (23, .int .i64 i), (7, .pointer (some ⟨kb2, 0, none⟩)), (11, .bool (decide (x.ev.arg < 16)))]) (φ := (b60 = b60 ∧ Nat.ble (8 + 1) 11 = true) ∧ True) (rest := []) h485 (by kernel_rfl) rfl ⟨⟨rfl, rfl⟩, trivial⟩ fun a487 h488 => ?_
          clear h485
          refine nd_done ?_
          refine hK486 _ _ ?_
          clear hK486
          refine wp_seq_k fun K489 hK489 => ?_
          refine wp_seq_k fun K490 hK490 => ?_
          refine nd_start (l := [0, 1, 2, 3, 4, 5, 6, 7, 8, 9, 10, 11, 12, 13, 14, 15, 16]) rfl ?_
          refine nd_batch tabOk tabZ_ok [(0, {}), (1, {k := 1}), (2, {f := 1}), (3, {}), (4, {}), (5, {}), (6, {}), (7, {}), (8, {}), (9, {}), (10, {}), (11, {}), (12, {}), (13, {}), (14, {}), (15, {}), (16, {})] [10, 9, 8, 6, 4, 3, 21, 22, 23, 7, 11, 58] (T' := [(10, .pointer (some ⟨b478, 0, none⟩)), (9, .pointer (some ⟨b97, 0, none⟩)), (8, .pointer (some ⟨b83, 0, none⟩)), (6, .pointer (some ⟨b60, 0, none⟩)), (4, .pointer (some ⟨b25, 0, none⟩)), (3, .pointer (some ⟨kb, 0, none⟩)), (21, .slice (some ⟨sb51, k052, none⟩) ops.length c), (22, .int .i64 ((ops.length : Nat) : Int)), (23, .int .i64 i), (7, .pointer (some ⟨kb2, 0, none⟩)), (11, .bool (decide (x.ev.arg < 16))), (58, .bool false)]) (φ := (b60 = b60 ∧ Nat.ble (0 + 1) 11 = true) ∧ ((x.ev.kind == 1)) = false ∧ True) (rest := []) h488 (by kernel_rfl) rfl ⟨⟨rfl, rfl⟩, (by simp [hk]), trivial⟩ fun a491 h492 => ?_
          clear h488
          refine nd_done ?_
          refine hK490 _ _ ?_
          clear hK490
          refine c_false h492 rfl ?_
          refine wp_skip ?_
          refine hK489 _ _ ?_
          clear hK489
          refine wp_seq_k fun K493 hK493 => ?_
          refine wp_seq_k fun K494 hK494 => ?_
          refine nd_start (l := [0, 1, 2]) rfl ?_
          refine nd_batch tabOk tabZ_ok [(0, {}), (1, {k := 4}), (2, {f := 2})] [10, 9, 8, 6, 4, 3, 21, 22, 23, 7, 11, 61] (T' := [(10, .pointer (some ⟨b478, 0, none⟩)), (9, .pointer (some ⟨b97, 0, none⟩)), (8, .pointer (some ⟨b83, 0, none⟩)), (6, .pointer (some ⟨b60, 0, none⟩)), (4, .pointer (some ⟨b25, 0, none⟩)), (3, .pointer (some ⟨kb, 0, none⟩)), (21, .slice (some ⟨sb51, k052, none⟩) ops.length c), (22, .int .i64 ((ops.length : Nat) : Int)), (23, .int .i64 i), (7, .pointer (some ⟨kb2, 0, none⟩)), (11, .bool (decide (x.ev.arg < 16))), (61, .bool true)]) (φ := (b478 = b478 ∧ Nat.ble (0 + 1) 10 = true) ∧ ((oz.code == 0)) = true ∧ True) (rest := []) h492 (by kernel_rfl) rfl ⟨⟨rfl, rfl⟩, (by simp [hc]), trivial⟩ fun a495 h496 => ?_
          clear h492
          refine nd_done ?_
          refine hK494 _ _ ?_
          clear hK494
          refine c_true h496 rfl ?_
          refine wp_seq_k fun K497 hK497 => ?_
          refine nd_start (l := [0, 1]) rfl ?_
          refine nd_batch tabOk tabZ_ok [(0, {}), (1, {k := 1})] [10, 9, 8, 6, 4, 3, 21, 22, 23, 7, 11, 63] (T' := [(10, .pointer (some ⟨b478, 0, none⟩)), (9, .pointer (some ⟨b97, 0, none⟩)), (8, .pointer (some ⟨b83, 0, none⟩)), (6, .pointer (some ⟨b60, 0, none⟩)), (4, .pointer (some ⟨b25, 0, none⟩)), (3, .pointer (some ⟨kb, 0, none⟩)), (21, .slice (some ⟨sb51, k052, none⟩) ops.length c), (22, .int .i64 ((ops.length : Nat) : Int)), (23, .int .i64 i), (7, .pointer (some ⟨kb2, 0, none⟩)), (11, .bool (decide (x.ev.arg < 16))), (63, .int .u8 x.ev.kind)]) (φ := (b60 = b60 ∧ Nat.ble (0 + 1) 11 = true) ∧ True) (rest := []) h496 (by kernel_rfl) rfl ⟨⟨rfl, rfl⟩, trivial⟩ fun a498 h499 => ?_
          clear h496
          refine nd_done ?_
          refine hK497 _ _ ?_
          clear hK497
          refine wp_block ?_
          refine wp_seq_k fun K500 hK500 => ?_
          refine nd_start (l := [0, 1]) rfl ?_
          refine nd_batch tabOk tabZ_ok [(0, {f := 1}), (1, {})] [10, 9, 8, 6, 4, 3, 21, 22, 23, 7, 11, 63, 64] (T' := [(10, .pointer (some ⟨b478, 0, none⟩)), (9, .pointer (some ⟨b97, 0, none⟩)), (8, .pointer (some ⟨b83, 0, none⟩)), (6, .pointer (some ⟨b60, 0, none⟩)), (4, .pointer (some ⟨b25, 0, none⟩)), (3, .pointer (some ⟨kb, 0, none⟩)), (21, .slice (some ⟨sb51, k052, none⟩) ops.length c), (22, .int .i64 ((ops.length : Nat) : Int)), (23, .int .i64 i), (7, .pointer (some ⟨kb2, 0, none⟩)), (11, .bool (decide (x.ev.arg < 16))), (63, .int .u8 x.ev.kind), (64, .bool false)]) (φ := ((x.ev.kind == 8)) = false ∧ True) (rest := []) h499 (by kernel_rfl) rfl ⟨(by simp [hk]), trivial⟩ fun a501 h502 => ?_
          clear h499
          refine nd_done ?_
          refine hK500 _ _ ?_
          clear hK500
          refine c_false h502 rfl ?_
          refine wp_seq_k fun K503 hK503 => ?_
          refine nd_start (l := [0, 1]) rfl ?_
          refine nd_batch tabOk tabZ_ok [(0, {f := 1}), (1, {})] [10, 9, 8, 6, 4, 3, 21, 22, 23, 7, 11, 63, 74] (T' := [(10, .pointer (some ⟨b478, 0, none⟩)), (9, .pointer (some ⟨b97, 0, none⟩)), (8, .pointer (some ⟨b83, 0, none⟩)), (6, .pointer (some ⟨b60, 0, none⟩)), (4, .pointer (some ⟨b25, 0, none⟩)), (3, .pointer (some ⟨kb, 0, none⟩)), (21, .slice (some ⟨sb51, k052, none⟩) ops.length c), (22, .int .i64 ((ops.length : Nat) : Int)), (23, .int .i64 i), (7, .pointer (some ⟨kb2, 0, none⟩)), (11, .bool (decide (x.ev.arg < 16))), (63, .int .u8 x.ev.kind), (74, .bool false)]) (φ := ((x.ev.kind == 1)) = false ∧ True) (rest := []) h502 (by kernel_rfl) rfl ⟨(by simp [hk]), trivial⟩ fun a504 h505 => ?_
          clear h502
          refine nd_done ?_
          refine hK503 _ _ ?_
          clear hK503
          refine c_false h505 rfl ?_
          refine wp_seq_k fun K506 hK506 => ?_
          refine wp_seq_k fun K507 hK507 => ?_
          refine nd_start (l := [0, 1]) rfl ?_
          refine nd_batch tabOk tabZ_ok [(0, {f := 1}), (1, {})] [10, 9, 8, 6, 4, 3, 21, 22, 23, 7, 11, 63, 95] (T' := [(10, .pointer (some ⟨b478, 0, none⟩)), (9, .pointer (some ⟨b97, 0, none⟩)), (8, .pointer (some ⟨b83, 0, none⟩)), (6, .pointer (some ⟨b60, 0, none⟩)), (4, .pointer (some ⟨b25, 0, none⟩)), (3, .pointer (some ⟨kb, 0, none⟩)), (21, .slice (some ⟨sb51, k052, none⟩) ops.length c), (22, .int .i64 ((ops.length : Nat) : Int)), (23, .int .i64 i), (7, .pointer (some ⟨kb2, 0, none⟩)), (11, .bool (decide (x.ev.arg < 16))), (63, .int .u8 x.ev.kind), (95, .bool false)]) (φ := ((x.ev.kind == 19)) = false ∧ True) (rest := []) h505 (by kernel_rfl) rfl ⟨(by simp [hk]), trivial⟩ fun a508 h509 => ?_
          clear h505
          refine nd_done ?_
          refine hK507 _ _ ?_
          clear hK507
          refine c_false h509 rfl ?_
          refine nd_start (l := [0, 1]) rfl ?_
          refine nd_batch tabOk tabZ_ok [(0, {f := 1}), (1, {})] [10, 9, 8, 6, 4, 3, 21, 22, 23, 7, 11, 63, 95] (T' := [(10, .pointer (some ⟨b478, 0, none⟩)), (9, .pointer (some ⟨b97, 0, none⟩)), (8, .pointer (some ⟨b83, 0, none⟩)), (6, .pointer (some ⟨b60, 0, none⟩)), (4, .pointer (some ⟨b25, 0, none⟩)), (3, .pointer (some ⟨kb, 0, none⟩)), (21, .slice (some ⟨sb51, k052, none⟩) ops.length c), (22, .int .i64 ((ops.length : Nat) : Int)), (23, .int .i64 i), (7, .pointer (some ⟨kb2, 0, none⟩)), (11, .bool (decide (x.ev.arg < 16))), (63, .int .u8 x.ev.kind), (95, .bool false)]) (φ := ((x.ev.kind == 18)) = false ∧ True) (rest := []) h509 (by kernel_rfl) rfl ⟨(by simp [hk]), trivial⟩ fun a510 h511 => ?_
          clear h509
          refine nd_done ?_
          refine hK506 _ _ ?_
          clear hK506
          refine c_false h511 rfl ?_
          refine wp_seq_k fun K512 hK512 => ?_
          refine nd_start (l := [0, 1]) rfl ?_
          refine nd_batch tabOk tabZ_ok [(0, {f := 2}), (1, {})] [10, 9, 8, 6, 4, 3, 21, 22, 23, 7, 11, 63, 95, 101] (T' := [(10, .pointer (some ⟨b478, 0, none⟩)), (9, .pointer (some ⟨b97, 0, none⟩)), (8, .pointer (some ⟨b83, 0, none⟩)), (6, .pointer (some ⟨b60, 0, none⟩)), (4, .pointer (some ⟨b25, 0, none⟩)), (3, .pointer (some ⟨kb, 0, none⟩)), (21, .slice (some ⟨sb51, k052, none⟩) ops.length c), (22, .int .i64 ((ops.length : Nat) : Int)), (23, .int .i64 i), (7, .pointer (some ⟨kb2, 0, none⟩)), (11, .bool (decide (x.ev.arg < 16))), (63, .int .u8 x.ev.kind), (95, .bool false), (101, .bool true)]) (φ := ((x.ev.kind == 9)) = true ∧ True) (rest := []) h511 (by kernel_rfl) rfl ⟨(by simp [hk]), trivial⟩ fun a513 h514 => ?_
          clear h511
          refine nd_done ?_
          refine hK512 _ _ ?_
          clear hK512
          refine c_true h514 rfl ?_
          refine wp_seq_k fun K515 hK515 => ?_
          refine nd_start (l := [0, 1, 2, 3, 4, 5, 6, 7, 8]) rfl ?_
          refine nd_batch tabOk tabZ_ok [(0, {}), (1, {}), (2, {k := 3})] [10, 9, 8, 6, 4, 3, 21, 22, 23, 7, 11, 63, 95, 104, 106] (T' := [(10, .pointer (some ⟨b478, 0, none⟩)), (9, .pointer (some ⟨b97, 0, none⟩)), (8, .pointer (some ⟨b83, 0, none⟩)), (6, .pointer (some ⟨b60, 0, none⟩)), (4, .pointer (some ⟨b25, 0, none⟩)), (3, .pointer (some ⟨kb, 0, none⟩)), (21, .slice (some ⟨sb51, k052, none⟩) ops.length c), (22, .int .i64 ((ops.length : Nat) : Int)), (23, .int .i64 i), (7, .pointer (some ⟨kb2, 0, none⟩)), (11, .bool (decide (x.ev.arg < 16))), (63, .int .u8 x.ev.kind), (95, .bool false), (104, .pointer (some ⟨kb2, 0, none⟩)), (106, .agg #[.int .u16 ((capAtP S C (refP C.ent S.cur) x.ev.addr).obj.idx), .int .u32 ((capAtP S C (refP C.ent S.cur) x.ev.addr).obj.gen)])]) (φ := (b97 = b97 ∧ Nat.ble (1 + 2) 5 = true) ∧ True) (rest := [3, 4, 5, 6, 7, 8]) h514 (by kernel_rfl) rfl ⟨⟨rfl, rfl⟩, trivial⟩ fun a516 h517 => ?_
          clear h514
          refine nd_op ?_
          refine op_call h517 rfl rfl rfl (callOk Tryd.func20 (by decide) rfl) (args := [.pointer (some ⟨kb2, 0, none⟩), .agg #[.int .u16 ((capAtP S C (refP C.ent S.cur) x.ev.addr).obj.idx), .int .u32 ((capAtP S C (refP C.ent S.cur) x.ev.addr).obj.gen)]]) rfl (waitersE kb2 bo2 bc2 S hok.ri hci.reg.1 hQ (capAtP S C (refP C.ent S.cur) x.ev.addr).obj ⟨hcr.1, by omega⟩ _ (h517.inv.get (j := 1) (p := pKer kb2 bo2 bc2 nd2 S C) rfl).ker (h517.inv.get (j := 1) (p := pKer kb2 bo2 bc2 nd2 S C) rfl).cap.st (h517.inv.get (j := 1) (p := pKer kb2 bo2 bc2 nd2 S C) rfl).ne e1) ?_
          rintro _ w524 ⟨o518, c519, F520, rfl, hr521, hf522, hF523⟩
          refine ⟨_, rfl, ?_⟩
          have h525 := (h517.pcAdd (p' := pRow (rl rfC 39 2 bs o518 c519 F520)) (ps' := [pKer kb bo bc nd9 Sz Cz, pKer kb2 bo2 bc2 nd2 S C, pRow (rl rfC 39 2 bs o518 c519 F520)]) (pRow_ok hr521) hf522 hF523 rfl).put (d := some 107) (v := .tuple #[.slice o518 bs.length c519, .int .u64 wd]) (T' := [(107, .tuple #[.slice o518 bs.length c519, .int .u64 wd]), (10, .pointer (some ⟨b478, 0, none⟩)), (9, .pointer (some ⟨b97, 0, none⟩)), (8, .pointer (some ⟨b83, 0, none⟩)), (6, .pointer (some ⟨b60, 0, none⟩)), (4, .pointer (some ⟨b25, 0, none⟩)), (3, .pointer (some ⟨kb, 0, none⟩)), (21, .slice (some ⟨sb51, k052, none⟩) ops.length c), (22, .int .i64 ((ops.length : Nat) : Int)), (23, .int .i64 i), (7, .pointer (some ⟨kb2, 0, none⟩)), (11, .bool (decide (x.ev.arg < 16))), (63, .int .u8 x.ev.kind), (95, .bool false), (104, .pointer (some ⟨kb2, 0, none⟩)), (106, .agg #[.int .u16 ((capAtP S C (refP C.ent S.cur) x.ev.addr).obj.idx), .int .u32 ((capAtP S C (refP C.ent S.cur) x.ev.addr).obj.gen)])]) rfl
          have hszh525 : w.heap.size ≤ _ := h517.frame.size
          clear h517
          refine nd_batch tabOk tabZ_ok [(4, {}), (5, {}), (6, {}), (7, {}), (8, {})] [10, 9, 8, 6, 4, 3, 21, 22, 23, 7, 11, 63, 95, 12, 13] (T' := [(10, .pointer (some ⟨b478, 0, none⟩)), (9, .pointer (some ⟨b97, 0, none⟩)), (8, .pointer (some ⟨b83, 0, none⟩)), (6, .pointer (some ⟨b60, 0, none⟩)), (4, .pointer (some ⟨b25, 0, none⟩)), (3, .pointer (some ⟨kb, 0, none⟩)), (21, .slice (some ⟨sb51, k052, none⟩) ops.length c), (22, .int .i64 ((ops.length : Nat) : Int)), (23, .int .i64 i), (7, .pointer (some ⟨kb2, 0, none⟩)), (11, .bool (decide (x.ev.arg < 16))), (63, .int .u8 x.ev.kind), (95, .bool false), (12, .slice o518 bs.length c519), (13, .int .u64 wd)]) (φ := True) (rest := []) h525 (by kernel_rfl) rfl trivial fun a526 h527 => ?_
          clear h525
          refine nd_done ?_
          refine hK515 _ _ ?_
          clear hK515
          refine wp_seq_k fun K528 hK528 => ?_
          refine nd_start (l := [0, 1, 2, 3, 4, 5, 6, 7, 8]) rfl ?_
          refine nd_batch tabOk tabZ_ok [(0, {}), (1, {}), (2, {k := 3})] [10, 9, 8, 6, 4, 3, 21, 22, 23, 7, 11, 63, 95, 12, 13, 111, 113] (T' := [(10, .pointer (some ⟨b478, 0, none⟩)), (9, .pointer (some ⟨b97, 0, none⟩)), (8, .pointer (some ⟨b83, 0, none⟩)), (6, .pointer (some ⟨b60, 0, none⟩)), (4, .pointer (some ⟨b25, 0, none⟩)), (3, .pointer (some ⟨kb, 0, none⟩)), (21, .slice (some ⟨sb51, k052, none⟩) ops.length c), (22, .int .i64 ((ops.length : Nat) : Int)), (23, .int .i64 i), (7, .pointer (some ⟨kb2, 0, none⟩)), (11, .bool (decide (x.ev.arg < 16))), (63, .int .u8 x.ev.kind), (95, .bool false), (12, .slice o518 bs.length c519), (13, .int .u64 wd), (111, .pointer (some ⟨kb, 0, none⟩)), (113, .agg #[.int .u16 ((capAtP S C (refP C.ent S.cur) x.ev.addr).obj.idx), .int .u32 ((capAtP S C (refP C.ent S.cur) x.ev.addr).obj.gen)])]) (φ := (b97 = b97 ∧ Nat.ble (1 + 2) 5 = true) ∧ True) (rest := [3, 4, 5, 6, 7, 8]) h527 (by kernel_rfl) rfl ⟨⟨rfl, rfl⟩, trivial⟩ fun a529 h530 => ?_
          clear h527
          refine nd_op ?_
          refine op_call h530 rfl rfl rfl (callOk Tryd.func20 (by decide) rfl) (args := [.pointer (some ⟨kb, 0, none⟩), .agg #[.int .u16 ((capAtP S C (refP C.ent S.cur) x.ev.addr).obj.idx), .int .u32 ((capAtP S C (refP C.ent S.cur) x.ev.addr).obj.gen)]]) rfl (waitersE kb bo bc Sz hivz.1.ri hivz.2.reg.1 hN.liq (capAtP S C (refP C.ent S.cur) x.ev.addr).obj ⟨hcr.1, by omega⟩ _ (h530.inv.get (j := 0) (p := pKer kb bo bc nd9 Sz Cz) rfl).ker (h530.inv.get (j := 0) (p := pKer kb bo bc nd9 Sz Cz) rfl).cap.st (h530.inv.get (j := 0) (p := pKer kb bo bc nd9 Sz Cz) rfl).ne e2) ?_
          rintro _ w537 ⟨o531, c532, F533, rfl, hr534, hf535, hF536⟩
          refine ⟨_, rfl, ?_⟩
          have h538 := (h530.pcAdd (p' := pRow (rl rfC 39 2 ([] : List Rf) o531 c532 F533)) (ps' := [pKer kb bo bc nd9 Sz Cz, pKer kb2 bo2 bc2 nd2 S C, pRow (rl rfC 39 2 bs o518 c519 F520), pRow (rl rfC 39 2 ([] : List Rf) o531 c532 F533)]) (pRow_ok hr534) hf535 hF536 rfl).put (d := some 114) (v := .tuple #[.slice o531 0 c532, .int .u64 0]) (T' := [(114, .tuple #[.slice o531 0 c532, .int .u64 0]), (10, .pointer (some ⟨b478, 0, none⟩)), (9, .pointer (some ⟨b97, 0, none⟩)), (8, .pointer (some ⟨b83, 0, none⟩)), (6, .pointer (some ⟨b60, 0, none⟩)), (4, .pointer (some ⟨b25, 0, none⟩)), (3, .pointer (some ⟨kb, 0, none⟩)), (21, .slice (some ⟨sb51, k052, none⟩) ops.length c), (22, .int .i64 ((ops.length : Nat) : Int)), (23, .int .i64 i), (7, .pointer (some ⟨kb2, 0, none⟩)), (11, .bool (decide (x.ev.arg < 16))), (63, .int .u8 x.ev.kind), (95, .bool false), (12, .slice o518 bs.length c519), (13, .int .u64 wd), (111, .pointer (some ⟨kb, 0, none⟩)), (113, .agg #[.int .u16 ((capAtP S C (refP C.ent S.cur) x.ev.addr).obj.idx), .int .u32 ((capAtP S C (refP C.ent S.cur) x.ev.addr).obj.gen)])]) rfl
          have hszh538 : w.heap.size ≤ _ := h530.frame.size
          clear h530
          refine nd_batch tabOk tabZ_ok [(4, {}), (5, {}), (6, {}), (7, {}), (8, {})] [10, 9, 8, 6, 4, 3, 21, 22, 23, 7, 11, 63, 95, 12, 13, 14, 15] (T' := [(10, .pointer (some ⟨b478, 0, none⟩)), (9, .pointer (some ⟨b97, 0, none⟩)), (8, .pointer (some ⟨b83, 0, none⟩)), (6, .pointer (some ⟨b60, 0, none⟩)), (4, .pointer (some ⟨b25, 0, none⟩)), (3, .pointer (some ⟨kb, 0, none⟩)), (21, .slice (some ⟨sb51, k052, none⟩) ops.length c), (22, .int .i64 ((ops.length : Nat) : Int)), (23, .int .i64 i), (7, .pointer (some ⟨kb2, 0, none⟩)), (11, .bool (decide (x.ev.arg < 16))), (63, .int .u8 x.ev.kind), (95, .bool false), (12, .slice o518 bs.length c519), (13, .int .u64 wd), (14, .slice o531 0 c532), (15, .int .u64 0)]) (φ := True) (rest := []) h538 (by kernel_rfl) rfl trivial fun a539 h540 => ?_
          clear h538
          refine nd_done ?_
          refine hK528 _ _ ?_
          clear hK528
          refine wp_seq_k fun K541 hK541 => ?_
          refine wp_seq_k fun K542 hK542 => ?_
          refine nd_start (l := [0, 1, 2, 3, 4, 5, 6, 7, 8, 9, 10, 11, 12, 13, 14, 15, 16, 17, 18, 19, 20, 21, 22]) rfl ?_
          refine nd_batch tabOk tabZ_ok [(0, {}), (1, {f := 2}), (2, {}), (3, {}), (4, {k := 4}), (5, {}), (6, {f := 1}), (7, {}), (8, {}), (9, {}), (10, {}), (11, {}), (12, {}), (13, {}), (14, {}), (15, {}), (16, {}), (17, {}), (18, {k := 2})] [10, 9, 8, 6, 4, 3, 21, 22, 23, 7, 11, 63, 95, 12, 13, 14, 15, 119, 133, 134, 135] (T' := [(10, .pointer (some ⟨b478, 0, none⟩)), (9, .pointer (some ⟨b97, 0, none⟩)), (8, .pointer (some ⟨b83, 0, none⟩)), (6, .pointer (some ⟨b60, 0, none⟩)), (4, .pointer (some ⟨b25, 0, none⟩)), (3, .pointer (some ⟨kb, 0, none⟩)), (21, .slice (some ⟨sb51, k052, none⟩) ops.length c), (22, .int .i64 ((ops.length : Nat) : Int)), (23, .int .i64 i), (7, .pointer (some ⟨kb2, 0, none⟩)), (11, .bool (decide (x.ev.arg < 16))), (63, .int .u8 x.ev.kind), (95, .bool false), (12, .slice o518 bs.length c519), (13, .int .u64 wd), (14, .slice o531 0 c532), (15, .int .u64 0), (119, .bool true), (133, .bool false), (134, .pointer (some ⟨kb, 0, none⟩)), (135, .agg #[.int .u16 ((refP C.ent S.cur).idx), .int .u32 ((refP C.ent S.cur).gen)])]) (φ := ((wd != 0)) = true ∧ (b478 = b478 ∧ Nat.ble (3 + 1) 10 = true) ∧ ((oz.badge != wd)) = false ∧ (b83 = b83 ∧ Nat.ble (0 + 2) 2 = true) ∧ True) (rest := [19, 20, 21, 22]) h540 (by kernel_rfl) rfl ⟨(by simp [hw0]), ⟨rfl, rfl⟩, (by simp [hbd]), ⟨rfl, rfl⟩, trivial⟩ fun a543 h544 => ?_
          clear h540
          refine nd_op ?_
          refine op_call h544 rfl rfl rfl (callOk Tryd.func22 (by decide) rfl) (args := [.pointer (some ⟨kb, 0, none⟩), .agg #[.int .u16 ((refP C.ent S.cur).idx), .int .u32 ((refP C.ent S.cur).gen)]]) rfl (stateOf_ok kb bo bc Sz hivz.1.ri Cz.ent hivz.2.reg.1 (refP C.ent S.cur) ⟨hmer.1, by omega⟩ _ (h544.inv.get (j := 0) (p := pKer kb bo bc nd9 Sz Cz) rfl).ker (h544.inv.get (j := 0) (p := pKer kb bo bc nd9 Sz Cz) rfl).cap.st (h544.inv.get (j := 0) (p := pKer kb bo bc nd9 Sz Cz) rfl).ne) ?_
          rintro _ w545 ⟨rfl, hf547⟩
          refine ⟨_, rfl, ?_⟩
          have h546 := (h544.grow hf547).put (d := some 136) (v := .int .u8 ((threadP Sz Cz.ent (refP C.ent S.cur)).1.st)) (T' := [(136, .int .u8 ((threadP Sz Cz.ent (refP C.ent S.cur)).1.st)), (10, .pointer (some ⟨b478, 0, none⟩)), (9, .pointer (some ⟨b97, 0, none⟩)), (8, .pointer (some ⟨b83, 0, none⟩)), (6, .pointer (some ⟨b60, 0, none⟩)), (4, .pointer (some ⟨b25, 0, none⟩)), (3, .pointer (some ⟨kb, 0, none⟩)), (21, .slice (some ⟨sb51, k052, none⟩) ops.length c), (22, .int .i64 ((ops.length : Nat) : Int)), (23, .int .i64 i), (7, .pointer (some ⟨kb2, 0, none⟩)), (11, .bool (decide (x.ev.arg < 16))), (63, .int .u8 x.ev.kind), (95, .bool false), (12, .slice o518 bs.length c519), (13, .int .u64 wd), (14, .slice o531 0 c532), (15, .int .u64 0), (119, .bool true), (133, .bool false), (134, .pointer (some ⟨kb, 0, none⟩)), (135, .agg #[.int .u16 ((refP C.ent S.cur).idx), .int .u32 ((refP C.ent S.cur).gen)])]) rfl
          clear h544
          refine nd_batch tabOk tabZ_ok [(20, {f := 1}), (21, {}), (22, {})] [10, 9, 8, 6, 4, 3, 21, 22, 23, 7, 11, 63, 95, 12, 13, 14, 15, 139] (T' := [(10, .pointer (some ⟨b478, 0, none⟩)), (9, .pointer (some ⟨b97, 0, none⟩)), (8, .pointer (some ⟨b83, 0, none⟩)), (6, .pointer (some ⟨b60, 0, none⟩)), (4, .pointer (some ⟨b25, 0, none⟩)), (3, .pointer (some ⟨kb, 0, none⟩)), (21, .slice (some ⟨sb51, k052, none⟩) ops.length c), (22, .int .i64 ((ops.length : Nat) : Int)), (23, .int .i64 i), (7, .pointer (some ⟨kb2, 0, none⟩)), (11, .bool (decide (x.ev.arg < 16))), (63, .int .u8 x.ev.kind), (95, .bool false), (12, .slice o518 bs.length c519), (13, .int .u64 wd), (14, .slice o531 0 c532), (15, .int .u64 0), (139, .bool false)]) (φ := (((threadP Sz Cz.ent (refP C.ent S.cur)).1.st == 5)) = false ∧ True) (rest := []) h546 (by kernel_rfl) rfl ⟨(by simpa using hst5), trivial⟩ fun a548 h549 => ?_
          clear h546
          refine nd_done ?_
          refine hK542 _ _ ?_
          clear hK542
          refine c_false h549 rfl ?_
          refine wp_skip ?_
          refine hK541 _ _ ?_
          clear hK541
          refine wp_seq_k fun K550 hK550 => ?_
          refine dr_start (KB := [b25, b60, b83, b97, b478]) (Bi := [[0, 1, 2, 3, 4], [0, 1, 2, 3, 4], [0, 1, 2, 3, 4], [0, 1, 2, 3, 4], [0, 1, 2, 3, 4], [0], [0, 1, 2, 3, 4], [0, 1, 2, 3, 4], [], [], [0, 1, 2, 3, 4], [0, 1, 2, 3, 4]]) mixed h549 fun w551 h552 => ?_
          clear h549
          refine dr_batch tabOk tabZ_ok (by repeat (first | with_reducible exact PF.body | with_reducible apply PF.inB | with_reducible apply PF.next)) [(0, {}), (1, {f := 1}), (2, {}), (3, {}), (4, {}), (6, {k := 0, p := 0})] [10, 9, 8, 6, 4, 3, 21, 22, 23, 7, 11, 63, 95, 12, 13, 14, 15, 142, 143, 144, 146] (T' := [(10, .pointer (some ⟨b478, 0, none⟩)), (9, .pointer (some ⟨b97, 0, none⟩)), (8, .pointer (some ⟨b83, 0, none⟩)), (6, .pointer (some ⟨b60, 0, none⟩)), (4, .pointer (some ⟨b25, 0, none⟩)), (3, .pointer (some ⟨kb, 0, none⟩)), (21, .slice (some ⟨sb51, k052, none⟩) ops.length c), (22, .int .i64 ((ops.length : Nat) : Int)), (23, .int .i64 i), (7, .pointer (some ⟨kb2, 0, none⟩)), (11, .bool (decide (x.ev.arg < 16))), (63, .int .u8 x.ev.kind), (95, .bool false), (12, .slice o518 bs.length c519), (13, .int .u64 wd), (14, .slice o531 0 c532), (15, .int .u64 0), (142, .bool false), (143, .tuple #[]), (144, .tuple #[]), (146, .tuple #[])]) (φ := ((wd == 0)) = false ∧ True) (fuel := 6) h552 (by kernel_rfl) rfl (by kernel_rfl) (by kernel_rfl) ⟨trivial, trivial, trivial, trivial, trivial, rfl, trivial⟩ ⟨(by simp [hw0]), trivial⟩ fun a554 h555 => ?_
          clear h552
          refine dr_batch tabOk tabZ_ok (by repeat (first | with_reducible exact PF.body | with_reducible apply PF.inB | with_reducible apply PF.next)) [(5, {})] [10, 9, 8, 6, 4, 3, 21, 22, 23, 7, 11, 63, 95, 12, 13, 14, 15, 142, 143, 146, 145] (T' := [(10, .pointer (some ⟨b478, 0, none⟩)), (9, .pointer (some ⟨b97, 0, none⟩)), (8, .pointer (some ⟨b83, 0, none⟩)), (6, .pointer (some ⟨b60, 0, none⟩)), (4, .pointer (some ⟨b25, 0, none⟩)), (3, .pointer (some ⟨kb, 0, none⟩)), (21, .slice (some ⟨sb51, k052, none⟩) ops.length c), (22, .int .i64 ((ops.length : Nat) : Int)), (23, .int .i64 i), (7, .pointer (some ⟨kb2, 0, none⟩)), (11, .bool (decide (x.ev.arg < 16))), (63, .int .u8 x.ev.kind), (95, .bool false), (12, .slice o518 bs.length c519), (13, .int .u64 wd), (14, .slice o531 0 c532), (15, .int .u64 0), (142, .bool false), (143, .tuple #[]), (146, .tuple #[]), (145, .tuple #[])]) (φ := True) (fuel := 5) h555 (by kernel_rfl) rfl (by kernel_rfl) (by kernel_rfl) ⟨trivial, trivial⟩ trivial fun a556 h557 => ?_
          clear h555
          refine dr_batch tabOk tabZ_ok (by repeat (first | with_reducible exact PF.body | with_reducible apply PF.inB | with_reducible apply PF.next)) [(7, {})] [10, 9, 8, 6, 4, 3, 21, 22, 23, 7, 11, 63, 95, 12, 13, 14, 15, 142, 143, 145, 147] (T' := [(10, .pointer (some ⟨b478, 0, none⟩)), (9, .pointer (some ⟨b97, 0, none⟩)), (8, .pointer (some ⟨b83, 0, none⟩)), (6, .pointer (some ⟨b60, 0, none⟩)), (4, .pointer (some ⟨b25, 0, none⟩)), (3, .pointer (some ⟨kb, 0, none⟩)), (21, .slice (some ⟨sb51, k052, none⟩) ops.length c), (22, .int .i64 ((ops.length : Nat) : Int)), (23, .int .i64 i), (7, .pointer (some ⟨kb2, 0, none⟩)), (11, .bool (decide (x.ev.arg < 16))), (63, .int .u8 x.ev.kind), (95, .bool false), (12, .slice o518 bs.length c519), (13, .int .u64 wd), (14, .slice o531 0 c532), (15, .int .u64 0), (142, .bool false), (143, .tuple #[]), (145, .tuple #[]), (147, .tuple #[])]) (φ := True) (fuel := 4) h557 (by kernel_rfl) rfl (by kernel_rfl) (by kernel_rfl) ⟨trivial, trivial⟩ trivial fun a558 h559 => ?_
          clear h557
          refine dr_batch tabOk tabZ_ok (by repeat (first | with_reducible exact PF.body | with_reducible apply PF.inB | with_reducible apply PF.next)) [(8, {})] [10, 9, 8, 6, 4, 3, 21, 22, 23, 7, 11, 63, 95, 12, 13, 14, 15, 142, 143, 148] (T' := [(10, .pointer (some ⟨b478, 0, none⟩)), (9, .pointer (some ⟨b97, 0, none⟩)), (8, .pointer (some ⟨b83, 0, none⟩)), (6, .pointer (some ⟨b60, 0, none⟩)), (4, .pointer (some ⟨b25, 0, none⟩)), (3, .pointer (some ⟨kb, 0, none⟩)), (21, .slice (some ⟨sb51, k052, none⟩) ops.length c), (22, .int .i64 ((ops.length : Nat) : Int)), (23, .int .i64 i), (7, .pointer (some ⟨kb2, 0, none⟩)), (11, .bool (decide (x.ev.arg < 16))), (63, .int .u8 x.ev.kind), (95, .bool false), (12, .slice o518 bs.length c519), (13, .int .u64 wd), (14, .slice o531 0 c532), (15, .int .u64 0), (142, .bool false), (143, .tuple #[]), (148, .tuple #[])]) (φ := True) (fuel := 3) h559 (by kernel_rfl) rfl (by kernel_rfl) (by kernel_rfl) ⟨trivial, trivial⟩ trivial fun a560 h561 => ?_
          clear h559
          refine dr_batch tabOk tabZ_ok (by repeat (first | with_reducible exact PF.body | with_reducible apply PF.inB | with_reducible apply PF.next)) [(9, {})] [10, 9, 8, 6, 4, 3, 21, 22, 23, 7, 11, 63, 95, 12, 13, 14, 15, 142, 149] (T' := [(10, .pointer (some ⟨b478, 0, none⟩)), (9, .pointer (some ⟨b97, 0, none⟩)), (8, .pointer (some ⟨b83, 0, none⟩)), (6, .pointer (some ⟨b60, 0, none⟩)), (4, .pointer (some ⟨b25, 0, none⟩)), (3, .pointer (some ⟨kb, 0, none⟩)), (21, .slice (some ⟨sb51, k052, none⟩) ops.length c), (22, .int .i64 ((ops.length : Nat) : Int)), (23, .int .i64 i), (7, .pointer (some ⟨kb2, 0, none⟩)), (11, .bool (decide (x.ev.arg < 16))), (63, .int .u8 x.ev.kind), (95, .bool false), (12, .slice o518 bs.length c519), (13, .int .u64 wd), (14, .slice o531 0 c532), (15, .int .u64 0), (142, .bool false), (149, .tuple #[])]) (φ := True) (fuel := 2) h561 (by kernel_rfl) rfl (by kernel_rfl) (by kernel_rfl) ⟨trivial, trivial⟩ trivial fun a562 h563 => ?_
          clear h561
          refine dr_batch tabOk tabZ_ok (by repeat (first | with_reducible exact PF.body | with_reducible apply PF.inB | with_reducible apply PF.next)) [(10, {}), (11, {})] [10, 9, 8, 6, 4, 3, 21, 22, 23, 7, 11, 63, 95, 12, 13, 14, 15, 151] (T' := [(10, .pointer (some ⟨b478, 0, none⟩)), (9, .pointer (some ⟨b97, 0, none⟩)), (8, .pointer (some ⟨b83, 0, none⟩)), (6, .pointer (some ⟨b60, 0, none⟩)), (4, .pointer (some ⟨b25, 0, none⟩)), (3, .pointer (some ⟨kb, 0, none⟩)), (21, .slice (some ⟨sb51, k052, none⟩) ops.length c), (22, .int .i64 ((ops.length : Nat) : Int)), (23, .int .i64 i), (7, .pointer (some ⟨kb2, 0, none⟩)), (11, .bool (decide (x.ev.arg < 16))), (63, .int .u8 x.ev.kind), (95, .bool false), (12, .slice o518 bs.length c519), (13, .int .u64 wd), (14, .slice o531 0 c532), (15, .int .u64 0), (151, .bool false)]) (φ := True) (fuel := 0) h563 (by kernel_rfl) rfl (by kernel_rfl) (by kernel_rfl) ⟨trivial, trivial, trivial⟩ trivial fun a564 h565 => ?_
          clear h563
          refine wpAnyK_done (by kernel_rfl) ?_ _
          refine hK550 _ _ ?_
          clear hK550
          refine c_false h565 rfl ?_
          refine wp_skip ?_
          refine hK493 _ _ ?_
          clear hK493
          refine wp_seq_k fun K566 hK566 => ?_
          refine nd_start (l := [0]) rfl ?_
          refine nd_batch tabOk tabZ_ok [(0, {})] [10, 9, 8, 6, 4, 3, 21, 22, 23, 7, 11, 63, 95, 12, 13, 14, 15, 152] (T' := [(10, .pointer (some ⟨b478, 0, none⟩)), (9, .pointer (some ⟨b97, 0, none⟩)), (8, .pointer (some ⟨b83, 0, none⟩)), (6, .pointer (some ⟨b60, 0, none⟩)), (4, .pointer (some ⟨b25, 0, none⟩)), (3, .pointer (some ⟨kb, 0, none⟩)), (21, .slice (some ⟨sb51, k052, none⟩) ops.length c), (22, .int .i64 ((ops.length : Nat) : Int)), (23, .int .i64 i), (7, .pointer (some ⟨kb2, 0, none⟩)), (11, .bool (decide (x.ev.arg < 16))), (63, .int .u8 x.ev.kind), (95, .bool false), (12, .slice o518 bs.length c519), (13, .int .u64 wd), (14, .slice o531 0 c532), (15, .int .u64 0), (152, .int .i64 0)]) (φ := True) (rest := []) h565 (by kernel_rfl) rfl trivial fun a567 h568 => ?_
          clear h565
          refine nd_done ?_
          refine hK566 _ _ ?_
          clear hK566
          refine wp_block ?_
          have h569 := h568.memMono (L' := [(b25, ⟨mkC M, 68, false⟩)]) (List.Sublist.cons_cons _ (List.Sublist.cons _ (List.Sublist.cons _ (List.Sublist.cons _ (List.Sublist.cons _ List.Sublist.slnil)))))
          clear h568
          have h570 := h569.pcSub (ps' := [pKer kb bo bc nd9 Sz Cz]) (List.Sublist.cons_cons _ (List.Sublist.cons _ (List.Sublist.cons _ (List.Sublist.cons _ List.Sublist.slnil))))
          clear h569
          refine wp_loop_ghost (fun g2 ga gw => ∃ (l : Int), ((g2 : Int) = 16 - l) ∧ (0 ≤ l ∧ l ≤ 16) ∧ St ⟨165, [], w, Pk w.heap.size [pKer kb bo bc nd9 Sz Cz], Pf [pKer kb bo bc nd9 Sz Cz]⟩ [(4, .pointer (some ⟨b25, 0, none⟩)), (3, .pointer (some ⟨kb, 0, none⟩)), (21, .slice (some ⟨sb51, k052, none⟩) ops.length c), (22, .int .i64 ((ops.length : Nat) : Int)), (23, .int .i64 i), (152, .int .i64 l)] [(b25, ⟨mkC M, 68, false⟩)] ga gw) 16 ⟨0, by decide, ⟨by decide, by decide⟩, (h570.slotsMono (restr_spec (keep := [4, 3, 21, 22, 23, 152]) rfl))⟩ ?_
          clear h570
          rintro g2 a571 w572 ⟨l, hi574, hi575, h573⟩
          have hlg := hi574
          have hl0 := hi575
          refine wp_seq_k fun K576 hK576 => ?_
          refine nd_start (l := [0]) rfl ?_
          refine nd_batch tabOk tabZ_ok [(0, {})] [4, 3, 21, 22, 23, 152, 153] (T' := [(4, .pointer (some ⟨b25, 0, none⟩)), (3, .pointer (some ⟨kb, 0, none⟩)), (21, .slice (some ⟨sb51, k052, none⟩) ops.length c), (22, .int .i64 ((ops.length : Nat) : Int)), (23, .int .i64 i), (152, .int .i64 l), (153, .bool (decide (l < 16)))]) (φ := True) (rest := []) h573 (by kernel_rfl) rfl trivial fun a577 h578 => ?_
          clear h573
          refine nd_done ?_
          refine hK576 _ _ ?_
          clear hK576
          refine wp_seq_k fun K579 hK579 => ?_
          refine c_split h578 (b := decide (l < 16)) rfl (fun hc580 => ?_) (fun hc580 => ?_)
          ·
            have hc580f : l < 16 := by simpa using hc580
            refine wp_skip ?_
            refine hK579 _ _ ?_
            clear hK579
            refine wp_seq_k fun K581 hK581 => ?_
            refine wp_block ?_
            refine wp_seq_k fun K582 hK582 => ?_
            refine nd_start (l := [0, 1]) rfl ?_
            refine nd_batch tabOk tabZ_ok [(0, {}), (1, {})] [4, 3, 21, 22, 23, 152, 16] (T' := [(4, .pointer (some ⟨b25, 0, none⟩)), (3, .pointer (some ⟨kb, 0, none⟩)), (21, .slice (some ⟨sb51, k052, none⟩) ops.length c), (22, .int .i64 ((ops.length : Nat) : Int)), (23, .int .i64 i), (152, .int .i64 l), (16, .int .i64 l)]) (φ := True) (rest := []) h578 (by kernel_rfl) rfl trivial fun a583 h584 => ?_
            clear h578
            refine nd_done ?_
            refine hK582 _ _ ?_
            clear hK582
            refine wp_seq_k fun K585 hK585 => ?_
            refine dr_start (KB := [b25]) (Bi := [[0], [0], [0], [0], [0], [0], [0], [0]]) mixed h584 fun w586 h587 => ?_
            clear h584
            refine dr_batch tabOk tabZ_ok (by repeat (first | with_reducible exact PF.body | with_reducible apply PF.inB | with_reducible apply PF.next)) [(0, {}), (1, {}), (4, {}), (5, {}), (6, {k := 0, m := 1, vs := [.bool (M l.toNat)], p := 0})] [4, 3, 21, 22, 23, 152, 16, 155, 156, 161] (T' := [(4, .pointer (some ⟨b25, 0, none⟩)), (3, .pointer (some ⟨kb, 0, none⟩)), (21, .slice (some ⟨sb51, k052, none⟩) ops.length c), (22, .int .i64 ((ops.length : Nat) : Int)), (23, .int .i64 i), (152, .int .i64 l), (16, .int .i64 l), (155, .pointer (some ⟨kb, 0, none⟩)), (156, .int .i64 l), (161, .bool (M l.toNat))]) (φ := (0 ≤ l ∧ l < 16) ∧ (b25 = b25 ∧ cellsAre (mkC M) (0 + (l.toNat * 1)) [.bool (M l.toNat)]) ∧ True) (fuel := 3) h587 (by kernel_rfl) rfl (by kernel_rfl) (by kernel_rfl) ⟨trivial, trivial, trivial, trivial, rfl, trivial⟩ ⟨⟨by omega, by omega⟩, ⟨rfl, (mk_read (i := l.toNat) (by omega) (by omega) rfl)⟩, trivial⟩ fun a589 h590 => ?_
            clear h587
            refine wpAnyK_one (i := 2) (fuel := 2) (by kernel_rfl) ?_
            refine op_call h590 rfl rfl rfl (callOk Tryd.func33 (by decide) rfl) (args := [.pointer (some ⟨kb, 0, none⟩), .int .i64 l]) rfl (irq_ok kb bo bc Sz l ⟨by omega, by omega⟩ _ (h590.inv.get (j := 0) (p := pKer kb bo bc nd9 Sz Cz) rfl).ker) ?_
            rintro _ w591 ⟨rfl, hf593⟩
            refine ⟨_, rfl, ?_⟩
            have h592 := (h590.grow hf593).put (d := some 157) (v := .agg #[.int .u16 ((Sz.irq l.toNat).ntfn.idx), .int .u32 ((Sz.irq l.toNat).ntfn.gen), .int .u64 ((Sz.irq l.toNat).badge), .bool ((Sz.irq l.toNat).masked)]) (T' := [(157, .agg #[.int .u16 ((Sz.irq l.toNat).ntfn.idx), .int .u32 ((Sz.irq l.toNat).ntfn.gen), .int .u64 ((Sz.irq l.toNat).badge), .bool ((Sz.irq l.toNat).masked)]), (4, .pointer (some ⟨b25, 0, none⟩)), (3, .pointer (some ⟨kb, 0, none⟩)), (21, .slice (some ⟨sb51, k052, none⟩) ops.length c), (22, .int .i64 ((ops.length : Nat) : Int)), (23, .int .i64 i), (152, .int .i64 l), (16, .int .i64 l), (155, .pointer (some ⟨kb, 0, none⟩)), (156, .int .i64 l), (161, .bool (M l.toNat))]) rfl
            refine ⟨(h590.keepFr hf593 (kcons (by simp) knil)), ?_⟩
            clear h590
            refine dr_batch tabOk tabZ_ok (by repeat (first | with_reducible exact PF.body | with_reducible apply PF.inB | with_reducible apply PF.next)) [(3, {}), (7, {f := 1})] [4, 3, 21, 22, 23, 152, 16, 162] (T' := [(4, .pointer (some ⟨b25, 0, none⟩)), (3, .pointer (some ⟨kb, 0, none⟩)), (21, .slice (some ⟨sb51, k052, none⟩) ops.length c), (22, .int .i64 ((ops.length : Nat) : Int)), (23, .int .i64 i), (152, .int .i64 l), (16, .int .i64 l), (162, .bool false)]) (φ := ((((Sz.irq l.toNat).masked) != (M l.toNat))) = false ∧ True) (fuel := 0) h592 (by kernel_rfl) rfl (by kernel_rfl) (by kernel_rfl) ⟨trivial, trivial, trivial⟩ ⟨(by rw [hmz]; simp), trivial⟩ fun a594 h595 => ?_
            clear h592
            refine wpAnyK_done (by kernel_rfl) ?_ _
            refine hK585 _ _ ?_
            clear hK585
            refine c_false h595 rfl ?_
            refine wp_skip ?_
            refine hK581 _ _ ?_
            clear hK581
            refine nd_start (l := [0, 1]) rfl ?_
            refine nd_batch tabOk tabZ_ok [(0, {}), (1, {})] [4, 3, 21, 22, 23, 16, 152] (T' := [(4, .pointer (some ⟨b25, 0, none⟩)), (3, .pointer (some ⟨kb, 0, none⟩)), (21, .slice (some ⟨sb51, k052, none⟩) ops.length c), (22, .int .i64 ((ops.length : Nat) : Int)), (23, .int .i64 i), (16, .int .i64 l), (152, .int .i64 (l + 1))]) (φ := inR .i64 (l + 1) ∧ True) (rest := []) h595 (by kernel_rfl) rfl ⟨⟨by omega, by omega⟩, trivial⟩ fun a596 h597 => ?_
            clear h595
            refine nd_done ?_
            exact ⟨(g2 - 1), by omega, (l + 1), by omega, ⟨by omega, by omega⟩, (h597.slotsMono (restr_spec (keep := [4, 3, 21, 22, 23, 152]) rfl))⟩
          ·
            have hc580f : ¬ l < 16 := by simpa using hc580
            refine wp_exit ?_
            refine hK55 _ _ ?_
            clear hK55
            refine nd_start (l := [0, 1]) rfl ?_
            refine nd_batch tabOk tabZ_ok [(0, {}), (1, {})] [4, 3, 21, 22, 152, 23] (T' := [(4, .pointer (some ⟨b25, 0, none⟩)), (3, .pointer (some ⟨kb, 0, none⟩)), (21, .slice (some ⟨sb51, k052, none⟩) ops.length c), (22, .int .i64 ((ops.length : Nat) : Int)), (152, .int .i64 l), (23, .int .i64 (i + 1))]) (φ := inR .i64 (i + 1) ∧ True) (rest := []) h578 (by kernel_rfl) rfl ⟨⟨by omega, by omega⟩, trivial⟩ fun a598 h599 => ?_
            clear h578
            refine nd_done ?_
            exact ⟨(g - 1), by omega, nd9, Sz, Cz, Qz, M, (i + 1), by omega, ⟨by omega, by omega⟩, hivz.1, hivz.2, hXz, hN.liq, hmz, (h599.slotsMono (restr_spec (keep := [4, 3, 21, 22, 23]) rfl))⟩
        ·
          subst hus hw0
          have hmz : ∀ l, (Sz.irq l).masked = M l := fun l => by rw [hN.msk, hmf]; unfold maskP; rw [if_neg (fun h => h hc), if_neg (by omega), if_neg (by omega)]
          refine nd_op ?_
          refine op_new tabOk (cells := [.int .u8 0, .int .u16 0, .int .u32 0, .int .u64 0, .int .u64 0, .int .u64 0, .int .u64 0, .int .u64 0, .int .u8 0, .int .u8 0]) (ty := 42) (ln := none) (L1 := fun b600 => [(b25, ⟨mkC M, 68, false⟩), (b60, ⟨[.int .u8 x.ev.kind, .int .u32 x.ev.pick, .int .u64 x.ev.draw, .int .u32 x.ev.addr, .int .u32 x.ev.node, .int .u32 x.ev.dst, .int .u32 x.ev.xfer, .int .u8 x.ev.ty, .int .u64 x.ev.arg, .int .u64 x.ev.badge, .slice x.xo x.ev.ws.length x.cx], 35, false⟩), (b83, ⟨[.int .u16 ((refP C.ent S.cur).idx), .int .u32 ((refP C.ent S.cur).gen)], 39, false⟩), (b97, ⟨[.int .u8 ((capAtP S C (refP C.ent S.cur) x.ev.addr).ty), .int .u16 ((capAtP S C (refP C.ent S.cur) x.ev.addr).obj.idx), .int .u32 ((capAtP S C (refP C.ent S.cur) x.ev.addr).obj.gen), .int .u8 ((capAtP S C (refP C.ent S.cur) x.ev.addr).rights), .int .u64 ((capAtP S C (refP C.ent S.cur) x.ev.addr).badge)], 49, false⟩), (b600, ⟨[.int .u8 0, .int .u16 0, .int .u32 0, .int .u64 0, .int .u64 0, .int .u64 0, .int .u64 0, .int .u64 0, .int .u8 0, .int .u8 0], 42, false⟩)]) h110 rfl rfl rfl rfl (by kernel_rfl) (fun _ => rfl) fun b600 w601 a602 h603 hf604 hn605 => ?_
          clear h110
          refine nd_op ?_
          refine op_store tabOk {k := 4} (L' := [(b25, ⟨mkC M, 68, false⟩), (b60, ⟨[.int .u8 x.ev.kind, .int .u32 x.ev.pick, .int .u64 x.ev.draw, .int .u32 x.ev.addr, .int .u32 x.ev.node, .int .u32 x.ev.dst, .int .u32 x.ev.xfer, .int .u8 x.ev.ty, .int .u64 x.ev.arg, .int .u64 x.ev.badge, .slice x.xo x.ev.ws.length x.cx], 35, false⟩), (b83, ⟨[.int .u16 ((refP C.ent S.cur).idx), .int .u32 ((refP C.ent S.cur).gen)], 39, false⟩), (b97, ⟨[.int .u8 ((capAtP S C (refP C.ent S.cur) x.ev.addr).ty), .int .u16 ((capAtP S C (refP C.ent S.cur) x.ev.addr).obj.idx), .int .u32 ((capAtP S C (refP C.ent S.cur) x.ev.addr).obj.gen), .int .u8 ((capAtP S C (refP C.ent S.cur) x.ev.addr).rights), .int .u64 ((capAtP S C (refP C.ent S.cur) x.ev.addr).badge)], 49, false⟩), (b600, ⟨[.int .u8 oz.code, .int .u16 oz.run.idx, .int .u32 oz.run.gen, .int .u64 oz.badge, .int .u64 oz.m0, .int .u64 oz.m1, .int .u64 oz.m2, .int .u64 oz.m3, .int .u8 oz.len, .int .u8 oz.got], 42, false⟩)]) (φ := b600 = b600 ∧ Nat.ble (0 + 10) 10 = true) h603 rfl rfl rfl (by kernel_rfl) ⟨rfl, rfl⟩ fun w606 h607 => ?_
          clear h603
          refine nd_done ?_
          refine hK105 _ _ ?_
          clear hK105
          refine wp_seq_k fun K608 hK608 => ?_
          refine nd_start (l := [0, 1, 2, 3]) rfl ?_
          refine nd_batch tabOk tabZ_ok [(0, {}), (1, {k := 1}), (2, {}), (3, {})] [10, 9, 8, 6, 4, 3, 21, 22, 23, 7, 11] (T' := [(10, .pointer (some ⟨b600, 0, none⟩)), (9, .pointer (some ⟨b97, 0, none⟩)), (8, .pointer (some ⟨b83, 0, none⟩)), (6, .pointer (some ⟨b60, 0, none⟩)), (4, .pointer (some ⟨b25, 0, none⟩)), (3, .pointer (some ⟨kb, 0, none⟩)), (21, .slice (some ⟨sb51, k052, none⟩) ops.length c), (22, .int .i64 ((ops.length : Nat) : Int)), (23, .int .i64 i), (7, .pointer (some ⟨kb2, 0, none⟩)), (11, .bool (decide (x.ev.arg < 16)))]) (φ := (b60 = b60 ∧ Nat.ble (8 + 1) 11 = true) ∧ True) (rest := []) h607 (by kernel_rfl) rfl ⟨⟨rfl, rfl⟩, trivial⟩ fun a609 h610 => ?_
          clear h607
          refine nd_done ?_
          refine hK608 _ _ ?_
          clear hK608
          refine wp_seq_k fun K611 hK611 => ?_
          refine wp_seq_k fun K612 hK612 => ?_
          refine nd_start (l := [0, 1, 2, 3, 4, 5, 6, 7, 8, 9, 10, 11, 12, 13, 14, 15, 16]) rfl ?_
          refine nd_batch tabOk tabZ_ok [(0, {}), (1, {k := 1}), (2, {f := 1}), (3, {}), (4, {}), (5, {}), (6, {}), (7, {}), (8, {}), (9, {}), (10, {}), (11, {}), (12, {}), (13, {}), (14, {}), (15, {}), (16, {})] [10, 9, 8, 6, 4, 3, 21, 22, 23, 7, 11, 58] (T' := [(10, .pointer (some ⟨b600, 0, none⟩)), (9, .pointer (some ⟨b97, 0, none⟩)), (8, .pointer (some ⟨b83, 0, none⟩)), (6, .pointer (some ⟨b60, 0, none⟩)), (4, .pointer (some ⟨b25, 0, none⟩)), (3, .pointer (some ⟨kb, 0, none⟩)), (21, .slice (some ⟨sb51, k052, none⟩) ops.length c), (22, .int .i64 ((ops.length : Nat) : Int)), (23, .int .i64 i), (7, .pointer (some ⟨kb2, 0, none⟩)), (11, .bool (decide (x.ev.arg < 16))), (58, .bool false)]) (φ := (b60 = b60 ∧ Nat.ble (0 + 1) 11 = true) ∧ ((x.ev.kind == 1)) = false ∧ True) (rest := []) h610 (by kernel_rfl) rfl ⟨⟨rfl, rfl⟩, (by simp [hk]), trivial⟩ fun a613 h614 => ?_
          clear h610
          refine nd_done ?_
          refine hK612 _ _ ?_
          clear hK612
          refine c_false h614 rfl ?_
          refine wp_skip ?_
          refine hK611 _ _ ?_
          clear hK611
          refine wp_seq_k fun K615 hK615 => ?_
          refine wp_seq_k fun K616 hK616 => ?_
          refine nd_start (l := [0, 1, 2]) rfl ?_
          refine nd_batch tabOk tabZ_ok [(0, {}), (1, {k := 4}), (2, {f := 2})] [10, 9, 8, 6, 4, 3, 21, 22, 23, 7, 11, 61] (T' := [(10, .pointer (some ⟨b600, 0, none⟩)), (9, .pointer (some ⟨b97, 0, none⟩)), (8, .pointer (some ⟨b83, 0, none⟩)), (6, .pointer (some ⟨b60, 0, none⟩)), (4, .pointer (some ⟨b25, 0, none⟩)), (3, .pointer (some ⟨kb, 0, none⟩)), (21, .slice (some ⟨sb51, k052, none⟩) ops.length c), (22, .int .i64 ((ops.length : Nat) : Int)), (23, .int .i64 i), (7, .pointer (some ⟨kb2, 0, none⟩)), (11, .bool (decide (x.ev.arg < 16))), (61, .bool true)]) (φ := (b600 = b600 ∧ Nat.ble (0 + 1) 10 = true) ∧ ((oz.code == 0)) = true ∧ True) (rest := []) h614 (by kernel_rfl) rfl ⟨⟨rfl, rfl⟩, (by simp [hc]), trivial⟩ fun a617 h618 => ?_
          clear h614
          refine nd_done ?_
          refine hK616 _ _ ?_
          clear hK616
          refine c_true h618 rfl ?_
          refine wp_seq_k fun K619 hK619 => ?_
          refine nd_start (l := [0, 1]) rfl ?_
          refine nd_batch tabOk tabZ_ok [(0, {}), (1, {k := 1})] [10, 9, 8, 6, 4, 3, 21, 22, 23, 7, 11, 63] (T' := [(10, .pointer (some ⟨b600, 0, none⟩)), (9, .pointer (some ⟨b97, 0, none⟩)), (8, .pointer (some ⟨b83, 0, none⟩)), (6, .pointer (some ⟨b60, 0, none⟩)), (4, .pointer (some ⟨b25, 0, none⟩)), (3, .pointer (some ⟨kb, 0, none⟩)), (21, .slice (some ⟨sb51, k052, none⟩) ops.length c), (22, .int .i64 ((ops.length : Nat) : Int)), (23, .int .i64 i), (7, .pointer (some ⟨kb2, 0, none⟩)), (11, .bool (decide (x.ev.arg < 16))), (63, .int .u8 x.ev.kind)]) (φ := (b60 = b60 ∧ Nat.ble (0 + 1) 11 = true) ∧ True) (rest := []) h618 (by kernel_rfl) rfl ⟨⟨rfl, rfl⟩, trivial⟩ fun a620 h621 => ?_
          clear h618
          refine nd_done ?_
          refine hK619 _ _ ?_
          clear hK619
          refine wp_block ?_
          refine wp_seq_k fun K622 hK622 => ?_
          refine nd_start (l := [0, 1]) rfl ?_
          refine nd_batch tabOk tabZ_ok [(0, {f := 1}), (1, {})] [10, 9, 8, 6, 4, 3, 21, 22, 23, 7, 11, 63, 64] (T' := [(10, .pointer (some ⟨b600, 0, none⟩)), (9, .pointer (some ⟨b97, 0, none⟩)), (8, .pointer (some ⟨b83, 0, none⟩)), (6, .pointer (some ⟨b60, 0, none⟩)), (4, .pointer (some ⟨b25, 0, none⟩)), (3, .pointer (some ⟨kb, 0, none⟩)), (21, .slice (some ⟨sb51, k052, none⟩) ops.length c), (22, .int .i64 ((ops.length : Nat) : Int)), (23, .int .i64 i), (7, .pointer (some ⟨kb2, 0, none⟩)), (11, .bool (decide (x.ev.arg < 16))), (63, .int .u8 x.ev.kind), (64, .bool false)]) (φ := ((x.ev.kind == 8)) = false ∧ True) (rest := []) h621 (by kernel_rfl) rfl ⟨(by simp [hk]), trivial⟩ fun a623 h624 => ?_
          clear h621
          refine nd_done ?_
          refine hK622 _ _ ?_
          clear hK622
          refine c_false h624 rfl ?_
          refine wp_seq_k fun K625 hK625 => ?_
          refine nd_start (l := [0, 1]) rfl ?_
          refine nd_batch tabOk tabZ_ok [(0, {f := 1}), (1, {})] [10, 9, 8, 6, 4, 3, 21, 22, 23, 7, 11, 63, 74] (T' := [(10, .pointer (some ⟨b600, 0, none⟩)), (9, .pointer (some ⟨b97, 0, none⟩)), (8, .pointer (some ⟨b83, 0, none⟩)), (6, .pointer (some ⟨b60, 0, none⟩)), (4, .pointer (some ⟨b25, 0, none⟩)), (3, .pointer (some ⟨kb, 0, none⟩)), (21, .slice (some ⟨sb51, k052, none⟩) ops.length c), (22, .int .i64 ((ops.length : Nat) : Int)), (23, .int .i64 i), (7, .pointer (some ⟨kb2, 0, none⟩)), (11, .bool (decide (x.ev.arg < 16))), (63, .int .u8 x.ev.kind), (74, .bool false)]) (φ := ((x.ev.kind == 1)) = false ∧ True) (rest := []) h624 (by kernel_rfl) rfl ⟨(by simp [hk]), trivial⟩ fun a626 h627 => ?_
          clear h624
          refine nd_done ?_
          refine hK625 _ _ ?_
          clear hK625
          refine c_false h627 rfl ?_
          refine wp_seq_k fun K628 hK628 => ?_
          refine wp_seq_k fun K629 hK629 => ?_
          refine nd_start (l := [0, 1]) rfl ?_
          refine nd_batch tabOk tabZ_ok [(0, {f := 1}), (1, {})] [10, 9, 8, 6, 4, 3, 21, 22, 23, 7, 11, 63, 95] (T' := [(10, .pointer (some ⟨b600, 0, none⟩)), (9, .pointer (some ⟨b97, 0, none⟩)), (8, .pointer (some ⟨b83, 0, none⟩)), (6, .pointer (some ⟨b60, 0, none⟩)), (4, .pointer (some ⟨b25, 0, none⟩)), (3, .pointer (some ⟨kb, 0, none⟩)), (21, .slice (some ⟨sb51, k052, none⟩) ops.length c), (22, .int .i64 ((ops.length : Nat) : Int)), (23, .int .i64 i), (7, .pointer (some ⟨kb2, 0, none⟩)), (11, .bool (decide (x.ev.arg < 16))), (63, .int .u8 x.ev.kind), (95, .bool false)]) (φ := ((x.ev.kind == 19)) = false ∧ True) (rest := []) h627 (by kernel_rfl) rfl ⟨(by simp [hk]), trivial⟩ fun a630 h631 => ?_
          clear h627
          refine nd_done ?_
          refine hK629 _ _ ?_
          clear hK629
          refine c_false h631 rfl ?_
          refine nd_start (l := [0, 1]) rfl ?_
          refine nd_batch tabOk tabZ_ok [(0, {f := 1}), (1, {})] [10, 9, 8, 6, 4, 3, 21, 22, 23, 7, 11, 63, 95] (T' := [(10, .pointer (some ⟨b600, 0, none⟩)), (9, .pointer (some ⟨b97, 0, none⟩)), (8, .pointer (some ⟨b83, 0, none⟩)), (6, .pointer (some ⟨b60, 0, none⟩)), (4, .pointer (some ⟨b25, 0, none⟩)), (3, .pointer (some ⟨kb, 0, none⟩)), (21, .slice (some ⟨sb51, k052, none⟩) ops.length c), (22, .int .i64 ((ops.length : Nat) : Int)), (23, .int .i64 i), (7, .pointer (some ⟨kb2, 0, none⟩)), (11, .bool (decide (x.ev.arg < 16))), (63, .int .u8 x.ev.kind), (95, .bool false)]) (φ := ((x.ev.kind == 18)) = false ∧ True) (rest := []) h631 (by kernel_rfl) rfl ⟨(by simp [hk]), trivial⟩ fun a632 h633 => ?_
          clear h631
          refine nd_done ?_
          refine hK628 _ _ ?_
          clear hK628
          refine c_false h633 rfl ?_
          refine wp_seq_k fun K634 hK634 => ?_
          refine nd_start (l := [0, 1]) rfl ?_
          refine nd_batch tabOk tabZ_ok [(0, {f := 2}), (1, {})] [10, 9, 8, 6, 4, 3, 21, 22, 23, 7, 11, 63, 95, 101] (T' := [(10, .pointer (some ⟨b600, 0, none⟩)), (9, .pointer (some ⟨b97, 0, none⟩)), (8, .pointer (some ⟨b83, 0, none⟩)), (6, .pointer (some ⟨b60, 0, none⟩)), (4, .pointer (some ⟨b25, 0, none⟩)), (3, .pointer (some ⟨kb, 0, none⟩)), (21, .slice (some ⟨sb51, k052, none⟩) ops.length c), (22, .int .i64 ((ops.length : Nat) : Int)), (23, .int .i64 i), (7, .pointer (some ⟨kb2, 0, none⟩)), (11, .bool (decide (x.ev.arg < 16))), (63, .int .u8 x.ev.kind), (95, .bool false), (101, .bool true)]) (φ := ((x.ev.kind == 9)) = true ∧ True) (rest := []) h633 (by kernel_rfl) rfl ⟨(by simp [hk]), trivial⟩ fun a635 h636 => ?_
          clear h633
          refine nd_done ?_
          refine hK634 _ _ ?_
          clear hK634
          refine c_true h636 rfl ?_
          refine wp_seq_k fun K637 hK637 => ?_
          refine nd_start (l := [0, 1, 2, 3, 4, 5, 6, 7, 8]) rfl ?_
          refine nd_batch tabOk tabZ_ok [(0, {}), (1, {}), (2, {k := 3})] [10, 9, 8, 6, 4, 3, 21, 22, 23, 7, 11, 63, 95, 104, 106] (T' := [(10, .pointer (some ⟨b600, 0, none⟩)), (9, .pointer (some ⟨b97, 0, none⟩)), (8, .pointer (some ⟨b83, 0, none⟩)), (6, .pointer (some ⟨b60, 0, none⟩)), (4, .pointer (some ⟨b25, 0, none⟩)), (3, .pointer (some ⟨kb, 0, none⟩)), (21, .slice (some ⟨sb51, k052, none⟩) ops.length c), (22, .int .i64 ((ops.length : Nat) : Int)), (23, .int .i64 i), (7, .pointer (some ⟨kb2, 0, none⟩)), (11, .bool (decide (x.ev.arg < 16))), (63, .int .u8 x.ev.kind), (95, .bool false), (104, .pointer (some ⟨kb2, 0, none⟩)), (106, .agg #[.int .u16 ((capAtP S C (refP C.ent S.cur) x.ev.addr).obj.idx), .int .u32 ((capAtP S C (refP C.ent S.cur) x.ev.addr).obj.gen)])]) (φ := (b97 = b97 ∧ Nat.ble (1 + 2) 5 = true) ∧ True) (rest := [3, 4, 5, 6, 7, 8]) h636 (by kernel_rfl) rfl ⟨⟨rfl, rfl⟩, trivial⟩ fun a638 h639 => ?_
          clear h636
          refine nd_op ?_
          refine op_call h639 rfl rfl rfl (callOk Tryd.func20 (by decide) rfl) (args := [.pointer (some ⟨kb2, 0, none⟩), .agg #[.int .u16 ((capAtP S C (refP C.ent S.cur) x.ev.addr).obj.idx), .int .u32 ((capAtP S C (refP C.ent S.cur) x.ev.addr).obj.gen)]]) rfl (waitersE kb2 bo2 bc2 S hok.ri hci.reg.1 hQ (capAtP S C (refP C.ent S.cur) x.ev.addr).obj ⟨hcr.1, by omega⟩ _ (h639.inv.get (j := 1) (p := pKer kb2 bo2 bc2 nd2 S C) rfl).ker (h639.inv.get (j := 1) (p := pKer kb2 bo2 bc2 nd2 S C) rfl).cap.st (h639.inv.get (j := 1) (p := pKer kb2 bo2 bc2 nd2 S C) rfl).ne e1) ?_
          rintro _ w646 ⟨o640, c641, F642, rfl, hr643, hf644, hF645⟩
          refine ⟨_, rfl, ?_⟩
          have h647 := (h639.pcAdd (p' := pRow (rl rfC 39 2 bs o640 c641 F642)) (ps' := [pKer kb bo bc nd9 Sz Cz, pKer kb2 bo2 bc2 nd2 S C, pRow (rl rfC 39 2 bs o640 c641 F642)]) (pRow_ok hr643) hf644 hF645 rfl).put (d := some 107) (v := .tuple #[.slice o640 bs.length c641, .int .u64 0]) (T' := [(107, .tuple #[.slice o640 bs.length c641, .int .u64 0]), (10, .pointer (some ⟨b600, 0, none⟩)), (9, .pointer (some ⟨b97, 0, none⟩)), (8, .pointer (some ⟨b83, 0, none⟩)), (6, .pointer (some ⟨b60, 0, none⟩)), (4, .pointer (some ⟨b25, 0, none⟩)), (3, .pointer (some ⟨kb, 0, none⟩)), (21, .slice (some ⟨sb51, k052, none⟩) ops.length c), (22, .int .i64 ((ops.length : Nat) : Int)), (23, .int .i64 i), (7, .pointer (some ⟨kb2, 0, none⟩)), (11, .bool (decide (x.ev.arg < 16))), (63, .int .u8 x.ev.kind), (95, .bool false), (104, .pointer (some ⟨kb2, 0, none⟩)), (106, .agg #[.int .u16 ((capAtP S C (refP C.ent S.cur) x.ev.addr).obj.idx), .int .u32 ((capAtP S C (refP C.ent S.cur) x.ev.addr).obj.gen)])]) rfl
          have hszh647 : w.heap.size ≤ _ := h639.frame.size
          clear h639
          refine nd_batch tabOk tabZ_ok [(4, {}), (5, {}), (6, {}), (7, {}), (8, {})] [10, 9, 8, 6, 4, 3, 21, 22, 23, 7, 11, 63, 95, 12, 13] (T' := [(10, .pointer (some ⟨b600, 0, none⟩)), (9, .pointer (some ⟨b97, 0, none⟩)), (8, .pointer (some ⟨b83, 0, none⟩)), (6, .pointer (some ⟨b60, 0, none⟩)), (4, .pointer (some ⟨b25, 0, none⟩)), (3, .pointer (some ⟨kb, 0, none⟩)), (21, .slice (some ⟨sb51, k052, none⟩) ops.length c), (22, .int .i64 ((ops.length : Nat) : Int)), (23, .int .i64 i), (7, .pointer (some ⟨kb2, 0, none⟩)), (11, .bool (decide (x.ev.arg < 16))), (63, .int .u8 x.ev.kind), (95, .bool false), (12, .slice o640 bs.length c641), (13, .int .u64 0)]) (φ := True) (rest := []) h647 (by kernel_rfl) rfl trivial fun a648 h649 => ?_
          clear h647
          refine nd_done ?_
          refine hK637 _ _ ?_
          clear hK637
          refine wp_seq_k fun K650 hK650 => ?_
          refine nd_start (l := [0, 1, 2, 3, 4, 5, 6, 7, 8]) rfl ?_
          refine nd_batch tabOk tabZ_ok [(0, {}), (1, {}), (2, {k := 3})] [10, 9, 8, 6, 4, 3, 21, 22, 23, 7, 11, 63, 95, 12, 13, 111, 113] (T' := [(10, .pointer (some ⟨b600, 0, none⟩)), (9, .pointer (some ⟨b97, 0, none⟩)), (8, .pointer (some ⟨b83, 0, none⟩)), (6, .pointer (some ⟨b60, 0, none⟩)), (4, .pointer (some ⟨b25, 0, none⟩)), (3, .pointer (some ⟨kb, 0, none⟩)), (21, .slice (some ⟨sb51, k052, none⟩) ops.length c), (22, .int .i64 ((ops.length : Nat) : Int)), (23, .int .i64 i), (7, .pointer (some ⟨kb2, 0, none⟩)), (11, .bool (decide (x.ev.arg < 16))), (63, .int .u8 x.ev.kind), (95, .bool false), (12, .slice o640 bs.length c641), (13, .int .u64 0), (111, .pointer (some ⟨kb, 0, none⟩)), (113, .agg #[.int .u16 ((capAtP S C (refP C.ent S.cur) x.ev.addr).obj.idx), .int .u32 ((capAtP S C (refP C.ent S.cur) x.ev.addr).obj.gen)])]) (φ := (b97 = b97 ∧ Nat.ble (1 + 2) 5 = true) ∧ True) (rest := [3, 4, 5, 6, 7, 8]) h649 (by kernel_rfl) rfl ⟨⟨rfl, rfl⟩, trivial⟩ fun a651 h652 => ?_
          clear h649
          refine nd_op ?_
          refine op_call h652 rfl rfl rfl (callOk Tryd.func20 (by decide) rfl) (args := [.pointer (some ⟨kb, 0, none⟩), .agg #[.int .u16 ((capAtP S C (refP C.ent S.cur) x.ev.addr).obj.idx), .int .u32 ((capAtP S C (refP C.ent S.cur) x.ev.addr).obj.gen)]]) rfl (waitersE kb bo bc Sz hivz.1.ri hivz.2.reg.1 hN.liq (capAtP S C (refP C.ent S.cur) x.ev.addr).obj ⟨hcr.1, by omega⟩ _ (h652.inv.get (j := 0) (p := pKer kb bo bc nd9 Sz Cz) rfl).ker (h652.inv.get (j := 0) (p := pKer kb bo bc nd9 Sz Cz) rfl).cap.st (h652.inv.get (j := 0) (p := pKer kb bo bc nd9 Sz Cz) rfl).ne e2) ?_
          rintro _ w659 ⟨o653, c654, F655, rfl, hr656, hf657, hF658⟩
          refine ⟨_, rfl, ?_⟩
          have h660 := (h652.pcAdd (p' := pRow (rl rfC 39 2 (bs ++ [(refP C.ent S.cur)]) o653 c654 F655)) (ps' := [pKer kb bo bc nd9 Sz Cz, pKer kb2 bo2 bc2 nd2 S C, pRow (rl rfC 39 2 bs o640 c641 F642), pRow (rl rfC 39 2 (bs ++ [(refP C.ent S.cur)]) o653 c654 F655)]) (pRow_ok hr656) hf657 hF658 rfl).put (d := some 114) (v := .tuple #[.slice o653 ((bs ++ [(refP C.ent S.cur)]).length) c654, .int .u64 wd']) (T' := [(114, .tuple #[.slice o653 ((bs ++ [(refP C.ent S.cur)]).length) c654, .int .u64 wd']), (10, .pointer (some ⟨b600, 0, none⟩)), (9, .pointer (some ⟨b97, 0, none⟩)), (8, .pointer (some ⟨b83, 0, none⟩)), (6, .pointer (some ⟨b60, 0, none⟩)), (4, .pointer (some ⟨b25, 0, none⟩)), (3, .pointer (some ⟨kb, 0, none⟩)), (21, .slice (some ⟨sb51, k052, none⟩) ops.length c), (22, .int .i64 ((ops.length : Nat) : Int)), (23, .int .i64 i), (7, .pointer (some ⟨kb2, 0, none⟩)), (11, .bool (decide (x.ev.arg < 16))), (63, .int .u8 x.ev.kind), (95, .bool false), (12, .slice o640 bs.length c641), (13, .int .u64 0), (111, .pointer (some ⟨kb, 0, none⟩)), (113, .agg #[.int .u16 ((capAtP S C (refP C.ent S.cur) x.ev.addr).obj.idx), .int .u32 ((capAtP S C (refP C.ent S.cur) x.ev.addr).obj.gen)])]) rfl
          have hszh660 : w.heap.size ≤ _ := h652.frame.size
          clear h652
          refine nd_batch tabOk tabZ_ok [(4, {}), (5, {}), (6, {}), (7, {}), (8, {})] [10, 9, 8, 6, 4, 3, 21, 22, 23, 7, 11, 63, 95, 12, 13, 14, 15] (T' := [(10, .pointer (some ⟨b600, 0, none⟩)), (9, .pointer (some ⟨b97, 0, none⟩)), (8, .pointer (some ⟨b83, 0, none⟩)), (6, .pointer (some ⟨b60, 0, none⟩)), (4, .pointer (some ⟨b25, 0, none⟩)), (3, .pointer (some ⟨kb, 0, none⟩)), (21, .slice (some ⟨sb51, k052, none⟩) ops.length c), (22, .int .i64 ((ops.length : Nat) : Int)), (23, .int .i64 i), (7, .pointer (some ⟨kb2, 0, none⟩)), (11, .bool (decide (x.ev.arg < 16))), (63, .int .u8 x.ev.kind), (95, .bool false), (12, .slice o640 bs.length c641), (13, .int .u64 0), (14, .slice o653 ((bs ++ [(refP C.ent S.cur)]).length) c654), (15, .int .u64 wd')]) (φ := True) (rest := []) h660 (by kernel_rfl) rfl trivial fun a661 h662 => ?_
          clear h660
          refine nd_done ?_
          refine hK650 _ _ ?_
          clear hK650
          refine wp_seq_k fun K663 hK663 => ?_
          refine wp_seq_k fun K664 hK664 => ?_
          refine nd_start (l := [0, 1, 2, 3, 4, 5, 6, 7, 8, 9, 10, 11, 12, 13, 14, 15, 16, 17, 18, 19, 20, 21, 22]) rfl ?_
          refine nd_batch tabOk tabZ_ok [(0, {}), (1, {}), (2, {}), (3, {}), (4, {}), (5, {}), (6, {}), (7, {}), (8, {}), (9, {}), (10, {}), (11, {}), (12, {}), (13, {}), (14, {}), (15, {}), (16, {}), (17, {}), (18, {})] [10, 9, 8, 6, 4, 3, 21, 22, 23, 7, 11, 63, 95, 12, 13, 14, 15, 119, 133, 134, 135] (T' := [(10, .pointer (some ⟨b600, 0, none⟩)), (9, .pointer (some ⟨b97, 0, none⟩)), (8, .pointer (some ⟨b83, 0, none⟩)), (6, .pointer (some ⟨b60, 0, none⟩)), (4, .pointer (some ⟨b25, 0, none⟩)), (3, .pointer (some ⟨kb, 0, none⟩)), (21, .slice (some ⟨sb51, k052, none⟩) ops.length c), (22, .int .i64 ((ops.length : Nat) : Int)), (23, .int .i64 i), (7, .pointer (some ⟨kb2, 0, none⟩)), (11, .bool (decide (x.ev.arg < 16))), (63, .int .u8 x.ev.kind), (95, .bool false), (12, .slice o640 bs.length c641), (13, .int .u64 0), (14, .slice o653 ((bs ++ [(refP C.ent S.cur)]).length) c654), (15, .int .u64 wd'), (119, .bool false), (133, .tuple #[]), (134, .tuple #[]), (135, .tuple #[])]) (φ := True) (rest := [19, 20, 21, 22]) h662 (by kernel_rfl) rfl trivial fun a665 h666 => ?_
          clear h662
          refine nd_batch tabOk tabZ_ok [(19, {})] [10, 9, 8, 6, 4, 3, 21, 22, 23, 7, 11, 63, 95, 12, 13, 14, 15, 119, 133, 136] (T' := [(10, .pointer (some ⟨b600, 0, none⟩)), (9, .pointer (some ⟨b97, 0, none⟩)), (8, .pointer (some ⟨b83, 0, none⟩)), (6, .pointer (some ⟨b60, 0, none⟩)), (4, .pointer (some ⟨b25, 0, none⟩)), (3, .pointer (some ⟨kb, 0, none⟩)), (21, .slice (some ⟨sb51, k052, none⟩) ops.length c), (22, .int .i64 ((ops.length : Nat) : Int)), (23, .int .i64 i), (7, .pointer (some ⟨kb2, 0, none⟩)), (11, .bool (decide (x.ev.arg < 16))), (63, .int .u8 x.ev.kind), (95, .bool false), (12, .slice o640 bs.length c641), (13, .int .u64 0), (14, .slice o653 ((bs ++ [(refP C.ent S.cur)]).length) c654), (15, .int .u64 wd'), (119, .bool false), (133, .tuple #[]), (136, .tuple #[])]) (φ := True) (rest := [20, 21, 22]) h666 (by kernel_rfl) rfl trivial fun a667 h668 => ?_
          clear h666
          refine nd_batch tabOk tabZ_ok [(20, {}), (21, {}), (22, {})] [10, 9, 8, 6, 4, 3, 21, 22, 23, 7, 11, 63, 95, 12, 13, 14, 15, 139] (T' := [(10, .pointer (some ⟨b600, 0, none⟩)), (9, .pointer (some ⟨b97, 0, none⟩)), (8, .pointer (some ⟨b83, 0, none⟩)), (6, .pointer (some ⟨b60, 0, none⟩)), (4, .pointer (some ⟨b25, 0, none⟩)), (3, .pointer (some ⟨kb, 0, none⟩)), (21, .slice (some ⟨sb51, k052, none⟩) ops.length c), (22, .int .i64 ((ops.length : Nat) : Int)), (23, .int .i64 i), (7, .pointer (some ⟨kb2, 0, none⟩)), (11, .bool (decide (x.ev.arg < 16))), (63, .int .u8 x.ev.kind), (95, .bool false), (12, .slice o640 bs.length c641), (13, .int .u64 0), (14, .slice o653 ((bs ++ [(refP C.ent S.cur)]).length) c654), (15, .int .u64 wd'), (139, .bool false)]) (φ := True) (rest := []) h668 (by kernel_rfl) rfl trivial fun a669 h670 => ?_
          clear h668
          refine nd_done ?_
          refine hK664 _ _ ?_
          clear hK664
          refine c_false h670 rfl ?_
          refine wp_skip ?_
          refine hK663 _ _ ?_
          clear hK663
          refine wp_seq_k fun K671 hK671 => ?_
          refine dr_start (KB := [b25, b60, b83, b97, b600]) (Bi := [[0, 1, 2, 3, 4], [0, 1, 2, 3, 4], [0, 1, 2, 3, 4], [0, 1, 2, 3, 4], [0, 1, 2, 3, 4], [2], [0, 1, 2, 3, 4], [0, 1, 2, 3, 4], [], [], [0, 1, 2, 3, 4], [0, 1, 2, 3, 4]]) mixed h670 fun w672 h673 => ?_
          clear h670
          refine dr_batch tabOk tabZ_ok (by repeat (first | with_reducible exact PF.body | with_reducible apply PF.inB | with_reducible apply PF.next)) [(0, {}), (1, {}), (2, {}), (3, {}), (4, {}), (6, {k := 2, p := 2})] [10, 9, 8, 6, 4, 3, 21, 22, 23, 7, 11, 63, 95, 12, 13, 14, 15, 142, 143, 144, 146] (T' := [(10, .pointer (some ⟨b600, 0, none⟩)), (9, .pointer (some ⟨b97, 0, none⟩)), (8, .pointer (some ⟨b83, 0, none⟩)), (6, .pointer (some ⟨b60, 0, none⟩)), (4, .pointer (some ⟨b25, 0, none⟩)), (3, .pointer (some ⟨kb, 0, none⟩)), (21, .slice (some ⟨sb51, k052, none⟩) ops.length c), (22, .int .i64 ((ops.length : Nat) : Int)), (23, .int .i64 i), (7, .pointer (some ⟨kb2, 0, none⟩)), (11, .bool (decide (x.ev.arg < 16))), (63, .int .u8 x.ev.kind), (95, .bool false), (12, .slice o640 bs.length c641), (13, .int .u64 0), (14, .slice o653 ((bs ++ [(refP C.ent S.cur)]).length) c654), (15, .int .u64 wd'), (142, .bool true), (143, .slice o653 ((bs ++ [(refP C.ent S.cur)]).length) c654), (144, .slice o640 bs.length c641), (146, .agg #[.int .u16 ((refP C.ent S.cur).idx), .int .u32 ((refP C.ent S.cur).gen)])]) (φ := (b83 = b83 ∧ Nat.ble (0 + 2) 2 = true) ∧ True) (fuel := 6) h673 (by kernel_rfl) rfl (by kernel_rfl) (by kernel_rfl) ⟨trivial, trivial, trivial, trivial, trivial, rfl, trivial⟩ ⟨⟨rfl, rfl⟩, trivial⟩ fun a675 h676 => ?_
          clear h673
          refine wpAnyK_two (i := 5) (j := 7) (fuel := 5) (by kernel_rfl) ?_ ?_
          ·
            refine op_call h676 rfl rfl rfl (callOk Tryd.func24 (by decide) rfl) (args := [.slice o640 bs.length c641]) rfl (cloneR_ok bs (by omega) o640 c641 F642 _ (h676.inv.get (j := 2) (p := pRow (rl rfC 39 2 bs o640 c641 F642)) rfl)) ?_
            rintro _ w683 ⟨o677, c678, F679, rfl, hr680, hf681, hF682⟩
            refine ⟨_, rfl, ?_⟩
            have h684 := (h676.pcAdd (p' := pRow (rl rfC 39 2 bs o677 c678 F679)) (ps' := [pKer kb bo bc nd9 Sz Cz, pKer kb2 bo2 bc2 nd2 S C, pRow (rl rfC 39 2 bs o640 c641 F642), pRow (rl rfC 39 2 (bs ++ [(refP C.ent S.cur)]) o653 c654 F655), pRow (rl rfC 39 2 bs o677 c678 F679)]) (pRow_ok hr680) hf681 hF682 rfl).put (d := some 145) (v := .slice o677 bs.length c678) (T' := [(145, .slice o677 bs.length c678), (10, .pointer (some ⟨b600, 0, none⟩)), (9, .pointer (some ⟨b97, 0, none⟩)), (8, .pointer (some ⟨b83, 0, none⟩)), (6, .pointer (some ⟨b60, 0, none⟩)), (4, .pointer (some ⟨b25, 0, none⟩)), (3, .pointer (some ⟨kb, 0, none⟩)), (21, .slice (some ⟨sb51, k052, none⟩) ops.length c), (22, .int .i64 ((ops.length : Nat) : Int)), (23, .int .i64 i), (7, .pointer (some ⟨kb2, 0, none⟩)), (11, .bool (decide (x.ev.arg < 16))), (63, .int .u8 x.ev.kind), (95, .bool false), (12, .slice o640 bs.length c641), (13, .int .u64 0), (14, .slice o653 ((bs ++ [(refP C.ent S.cur)]).length) c654), (15, .int .u64 wd'), (142, .bool true), (143, .slice o653 ((bs ++ [(refP C.ent S.cur)]).length) c654), (144, .slice o640 bs.length c641), (146, .agg #[.int .u16 ((refP C.ent S.cur).idx), .int .u32 ((refP C.ent S.cur).gen)])]) rfl
            have hkh684 := h676.known
            refine ⟨(keepOf hkh684 h684.known (kcons (keepAt (q := 2) (q' := 2) rfl rfl) knil)), ?_⟩
            have hszh684 : w.heap.size ≤ _ := h676.frame.size
            clear h676
            refine wpAnyK_one (i := 7) (fuel := 4) (by kernel_rfl) ?_
            refine op_new tabOk (cells := [.int .u16 ((refP C.ent S.cur).idx), .int .u32 ((refP C.ent S.cur).gen)]) (ty := 39) (ln := (some 1)) (L1 := fun b685 => [(b25, ⟨mkC M, 68, false⟩), (b60, ⟨[.int .u8 x.ev.kind, .int .u32 x.ev.pick, .int .u64 x.ev.draw, .int .u32 x.ev.addr, .int .u32 x.ev.node, .int .u32 x.ev.dst, .int .u32 x.ev.xfer, .int .u8 x.ev.ty, .int .u64 x.ev.arg, .int .u64 x.ev.badge, .slice x.xo x.ev.ws.length x.cx], 35, false⟩), (b83, ⟨[.int .u16 ((refP C.ent S.cur).idx), .int .u32 ((refP C.ent S.cur).gen)], 39, false⟩), (b97, ⟨[.int .u8 ((capAtP S C (refP C.ent S.cur) x.ev.addr).ty), .int .u16 ((capAtP S C (refP C.ent S.cur) x.ev.addr).obj.idx), .int .u32 ((capAtP S C (refP C.ent S.cur) x.ev.addr).obj.gen), .int .u8 ((capAtP S C (refP C.ent S.cur) x.ev.addr).rights), .int .u64 ((capAtP S C (refP C.ent S.cur) x.ev.addr).badge)], 49, false⟩), (b600, ⟨[.int .u8 oz.code, .int .u16 oz.run.idx, .int .u32 oz.run.gen, .int .u64 oz.badge, .int .u64 oz.m0, .int .u64 oz.m1, .int .u64 oz.m2, .int .u64 oz.m3, .int .u8 oz.len, .int .u8 oz.got], 42, false⟩), (b685, ⟨[.int .u16 ((refP C.ent S.cur).idx), .int .u32 ((refP C.ent S.cur).gen)], 39, false⟩)]) h684 rfl rfl rfl rfl (by kernel_rfl) (fun _ => rfl) fun b685 w686 a687 h688 hf689 hn690 => ?_
            refine ⟨(h684.keepFr hf689 (kcons (by simp) (kcons (by simp) (kcons (by simp) (kcons (by simp) (kcons (by simp) knil)))))), ?_⟩
            clear h684
            refine wpAnyK_one (i := 8) (fuel := 3) (by kernel_rfl) ?_
            refine op_append tabOk (e := 39) (so := o677) (n := bs.length) (c := c678) (xo := some ⟨b685, 0, none⟩) (m := 1) (cx := 1) (vals := bs.flatMap rfC) (vs := [.int .u16 ((refP C.ent S.cur).idx), .int .u32 ((refP C.ent S.cur).gen)]) (F := F679) h688 rfl rfl rfl rfl rfl rfl rfl rfl rfl rfl rfl rfl (h688.inv.get (j := 4) (p := pRow (rl rfC 39 2 bs o677 c678 F679)) rfl) (src_one (h688.kn (k := 5) rfl) rfl ⟨rfl, rfl, trivial⟩) (by omega) rfl ?_
            intro o691 c692 F693 w694 hr695 hf696 hF697
            have hr6952 := rl_app1 (enc := rfC) (xs := bs) (y := (refP C.ent S.cur)) hr695
            rw [show bs.length + 1 = (bs ++ [(refP C.ent S.cur)]).length by simp]
            have h698 := (h688.pcSet (j := 4) (p := pRow (rl rfC 39 2 bs o677 c678 F679)) (p' := pRow (rl rfC 39 2 (bs ++ [(refP C.ent S.cur)]) o691 c692 F693)) (ps' := [pKer kb bo bc nd9 Sz Cz, pKer kb2 bo2 bc2 nd2 S C, pRow (rl rfC 39 2 bs o640 c641 F642), pRow (rl rfC 39 2 (bs ++ [(refP C.ent S.cur)]) o653 c654 F655), pRow (rl rfC 39 2 (bs ++ [(refP C.ent S.cur)]) o691 c692 F693)]) rfl (pRow_ok hr6952) hf696 (fun _ h => h) hF697 (kcons (by intro hq; cases hq) (kcons (by intro hq; cases hq) (kcons (by intro hq; cases hq) (kcons (by intro hq; cases hq) (kcons (by intro hq; cases hq) (kcons (by intro hq; cases hq) knil)))))) rfl).put (d := some 148) (v := .slice o691 ((bs ++ [(refP C.ent S.cur)]).length) c692) (T' := [(148, .slice o691 ((bs ++ [(refP C.ent S.cur)]).length) c692), (147, .slice (some ⟨b685, 0, none⟩) 1 1), (145, .slice o677 bs.length c678), (10, .pointer (some ⟨b600, 0, none⟩)), (9, .pointer (some ⟨b97, 0, none⟩)), (8, .pointer (some ⟨b83, 0, none⟩)), (6, .pointer (some ⟨b60, 0, none⟩)), (4, .pointer (some ⟨b25, 0, none⟩)), (3, .pointer (some ⟨kb, 0, none⟩)), (21, .slice (some ⟨sb51, k052, none⟩) ops.length c), (22, .int .i64 ((ops.length : Nat) : Int)), (23, .int .i64 i), (7, .pointer (some ⟨kb2, 0, none⟩)), (11, .bool (decide (x.ev.arg < 16))), (63, .int .u8 x.ev.kind), (95, .bool false), (12, .slice o640 bs.length c641), (13, .int .u64 0), (14, .slice o653 ((bs ++ [(refP C.ent S.cur)]).length) c654), (15, .int .u64 wd'), (142, .bool true), (143, .slice o653 ((bs ++ [(refP C.ent S.cur)]).length) c654), (144, .slice o640 bs.length c641), (146, .agg #[.int .u16 ((refP C.ent S.cur).idx), .int .u32 ((refP C.ent S.cur).gen)])]) rfl
            have hkh698 := h688.known
            refine ⟨keepNil, ?_⟩
            have hszh698 : w.heap.size ≤ _ := h688.frame.size
            clear h688
            refine wpAnyK_one (i := 9) (fuel := 2) (by kernel_rfl) ?_
            refine op_call h698 rfl rfl rfl (callOk Tryd.func23 (by decide) rfl) (args := [.slice o653 ((bs ++ [(refP C.ent S.cur)]).length) c654, .slice o691 ((bs ++ [(refP C.ent S.cur)]).length) c692]) rfl (equalP (by simp; omega) (h698.inv.get (j := 3) (p := pRow (rl rfC 39 2 (bs ++ [(refP C.ent S.cur)]) o653 c654 F655)) rfl) (h698.inv.get (j := 4) (p := pRow (rl rfC 39 2 (bs ++ [(refP C.ent S.cur)]) o691 c692 F693)) rfl) (Pf_nodup h698.inv.nd (i := 3) (j := 4) (x := pRow (rl rfC 39 2 (bs ++ [(refP C.ent S.cur)]) o653 c654 F655)) (y := pRow (rl rfC 39 2 (bs ++ [(refP C.ent S.cur)]) o691 c692 F693)) rfl rfl (by decide))) ?_
            rintro _ w699 ⟨rfl, hf701⟩
            refine ⟨_, rfl, ?_⟩
            have h700 := (h698.grow hf701).put (d := some 149) (v := .bool true) (T' := [(149, .bool true), (148, .slice o691 ((bs ++ [(refP C.ent S.cur)]).length) c692), (147, .slice (some ⟨b685, 0, none⟩) 1 1), (145, .slice o677 bs.length c678), (10, .pointer (some ⟨b600, 0, none⟩)), (9, .pointer (some ⟨b97, 0, none⟩)), (8, .pointer (some ⟨b83, 0, none⟩)), (6, .pointer (some ⟨b60, 0, none⟩)), (4, .pointer (some ⟨b25, 0, none⟩)), (3, .pointer (some ⟨kb, 0, none⟩)), (21, .slice (some ⟨sb51, k052, none⟩) ops.length c), (22, .int .i64 ((ops.length : Nat) : Int)), (23, .int .i64 i), (7, .pointer (some ⟨kb2, 0, none⟩)), (11, .bool (decide (x.ev.arg < 16))), (63, .int .u8 x.ev.kind), (95, .bool false), (12, .slice o640 bs.length c641), (13, .int .u64 0), (14, .slice o653 ((bs ++ [(refP C.ent S.cur)]).length) c654), (15, .int .u64 wd'), (142, .bool true), (143, .slice o653 ((bs ++ [(refP C.ent S.cur)]).length) c654), (144, .slice o640 bs.length c641), (146, .agg #[.int .u16 ((refP C.ent S.cur).idx), .int .u32 ((refP C.ent S.cur).gen)])]) rfl
            refine ⟨keepNil, ?_⟩
            clear h698
            refine dr_batch tabOk tabZ_ok (by repeat (first | with_reducible exact PF.body | with_reducible apply PF.inB | with_reducible apply PF.next)) [(10, {}), (11, {})] [10, 9, 8, 6, 4, 3, 21, 22, 23, 7, 11, 63, 95, 12, 13, 14, 15, 151] (T' := [(10, .pointer (some ⟨b600, 0, none⟩)), (9, .pointer (some ⟨b97, 0, none⟩)), (8, .pointer (some ⟨b83, 0, none⟩)), (6, .pointer (some ⟨b60, 0, none⟩)), (4, .pointer (some ⟨b25, 0, none⟩)), (3, .pointer (some ⟨kb, 0, none⟩)), (21, .slice (some ⟨sb51, k052, none⟩) ops.length c), (22, .int .i64 ((ops.length : Nat) : Int)), (23, .int .i64 i), (7, .pointer (some ⟨kb2, 0, none⟩)), (11, .bool (decide (x.ev.arg < 16))), (63, .int .u8 x.ev.kind), (95, .bool false), (12, .slice o640 bs.length c641), (13, .int .u64 0), (14, .slice o653 ((bs ++ [(refP C.ent S.cur)]).length) c654), (15, .int .u64 wd'), (151, .bool false)]) (φ := True) (fuel := 0) h700 (by kernel_rfl) rfl (by kernel_rfl) (by kernel_rfl) ⟨trivial, trivial, trivial⟩ trivial fun a702 h703 => ?_
            clear h700
            refine wpAnyK_done (by kernel_rfl) ?_ _
            refine hK671 _ _ ?_
            clear hK671
            refine c_false h703 rfl ?_
            refine wp_skip ?_
            refine hK615 _ _ ?_
            clear hK615
            refine wp_seq_k fun K704 hK704 => ?_
            refine nd_start (l := [0]) rfl ?_
            refine nd_batch tabOk tabZ_ok [(0, {})] [10, 9, 8, 6, 4, 3, 21, 22, 23, 7, 11, 63, 95, 12, 13, 14, 15, 152] (T' := [(10, .pointer (some ⟨b600, 0, none⟩)), (9, .pointer (some ⟨b97, 0, none⟩)), (8, .pointer (some ⟨b83, 0, none⟩)), (6, .pointer (some ⟨b60, 0, none⟩)), (4, .pointer (some ⟨b25, 0, none⟩)), (3, .pointer (some ⟨kb, 0, none⟩)), (21, .slice (some ⟨sb51, k052, none⟩) ops.length c), (22, .int .i64 ((ops.length : Nat) : Int)), (23, .int .i64 i), (7, .pointer (some ⟨kb2, 0, none⟩)), (11, .bool (decide (x.ev.arg < 16))), (63, .int .u8 x.ev.kind), (95, .bool false), (12, .slice o640 bs.length c641), (13, .int .u64 0), (14, .slice o653 ((bs ++ [(refP C.ent S.cur)]).length) c654), (15, .int .u64 wd'), (152, .int .i64 0)]) (φ := True) (rest := []) h703 (by kernel_rfl) rfl trivial fun a705 h706 => ?_
            clear h703
            refine nd_done ?_
            refine hK704 _ _ ?_
            clear hK704
            refine wp_block ?_
            have h707 := h706.memMono (L' := [(b25, ⟨mkC M, 68, false⟩)]) (List.Sublist.cons_cons _ (List.Sublist.cons _ (List.Sublist.cons _ (List.Sublist.cons _ (List.Sublist.cons _ (List.Sublist.cons _ List.Sublist.slnil))))))
            clear h706
            have h708 := h707.pcSub (ps' := [pKer kb bo bc nd9 Sz Cz]) (List.Sublist.cons_cons _ (List.Sublist.cons _ (List.Sublist.cons _ (List.Sublist.cons _ (List.Sublist.cons _ List.Sublist.slnil)))))
            clear h707
            refine wp_loop_ghost (fun g2 ga gw => ∃ (l : Int), ((g2 : Int) = 16 - l) ∧ (0 ≤ l ∧ l ≤ 16) ∧ St ⟨165, [], w, Pk w.heap.size [pKer kb bo bc nd9 Sz Cz], Pf [pKer kb bo bc nd9 Sz Cz]⟩ [(4, .pointer (some ⟨b25, 0, none⟩)), (3, .pointer (some ⟨kb, 0, none⟩)), (21, .slice (some ⟨sb51, k052, none⟩) ops.length c), (22, .int .i64 ((ops.length : Nat) : Int)), (23, .int .i64 i), (152, .int .i64 l)] [(b25, ⟨mkC M, 68, false⟩)] ga gw) 16 ⟨0, by decide, ⟨by decide, by decide⟩, (h708.slotsMono (restr_spec (keep := [4, 3, 21, 22, 23, 152]) rfl))⟩ ?_
            clear h708
            rintro g2 a709 w710 ⟨l, hi712, hi713, h711⟩
            have hlg := hi712
            have hl0 := hi713
            refine wp_seq_k fun K714 hK714 => ?_
            refine nd_start (l := [0]) rfl ?_
            refine nd_batch tabOk tabZ_ok [(0, {})] [4, 3, 21, 22, 23, 152, 153] (T' := [(4, .pointer (some ⟨b25, 0, none⟩)), (3, .pointer (some ⟨kb, 0, none⟩)), (21, .slice (some ⟨sb51, k052, none⟩) ops.length c), (22, .int .i64 ((ops.length : Nat) : Int)), (23, .int .i64 i), (152, .int .i64 l), (153, .bool (decide (l < 16)))]) (φ := True) (rest := []) h711 (by kernel_rfl) rfl trivial fun a715 h716 => ?_
            clear h711
            refine nd_done ?_
            refine hK714 _ _ ?_
            clear hK714
            refine wp_seq_k fun K717 hK717 => ?_
            refine c_split h716 (b := decide (l < 16)) rfl (fun hc718 => ?_) (fun hc718 => ?_)
            ·
              have hc718f : l < 16 := by simpa using hc718
              refine wp_skip ?_
              refine hK717 _ _ ?_
              clear hK717
              refine wp_seq_k fun K719 hK719 => ?_
              refine wp_block ?_
              refine wp_seq_k fun K720 hK720 => ?_
              refine nd_start (l := [0, 1]) rfl ?_
              refine nd_batch tabOk tabZ_ok [(0, {}), (1, {})] [4, 3, 21, 22, 23, 152, 16] (T' := [(4, .pointer (some ⟨b25, 0, none⟩)), (3, .pointer (some ⟨kb, 0, none⟩)), (21, .slice (some ⟨sb51, k052, none⟩) ops.length c), (22, .int .i64 ((ops.length : Nat) : Int)), (23, .int .i64 i), (152, .int .i64 l), (16, .int .i64 l)]) (φ := True) (rest := []) h716 (by kernel_rfl) rfl trivial fun a721 h722 => ?_
              clear h716
              refine nd_done ?_
              refine hK720 _ _ ?_
              clear hK720
              refine wp_seq_k fun K723 hK723 => ?_
              refine dr_start (KB := [b25]) (Bi := [[0], [0], [0], [0], [0], [0], [0], [0]]) mixed h722 fun w724 h725 => ?_
              clear h722
              refine dr_batch tabOk tabZ_ok (by repeat (first | with_reducible exact PF.body | with_reducible apply PF.inB | with_reducible apply PF.next)) [(0, {}), (1, {}), (4, {}), (5, {}), (6, {k := 0, m := 1, vs := [.bool (M l.toNat)], p := 0})] [4, 3, 21, 22, 23, 152, 16, 155, 156, 161] (T' := [(4, .pointer (some ⟨b25, 0, none⟩)), (3, .pointer (some ⟨kb, 0, none⟩)), (21, .slice (some ⟨sb51, k052, none⟩) ops.length c), (22, .int .i64 ((ops.length : Nat) : Int)), (23, .int .i64 i), (152, .int .i64 l), (16, .int .i64 l), (155, .pointer (some ⟨kb, 0, none⟩)), (156, .int .i64 l), (161, .bool (M l.toNat))]) (φ := (0 ≤ l ∧ l < 16) ∧ (b25 = b25 ∧ cellsAre (mkC M) (0 + (l.toNat * 1)) [.bool (M l.toNat)]) ∧ True) (fuel := 3) h725 (by kernel_rfl) rfl (by kernel_rfl) (by kernel_rfl) ⟨trivial, trivial, trivial, trivial, rfl, trivial⟩ ⟨⟨by omega, by omega⟩, ⟨rfl, (mk_read (i := l.toNat) (by omega) (by omega) rfl)⟩, trivial⟩ fun a727 h728 => ?_
              clear h725
              refine wpAnyK_one (i := 2) (fuel := 2) (by kernel_rfl) ?_
              refine op_call h728 rfl rfl rfl (callOk Tryd.func33 (by decide) rfl) (args := [.pointer (some ⟨kb, 0, none⟩), .int .i64 l]) rfl (irq_ok kb bo bc Sz l ⟨by omega, by omega⟩ _ (h728.inv.get (j := 0) (p := pKer kb bo bc nd9 Sz Cz) rfl).ker) ?_
              rintro _ w729 ⟨rfl, hf731⟩
              refine ⟨_, rfl, ?_⟩
              have h730 := (h728.grow hf731).put (d := some 157) (v := .agg #[.int .u16 ((Sz.irq l.toNat).ntfn.idx), .int .u32 ((Sz.irq l.toNat).ntfn.gen), .int .u64 ((Sz.irq l.toNat).badge), .bool ((Sz.irq l.toNat).masked)]) (T' := [(157, .agg #[.int .u16 ((Sz.irq l.toNat).ntfn.idx), .int .u32 ((Sz.irq l.toNat).ntfn.gen), .int .u64 ((Sz.irq l.toNat).badge), .bool ((Sz.irq l.toNat).masked)]), (4, .pointer (some ⟨b25, 0, none⟩)), (3, .pointer (some ⟨kb, 0, none⟩)), (21, .slice (some ⟨sb51, k052, none⟩) ops.length c), (22, .int .i64 ((ops.length : Nat) : Int)), (23, .int .i64 i), (152, .int .i64 l), (16, .int .i64 l), (155, .pointer (some ⟨kb, 0, none⟩)), (156, .int .i64 l), (161, .bool (M l.toNat))]) rfl
              refine ⟨(h728.keepFr hf731 (kcons (by simp) knil)), ?_⟩
              clear h728
              refine dr_batch tabOk tabZ_ok (by repeat (first | with_reducible exact PF.body | with_reducible apply PF.inB | with_reducible apply PF.next)) [(3, {}), (7, {f := 1})] [4, 3, 21, 22, 23, 152, 16, 162] (T' := [(4, .pointer (some ⟨b25, 0, none⟩)), (3, .pointer (some ⟨kb, 0, none⟩)), (21, .slice (some ⟨sb51, k052, none⟩) ops.length c), (22, .int .i64 ((ops.length : Nat) : Int)), (23, .int .i64 i), (152, .int .i64 l), (16, .int .i64 l), (162, .bool false)]) (φ := ((((Sz.irq l.toNat).masked) != (M l.toNat))) = false ∧ True) (fuel := 0) h730 (by kernel_rfl) rfl (by kernel_rfl) (by kernel_rfl) ⟨trivial, trivial, trivial⟩ ⟨(by rw [hmz]; simp), trivial⟩ fun a732 h733 => ?_
              clear h730
              refine wpAnyK_done (by kernel_rfl) ?_ _
              refine hK723 _ _ ?_
              clear hK723
              refine c_false h733 rfl ?_
              refine wp_skip ?_
              refine hK719 _ _ ?_
              clear hK719
              refine nd_start (l := [0, 1]) rfl ?_
              refine nd_batch tabOk tabZ_ok [(0, {}), (1, {})] [4, 3, 21, 22, 23, 16, 152] (T' := [(4, .pointer (some ⟨b25, 0, none⟩)), (3, .pointer (some ⟨kb, 0, none⟩)), (21, .slice (some ⟨sb51, k052, none⟩) ops.length c), (22, .int .i64 ((ops.length : Nat) : Int)), (23, .int .i64 i), (16, .int .i64 l), (152, .int .i64 (l + 1))]) (φ := inR .i64 (l + 1) ∧ True) (rest := []) h733 (by kernel_rfl) rfl ⟨⟨by omega, by omega⟩, trivial⟩ fun a734 h735 => ?_
              clear h733
              refine nd_done ?_
              exact ⟨(g2 - 1), by omega, (l + 1), by omega, ⟨by omega, by omega⟩, (h735.slotsMono (restr_spec (keep := [4, 3, 21, 22, 23, 152]) rfl))⟩
            ·
              have hc718f : ¬ l < 16 := by simpa using hc718
              refine wp_exit ?_
              refine hK55 _ _ ?_
              clear hK55
              refine nd_start (l := [0, 1]) rfl ?_
              refine nd_batch tabOk tabZ_ok [(0, {}), (1, {})] [4, 3, 21, 22, 152, 23] (T' := [(4, .pointer (some ⟨b25, 0, none⟩)), (3, .pointer (some ⟨kb, 0, none⟩)), (21, .slice (some ⟨sb51, k052, none⟩) ops.length c), (22, .int .i64 ((ops.length : Nat) : Int)), (152, .int .i64 l), (23, .int .i64 (i + 1))]) (φ := inR .i64 (i + 1) ∧ True) (rest := []) h716 (by kernel_rfl) rfl ⟨⟨by omega, by omega⟩, trivial⟩ fun a736 h737 => ?_
              clear h716
              refine nd_done ?_
              exact ⟨(g - 1), by omega, nd9, Sz, Cz, Qz, M, (i + 1), by omega, ⟨by omega, by omega⟩, hivz.1, hivz.2, hXz, hN.liq, hmz, (h737.slotsMono (restr_spec (keep := [4, 3, 21, 22, 23]) rfl))⟩
          ·
            refine op_new tabOk (cells := [.int .u16 ((refP C.ent S.cur).idx), .int .u32 ((refP C.ent S.cur).gen)]) (ty := 39) (ln := (some 1)) (L1 := fun b738 => [(b25, ⟨mkC M, 68, false⟩), (b60, ⟨[.int .u8 x.ev.kind, .int .u32 x.ev.pick, .int .u64 x.ev.draw, .int .u32 x.ev.addr, .int .u32 x.ev.node, .int .u32 x.ev.dst, .int .u32 x.ev.xfer, .int .u8 x.ev.ty, .int .u64 x.ev.arg, .int .u64 x.ev.badge, .slice x.xo x.ev.ws.length x.cx], 35, false⟩), (b83, ⟨[.int .u16 ((refP C.ent S.cur).idx), .int .u32 ((refP C.ent S.cur).gen)], 39, false⟩), (b97, ⟨[.int .u8 ((capAtP S C (refP C.ent S.cur) x.ev.addr).ty), .int .u16 ((capAtP S C (refP C.ent S.cur) x.ev.addr).obj.idx), .int .u32 ((capAtP S C (refP C.ent S.cur) x.ev.addr).obj.gen), .int .u8 ((capAtP S C (refP C.ent S.cur) x.ev.addr).rights), .int .u64 ((capAtP S C (refP C.ent S.cur) x.ev.addr).badge)], 49, false⟩), (b600, ⟨[.int .u8 oz.code, .int .u16 oz.run.idx, .int .u32 oz.run.gen, .int .u64 oz.badge, .int .u64 oz.m0, .int .u64 oz.m1, .int .u64 oz.m2, .int .u64 oz.m3, .int .u8 oz.len, .int .u8 oz.got], 42, false⟩), (b738, ⟨[.int .u16 ((refP C.ent S.cur).idx), .int .u32 ((refP C.ent S.cur).gen)], 39, false⟩)]) h676 rfl rfl rfl rfl (by kernel_rfl) (fun _ => rfl) fun b738 w739 a740 h741 hf742 hn743 => ?_
            refine ⟨(h676.keepFr hf742 (kcons (by simp) (kcons (by simp) (kcons (by simp) (kcons (by simp) (kcons (by simp) knil)))))), ?_⟩
            clear h676
            refine wpAnyK_one (i := 5) (fuel := 4) (by kernel_rfl) ?_
            refine op_call h741 rfl rfl rfl (callOk Tryd.func24 (by decide) rfl) (args := [.slice o640 bs.length c641]) rfl (cloneR_ok bs (by omega) o640 c641 F642 _ (h741.inv.get (j := 2) (p := pRow (rl rfC 39 2 bs o640 c641 F642)) rfl)) ?_
            rintro _ w750 ⟨o744, c745, F746, rfl, hr747, hf748, hF749⟩
            refine ⟨_, rfl, ?_⟩
            have h751 := (h741.pcAdd (p' := pRow (rl rfC 39 2 bs o744 c745 F746)) (ps' := [pKer kb bo bc nd9 Sz Cz, pKer kb2 bo2 bc2 nd2 S C, pRow (rl rfC 39 2 bs o640 c641 F642), pRow (rl rfC 39 2 (bs ++ [(refP C.ent S.cur)]) o653 c654 F655), pRow (rl rfC 39 2 bs o744 c745 F746)]) (pRow_ok hr747) hf748 hF749 rfl).put (d := some 145) (v := .slice o744 bs.length c745) (T' := [(145, .slice o744 bs.length c745), (147, .slice (some ⟨b738, 0, none⟩) 1 1), (10, .pointer (some ⟨b600, 0, none⟩)), (9, .pointer (some ⟨b97, 0, none⟩)), (8, .pointer (some ⟨b83, 0, none⟩)), (6, .pointer (some ⟨b60, 0, none⟩)), (4, .pointer (some ⟨b25, 0, none⟩)), (3, .pointer (some ⟨kb, 0, none⟩)), (21, .slice (some ⟨sb51, k052, none⟩) ops.length c), (22, .int .i64 ((ops.length : Nat) : Int)), (23, .int .i64 i), (7, .pointer (some ⟨kb2, 0, none⟩)), (11, .bool (decide (x.ev.arg < 16))), (63, .int .u8 x.ev.kind), (95, .bool false), (12, .slice o640 bs.length c641), (13, .int .u64 0), (14, .slice o653 ((bs ++ [(refP C.ent S.cur)]).length) c654), (15, .int .u64 wd'), (142, .bool true), (143, .slice o653 ((bs ++ [(refP C.ent S.cur)]).length) c654), (144, .slice o640 bs.length c641), (146, .agg #[.int .u16 ((refP C.ent S.cur).idx), .int .u32 ((refP C.ent S.cur).gen)])]) rfl
            have hkh751 := h741.known
            refine ⟨(keepOf hkh751 h751.known (kcons (keepAt (q := 2) (q' := 2) rfl rfl) knil)), ?_⟩
            have hszh751 : w.heap.size ≤ _ := h741.frame.size
            clear h741
            refine wpAnyK_one (i := 8) (fuel := 3) (by kernel_rfl) ?_
            refine op_append tabOk (e := 39) (so := o744) (n := bs.length) (c := c745) (xo := some ⟨b738, 0, none⟩) (m := 1) (cx := 1) (vals := bs.flatMap rfC) (vs := [.int .u16 ((refP C.ent S.cur).idx), .int .u32 ((refP C.ent S.cur).gen)]) (F := F746) h751 rfl rfl rfl rfl rfl rfl rfl rfl rfl rfl rfl rfl (h751.inv.get (j := 4) (p := pRow (rl rfC 39 2 bs o744 c745 F746)) rfl) (src_one (h751.kn (k := 5) rfl) rfl ⟨rfl, rfl, trivial⟩) (by omega) rfl ?_
            intro o752 c753 F754 w755 hr756 hf757 hF758
            have hr7562 := rl_app1 (enc := rfC) (xs := bs) (y := (refP C.ent S.cur)) hr756
            rw [show bs.length + 1 = (bs ++ [(refP C.ent S.cur)]).length by simp]
            have h759 := (h751.pcSet (j := 4) (p := pRow (rl rfC 39 2 bs o744 c745 F746)) (p' := pRow (rl rfC 39 2 (bs ++ [(refP C.ent S.cur)]) o752 c753 F754)) (ps' := [pKer kb bo bc nd9 Sz Cz, pKer kb2 bo2 bc2 nd2 S C, pRow (rl rfC 39 2 bs o640 c641 F642), pRow (rl rfC 39 2 (bs ++ [(refP C.ent S.cur)]) o653 c654 F655), pRow (rl rfC 39 2 (bs ++ [(refP C.ent S.cur)]) o752 c753 F754)]) rfl (pRow_ok hr7562) hf757 (fun _ h => h) hF758 (kcons (by intro hq; cases hq) (kcons (by intro hq; cases hq) (kcons (by intro hq; cases hq) (kcons (by intro hq; cases hq) (kcons (by intro hq; cases hq) (kcons (by intro hq; cases hq) knil)))))) rfl).put (d := some 148) (v := .slice o752 ((bs ++ [(refP C.ent S.cur)]).length) c753) (T' := [(148, .slice o752 ((bs ++ [(refP C.ent S.cur)]).length) c753), (145, .slice o744 bs.length c745), (147, .slice (some ⟨b738, 0, none⟩) 1 1), (10, .pointer (some ⟨b600, 0, none⟩)), (9, .pointer (some ⟨b97, 0, none⟩)), (8, .pointer (some ⟨b83, 0, none⟩)), (6, .pointer (some ⟨b60, 0, none⟩)), (4, .pointer (some ⟨b25, 0, none⟩)), (3, .pointer (some ⟨kb, 0, none⟩)), (21, .slice (some ⟨sb51, k052, none⟩) ops.length c), (22, .int .i64 ((ops.length : Nat) : Int)), (23, .int .i64 i), (7, .pointer (some ⟨kb2, 0, none⟩)), (11, .bool (decide (x.ev.arg < 16))), (63, .int .u8 x.ev.kind), (95, .bool false), (12, .slice o640 bs.length c641), (13, .int .u64 0), (14, .slice o653 ((bs ++ [(refP C.ent S.cur)]).length) c654), (15, .int .u64 wd'), (142, .bool true), (143, .slice o653 ((bs ++ [(refP C.ent S.cur)]).length) c654), (144, .slice o640 bs.length c641), (146, .agg #[.int .u16 ((refP C.ent S.cur).idx), .int .u32 ((refP C.ent S.cur).gen)])]) rfl
            have hkh759 := h751.known
            refine ⟨keepNil, ?_⟩
            have hszh759 : w.heap.size ≤ _ := h751.frame.size
            clear h751
            refine wpAnyK_one (i := 9) (fuel := 2) (by kernel_rfl) ?_
            refine op_call h759 rfl rfl rfl (callOk Tryd.func23 (by decide) rfl) (args := [.slice o653 ((bs ++ [(refP C.ent S.cur)]).length) c654, .slice o752 ((bs ++ [(refP C.ent S.cur)]).length) c753]) rfl (equalP (by simp; omega) (h759.inv.get (j := 3) (p := pRow (rl rfC 39 2 (bs ++ [(refP C.ent S.cur)]) o653 c654 F655)) rfl) (h759.inv.get (j := 4) (p := pRow (rl rfC 39 2 (bs ++ [(refP C.ent S.cur)]) o752 c753 F754)) rfl) (Pf_nodup h759.inv.nd (i := 3) (j := 4) (x := pRow (rl rfC 39 2 (bs ++ [(refP C.ent S.cur)]) o653 c654 F655)) (y := pRow (rl rfC 39 2 (bs ++ [(refP C.ent S.cur)]) o752 c753 F754)) rfl rfl (by decide))) ?_
            rintro _ w760 ⟨rfl, hf762⟩
            refine ⟨_, rfl, ?_⟩
            have h761 := (h759.grow hf762).put (d := some 149) (v := .bool true) (T' := [(149, .bool true), (148, .slice o752 ((bs ++ [(refP C.ent S.cur)]).length) c753), (145, .slice o744 bs.length c745), (147, .slice (some ⟨b738, 0, none⟩) 1 1), (10, .pointer (some ⟨b600, 0, none⟩)), (9, .pointer (some ⟨b97, 0, none⟩)), (8, .pointer (some ⟨b83, 0, none⟩)), (6, .pointer (some ⟨b60, 0, none⟩)), (4, .pointer (some ⟨b25, 0, none⟩)), (3, .pointer (some ⟨kb, 0, none⟩)), (21, .slice (some ⟨sb51, k052, none⟩) ops.length c), (22, .int .i64 ((ops.length : Nat) : Int)), (23, .int .i64 i), (7, .pointer (some ⟨kb2, 0, none⟩)), (11, .bool (decide (x.ev.arg < 16))), (63, .int .u8 x.ev.kind), (95, .bool false), (12, .slice o640 bs.length c641), (13, .int .u64 0), (14, .slice o653 ((bs ++ [(refP C.ent S.cur)]).length) c654), (15, .int .u64 wd'), (142, .bool true), (143, .slice o653 ((bs ++ [(refP C.ent S.cur)]).length) c654), (144, .slice o640 bs.length c641), (146, .agg #[.int .u16 ((refP C.ent S.cur).idx), .int .u32 ((refP C.ent S.cur).gen)])]) rfl
            refine ⟨keepNil, ?_⟩
            clear h759
            refine dr_batch tabOk tabZ_ok (by repeat (first | with_reducible exact PF.body | with_reducible apply PF.inB | with_reducible apply PF.next)) [(10, {}), (11, {})] [10, 9, 8, 6, 4, 3, 21, 22, 23, 7, 11, 63, 95, 12, 13, 14, 15, 151] (T' := [(10, .pointer (some ⟨b600, 0, none⟩)), (9, .pointer (some ⟨b97, 0, none⟩)), (8, .pointer (some ⟨b83, 0, none⟩)), (6, .pointer (some ⟨b60, 0, none⟩)), (4, .pointer (some ⟨b25, 0, none⟩)), (3, .pointer (some ⟨kb, 0, none⟩)), (21, .slice (some ⟨sb51, k052, none⟩) ops.length c), (22, .int .i64 ((ops.length : Nat) : Int)), (23, .int .i64 i), (7, .pointer (some ⟨kb2, 0, none⟩)), (11, .bool (decide (x.ev.arg < 16))), (63, .int .u8 x.ev.kind), (95, .bool false), (12, .slice o640 bs.length c641), (13, .int .u64 0), (14, .slice o653 ((bs ++ [(refP C.ent S.cur)]).length) c654), (15, .int .u64 wd'), (151, .bool false)]) (φ := True) (fuel := 0) h761 (by kernel_rfl) rfl (by kernel_rfl) (by kernel_rfl) ⟨trivial, trivial, trivial⟩ trivial fun a763 h764 => ?_
            clear h761
            refine wpAnyK_done (by kernel_rfl) ?_ _
            refine hK671 _ _ ?_
            clear hK671
            refine c_false h764 rfl ?_
            refine wp_skip ?_
            refine hK615 _ _ ?_
            clear hK615
            refine wp_seq_k fun K765 hK765 => ?_
            refine nd_start (l := [0]) rfl ?_
            refine nd_batch tabOk tabZ_ok [(0, {})] [10, 9, 8, 6, 4, 3, 21, 22, 23, 7, 11, 63, 95, 12, 13, 14, 15, 152] (T' := [(10, .pointer (some ⟨b600, 0, none⟩)), (9, .pointer (some ⟨b97, 0, none⟩)), (8, .pointer (some ⟨b83, 0, none⟩)), (6, .pointer (some ⟨b60, 0, none⟩)), (4, .pointer (some ⟨b25, 0, none⟩)), (3, .pointer (some ⟨kb, 0, none⟩)), (21, .slice (some ⟨sb51, k052, none⟩) ops.length c), (22, .int .i64 ((ops.length : Nat) : Int)), (23, .int .i64 i), (7, .pointer (some ⟨kb2, 0, none⟩)), (11, .bool (decide (x.ev.arg < 16))), (63, .int .u8 x.ev.kind), (95, .bool false), (12, .slice o640 bs.length c641), (13, .int .u64 0), (14, .slice o653 ((bs ++ [(refP C.ent S.cur)]).length) c654), (15, .int .u64 wd'), (152, .int .i64 0)]) (φ := True) (rest := []) h764 (by kernel_rfl) rfl trivial fun a766 h767 => ?_
            clear h764
            refine nd_done ?_
            refine hK765 _ _ ?_
            clear hK765
            refine wp_block ?_
            have h768 := h767.memMono (L' := [(b25, ⟨mkC M, 68, false⟩)]) (List.Sublist.cons_cons _ (List.Sublist.cons _ (List.Sublist.cons _ (List.Sublist.cons _ (List.Sublist.cons _ (List.Sublist.cons _ List.Sublist.slnil))))))
            clear h767
            have h769 := h768.pcSub (ps' := [pKer kb bo bc nd9 Sz Cz]) (List.Sublist.cons_cons _ (List.Sublist.cons _ (List.Sublist.cons _ (List.Sublist.cons _ (List.Sublist.cons _ List.Sublist.slnil)))))
            clear h768
            refine wp_loop_ghost (fun g2 ga gw => ∃ (l : Int), ((g2 : Int) = 16 - l) ∧ (0 ≤ l ∧ l ≤ 16) ∧ St ⟨165, [], w, Pk w.heap.size [pKer kb bo bc nd9 Sz Cz], Pf [pKer kb bo bc nd9 Sz Cz]⟩ [(4, .pointer (some ⟨b25, 0, none⟩)), (3, .pointer (some ⟨kb, 0, none⟩)), (21, .slice (some ⟨sb51, k052, none⟩) ops.length c), (22, .int .i64 ((ops.length : Nat) : Int)), (23, .int .i64 i), (152, .int .i64 l)] [(b25, ⟨mkC M, 68, false⟩)] ga gw) 16 ⟨0, by decide, ⟨by decide, by decide⟩, (h769.slotsMono (restr_spec (keep := [4, 3, 21, 22, 23, 152]) rfl))⟩ ?_
            clear h769
            rintro g2 a770 w771 ⟨l, hi773, hi774, h772⟩
            have hlg := hi773
            have hl0 := hi774
            refine wp_seq_k fun K775 hK775 => ?_
            refine nd_start (l := [0]) rfl ?_
            refine nd_batch tabOk tabZ_ok [(0, {})] [4, 3, 21, 22, 23, 152, 153] (T' := [(4, .pointer (some ⟨b25, 0, none⟩)), (3, .pointer (some ⟨kb, 0, none⟩)), (21, .slice (some ⟨sb51, k052, none⟩) ops.length c), (22, .int .i64 ((ops.length : Nat) : Int)), (23, .int .i64 i), (152, .int .i64 l), (153, .bool (decide (l < 16)))]) (φ := True) (rest := []) h772 (by kernel_rfl) rfl trivial fun a776 h777 => ?_
            clear h772
            refine nd_done ?_
            refine hK775 _ _ ?_
            clear hK775
            refine wp_seq_k fun K778 hK778 => ?_
            refine c_split h777 (b := decide (l < 16)) rfl (fun hc779 => ?_) (fun hc779 => ?_)
            ·
              have hc779f : l < 16 := by simpa using hc779
              refine wp_skip ?_
              refine hK778 _ _ ?_
              clear hK778
              refine wp_seq_k fun K780 hK780 => ?_
              refine wp_block ?_
              refine wp_seq_k fun K781 hK781 => ?_
              refine nd_start (l := [0, 1]) rfl ?_
              refine nd_batch tabOk tabZ_ok [(0, {}), (1, {})] [4, 3, 21, 22, 23, 152, 16] (T' := [(4, .pointer (some ⟨b25, 0, none⟩)), (3, .pointer (some ⟨kb, 0, none⟩)), (21, .slice (some ⟨sb51, k052, none⟩) ops.length c), (22, .int .i64 ((ops.length : Nat) : Int)), (23, .int .i64 i), (152, .int .i64 l), (16, .int .i64 l)]) (φ := True) (rest := []) h777 (by kernel_rfl) rfl trivial fun a782 h783 => ?_
              clear h777
              refine nd_done ?_
              refine hK781 _ _ ?_
              clear hK781
              refine wp_seq_k fun K784 hK784 => ?_
              refine dr_start (KB := [b25]) (Bi := [[0], [0], [0], [0], [0], [0], [0], [0]]) mixed h783 fun w785 h786 => ?_
              clear h783
              refine dr_batch tabOk tabZ_ok (by repeat (first | with_reducible exact PF.body | with_reducible apply PF.inB | with_reducible apply PF.next)) [(0, {}), (1, {}), (4, {}), (5, {}), (6, {k := 0, m := 1, vs := [.bool (M l.toNat)], p := 0})] [4, 3, 21, 22, 23, 152, 16, 155, 156, 161] (T' := [(4, .pointer (some ⟨b25, 0, none⟩)), (3, .pointer (some ⟨kb, 0, none⟩)), (21, .slice (some ⟨sb51, k052, none⟩) ops.length c), (22, .int .i64 ((ops.length : Nat) : Int)), (23, .int .i64 i), (152, .int .i64 l), (16, .int .i64 l), (155, .pointer (some ⟨kb, 0, none⟩)), (156, .int .i64 l), (161, .bool (M l.toNat))]) (φ := (0 ≤ l ∧ l < 16) ∧ (b25 = b25 ∧ cellsAre (mkC M) (0 + (l.toNat * 1)) [.bool (M l.toNat)]) ∧ True) (fuel := 3) h786 (by kernel_rfl) rfl (by kernel_rfl) (by kernel_rfl) ⟨trivial, trivial, trivial, trivial, rfl, trivial⟩ ⟨⟨by omega, by omega⟩, ⟨rfl, (mk_read (i := l.toNat) (by omega) (by omega) rfl)⟩, trivial⟩ fun a788 h789 => ?_
              clear h786
              refine wpAnyK_one (i := 2) (fuel := 2) (by kernel_rfl) ?_
              refine op_call h789 rfl rfl rfl (callOk Tryd.func33 (by decide) rfl) (args := [.pointer (some ⟨kb, 0, none⟩), .int .i64 l]) rfl (irq_ok kb bo bc Sz l ⟨by omega, by omega⟩ _ (h789.inv.get (j := 0) (p := pKer kb bo bc nd9 Sz Cz) rfl).ker) ?_
              rintro _ w790 ⟨rfl, hf792⟩
              refine ⟨_, rfl, ?_⟩
              have h791 := (h789.grow hf792).put (d := some 157) (v := .agg #[.int .u16 ((Sz.irq l.toNat).ntfn.idx), .int .u32 ((Sz.irq l.toNat).ntfn.gen), .int .u64 ((Sz.irq l.toNat).badge), .bool ((Sz.irq l.toNat).masked)]) (T' := [(157, .agg #[.int .u16 ((Sz.irq l.toNat).ntfn.idx), .int .u32 ((Sz.irq l.toNat).ntfn.gen), .int .u64 ((Sz.irq l.toNat).badge), .bool ((Sz.irq l.toNat).masked)]), (4, .pointer (some ⟨b25, 0, none⟩)), (3, .pointer (some ⟨kb, 0, none⟩)), (21, .slice (some ⟨sb51, k052, none⟩) ops.length c), (22, .int .i64 ((ops.length : Nat) : Int)), (23, .int .i64 i), (152, .int .i64 l), (16, .int .i64 l), (155, .pointer (some ⟨kb, 0, none⟩)), (156, .int .i64 l), (161, .bool (M l.toNat))]) rfl
              refine ⟨(h789.keepFr hf792 (kcons (by simp) knil)), ?_⟩
              clear h789
              refine dr_batch tabOk tabZ_ok (by repeat (first | with_reducible exact PF.body | with_reducible apply PF.inB | with_reducible apply PF.next)) [(3, {}), (7, {f := 1})] [4, 3, 21, 22, 23, 152, 16, 162] (T' := [(4, .pointer (some ⟨b25, 0, none⟩)), (3, .pointer (some ⟨kb, 0, none⟩)), (21, .slice (some ⟨sb51, k052, none⟩) ops.length c), (22, .int .i64 ((ops.length : Nat) : Int)), (23, .int .i64 i), (152, .int .i64 l), (16, .int .i64 l), (162, .bool false)]) (φ := ((((Sz.irq l.toNat).masked) != (M l.toNat))) = false ∧ True) (fuel := 0) h791 (by kernel_rfl) rfl (by kernel_rfl) (by kernel_rfl) ⟨trivial, trivial, trivial⟩ ⟨(by rw [hmz]; simp), trivial⟩ fun a793 h794 => ?_
              clear h791
              refine wpAnyK_done (by kernel_rfl) ?_ _
              refine hK784 _ _ ?_
              clear hK784
              refine c_false h794 rfl ?_
              refine wp_skip ?_
              refine hK780 _ _ ?_
              clear hK780
              refine nd_start (l := [0, 1]) rfl ?_
              refine nd_batch tabOk tabZ_ok [(0, {}), (1, {})] [4, 3, 21, 22, 23, 16, 152] (T' := [(4, .pointer (some ⟨b25, 0, none⟩)), (3, .pointer (some ⟨kb, 0, none⟩)), (21, .slice (some ⟨sb51, k052, none⟩) ops.length c), (22, .int .i64 ((ops.length : Nat) : Int)), (23, .int .i64 i), (16, .int .i64 l), (152, .int .i64 (l + 1))]) (φ := inR .i64 (l + 1) ∧ True) (rest := []) h794 (by kernel_rfl) rfl ⟨⟨by omega, by omega⟩, trivial⟩ fun a795 h796 => ?_
              clear h794
              refine nd_done ?_
              exact ⟨(g2 - 1), by omega, (l + 1), by omega, ⟨by omega, by omega⟩, (h796.slotsMono (restr_spec (keep := [4, 3, 21, 22, 23, 152]) rfl))⟩
            ·
              have hc779f : ¬ l < 16 := by simpa using hc779
              refine wp_exit ?_
              refine hK55 _ _ ?_
              clear hK55
              refine nd_start (l := [0, 1]) rfl ?_
              refine nd_batch tabOk tabZ_ok [(0, {}), (1, {})] [4, 3, 21, 22, 152, 23] (T' := [(4, .pointer (some ⟨b25, 0, none⟩)), (3, .pointer (some ⟨kb, 0, none⟩)), (21, .slice (some ⟨sb51, k052, none⟩) ops.length c), (22, .int .i64 ((ops.length : Nat) : Int)), (152, .int .i64 l), (23, .int .i64 (i + 1))]) (φ := inR .i64 (i + 1) ∧ True) (rest := []) h777 (by kernel_rfl) rfl ⟨⟨by omega, by omega⟩, trivial⟩ fun a797 h798 => ?_
              clear h777
              refine nd_done ?_
              exact ⟨(g - 1), by omega, nd9, Sz, Cz, Qz, M, (i + 1), by omega, ⟨by omega, by omega⟩, hivz.1, hivz.2, hXz, hN.liq, hmz, (h798.slotsMono (restr_spec (keep := [4, 3, 21, 22, 23]) rfl))⟩
      ·
        have harg := hN.lin hc (.inr hk)
        have hmz : ∀ l, (Sz.irq l).masked = (upd M x.ev.arg.toNat false) l := fun l => by rw [hN.msk, hmf]; unfold maskP; rw [if_neg (fun h => h hc), if_neg (by omega), if_pos (by omega)]
        refine nd_op ?_
        refine op_new tabOk (cells := [.int .u8 0, .int .u16 0, .int .u32 0, .int .u64 0, .int .u64 0, .int .u64 0, .int .u64 0, .int .u64 0, .int .u8 0, .int .u8 0]) (ty := 42) (ln := none) (L1 := fun b799 => [(b25, ⟨mkC M, 68, false⟩), (b60, ⟨[.int .u8 x.ev.kind, .int .u32 x.ev.pick, .int .u64 x.ev.draw, .int .u32 x.ev.addr, .int .u32 x.ev.node, .int .u32 x.ev.dst, .int .u32 x.ev.xfer, .int .u8 x.ev.ty, .int .u64 x.ev.arg, .int .u64 x.ev.badge, .slice x.xo x.ev.ws.length x.cx], 35, false⟩), (b83, ⟨[.int .u16 ((refP C.ent S.cur).idx), .int .u32 ((refP C.ent S.cur).gen)], 39, false⟩), (b97, ⟨[.int .u8 ((capAtP S C (refP C.ent S.cur) x.ev.addr).ty), .int .u16 ((capAtP S C (refP C.ent S.cur) x.ev.addr).obj.idx), .int .u32 ((capAtP S C (refP C.ent S.cur) x.ev.addr).obj.gen), .int .u8 ((capAtP S C (refP C.ent S.cur) x.ev.addr).rights), .int .u64 ((capAtP S C (refP C.ent S.cur) x.ev.addr).badge)], 49, false⟩), (b799, ⟨[.int .u8 0, .int .u16 0, .int .u32 0, .int .u64 0, .int .u64 0, .int .u64 0, .int .u64 0, .int .u64 0, .int .u8 0, .int .u8 0], 42, false⟩)]) h110 rfl rfl rfl rfl (by kernel_rfl) (fun _ => rfl) fun b799 w800 a801 h802 hf803 hn804 => ?_
        clear h110
        refine nd_op ?_
        refine op_store tabOk {k := 4} (L' := [(b25, ⟨mkC M, 68, false⟩), (b60, ⟨[.int .u8 x.ev.kind, .int .u32 x.ev.pick, .int .u64 x.ev.draw, .int .u32 x.ev.addr, .int .u32 x.ev.node, .int .u32 x.ev.dst, .int .u32 x.ev.xfer, .int .u8 x.ev.ty, .int .u64 x.ev.arg, .int .u64 x.ev.badge, .slice x.xo x.ev.ws.length x.cx], 35, false⟩), (b83, ⟨[.int .u16 ((refP C.ent S.cur).idx), .int .u32 ((refP C.ent S.cur).gen)], 39, false⟩), (b97, ⟨[.int .u8 ((capAtP S C (refP C.ent S.cur) x.ev.addr).ty), .int .u16 ((capAtP S C (refP C.ent S.cur) x.ev.addr).obj.idx), .int .u32 ((capAtP S C (refP C.ent S.cur) x.ev.addr).obj.gen), .int .u8 ((capAtP S C (refP C.ent S.cur) x.ev.addr).rights), .int .u64 ((capAtP S C (refP C.ent S.cur) x.ev.addr).badge)], 49, false⟩), (b799, ⟨[.int .u8 oz.code, .int .u16 oz.run.idx, .int .u32 oz.run.gen, .int .u64 oz.badge, .int .u64 oz.m0, .int .u64 oz.m1, .int .u64 oz.m2, .int .u64 oz.m3, .int .u8 oz.len, .int .u8 oz.got], 42, false⟩)]) (φ := b799 = b799 ∧ Nat.ble (0 + 10) 10 = true) h802 rfl rfl rfl (by kernel_rfl) ⟨rfl, rfl⟩ fun w805 h806 => ?_
        clear h802
        refine nd_done ?_
        refine hK105 _ _ ?_
        clear hK105
        refine wp_seq_k fun K807 hK807 => ?_
        refine nd_start (l := [0, 1, 2, 3]) rfl ?_
        refine nd_batch tabOk tabZ_ok [(0, {}), (1, {k := 1}), (2, {f := 2}), (3, {})] [10, 9, 8, 6, 4, 3, 21, 22, 23, 7, 11] (T' := [(10, .pointer (some ⟨b799, 0, none⟩)), (9, .pointer (some ⟨b97, 0, none⟩)), (8, .pointer (some ⟨b83, 0, none⟩)), (6, .pointer (some ⟨b60, 0, none⟩)), (4, .pointer (some ⟨b25, 0, none⟩)), (3, .pointer (some ⟨kb, 0, none⟩)), (21, .slice (some ⟨sb51, k052, none⟩) ops.length c), (22, .int .i64 ((ops.length : Nat) : Int)), (23, .int .i64 i), (7, .pointer (some ⟨kb2, 0, none⟩)), (11, .bool true)]) (φ := (b60 = b60 ∧ Nat.ble (8 + 1) 11 = true) ∧ (decide (x.ev.arg < 16)) = true ∧ True) (rest := []) h806 (by kernel_rfl) rfl ⟨⟨rfl, rfl⟩, (by simp [harg]), trivial⟩ fun a808 h809 => ?_
        clear h806
        refine nd_done ?_
        refine hK807 _ _ ?_
        clear hK807
        refine wp_seq_k fun K810 hK810 => ?_
        refine wp_seq_k fun K811 hK811 => ?_
        refine nd_start (l := [0, 1, 2, 3, 4, 5, 6, 7, 8, 9, 10, 11, 12, 13, 14, 15, 16]) rfl ?_
        refine nd_batch tabOk tabZ_ok [(0, {}), (1, {k := 1}), (2, {f := 1}), (3, {}), (4, {}), (5, {}), (6, {}), (7, {}), (8, {}), (9, {}), (10, {}), (11, {}), (12, {}), (13, {}), (14, {}), (15, {}), (16, {})] [10, 9, 8, 6, 4, 3, 21, 22, 23, 7, 11, 58] (T' := [(10, .pointer (some ⟨b799, 0, none⟩)), (9, .pointer (some ⟨b97, 0, none⟩)), (8, .pointer (some ⟨b83, 0, none⟩)), (6, .pointer (some ⟨b60, 0, none⟩)), (4, .pointer (some ⟨b25, 0, none⟩)), (3, .pointer (some ⟨kb, 0, none⟩)), (21, .slice (some ⟨sb51, k052, none⟩) ops.length c), (22, .int .i64 ((ops.length : Nat) : Int)), (23, .int .i64 i), (7, .pointer (some ⟨kb2, 0, none⟩)), (11, .bool true), (58, .bool false)]) (φ := (b60 = b60 ∧ Nat.ble (0 + 1) 11 = true) ∧ ((x.ev.kind == 1)) = false ∧ True) (rest := []) h809 (by kernel_rfl) rfl ⟨⟨rfl, rfl⟩, (by simp [hk]), trivial⟩ fun a812 h813 => ?_
        clear h809
        refine nd_done ?_
        refine hK811 _ _ ?_
        clear hK811
        refine c_false h813 rfl ?_
        refine wp_skip ?_
        refine hK810 _ _ ?_
        clear hK810
        refine wp_seq_k fun K814 hK814 => ?_
        refine wp_seq_k fun K815 hK815 => ?_
        refine nd_start (l := [0, 1, 2]) rfl ?_
        refine nd_batch tabOk tabZ_ok [(0, {}), (1, {k := 4}), (2, {f := 2})] [10, 9, 8, 6, 4, 3, 21, 22, 23, 7, 11, 61] (T' := [(10, .pointer (some ⟨b799, 0, none⟩)), (9, .pointer (some ⟨b97, 0, none⟩)), (8, .pointer (some ⟨b83, 0, none⟩)), (6, .pointer (some ⟨b60, 0, none⟩)), (4, .pointer (some ⟨b25, 0, none⟩)), (3, .pointer (some ⟨kb, 0, none⟩)), (21, .slice (some ⟨sb51, k052, none⟩) ops.length c), (22, .int .i64 ((ops.length : Nat) : Int)), (23, .int .i64 i), (7, .pointer (some ⟨kb2, 0, none⟩)), (11, .bool true), (61, .bool true)]) (φ := (b799 = b799 ∧ Nat.ble (0 + 1) 10 = true) ∧ ((oz.code == 0)) = true ∧ True) (rest := []) h813 (by kernel_rfl) rfl ⟨⟨rfl, rfl⟩, (by simp [hc]), trivial⟩ fun a816 h817 => ?_
        clear h813
        refine nd_done ?_
        refine hK815 _ _ ?_
        clear hK815
        refine c_true h817 rfl ?_
        refine wp_seq_k fun K818 hK818 => ?_
        refine nd_start (l := [0, 1]) rfl ?_
        refine nd_batch tabOk tabZ_ok [(0, {}), (1, {k := 1})] [10, 9, 8, 6, 4, 3, 21, 22, 23, 7, 11, 63] (T' := [(10, .pointer (some ⟨b799, 0, none⟩)), (9, .pointer (some ⟨b97, 0, none⟩)), (8, .pointer (some ⟨b83, 0, none⟩)), (6, .pointer (some ⟨b60, 0, none⟩)), (4, .pointer (some ⟨b25, 0, none⟩)), (3, .pointer (some ⟨kb, 0, none⟩)), (21, .slice (some ⟨sb51, k052, none⟩) ops.length c), (22, .int .i64 ((ops.length : Nat) : Int)), (23, .int .i64 i), (7, .pointer (some ⟨kb2, 0, none⟩)), (11, .bool true), (63, .int .u8 x.ev.kind)]) (φ := (b60 = b60 ∧ Nat.ble (0 + 1) 11 = true) ∧ True) (rest := []) h817 (by kernel_rfl) rfl ⟨⟨rfl, rfl⟩, trivial⟩ fun a819 h820 => ?_
        clear h817
        refine nd_done ?_
        refine hK818 _ _ ?_
        clear hK818
        refine wp_block ?_
        refine wp_seq_k fun K821 hK821 => ?_
        refine nd_start (l := [0, 1]) rfl ?_
        refine nd_batch tabOk tabZ_ok [(0, {f := 1}), (1, {})] [10, 9, 8, 6, 4, 3, 21, 22, 23, 7, 11, 63, 64] (T' := [(10, .pointer (some ⟨b799, 0, none⟩)), (9, .pointer (some ⟨b97, 0, none⟩)), (8, .pointer (some ⟨b83, 0, none⟩)), (6, .pointer (some ⟨b60, 0, none⟩)), (4, .pointer (some ⟨b25, 0, none⟩)), (3, .pointer (some ⟨kb, 0, none⟩)), (21, .slice (some ⟨sb51, k052, none⟩) ops.length c), (22, .int .i64 ((ops.length : Nat) : Int)), (23, .int .i64 i), (7, .pointer (some ⟨kb2, 0, none⟩)), (11, .bool true), (63, .int .u8 x.ev.kind), (64, .bool false)]) (φ := ((x.ev.kind == 8)) = false ∧ True) (rest := []) h820 (by kernel_rfl) rfl ⟨(by simp [hk]), trivial⟩ fun a822 h823 => ?_
        clear h820
        refine nd_done ?_
        refine hK821 _ _ ?_
        clear hK821
        refine c_false h823 rfl ?_
        refine wp_seq_k fun K824 hK824 => ?_
        refine nd_start (l := [0, 1]) rfl ?_
        refine nd_batch tabOk tabZ_ok [(0, {f := 1}), (1, {})] [10, 9, 8, 6, 4, 3, 21, 22, 23, 7, 11, 63, 74] (T' := [(10, .pointer (some ⟨b799, 0, none⟩)), (9, .pointer (some ⟨b97, 0, none⟩)), (8, .pointer (some ⟨b83, 0, none⟩)), (6, .pointer (some ⟨b60, 0, none⟩)), (4, .pointer (some ⟨b25, 0, none⟩)), (3, .pointer (some ⟨kb, 0, none⟩)), (21, .slice (some ⟨sb51, k052, none⟩) ops.length c), (22, .int .i64 ((ops.length : Nat) : Int)), (23, .int .i64 i), (7, .pointer (some ⟨kb2, 0, none⟩)), (11, .bool true), (63, .int .u8 x.ev.kind), (74, .bool false)]) (φ := ((x.ev.kind == 1)) = false ∧ True) (rest := []) h823 (by kernel_rfl) rfl ⟨(by simp [hk]), trivial⟩ fun a825 h826 => ?_
        clear h823
        refine nd_done ?_
        refine hK824 _ _ ?_
        clear hK824
        refine c_false h826 rfl ?_
        refine wp_seq_k fun K827 hK827 => ?_
        refine wp_seq_k fun K828 hK828 => ?_
        refine nd_start (l := [0, 1]) rfl ?_
        refine nd_batch tabOk tabZ_ok [(0, {f := 2}), (1, {})] [10, 9, 8, 6, 4, 3, 21, 22, 23, 7, 11, 63, 95] (T' := [(10, .pointer (some ⟨b799, 0, none⟩)), (9, .pointer (some ⟨b97, 0, none⟩)), (8, .pointer (some ⟨b83, 0, none⟩)), (6, .pointer (some ⟨b60, 0, none⟩)), (4, .pointer (some ⟨b25, 0, none⟩)), (3, .pointer (some ⟨kb, 0, none⟩)), (21, .slice (some ⟨sb51, k052, none⟩) ops.length c), (22, .int .i64 ((ops.length : Nat) : Int)), (23, .int .i64 i), (7, .pointer (some ⟨kb2, 0, none⟩)), (11, .bool true), (63, .int .u8 x.ev.kind), (95, .bool true)]) (φ := ((x.ev.kind == 19)) = true ∧ True) (rest := []) h826 (by kernel_rfl) rfl ⟨(by simp [hk]), trivial⟩ fun a829 h830 => ?_
        clear h826
        refine nd_done ?_
        refine hK828 _ _ ?_
        clear hK828
        refine c_true h830 rfl ?_
        refine wp_skip ?_
        refine hK827 _ _ ?_
        clear hK827
        refine c_true h830 rfl ?_
        refine nd_start (l := [0, 1, 2, 3]) rfl ?_
        refine nd_batch tabOk tabZ_ok [(0, {}), (1, {k := 1}), (2, {})] [10, 9, 8, 6, 4, 3, 21, 22, 23, 7, 11, 63, 95, 100] (T' := [(10, .pointer (some ⟨b799, 0, none⟩)), (9, .pointer (some ⟨b97, 0, none⟩)), (8, .pointer (some ⟨b83, 0, none⟩)), (6, .pointer (some ⟨b60, 0, none⟩)), (4, .pointer (some ⟨b25, 0, none⟩)), (3, .pointer (some ⟨kb, 0, none⟩)), (21, .slice (some ⟨sb51, k052, none⟩) ops.length c), (22, .int .i64 ((ops.length : Nat) : Int)), (23, .int .i64 i), (7, .pointer (some ⟨kb2, 0, none⟩)), (11, .bool true), (63, .int .u8 x.ev.kind), (95, .bool true), (100, .pointer (some ⟨b25, 0 + (x.ev.arg.toNat * 1), none⟩))]) (φ := (b60 = b60 ∧ Nat.ble (8 + 1) 11 = true) ∧ (0 ≤ x.ev.arg ∧ x.ev.arg < 16) ∧ True) (rest := [3]) h830 (by kernel_rfl) rfl ⟨⟨rfl, rfl⟩, ⟨by omega, by omega⟩, trivial⟩ fun a831 h832 => ?_
        clear h830
        refine nd_op ?_
        refine op_store tabOk {k := 0, m := 1, vs := mkC (upd M x.ev.arg.toNat false)} (L' := [(b25, ⟨mkC (upd M x.ev.arg.toNat false), 68, false⟩), (b60, ⟨[.int .u8 x.ev.kind, .int .u32 x.ev.pick, .int .u64 x.ev.draw, .int .u32 x.ev.addr, .int .u32 x.ev.node, .int .u32 x.ev.dst, .int .u32 x.ev.xfer, .int .u8 x.ev.ty, .int .u64 x.ev.arg, .int .u64 x.ev.badge, .slice x.xo x.ev.ws.length x.cx], 35, false⟩), (b83, ⟨[.int .u16 ((refP C.ent S.cur).idx), .int .u32 ((refP C.ent S.cur).gen)], 39, false⟩), (b97, ⟨[.int .u8 ((capAtP S C (refP C.ent S.cur) x.ev.addr).ty), .int .u16 ((capAtP S C (refP C.ent S.cur) x.ev.addr).obj.idx), .int .u32 ((capAtP S C (refP C.ent S.cur) x.ev.addr).obj.gen), .int .u8 ((capAtP S C (refP C.ent S.cur) x.ev.addr).rights), .int .u64 ((capAtP S C (refP C.ent S.cur) x.ev.addr).badge)], 49, false⟩), (b799, ⟨[.int .u8 oz.code, .int .u16 oz.run.idx, .int .u32 oz.run.gen, .int .u64 oz.badge, .int .u64 oz.m0, .int .u64 oz.m1, .int .u64 oz.m2, .int .u64 oz.m3, .int .u8 oz.len, .int .u8 oz.got], 42, false⟩)]) (φ := b25 = b25 ∧ Nat.ble (0 + (x.ev.arg.toNat * 1) + 1) (mkC M).length = true ∧ splice (mkC M) (0 + (x.ev.arg.toNat * 1)) [.bool false] = mkC (upd M x.ev.arg.toNat false)) h832 rfl rfl rfl (by kernel_rfl) ⟨rfl, mk_in (by omega), (mk_write (by omega) (by omega) false)⟩ fun w833 h834 => ?_
        clear h832
        refine nd_done ?_
        refine hK814 _ _ ?_
        clear hK814
        refine wp_seq_k fun K835 hK835 => ?_
        refine nd_start (l := [0]) rfl ?_
        refine nd_batch tabOk tabZ_ok [(0, {})] [10, 9, 8, 6, 4, 3, 21, 22, 23, 7, 11, 63, 95, 152] (T' := [(10, .pointer (some ⟨b799, 0, none⟩)), (9, .pointer (some ⟨b97, 0, none⟩)), (8, .pointer (some ⟨b83, 0, none⟩)), (6, .pointer (some ⟨b60, 0, none⟩)), (4, .pointer (some ⟨b25, 0, none⟩)), (3, .pointer (some ⟨kb, 0, none⟩)), (21, .slice (some ⟨sb51, k052, none⟩) ops.length c), (22, .int .i64 ((ops.length : Nat) : Int)), (23, .int .i64 i), (7, .pointer (some ⟨kb2, 0, none⟩)), (11, .bool true), (63, .int .u8 x.ev.kind), (95, .bool true), (152, .int .i64 0)]) (φ := True) (rest := []) h834 (by kernel_rfl) rfl trivial fun a836 h837 => ?_
        clear h834
        refine nd_done ?_
        refine hK835 _ _ ?_
        clear hK835
        refine wp_block ?_
        have h838 := h837.memMono (L' := [(b25, ⟨mkC (upd M x.ev.arg.toNat false), 68, false⟩)]) (List.Sublist.cons_cons _ (List.Sublist.cons _ (List.Sublist.cons _ (List.Sublist.cons _ (List.Sublist.cons _ List.Sublist.slnil)))))
        clear h837
        have h839 := h838.pcSub (ps' := [pKer kb bo bc nd9 Sz Cz]) (List.Sublist.cons_cons _ (List.Sublist.cons _ List.Sublist.slnil))
        clear h838
        refine wp_loop_ghost (fun g2 ga gw => ∃ (l : Int), ((g2 : Int) = 16 - l) ∧ (0 ≤ l ∧ l ≤ 16) ∧ St ⟨165, [], w, Pk w.heap.size [pKer kb bo bc nd9 Sz Cz], Pf [pKer kb bo bc nd9 Sz Cz]⟩ [(4, .pointer (some ⟨b25, 0, none⟩)), (3, .pointer (some ⟨kb, 0, none⟩)), (21, .slice (some ⟨sb51, k052, none⟩) ops.length c), (22, .int .i64 ((ops.length : Nat) : Int)), (23, .int .i64 i), (152, .int .i64 l)] [(b25, ⟨mkC (upd M x.ev.arg.toNat false), 68, false⟩)] ga gw) 16 ⟨0, by decide, ⟨by decide, by decide⟩, (h839.slotsMono (restr_spec (keep := [4, 3, 21, 22, 23, 152]) rfl))⟩ ?_
        clear h839
        rintro g2 a840 w841 ⟨l, hi843, hi844, h842⟩
        have hlg := hi843
        have hl0 := hi844
        refine wp_seq_k fun K845 hK845 => ?_
        refine nd_start (l := [0]) rfl ?_
        refine nd_batch tabOk tabZ_ok [(0, {})] [4, 3, 21, 22, 23, 152, 153] (T' := [(4, .pointer (some ⟨b25, 0, none⟩)), (3, .pointer (some ⟨kb, 0, none⟩)), (21, .slice (some ⟨sb51, k052, none⟩) ops.length c), (22, .int .i64 ((ops.length : Nat) : Int)), (23, .int .i64 i), (152, .int .i64 l), (153, .bool (decide (l < 16)))]) (φ := True) (rest := []) h842 (by kernel_rfl) rfl trivial fun a846 h847 => ?_
        clear h842
        refine nd_done ?_
        refine hK845 _ _ ?_
        clear hK845
        refine wp_seq_k fun K848 hK848 => ?_
        refine c_split h847 (b := decide (l < 16)) rfl (fun hc849 => ?_) (fun hc849 => ?_)
        ·
          have hc849f : l < 16 := by simpa using hc849
          refine wp_skip ?_
          refine hK848 _ _ ?_
          clear hK848
          refine wp_seq_k fun K850 hK850 => ?_
          refine wp_block ?_
          refine wp_seq_k fun K851 hK851 => ?_
          refine nd_start (l := [0, 1]) rfl ?_
          refine nd_batch tabOk tabZ_ok [(0, {}), (1, {})] [4, 3, 21, 22, 23, 152, 16] (T' := [(4, .pointer (some ⟨b25, 0, none⟩)), (3, .pointer (some ⟨kb, 0, none⟩)), (21, .slice (some ⟨sb51, k052, none⟩) ops.length c), (22, .int .i64 ((ops.length : Nat) : Int)), (23, .int .i64 i), (152, .int .i64 l), (16, .int .i64 l)]) (φ := True) (rest := []) h847 (by kernel_rfl) rfl trivial fun a852 h853 => ?_
          clear h847
          refine nd_done ?_
          refine hK851 _ _ ?_
          clear hK851
          refine wp_seq_k fun K854 hK854 => ?_
          refine dr_start (KB := [b25]) (Bi := [[0], [0], [0], [0], [0], [0], [0], [0]]) mixed h853 fun w855 h856 => ?_
          clear h853
          refine dr_batch tabOk tabZ_ok (by repeat (first | with_reducible exact PF.body | with_reducible apply PF.inB | with_reducible apply PF.next)) [(0, {}), (1, {}), (4, {}), (5, {}), (6, {k := 0, m := 1, vs := [.bool ((upd M x.ev.arg.toNat false) l.toNat)], p := 0})] [4, 3, 21, 22, 23, 152, 16, 155, 156, 161] (T' := [(4, .pointer (some ⟨b25, 0, none⟩)), (3, .pointer (some ⟨kb, 0, none⟩)), (21, .slice (some ⟨sb51, k052, none⟩) ops.length c), (22, .int .i64 ((ops.length : Nat) : Int)), (23, .int .i64 i), (152, .int .i64 l), (16, .int .i64 l), (155, .pointer (some ⟨kb, 0, none⟩)), (156, .int .i64 l), (161, .bool ((upd M x.ev.arg.toNat false) l.toNat))]) (φ := (0 ≤ l ∧ l < 16) ∧ (b25 = b25 ∧ cellsAre (mkC (upd M x.ev.arg.toNat false)) (0 + (l.toNat * 1)) [.bool ((upd M x.ev.arg.toNat false) l.toNat)]) ∧ True) (fuel := 3) h856 (by kernel_rfl) rfl (by kernel_rfl) (by kernel_rfl) ⟨trivial, trivial, trivial, trivial, rfl, trivial⟩ ⟨⟨by omega, by omega⟩, ⟨rfl, (mk_read (i := l.toNat) (by omega) (by omega) rfl)⟩, trivial⟩ fun a858 h859 => ?_
          clear h856
          refine wpAnyK_one (i := 2) (fuel := 2) (by kernel_rfl) ?_
          refine op_call h859 rfl rfl rfl (callOk Tryd.func33 (by decide) rfl) (args := [.pointer (some ⟨kb, 0, none⟩), .int .i64 l]) rfl (irq_ok kb bo bc Sz l ⟨by omega, by omega⟩ _ (h859.inv.get (j := 0) (p := pKer kb bo bc nd9 Sz Cz) rfl).ker) ?_
          rintro _ w860 ⟨rfl, hf862⟩
          refine ⟨_, rfl, ?_⟩
          have h861 := (h859.grow hf862).put (d := some 157) (v := .agg #[.int .u16 ((Sz.irq l.toNat).ntfn.idx), .int .u32 ((Sz.irq l.toNat).ntfn.gen), .int .u64 ((Sz.irq l.toNat).badge), .bool ((Sz.irq l.toNat).masked)]) (T' := [(157, .agg #[.int .u16 ((Sz.irq l.toNat).ntfn.idx), .int .u32 ((Sz.irq l.toNat).ntfn.gen), .int .u64 ((Sz.irq l.toNat).badge), .bool ((Sz.irq l.toNat).masked)]), (4, .pointer (some ⟨b25, 0, none⟩)), (3, .pointer (some ⟨kb, 0, none⟩)), (21, .slice (some ⟨sb51, k052, none⟩) ops.length c), (22, .int .i64 ((ops.length : Nat) : Int)), (23, .int .i64 i), (152, .int .i64 l), (16, .int .i64 l), (155, .pointer (some ⟨kb, 0, none⟩)), (156, .int .i64 l), (161, .bool ((upd M x.ev.arg.toNat false) l.toNat))]) rfl
          refine ⟨(h859.keepFr hf862 (kcons (by simp) knil)), ?_⟩
          clear h859
          refine dr_batch tabOk tabZ_ok (by repeat (first | with_reducible exact PF.body | with_reducible apply PF.inB | with_reducible apply PF.next)) [(3, {}), (7, {f := 1})] [4, 3, 21, 22, 23, 152, 16, 162] (T' := [(4, .pointer (some ⟨b25, 0, none⟩)), (3, .pointer (some ⟨kb, 0, none⟩)), (21, .slice (some ⟨sb51, k052, none⟩) ops.length c), (22, .int .i64 ((ops.length : Nat) : Int)), (23, .int .i64 i), (152, .int .i64 l), (16, .int .i64 l), (162, .bool false)]) (φ := ((((Sz.irq l.toNat).masked) != ((upd M x.ev.arg.toNat false) l.toNat))) = false ∧ True) (fuel := 0) h861 (by kernel_rfl) rfl (by kernel_rfl) (by kernel_rfl) ⟨trivial, trivial, trivial⟩ ⟨(by rw [hmz]; simp), trivial⟩ fun a863 h864 => ?_
          clear h861
          refine wpAnyK_done (by kernel_rfl) ?_ _
          refine hK854 _ _ ?_
          clear hK854
          refine c_false h864 rfl ?_
          refine wp_skip ?_
          refine hK850 _ _ ?_
          clear hK850
          refine nd_start (l := [0, 1]) rfl ?_
          refine nd_batch tabOk tabZ_ok [(0, {}), (1, {})] [4, 3, 21, 22, 23, 16, 152] (T' := [(4, .pointer (some ⟨b25, 0, none⟩)), (3, .pointer (some ⟨kb, 0, none⟩)), (21, .slice (some ⟨sb51, k052, none⟩) ops.length c), (22, .int .i64 ((ops.length : Nat) : Int)), (23, .int .i64 i), (16, .int .i64 l), (152, .int .i64 (l + 1))]) (φ := inR .i64 (l + 1) ∧ True) (rest := []) h864 (by kernel_rfl) rfl ⟨⟨by omega, by omega⟩, trivial⟩ fun a865 h866 => ?_
          clear h864
          refine nd_done ?_
          exact ⟨(g2 - 1), by omega, (l + 1), by omega, ⟨by omega, by omega⟩, (h866.slotsMono (restr_spec (keep := [4, 3, 21, 22, 23, 152]) rfl))⟩
        ·
          have hc849f : ¬ l < 16 := by simpa using hc849
          refine wp_exit ?_
          refine hK55 _ _ ?_
          clear hK55
          refine nd_start (l := [0, 1]) rfl ?_
          refine nd_batch tabOk tabZ_ok [(0, {}), (1, {})] [4, 3, 21, 22, 152, 23] (T' := [(4, .pointer (some ⟨b25, 0, none⟩)), (3, .pointer (some ⟨kb, 0, none⟩)), (21, .slice (some ⟨sb51, k052, none⟩) ops.length c), (22, .int .i64 ((ops.length : Nat) : Int)), (152, .int .i64 l), (23, .int .i64 (i + 1))]) (φ := inR .i64 (i + 1) ∧ True) (rest := []) h847 (by kernel_rfl) rfl ⟨⟨by omega, by omega⟩, trivial⟩ fun a867 h868 => ?_
          clear h847
          refine nd_done ?_
          exact ⟨(g - 1), by omega, nd9, Sz, Cz, Qz, (upd M x.ev.arg.toNat false), (i + 1), by omega, ⟨by omega, by omega⟩, hivz.1, hivz.2, hXz, hN.liq, hmz, (h868.slotsMono (restr_spec (keep := [4, 3, 21, 22, 23]) rfl))⟩
      ·
        have harg := hN.lin hc (.inl hk)
        have hmz : ∀ l, (Sz.irq l).masked = (upd M x.ev.arg.toNat false) l := fun l => by rw [hN.msk, hmf]; unfold maskP; rw [if_neg (fun h => h hc), if_neg (by omega), if_pos (by omega)]
        refine nd_op ?_
        refine op_new tabOk (cells := [.int .u8 0, .int .u16 0, .int .u32 0, .int .u64 0, .int .u64 0, .int .u64 0, .int .u64 0, .int .u64 0, .int .u8 0, .int .u8 0]) (ty := 42) (ln := none) (L1 := fun b869 => [(b25, ⟨mkC M, 68, false⟩), (b60, ⟨[.int .u8 x.ev.kind, .int .u32 x.ev.pick, .int .u64 x.ev.draw, .int .u32 x.ev.addr, .int .u32 x.ev.node, .int .u32 x.ev.dst, .int .u32 x.ev.xfer, .int .u8 x.ev.ty, .int .u64 x.ev.arg, .int .u64 x.ev.badge, .slice x.xo x.ev.ws.length x.cx], 35, false⟩), (b83, ⟨[.int .u16 ((refP C.ent S.cur).idx), .int .u32 ((refP C.ent S.cur).gen)], 39, false⟩), (b97, ⟨[.int .u8 ((capAtP S C (refP C.ent S.cur) x.ev.addr).ty), .int .u16 ((capAtP S C (refP C.ent S.cur) x.ev.addr).obj.idx), .int .u32 ((capAtP S C (refP C.ent S.cur) x.ev.addr).obj.gen), .int .u8 ((capAtP S C (refP C.ent S.cur) x.ev.addr).rights), .int .u64 ((capAtP S C (refP C.ent S.cur) x.ev.addr).badge)], 49, false⟩), (b869, ⟨[.int .u8 0, .int .u16 0, .int .u32 0, .int .u64 0, .int .u64 0, .int .u64 0, .int .u64 0, .int .u64 0, .int .u8 0, .int .u8 0], 42, false⟩)]) h110 rfl rfl rfl rfl (by kernel_rfl) (fun _ => rfl) fun b869 w870 a871 h872 hf873 hn874 => ?_
        clear h110
        refine nd_op ?_
        refine op_store tabOk {k := 4} (L' := [(b25, ⟨mkC M, 68, false⟩), (b60, ⟨[.int .u8 x.ev.kind, .int .u32 x.ev.pick, .int .u64 x.ev.draw, .int .u32 x.ev.addr, .int .u32 x.ev.node, .int .u32 x.ev.dst, .int .u32 x.ev.xfer, .int .u8 x.ev.ty, .int .u64 x.ev.arg, .int .u64 x.ev.badge, .slice x.xo x.ev.ws.length x.cx], 35, false⟩), (b83, ⟨[.int .u16 ((refP C.ent S.cur).idx), .int .u32 ((refP C.ent S.cur).gen)], 39, false⟩), (b97, ⟨[.int .u8 ((capAtP S C (refP C.ent S.cur) x.ev.addr).ty), .int .u16 ((capAtP S C (refP C.ent S.cur) x.ev.addr).obj.idx), .int .u32 ((capAtP S C (refP C.ent S.cur) x.ev.addr).obj.gen), .int .u8 ((capAtP S C (refP C.ent S.cur) x.ev.addr).rights), .int .u64 ((capAtP S C (refP C.ent S.cur) x.ev.addr).badge)], 49, false⟩), (b869, ⟨[.int .u8 oz.code, .int .u16 oz.run.idx, .int .u32 oz.run.gen, .int .u64 oz.badge, .int .u64 oz.m0, .int .u64 oz.m1, .int .u64 oz.m2, .int .u64 oz.m3, .int .u8 oz.len, .int .u8 oz.got], 42, false⟩)]) (φ := b869 = b869 ∧ Nat.ble (0 + 10) 10 = true) h872 rfl rfl rfl (by kernel_rfl) ⟨rfl, rfl⟩ fun w875 h876 => ?_
        clear h872
        refine nd_done ?_
        refine hK105 _ _ ?_
        clear hK105
        refine wp_seq_k fun K877 hK877 => ?_
        refine nd_start (l := [0, 1, 2, 3]) rfl ?_
        refine nd_batch tabOk tabZ_ok [(0, {}), (1, {k := 1}), (2, {f := 2}), (3, {})] [10, 9, 8, 6, 4, 3, 21, 22, 23, 7, 11] (T' := [(10, .pointer (some ⟨b869, 0, none⟩)), (9, .pointer (some ⟨b97, 0, none⟩)), (8, .pointer (some ⟨b83, 0, none⟩)), (6, .pointer (some ⟨b60, 0, none⟩)), (4, .pointer (some ⟨b25, 0, none⟩)), (3, .pointer (some ⟨kb, 0, none⟩)), (21, .slice (some ⟨sb51, k052, none⟩) ops.length c), (22, .int .i64 ((ops.length : Nat) : Int)), (23, .int .i64 i), (7, .pointer (some ⟨kb2, 0, none⟩)), (11, .bool true)]) (φ := (b60 = b60 ∧ Nat.ble (8 + 1) 11 = true) ∧ (decide (x.ev.arg < 16)) = true ∧ True) (rest := []) h876 (by kernel_rfl) rfl ⟨⟨rfl, rfl⟩, (by simp [harg]), trivial⟩ fun a878 h879 => ?_
        clear h876
        refine nd_done ?_
        refine hK877 _ _ ?_
        clear hK877
        refine wp_seq_k fun K880 hK880 => ?_
        refine wp_seq_k fun K881 hK881 => ?_
        refine nd_start (l := [0, 1, 2, 3, 4, 5, 6, 7, 8, 9, 10, 11, 12, 13, 14, 15, 16]) rfl ?_
        refine nd_batch tabOk tabZ_ok [(0, {}), (1, {k := 1}), (2, {f := 1}), (3, {}), (4, {}), (5, {}), (6, {}), (7, {}), (8, {}), (9, {}), (10, {}), (11, {}), (12, {}), (13, {}), (14, {}), (15, {}), (16, {})] [10, 9, 8, 6, 4, 3, 21, 22, 23, 7, 11, 58] (T' := [(10, .pointer (some ⟨b869, 0, none⟩)), (9, .pointer (some ⟨b97, 0, none⟩)), (8, .pointer (some ⟨b83, 0, none⟩)), (6, .pointer (some ⟨b60, 0, none⟩)), (4, .pointer (some ⟨b25, 0, none⟩)), (3, .pointer (some ⟨kb, 0, none⟩)), (21, .slice (some ⟨sb51, k052, none⟩) ops.length c), (22, .int .i64 ((ops.length : Nat) : Int)), (23, .int .i64 i), (7, .pointer (some ⟨kb2, 0, none⟩)), (11, .bool true), (58, .bool false)]) (φ := (b60 = b60 ∧ Nat.ble (0 + 1) 11 = true) ∧ ((x.ev.kind == 1)) = false ∧ True) (rest := []) h879 (by kernel_rfl) rfl ⟨⟨rfl, rfl⟩, (by simp [hk]), trivial⟩ fun a882 h883 => ?_
        clear h879
        refine nd_done ?_
        refine hK881 _ _ ?_
        clear hK881
        refine c_false h883 rfl ?_
        refine wp_skip ?_
        refine hK880 _ _ ?_
        clear hK880
        refine wp_seq_k fun K884 hK884 => ?_
        refine wp_seq_k fun K885 hK885 => ?_
        refine nd_start (l := [0, 1, 2]) rfl ?_
        refine nd_batch tabOk tabZ_ok [(0, {}), (1, {k := 4}), (2, {f := 2})] [10, 9, 8, 6, 4, 3, 21, 22, 23, 7, 11, 61] (T' := [(10, .pointer (some ⟨b869, 0, none⟩)), (9, .pointer (some ⟨b97, 0, none⟩)), (8, .pointer (some ⟨b83, 0, none⟩)), (6, .pointer (some ⟨b60, 0, none⟩)), (4, .pointer (some ⟨b25, 0, none⟩)), (3, .pointer (some ⟨kb, 0, none⟩)), (21, .slice (some ⟨sb51, k052, none⟩) ops.length c), (22, .int .i64 ((ops.length : Nat) : Int)), (23, .int .i64 i), (7, .pointer (some ⟨kb2, 0, none⟩)), (11, .bool true), (61, .bool true)]) (φ := (b869 = b869 ∧ Nat.ble (0 + 1) 10 = true) ∧ ((oz.code == 0)) = true ∧ True) (rest := []) h883 (by kernel_rfl) rfl ⟨⟨rfl, rfl⟩, (by simp [hc]), trivial⟩ fun a886 h887 => ?_
        clear h883
        refine nd_done ?_
        refine hK885 _ _ ?_
        clear hK885
        refine c_true h887 rfl ?_
        refine wp_seq_k fun K888 hK888 => ?_
        refine nd_start (l := [0, 1]) rfl ?_
        refine nd_batch tabOk tabZ_ok [(0, {}), (1, {k := 1})] [10, 9, 8, 6, 4, 3, 21, 22, 23, 7, 11, 63] (T' := [(10, .pointer (some ⟨b869, 0, none⟩)), (9, .pointer (some ⟨b97, 0, none⟩)), (8, .pointer (some ⟨b83, 0, none⟩)), (6, .pointer (some ⟨b60, 0, none⟩)), (4, .pointer (some ⟨b25, 0, none⟩)), (3, .pointer (some ⟨kb, 0, none⟩)), (21, .slice (some ⟨sb51, k052, none⟩) ops.length c), (22, .int .i64 ((ops.length : Nat) : Int)), (23, .int .i64 i), (7, .pointer (some ⟨kb2, 0, none⟩)), (11, .bool true), (63, .int .u8 x.ev.kind)]) (φ := (b60 = b60 ∧ Nat.ble (0 + 1) 11 = true) ∧ True) (rest := []) h887 (by kernel_rfl) rfl ⟨⟨rfl, rfl⟩, trivial⟩ fun a889 h890 => ?_
        clear h887
        refine nd_done ?_
        refine hK888 _ _ ?_
        clear hK888
        refine wp_block ?_
        refine wp_seq_k fun K891 hK891 => ?_
        refine nd_start (l := [0, 1]) rfl ?_
        refine nd_batch tabOk tabZ_ok [(0, {f := 1}), (1, {})] [10, 9, 8, 6, 4, 3, 21, 22, 23, 7, 11, 63, 64] (T' := [(10, .pointer (some ⟨b869, 0, none⟩)), (9, .pointer (some ⟨b97, 0, none⟩)), (8, .pointer (some ⟨b83, 0, none⟩)), (6, .pointer (some ⟨b60, 0, none⟩)), (4, .pointer (some ⟨b25, 0, none⟩)), (3, .pointer (some ⟨kb, 0, none⟩)), (21, .slice (some ⟨sb51, k052, none⟩) ops.length c), (22, .int .i64 ((ops.length : Nat) : Int)), (23, .int .i64 i), (7, .pointer (some ⟨kb2, 0, none⟩)), (11, .bool true), (63, .int .u8 x.ev.kind), (64, .bool false)]) (φ := ((x.ev.kind == 8)) = false ∧ True) (rest := []) h890 (by kernel_rfl) rfl ⟨(by simp [hk]), trivial⟩ fun a892 h893 => ?_
        clear h890
        refine nd_done ?_
        refine hK891 _ _ ?_
        clear hK891
        refine c_false h893 rfl ?_
        refine wp_seq_k fun K894 hK894 => ?_
        refine nd_start (l := [0, 1]) rfl ?_
        refine nd_batch tabOk tabZ_ok [(0, {f := 1}), (1, {})] [10, 9, 8, 6, 4, 3, 21, 22, 23, 7, 11, 63, 74] (T' := [(10, .pointer (some ⟨b869, 0, none⟩)), (9, .pointer (some ⟨b97, 0, none⟩)), (8, .pointer (some ⟨b83, 0, none⟩)), (6, .pointer (some ⟨b60, 0, none⟩)), (4, .pointer (some ⟨b25, 0, none⟩)), (3, .pointer (some ⟨kb, 0, none⟩)), (21, .slice (some ⟨sb51, k052, none⟩) ops.length c), (22, .int .i64 ((ops.length : Nat) : Int)), (23, .int .i64 i), (7, .pointer (some ⟨kb2, 0, none⟩)), (11, .bool true), (63, .int .u8 x.ev.kind), (74, .bool false)]) (φ := ((x.ev.kind == 1)) = false ∧ True) (rest := []) h893 (by kernel_rfl) rfl ⟨(by simp [hk]), trivial⟩ fun a895 h896 => ?_
        clear h893
        refine nd_done ?_
        refine hK894 _ _ ?_
        clear hK894
        refine c_false h896 rfl ?_
        refine wp_seq_k fun K897 hK897 => ?_
        refine wp_seq_k fun K898 hK898 => ?_
        refine nd_start (l := [0, 1]) rfl ?_
        refine nd_batch tabOk tabZ_ok [(0, {f := 1}), (1, {})] [10, 9, 8, 6, 4, 3, 21, 22, 23, 7, 11, 63, 95] (T' := [(10, .pointer (some ⟨b869, 0, none⟩)), (9, .pointer (some ⟨b97, 0, none⟩)), (8, .pointer (some ⟨b83, 0, none⟩)), (6, .pointer (some ⟨b60, 0, none⟩)), (4, .pointer (some ⟨b25, 0, none⟩)), (3, .pointer (some ⟨kb, 0, none⟩)), (21, .slice (some ⟨sb51, k052, none⟩) ops.length c), (22, .int .i64 ((ops.length : Nat) : Int)), (23, .int .i64 i), (7, .pointer (some ⟨kb2, 0, none⟩)), (11, .bool true), (63, .int .u8 x.ev.kind), (95, .bool false)]) (φ := ((x.ev.kind == 19)) = false ∧ True) (rest := []) h896 (by kernel_rfl) rfl ⟨(by simp [hk]), trivial⟩ fun a899 h900 => ?_
        clear h896
        refine nd_done ?_
        refine hK898 _ _ ?_
        clear hK898
        refine c_false h900 rfl ?_
        refine nd_start (l := [0, 1]) rfl ?_
        refine nd_batch tabOk tabZ_ok [(0, {f := 2}), (1, {})] [10, 9, 8, 6, 4, 3, 21, 22, 23, 7, 11, 63, 95] (T' := [(10, .pointer (some ⟨b869, 0, none⟩)), (9, .pointer (some ⟨b97, 0, none⟩)), (8, .pointer (some ⟨b83, 0, none⟩)), (6, .pointer (some ⟨b60, 0, none⟩)), (4, .pointer (some ⟨b25, 0, none⟩)), (3, .pointer (some ⟨kb, 0, none⟩)), (21, .slice (some ⟨sb51, k052, none⟩) ops.length c), (22, .int .i64 ((ops.length : Nat) : Int)), (23, .int .i64 i), (7, .pointer (some ⟨kb2, 0, none⟩)), (11, .bool true), (63, .int .u8 x.ev.kind), (95, .bool true)]) (φ := ((x.ev.kind == 18)) = true ∧ True) (rest := []) h900 (by kernel_rfl) rfl ⟨(by simp [hk]), trivial⟩ fun a901 h902 => ?_
        clear h900
        refine nd_done ?_
        refine hK897 _ _ ?_
        clear hK897
        refine c_true h902 rfl ?_
        refine nd_start (l := [0, 1, 2, 3]) rfl ?_
        refine nd_batch tabOk tabZ_ok [(0, {}), (1, {k := 1}), (2, {})] [10, 9, 8, 6, 4, 3, 21, 22, 23, 7, 11, 63, 95, 100] (T' := [(10, .pointer (some ⟨b869, 0, none⟩)), (9, .pointer (some ⟨b97, 0, none⟩)), (8, .pointer (some ⟨b83, 0, none⟩)), (6, .pointer (some ⟨b60, 0, none⟩)), (4, .pointer (some ⟨b25, 0, none⟩)), (3, .pointer (some ⟨kb, 0, none⟩)), (21, .slice (some ⟨sb51, k052, none⟩) ops.length c), (22, .int .i64 ((ops.length : Nat) : Int)), (23, .int .i64 i), (7, .pointer (some ⟨kb2, 0, none⟩)), (11, .bool true), (63, .int .u8 x.ev.kind), (95, .bool true), (100, .pointer (some ⟨b25, 0 + (x.ev.arg.toNat * 1), none⟩))]) (φ := (b60 = b60 ∧ Nat.ble (8 + 1) 11 = true) ∧ (0 ≤ x.ev.arg ∧ x.ev.arg < 16) ∧ True) (rest := [3]) h902 (by kernel_rfl) rfl ⟨⟨rfl, rfl⟩, ⟨by omega, by omega⟩, trivial⟩ fun a903 h904 => ?_
        clear h902
        refine nd_op ?_
        refine op_store tabOk {k := 0, m := 1, vs := mkC (upd M x.ev.arg.toNat false)} (L' := [(b25, ⟨mkC (upd M x.ev.arg.toNat false), 68, false⟩), (b60, ⟨[.int .u8 x.ev.kind, .int .u32 x.ev.pick, .int .u64 x.ev.draw, .int .u32 x.ev.addr, .int .u32 x.ev.node, .int .u32 x.ev.dst, .int .u32 x.ev.xfer, .int .u8 x.ev.ty, .int .u64 x.ev.arg, .int .u64 x.ev.badge, .slice x.xo x.ev.ws.length x.cx], 35, false⟩), (b83, ⟨[.int .u16 ((refP C.ent S.cur).idx), .int .u32 ((refP C.ent S.cur).gen)], 39, false⟩), (b97, ⟨[.int .u8 ((capAtP S C (refP C.ent S.cur) x.ev.addr).ty), .int .u16 ((capAtP S C (refP C.ent S.cur) x.ev.addr).obj.idx), .int .u32 ((capAtP S C (refP C.ent S.cur) x.ev.addr).obj.gen), .int .u8 ((capAtP S C (refP C.ent S.cur) x.ev.addr).rights), .int .u64 ((capAtP S C (refP C.ent S.cur) x.ev.addr).badge)], 49, false⟩), (b869, ⟨[.int .u8 oz.code, .int .u16 oz.run.idx, .int .u32 oz.run.gen, .int .u64 oz.badge, .int .u64 oz.m0, .int .u64 oz.m1, .int .u64 oz.m2, .int .u64 oz.m3, .int .u8 oz.len, .int .u8 oz.got], 42, false⟩)]) (φ := b25 = b25 ∧ Nat.ble (0 + (x.ev.arg.toNat * 1) + 1) (mkC M).length = true ∧ splice (mkC M) (0 + (x.ev.arg.toNat * 1)) [.bool false] = mkC (upd M x.ev.arg.toNat false)) h904 rfl rfl rfl (by kernel_rfl) ⟨rfl, mk_in (by omega), (mk_write (by omega) (by omega) false)⟩ fun w905 h906 => ?_
        clear h904
        refine nd_done ?_
        refine hK884 _ _ ?_
        clear hK884
        refine wp_seq_k fun K907 hK907 => ?_
        refine nd_start (l := [0]) rfl ?_
        refine nd_batch tabOk tabZ_ok [(0, {})] [10, 9, 8, 6, 4, 3, 21, 22, 23, 7, 11, 63, 95, 152] (T' := [(10, .pointer (some ⟨b869, 0, none⟩)), (9, .pointer (some ⟨b97, 0, none⟩)), (8, .pointer (some ⟨b83, 0, none⟩)), (6, .pointer (some ⟨b60, 0, none⟩)), (4, .pointer (some ⟨b25, 0, none⟩)), (3, .pointer (some ⟨kb, 0, none⟩)), (21, .slice (some ⟨sb51, k052, none⟩) ops.length c), (22, .int .i64 ((ops.length : Nat) : Int)), (23, .int .i64 i), (7, .pointer (some ⟨kb2, 0, none⟩)), (11, .bool true), (63, .int .u8 x.ev.kind), (95, .bool true), (152, .int .i64 0)]) (φ := True) (rest := []) h906 (by kernel_rfl) rfl trivial fun a908 h909 => ?_
        clear h906
        refine nd_done ?_
        refine hK907 _ _ ?_
        clear hK907
        refine wp_block ?_
        have h910 := h909.memMono (L' := [(b25, ⟨mkC (upd M x.ev.arg.toNat false), 68, false⟩)]) (List.Sublist.cons_cons _ (List.Sublist.cons _ (List.Sublist.cons _ (List.Sublist.cons _ (List.Sublist.cons _ List.Sublist.slnil)))))
        clear h909
        have h911 := h910.pcSub (ps' := [pKer kb bo bc nd9 Sz Cz]) (List.Sublist.cons_cons _ (List.Sublist.cons _ List.Sublist.slnil))
        clear h910
        refine wp_loop_ghost (fun g2 ga gw => ∃ (l : Int), ((g2 : Int) = 16 - l) ∧ (0 ≤ l ∧ l ≤ 16) ∧ St ⟨165, [], w, Pk w.heap.size [pKer kb bo bc nd9 Sz Cz], Pf [pKer kb bo bc nd9 Sz Cz]⟩ [(4, .pointer (some ⟨b25, 0, none⟩)), (3, .pointer (some ⟨kb, 0, none⟩)), (21, .slice (some ⟨sb51, k052, none⟩) ops.length c), (22, .int .i64 ((ops.length : Nat) : Int)), (23, .int .i64 i), (152, .int .i64 l)] [(b25, ⟨mkC (upd M x.ev.arg.toNat false), 68, false⟩)] ga gw) 16 ⟨0, by decide, ⟨by decide, by decide⟩, (h911.slotsMono (restr_spec (keep := [4, 3, 21, 22, 23, 152]) rfl))⟩ ?_
        clear h911
        rintro g2 a912 w913 ⟨l, hi915, hi916, h914⟩
        have hlg := hi915
        have hl0 := hi916
        refine wp_seq_k fun K917 hK917 => ?_
        refine nd_start (l := [0]) rfl ?_
        refine nd_batch tabOk tabZ_ok [(0, {})] [4, 3, 21, 22, 23, 152, 153] (T' := [(4, .pointer (some ⟨b25, 0, none⟩)), (3, .pointer (some ⟨kb, 0, none⟩)), (21, .slice (some ⟨sb51, k052, none⟩) ops.length c), (22, .int .i64 ((ops.length : Nat) : Int)), (23, .int .i64 i), (152, .int .i64 l), (153, .bool (decide (l < 16)))]) (φ := True) (rest := []) h914 (by kernel_rfl) rfl trivial fun a918 h919 => ?_
        clear h914
        refine nd_done ?_
        refine hK917 _ _ ?_
        clear hK917
        refine wp_seq_k fun K920 hK920 => ?_
        refine c_split h919 (b := decide (l < 16)) rfl (fun hc921 => ?_) (fun hc921 => ?_)
        ·
          have hc921f : l < 16 := by simpa using hc921
          refine wp_skip ?_
          refine hK920 _ _ ?_
          clear hK920
          refine wp_seq_k fun K922 hK922 => ?_
          refine wp_block ?_
          refine wp_seq_k fun K923 hK923 => ?_
          refine nd_start (l := [0, 1]) rfl ?_
          refine nd_batch tabOk tabZ_ok [(0, {}), (1, {})] [4, 3, 21, 22, 23, 152, 16] (T' := [(4, .pointer (some ⟨b25, 0, none⟩)), (3, .pointer (some ⟨kb, 0, none⟩)), (21, .slice (some ⟨sb51, k052, none⟩) ops.length c), (22, .int .i64 ((ops.length : Nat) : Int)), (23, .int .i64 i), (152, .int .i64 l), (16, .int .i64 l)]) (φ := True) (rest := []) h919 (by kernel_rfl) rfl trivial fun a924 h925 => ?_
          clear h919
          refine nd_done ?_
          refine hK923 _ _ ?_
          clear hK923
          refine wp_seq_k fun K926 hK926 => ?_
          refine dr_start (KB := [b25]) (Bi := [[0], [0], [0], [0], [0], [0], [0], [0]]) mixed h925 fun w927 h928 => ?_
          clear h925
          refine dr_batch tabOk tabZ_ok (by repeat (first | with_reducible exact PF.body | with_reducible apply PF.inB | with_reducible apply PF.next)) [(0, {}), (1, {}), (4, {}), (5, {}), (6, {k := 0, m := 1, vs := [.bool ((upd M x.ev.arg.toNat false) l.toNat)], p := 0})] [4, 3, 21, 22, 23, 152, 16, 155, 156, 161] (T' := [(4, .pointer (some ⟨b25, 0, none⟩)), (3, .pointer (some ⟨kb, 0, none⟩)), (21, .slice (some ⟨sb51, k052, none⟩) ops.length c), (22, .int .i64 ((ops.length : Nat) : Int)), (23, .int .i64 i), (152, .int .i64 l), (16, .int .i64 l), (155, .pointer (some ⟨kb, 0, none⟩)), (156, .int .i64 l), (161, .bool ((upd M x.ev.arg.toNat false) l.toNat))]) (φ := (0 ≤ l ∧ l < 16) ∧ (b25 = b25 ∧ cellsAre (mkC (upd M x.ev.arg.toNat false)) (0 + (l.toNat * 1)) [.bool ((upd M x.ev.arg.toNat false) l.toNat)]) ∧ True) (fuel := 3) h928 (by kernel_rfl) rfl (by kernel_rfl) (by kernel_rfl) ⟨trivial, trivial, trivial, trivial, rfl, trivial⟩ ⟨⟨by omega, by omega⟩, ⟨rfl, (mk_read (i := l.toNat) (by omega) (by omega) rfl)⟩, trivial⟩ fun a930 h931 => ?_
          clear h928
          refine wpAnyK_one (i := 2) (fuel := 2) (by kernel_rfl) ?_
          refine op_call h931 rfl rfl rfl (callOk Tryd.func33 (by decide) rfl) (args := [.pointer (some ⟨kb, 0, none⟩), .int .i64 l]) rfl (irq_ok kb bo bc Sz l ⟨by omega, by omega⟩ _ (h931.inv.get (j := 0) (p := pKer kb bo bc nd9 Sz Cz) rfl).ker) ?_
          rintro _ w932 ⟨rfl, hf934⟩
          refine ⟨_, rfl, ?_⟩
          have h933 := (h931.grow hf934).put (d := some 157) (v := .agg #[.int .u16 ((Sz.irq l.toNat).ntfn.idx), .int .u32 ((Sz.irq l.toNat).ntfn.gen), .int .u64 ((Sz.irq l.toNat).badge), .bool ((Sz.irq l.toNat).masked)]) (T' := [(157, .agg #[.int .u16 ((Sz.irq l.toNat).ntfn.idx), .int .u32 ((Sz.irq l.toNat).ntfn.gen), .int .u64 ((Sz.irq l.toNat).badge), .bool ((Sz.irq l.toNat).masked)]), (4, .pointer (some ⟨b25, 0, none⟩)), (3, .pointer (some ⟨kb, 0, none⟩)), (21, .slice (some ⟨sb51, k052, none⟩) ops.length c), (22, .int .i64 ((ops.length : Nat) : Int)), (23, .int .i64 i), (152, .int .i64 l), (16, .int .i64 l), (155, .pointer (some ⟨kb, 0, none⟩)), (156, .int .i64 l), (161, .bool ((upd M x.ev.arg.toNat false) l.toNat))]) rfl
          refine ⟨(h931.keepFr hf934 (kcons (by simp) knil)), ?_⟩
          clear h931
          refine dr_batch tabOk tabZ_ok (by repeat (first | with_reducible exact PF.body | with_reducible apply PF.inB | with_reducible apply PF.next)) [(3, {}), (7, {f := 1})] [4, 3, 21, 22, 23, 152, 16, 162] (T' := [(4, .pointer (some ⟨b25, 0, none⟩)), (3, .pointer (some ⟨kb, 0, none⟩)), (21, .slice (some ⟨sb51, k052, none⟩) ops.length c), (22, .int .i64 ((ops.length : Nat) : Int)), (23, .int .i64 i), (152, .int .i64 l), (16, .int .i64 l), (162, .bool false)]) (φ := ((((Sz.irq l.toNat).masked) != ((upd M x.ev.arg.toNat false) l.toNat))) = false ∧ True) (fuel := 0) h933 (by kernel_rfl) rfl (by kernel_rfl) (by kernel_rfl) ⟨trivial, trivial, trivial⟩ ⟨(by rw [hmz]; simp), trivial⟩ fun a935 h936 => ?_
          clear h933
          refine wpAnyK_done (by kernel_rfl) ?_ _
          refine hK926 _ _ ?_
          clear hK926
          refine c_false h936 rfl ?_
          refine wp_skip ?_
          refine hK922 _ _ ?_
          clear hK922
          refine nd_start (l := [0, 1]) rfl ?_
          refine nd_batch tabOk tabZ_ok [(0, {}), (1, {})] [4, 3, 21, 22, 23, 16, 152] (T' := [(4, .pointer (some ⟨b25, 0, none⟩)), (3, .pointer (some ⟨kb, 0, none⟩)), (21, .slice (some ⟨sb51, k052, none⟩) ops.length c), (22, .int .i64 ((ops.length : Nat) : Int)), (23, .int .i64 i), (16, .int .i64 l), (152, .int .i64 (l + 1))]) (φ := inR .i64 (l + 1) ∧ True) (rest := []) h936 (by kernel_rfl) rfl ⟨⟨by omega, by omega⟩, trivial⟩ fun a937 h938 => ?_
          clear h936
          refine nd_done ?_
          exact ⟨(g2 - 1), by omega, (l + 1), by omega, ⟨by omega, by omega⟩, (h938.slotsMono (restr_spec (keep := [4, 3, 21, 22, 23, 152]) rfl))⟩
        ·
          have hc921f : ¬ l < 16 := by simpa using hc921
          refine wp_exit ?_
          refine hK55 _ _ ?_
          clear hK55
          refine nd_start (l := [0, 1]) rfl ?_
          refine nd_batch tabOk tabZ_ok [(0, {}), (1, {})] [4, 3, 21, 22, 152, 23] (T' := [(4, .pointer (some ⟨b25, 0, none⟩)), (3, .pointer (some ⟨kb, 0, none⟩)), (21, .slice (some ⟨sb51, k052, none⟩) ops.length c), (22, .int .i64 ((ops.length : Nat) : Int)), (152, .int .i64 l), (23, .int .i64 (i + 1))]) (φ := inR .i64 (i + 1) ∧ True) (rest := []) h919 (by kernel_rfl) rfl ⟨⟨by omega, by omega⟩, trivial⟩ fun a939 h940 => ?_
          clear h919
          refine nd_done ?_
          exact ⟨(g - 1), by omega, nd9, Sz, Cz, Qz, (upd M x.ev.arg.toNat false), (i + 1), by omega, ⟨by omega, by omega⟩, hivz.1, hivz.2, hXz, hN.liq, hmz, (h940.slotsMono (restr_spec (keep := [4, 3, 21, 22, 23]) rfl))⟩
      ·
        have hmz : ∀ l, (Sz.irq l).masked = M l := fun l => by rw [hN.msk, hmf]; unfold maskP; rw [if_neg (fun h => h hc), if_neg (by omega), if_neg (by omega)]
        refine nd_op ?_
        refine op_new tabOk (cells := [.int .u8 0, .int .u16 0, .int .u32 0, .int .u64 0, .int .u64 0, .int .u64 0, .int .u64 0, .int .u64 0, .int .u8 0, .int .u8 0]) (ty := 42) (ln := none) (L1 := fun b941 => [(b25, ⟨mkC M, 68, false⟩), (b60, ⟨[.int .u8 x.ev.kind, .int .u32 x.ev.pick, .int .u64 x.ev.draw, .int .u32 x.ev.addr, .int .u32 x.ev.node, .int .u32 x.ev.dst, .int .u32 x.ev.xfer, .int .u8 x.ev.ty, .int .u64 x.ev.arg, .int .u64 x.ev.badge, .slice x.xo x.ev.ws.length x.cx], 35, false⟩), (b83, ⟨[.int .u16 ((refP C.ent S.cur).idx), .int .u32 ((refP C.ent S.cur).gen)], 39, false⟩), (b97, ⟨[.int .u8 ((capAtP S C (refP C.ent S.cur) x.ev.addr).ty), .int .u16 ((capAtP S C (refP C.ent S.cur) x.ev.addr).obj.idx), .int .u32 ((capAtP S C (refP C.ent S.cur) x.ev.addr).obj.gen), .int .u8 ((capAtP S C (refP C.ent S.cur) x.ev.addr).rights), .int .u64 ((capAtP S C (refP C.ent S.cur) x.ev.addr).badge)], 49, false⟩), (b941, ⟨[.int .u8 0, .int .u16 0, .int .u32 0, .int .u64 0, .int .u64 0, .int .u64 0, .int .u64 0, .int .u64 0, .int .u8 0, .int .u8 0], 42, false⟩)]) h110 rfl rfl rfl rfl (by kernel_rfl) (fun _ => rfl) fun b941 w942 a943 h944 hf945 hn946 => ?_
        clear h110
        refine nd_op ?_
        refine op_store tabOk {k := 4} (L' := [(b25, ⟨mkC M, 68, false⟩), (b60, ⟨[.int .u8 x.ev.kind, .int .u32 x.ev.pick, .int .u64 x.ev.draw, .int .u32 x.ev.addr, .int .u32 x.ev.node, .int .u32 x.ev.dst, .int .u32 x.ev.xfer, .int .u8 x.ev.ty, .int .u64 x.ev.arg, .int .u64 x.ev.badge, .slice x.xo x.ev.ws.length x.cx], 35, false⟩), (b83, ⟨[.int .u16 ((refP C.ent S.cur).idx), .int .u32 ((refP C.ent S.cur).gen)], 39, false⟩), (b97, ⟨[.int .u8 ((capAtP S C (refP C.ent S.cur) x.ev.addr).ty), .int .u16 ((capAtP S C (refP C.ent S.cur) x.ev.addr).obj.idx), .int .u32 ((capAtP S C (refP C.ent S.cur) x.ev.addr).obj.gen), .int .u8 ((capAtP S C (refP C.ent S.cur) x.ev.addr).rights), .int .u64 ((capAtP S C (refP C.ent S.cur) x.ev.addr).badge)], 49, false⟩), (b941, ⟨[.int .u8 oz.code, .int .u16 oz.run.idx, .int .u32 oz.run.gen, .int .u64 oz.badge, .int .u64 oz.m0, .int .u64 oz.m1, .int .u64 oz.m2, .int .u64 oz.m3, .int .u8 oz.len, .int .u8 oz.got], 42, false⟩)]) (φ := b941 = b941 ∧ Nat.ble (0 + 10) 10 = true) h944 rfl rfl rfl (by kernel_rfl) ⟨rfl, rfl⟩ fun w947 h948 => ?_
        clear h944
        refine nd_done ?_
        refine hK105 _ _ ?_
        clear hK105
        refine wp_seq_k fun K949 hK949 => ?_
        refine nd_start (l := [0, 1, 2, 3]) rfl ?_
        refine nd_batch tabOk tabZ_ok [(0, {}), (1, {k := 1}), (2, {}), (3, {})] [10, 9, 8, 6, 4, 3, 21, 22, 23, 7, 11] (T' := [(10, .pointer (some ⟨b941, 0, none⟩)), (9, .pointer (some ⟨b97, 0, none⟩)), (8, .pointer (some ⟨b83, 0, none⟩)), (6, .pointer (some ⟨b60, 0, none⟩)), (4, .pointer (some ⟨b25, 0, none⟩)), (3, .pointer (some ⟨kb, 0, none⟩)), (21, .slice (some ⟨sb51, k052, none⟩) ops.length c), (22, .int .i64 ((ops.length : Nat) : Int)), (23, .int .i64 i), (7, .pointer (some ⟨kb2, 0, none⟩)), (11, .bool (decide (x.ev.arg < 16)))]) (φ := (b60 = b60 ∧ Nat.ble (8 + 1) 11 = true) ∧ True) (rest := []) h948 (by kernel_rfl) rfl ⟨⟨rfl, rfl⟩, trivial⟩ fun a950 h951 => ?_
        clear h948
        refine nd_done ?_
        refine hK949 _ _ ?_
        clear hK949
        refine wp_seq_k fun K952 hK952 => ?_
        refine wp_seq_k fun K953 hK953 => ?_
        refine nd_start (l := [0, 1, 2, 3, 4, 5, 6, 7, 8, 9, 10, 11, 12, 13, 14, 15, 16]) rfl ?_
        refine nd_batch tabOk tabZ_ok [(0, {}), (1, {k := 1}), (2, {f := 1}), (3, {}), (4, {}), (5, {}), (6, {}), (7, {}), (8, {}), (9, {}), (10, {}), (11, {}), (12, {}), (13, {}), (14, {}), (15, {}), (16, {})] [10, 9, 8, 6, 4, 3, 21, 22, 23, 7, 11, 58] (T' := [(10, .pointer (some ⟨b941, 0, none⟩)), (9, .pointer (some ⟨b97, 0, none⟩)), (8, .pointer (some ⟨b83, 0, none⟩)), (6, .pointer (some ⟨b60, 0, none⟩)), (4, .pointer (some ⟨b25, 0, none⟩)), (3, .pointer (some ⟨kb, 0, none⟩)), (21, .slice (some ⟨sb51, k052, none⟩) ops.length c), (22, .int .i64 ((ops.length : Nat) : Int)), (23, .int .i64 i), (7, .pointer (some ⟨kb2, 0, none⟩)), (11, .bool (decide (x.ev.arg < 16))), (58, .bool false)]) (φ := (b60 = b60 ∧ Nat.ble (0 + 1) 11 = true) ∧ ((x.ev.kind == 1)) = false ∧ True) (rest := []) h951 (by kernel_rfl) rfl ⟨⟨rfl, rfl⟩, (by simp [hk1]), trivial⟩ fun a954 h955 => ?_
        clear h951
        refine nd_done ?_
        refine hK953 _ _ ?_
        clear hK953
        refine c_false h955 rfl ?_
        refine wp_skip ?_
        refine hK952 _ _ ?_
        clear hK952
        refine wp_seq_k fun K956 hK956 => ?_
        refine wp_seq_k fun K957 hK957 => ?_
        refine nd_start (l := [0, 1, 2]) rfl ?_
        refine nd_batch tabOk tabZ_ok [(0, {}), (1, {k := 4}), (2, {f := 2})] [10, 9, 8, 6, 4, 3, 21, 22, 23, 7, 11, 61] (T' := [(10, .pointer (some ⟨b941, 0, none⟩)), (9, .pointer (some ⟨b97, 0, none⟩)), (8, .pointer (some ⟨b83, 0, none⟩)), (6, .pointer (some ⟨b60, 0, none⟩)), (4, .pointer (some ⟨b25, 0, none⟩)), (3, .pointer (some ⟨kb, 0, none⟩)), (21, .slice (some ⟨sb51, k052, none⟩) ops.length c), (22, .int .i64 ((ops.length : Nat) : Int)), (23, .int .i64 i), (7, .pointer (some ⟨kb2, 0, none⟩)), (11, .bool (decide (x.ev.arg < 16))), (61, .bool true)]) (φ := (b941 = b941 ∧ Nat.ble (0 + 1) 10 = true) ∧ ((oz.code == 0)) = true ∧ True) (rest := []) h955 (by kernel_rfl) rfl ⟨⟨rfl, rfl⟩, (by simp [hc]), trivial⟩ fun a958 h959 => ?_
        clear h955
        refine nd_done ?_
        refine hK957 _ _ ?_
        clear hK957
        refine c_true h959 rfl ?_
        refine wp_seq_k fun K960 hK960 => ?_
        refine nd_start (l := [0, 1]) rfl ?_
        refine nd_batch tabOk tabZ_ok [(0, {}), (1, {k := 1})] [10, 9, 8, 6, 4, 3, 21, 22, 23, 7, 11, 63] (T' := [(10, .pointer (some ⟨b941, 0, none⟩)), (9, .pointer (some ⟨b97, 0, none⟩)), (8, .pointer (some ⟨b83, 0, none⟩)), (6, .pointer (some ⟨b60, 0, none⟩)), (4, .pointer (some ⟨b25, 0, none⟩)), (3, .pointer (some ⟨kb, 0, none⟩)), (21, .slice (some ⟨sb51, k052, none⟩) ops.length c), (22, .int .i64 ((ops.length : Nat) : Int)), (23, .int .i64 i), (7, .pointer (some ⟨kb2, 0, none⟩)), (11, .bool (decide (x.ev.arg < 16))), (63, .int .u8 x.ev.kind)]) (φ := (b60 = b60 ∧ Nat.ble (0 + 1) 11 = true) ∧ True) (rest := []) h959 (by kernel_rfl) rfl ⟨⟨rfl, rfl⟩, trivial⟩ fun a961 h962 => ?_
        clear h959
        refine nd_done ?_
        refine hK960 _ _ ?_
        clear hK960
        refine wp_block ?_
        refine wp_seq_k fun K963 hK963 => ?_
        refine nd_start (l := [0, 1]) rfl ?_
        refine nd_batch tabOk tabZ_ok [(0, {f := 1}), (1, {})] [10, 9, 8, 6, 4, 3, 21, 22, 23, 7, 11, 63, 64] (T' := [(10, .pointer (some ⟨b941, 0, none⟩)), (9, .pointer (some ⟨b97, 0, none⟩)), (8, .pointer (some ⟨b83, 0, none⟩)), (6, .pointer (some ⟨b60, 0, none⟩)), (4, .pointer (some ⟨b25, 0, none⟩)), (3, .pointer (some ⟨kb, 0, none⟩)), (21, .slice (some ⟨sb51, k052, none⟩) ops.length c), (22, .int .i64 ((ops.length : Nat) : Int)), (23, .int .i64 i), (7, .pointer (some ⟨kb2, 0, none⟩)), (11, .bool (decide (x.ev.arg < 16))), (63, .int .u8 x.ev.kind), (64, .bool false)]) (φ := ((x.ev.kind == 8)) = false ∧ True) (rest := []) h962 (by kernel_rfl) rfl ⟨(by simp [hk8]), trivial⟩ fun a964 h965 => ?_
        clear h962
        refine nd_done ?_
        refine hK963 _ _ ?_
        clear hK963
        refine c_false h965 rfl ?_
        refine wp_seq_k fun K966 hK966 => ?_
        refine nd_start (l := [0, 1]) rfl ?_
        refine nd_batch tabOk tabZ_ok [(0, {f := 1}), (1, {})] [10, 9, 8, 6, 4, 3, 21, 22, 23, 7, 11, 63, 74] (T' := [(10, .pointer (some ⟨b941, 0, none⟩)), (9, .pointer (some ⟨b97, 0, none⟩)), (8, .pointer (some ⟨b83, 0, none⟩)), (6, .pointer (some ⟨b60, 0, none⟩)), (4, .pointer (some ⟨b25, 0, none⟩)), (3, .pointer (some ⟨kb, 0, none⟩)), (21, .slice (some ⟨sb51, k052, none⟩) ops.length c), (22, .int .i64 ((ops.length : Nat) : Int)), (23, .int .i64 i), (7, .pointer (some ⟨kb2, 0, none⟩)), (11, .bool (decide (x.ev.arg < 16))), (63, .int .u8 x.ev.kind), (74, .bool false)]) (φ := ((x.ev.kind == 1)) = false ∧ True) (rest := []) h965 (by kernel_rfl) rfl ⟨(by simp [hk1]), trivial⟩ fun a967 h968 => ?_
        clear h965
        refine nd_done ?_
        refine hK966 _ _ ?_
        clear hK966
        refine c_false h968 rfl ?_
        refine wp_seq_k fun K969 hK969 => ?_
        refine wp_seq_k fun K970 hK970 => ?_
        refine nd_start (l := [0, 1]) rfl ?_
        refine nd_batch tabOk tabZ_ok [(0, {f := 1}), (1, {})] [10, 9, 8, 6, 4, 3, 21, 22, 23, 7, 11, 63, 95] (T' := [(10, .pointer (some ⟨b941, 0, none⟩)), (9, .pointer (some ⟨b97, 0, none⟩)), (8, .pointer (some ⟨b83, 0, none⟩)), (6, .pointer (some ⟨b60, 0, none⟩)), (4, .pointer (some ⟨b25, 0, none⟩)), (3, .pointer (some ⟨kb, 0, none⟩)), (21, .slice (some ⟨sb51, k052, none⟩) ops.length c), (22, .int .i64 ((ops.length : Nat) : Int)), (23, .int .i64 i), (7, .pointer (some ⟨kb2, 0, none⟩)), (11, .bool (decide (x.ev.arg < 16))), (63, .int .u8 x.ev.kind), (95, .bool false)]) (φ := ((x.ev.kind == 19)) = false ∧ True) (rest := []) h968 (by kernel_rfl) rfl ⟨(by simp [hk19]), trivial⟩ fun a971 h972 => ?_
        clear h968
        refine nd_done ?_
        refine hK970 _ _ ?_
        clear hK970
        refine c_false h972 rfl ?_
        refine nd_start (l := [0, 1]) rfl ?_
        refine nd_batch tabOk tabZ_ok [(0, {f := 1}), (1, {})] [10, 9, 8, 6, 4, 3, 21, 22, 23, 7, 11, 63, 95] (T' := [(10, .pointer (some ⟨b941, 0, none⟩)), (9, .pointer (some ⟨b97, 0, none⟩)), (8, .pointer (some ⟨b83, 0, none⟩)), (6, .pointer (some ⟨b60, 0, none⟩)), (4, .pointer (some ⟨b25, 0, none⟩)), (3, .pointer (some ⟨kb, 0, none⟩)), (21, .slice (some ⟨sb51, k052, none⟩) ops.length c), (22, .int .i64 ((ops.length : Nat) : Int)), (23, .int .i64 i), (7, .pointer (some ⟨kb2, 0, none⟩)), (11, .bool (decide (x.ev.arg < 16))), (63, .int .u8 x.ev.kind), (95, .bool false)]) (φ := ((x.ev.kind == 18)) = false ∧ True) (rest := []) h972 (by kernel_rfl) rfl ⟨(by simp [hk18]), trivial⟩ fun a973 h974 => ?_
        clear h972
        refine nd_done ?_
        refine hK969 _ _ ?_
        clear hK969
        refine c_false h974 rfl ?_
        refine wp_seq_k fun K975 hK975 => ?_
        refine nd_start (l := [0, 1]) rfl ?_
        refine nd_batch tabOk tabZ_ok [(0, {f := 1}), (1, {})] [10, 9, 8, 6, 4, 3, 21, 22, 23, 7, 11, 63, 95, 101] (T' := [(10, .pointer (some ⟨b941, 0, none⟩)), (9, .pointer (some ⟨b97, 0, none⟩)), (8, .pointer (some ⟨b83, 0, none⟩)), (6, .pointer (some ⟨b60, 0, none⟩)), (4, .pointer (some ⟨b25, 0, none⟩)), (3, .pointer (some ⟨kb, 0, none⟩)), (21, .slice (some ⟨sb51, k052, none⟩) ops.length c), (22, .int .i64 ((ops.length : Nat) : Int)), (23, .int .i64 i), (7, .pointer (some ⟨kb2, 0, none⟩)), (11, .bool (decide (x.ev.arg < 16))), (63, .int .u8 x.ev.kind), (95, .bool false), (101, .bool false)]) (φ := ((x.ev.kind == 9)) = false ∧ True) (rest := []) h974 (by kernel_rfl) rfl ⟨(by simp [hk9]), trivial⟩ fun a976 h977 => ?_
        clear h974
        refine nd_done ?_
        refine hK975 _ _ ?_
        clear hK975
        refine c_false h977 rfl ?_
        refine wp_skip ?_
        refine hK956 _ _ ?_
        clear hK956
        refine wp_seq_k fun K978 hK978 => ?_
        refine nd_start (l := [0]) rfl ?_
        refine nd_batch tabOk tabZ_ok [(0, {})] [10, 9, 8, 6, 4, 3, 21, 22, 23, 7, 11, 63, 95, 152] (T' := [(10, .pointer (some ⟨b941, 0, none⟩)), (9, .pointer (some ⟨b97, 0, none⟩)), (8, .pointer (some ⟨b83, 0, none⟩)), (6, .pointer (some ⟨b60, 0, none⟩)), (4, .pointer (some ⟨b25, 0, none⟩)), (3, .pointer (some ⟨kb, 0, none⟩)), (21, .slice (some ⟨sb51, k052, none⟩) ops.length c), (22, .int .i64 ((ops.length : Nat) : Int)), (23, .int .i64 i), (7, .pointer (some ⟨kb2, 0, none⟩)), (11, .bool (decide (x.ev.arg < 16))), (63, .int .u8 x.ev.kind), (95, .bool false), (152, .int .i64 0)]) (φ := True) (rest := []) h977 (by kernel_rfl) rfl trivial fun a979 h980 => ?_
        clear h977
        refine nd_done ?_
        refine hK978 _ _ ?_
        clear hK978
        refine wp_block ?_
        have h981 := h980.memMono (L' := [(b25, ⟨mkC M, 68, false⟩)]) (List.Sublist.cons_cons _ (List.Sublist.cons _ (List.Sublist.cons _ (List.Sublist.cons _ (List.Sublist.cons _ List.Sublist.slnil)))))
        clear h980
        have h982 := h981.pcSub (ps' := [pKer kb bo bc nd9 Sz Cz]) (List.Sublist.cons_cons _ (List.Sublist.cons _ List.Sublist.slnil))
        clear h981
        refine wp_loop_ghost (fun g2 ga gw => ∃ (l : Int), ((g2 : Int) = 16 - l) ∧ (0 ≤ l ∧ l ≤ 16) ∧ St ⟨165, [], w, Pk w.heap.size [pKer kb bo bc nd9 Sz Cz], Pf [pKer kb bo bc nd9 Sz Cz]⟩ [(4, .pointer (some ⟨b25, 0, none⟩)), (3, .pointer (some ⟨kb, 0, none⟩)), (21, .slice (some ⟨sb51, k052, none⟩) ops.length c), (22, .int .i64 ((ops.length : Nat) : Int)), (23, .int .i64 i), (152, .int .i64 l)] [(b25, ⟨mkC M, 68, false⟩)] ga gw) 16 ⟨0, by decide, ⟨by decide, by decide⟩, (h982.slotsMono (restr_spec (keep := [4, 3, 21, 22, 23, 152]) rfl))⟩ ?_
        clear h982
        rintro g2 a983 w984 ⟨l, hi986, hi987, h985⟩
        have hlg := hi986
        have hl0 := hi987
        refine wp_seq_k fun K988 hK988 => ?_
        refine nd_start (l := [0]) rfl ?_
        refine nd_batch tabOk tabZ_ok [(0, {})] [4, 3, 21, 22, 23, 152, 153] (T' := [(4, .pointer (some ⟨b25, 0, none⟩)), (3, .pointer (some ⟨kb, 0, none⟩)), (21, .slice (some ⟨sb51, k052, none⟩) ops.length c), (22, .int .i64 ((ops.length : Nat) : Int)), (23, .int .i64 i), (152, .int .i64 l), (153, .bool (decide (l < 16)))]) (φ := True) (rest := []) h985 (by kernel_rfl) rfl trivial fun a989 h990 => ?_
        clear h985
        refine nd_done ?_
        refine hK988 _ _ ?_
        clear hK988
        refine wp_seq_k fun K991 hK991 => ?_
        refine c_split h990 (b := decide (l < 16)) rfl (fun hc992 => ?_) (fun hc992 => ?_)
        ·
          have hc992f : l < 16 := by simpa using hc992
          refine wp_skip ?_
          refine hK991 _ _ ?_
          clear hK991
          refine wp_seq_k fun K993 hK993 => ?_
          refine wp_block ?_
          refine wp_seq_k fun K994 hK994 => ?_
          refine nd_start (l := [0, 1]) rfl ?_
          refine nd_batch tabOk tabZ_ok [(0, {}), (1, {})] [4, 3, 21, 22, 23, 152, 16] (T' := [(4, .pointer (some ⟨b25, 0, none⟩)), (3, .pointer (some ⟨kb, 0, none⟩)), (21, .slice (some ⟨sb51, k052, none⟩) ops.length c), (22, .int .i64 ((ops.length : Nat) : Int)), (23, .int .i64 i), (152, .int .i64 l), (16, .int .i64 l)]) (φ := True) (rest := []) h990 (by kernel_rfl) rfl trivial fun a995 h996 => ?_
          clear h990
          refine nd_done ?_
          refine hK994 _ _ ?_
          clear hK994
          refine wp_seq_k fun K997 hK997 => ?_
          refine dr_start (KB := [b25]) (Bi := [[0], [0], [0], [0], [0], [0], [0], [0]]) mixed h996 fun w998 h999 => ?_
          clear h996
          refine dr_batch tabOk tabZ_ok (by repeat (first | with_reducible exact PF.body | with_reducible apply PF.inB | with_reducible apply PF.next)) [(0, {}), (1, {}), (4, {}), (5, {}), (6, {k := 0, m := 1, vs := [.bool (M l.toNat)], p := 0})] [4, 3, 21, 22, 23, 152, 16, 155, 156, 161] (T' := [(4, .pointer (some ⟨b25, 0, none⟩)), (3, .pointer (some ⟨kb, 0, none⟩)), (21, .slice (some ⟨sb51, k052, none⟩) ops.length c), (22, .int .i64 ((ops.length : Nat) : Int)), (23, .int .i64 i), (152, .int .i64 l), (16, .int .i64 l), (155, .pointer (some ⟨kb, 0, none⟩)), (156, .int .i64 l), (161, .bool (M l.toNat))]) (φ := (0 ≤ l ∧ l < 16) ∧ (b25 = b25 ∧ cellsAre (mkC M) (0 + (l.toNat * 1)) [.bool (M l.toNat)]) ∧ True) (fuel := 3) h999 (by kernel_rfl) rfl (by kernel_rfl) (by kernel_rfl) ⟨trivial, trivial, trivial, trivial, rfl, trivial⟩ ⟨⟨by omega, by omega⟩, ⟨rfl, (mk_read (i := l.toNat) (by omega) (by omega) rfl)⟩, trivial⟩ fun a1001 h1002 => ?_
          clear h999
          refine wpAnyK_one (i := 2) (fuel := 2) (by kernel_rfl) ?_
          refine op_call h1002 rfl rfl rfl (callOk Tryd.func33 (by decide) rfl) (args := [.pointer (some ⟨kb, 0, none⟩), .int .i64 l]) rfl (irq_ok kb bo bc Sz l ⟨by omega, by omega⟩ _ (h1002.inv.get (j := 0) (p := pKer kb bo bc nd9 Sz Cz) rfl).ker) ?_
          rintro _ w1003 ⟨rfl, hf1005⟩
          refine ⟨_, rfl, ?_⟩
          have h1004 := (h1002.grow hf1005).put (d := some 157) (v := .agg #[.int .u16 ((Sz.irq l.toNat).ntfn.idx), .int .u32 ((Sz.irq l.toNat).ntfn.gen), .int .u64 ((Sz.irq l.toNat).badge), .bool ((Sz.irq l.toNat).masked)]) (T' := [(157, .agg #[.int .u16 ((Sz.irq l.toNat).ntfn.idx), .int .u32 ((Sz.irq l.toNat).ntfn.gen), .int .u64 ((Sz.irq l.toNat).badge), .bool ((Sz.irq l.toNat).masked)]), (4, .pointer (some ⟨b25, 0, none⟩)), (3, .pointer (some ⟨kb, 0, none⟩)), (21, .slice (some ⟨sb51, k052, none⟩) ops.length c), (22, .int .i64 ((ops.length : Nat) : Int)), (23, .int .i64 i), (152, .int .i64 l), (16, .int .i64 l), (155, .pointer (some ⟨kb, 0, none⟩)), (156, .int .i64 l), (161, .bool (M l.toNat))]) rfl
          refine ⟨(h1002.keepFr hf1005 (kcons (by simp) knil)), ?_⟩
          clear h1002
          refine dr_batch tabOk tabZ_ok (by repeat (first | with_reducible exact PF.body | with_reducible apply PF.inB | with_reducible apply PF.next)) [(3, {}), (7, {f := 1})] [4, 3, 21, 22, 23, 152, 16, 162] (T' := [(4, .pointer (some ⟨b25, 0, none⟩)), (3, .pointer (some ⟨kb, 0, none⟩)), (21, .slice (some ⟨sb51, k052, none⟩) ops.length c), (22, .int .i64 ((ops.length : Nat) : Int)), (23, .int .i64 i), (152, .int .i64 l), (16, .int .i64 l), (162, .bool false)]) (φ := ((((Sz.irq l.toNat).masked) != (M l.toNat))) = false ∧ True) (fuel := 0) h1004 (by kernel_rfl) rfl (by kernel_rfl) (by kernel_rfl) ⟨trivial, trivial, trivial⟩ ⟨(by rw [hmz]; simp), trivial⟩ fun a1006 h1007 => ?_
          clear h1004
          refine wpAnyK_done (by kernel_rfl) ?_ _
          refine hK997 _ _ ?_
          clear hK997
          refine c_false h1007 rfl ?_
          refine wp_skip ?_
          refine hK993 _ _ ?_
          clear hK993
          refine nd_start (l := [0, 1]) rfl ?_
          refine nd_batch tabOk tabZ_ok [(0, {}), (1, {})] [4, 3, 21, 22, 23, 16, 152] (T' := [(4, .pointer (some ⟨b25, 0, none⟩)), (3, .pointer (some ⟨kb, 0, none⟩)), (21, .slice (some ⟨sb51, k052, none⟩) ops.length c), (22, .int .i64 ((ops.length : Nat) : Int)), (23, .int .i64 i), (16, .int .i64 l), (152, .int .i64 (l + 1))]) (φ := inR .i64 (l + 1) ∧ True) (rest := []) h1007 (by kernel_rfl) rfl ⟨⟨by omega, by omega⟩, trivial⟩ fun a1008 h1009 => ?_
          clear h1007
          refine nd_done ?_
          exact ⟨(g2 - 1), by omega, (l + 1), by omega, ⟨by omega, by omega⟩, (h1009.slotsMono (restr_spec (keep := [4, 3, 21, 22, 23, 152]) rfl))⟩
        ·
          have hc992f : ¬ l < 16 := by simpa using hc992
          refine wp_exit ?_
          refine hK55 _ _ ?_
          clear hK55
          refine nd_start (l := [0, 1]) rfl ?_
          refine nd_batch tabOk tabZ_ok [(0, {}), (1, {})] [4, 3, 21, 22, 152, 23] (T' := [(4, .pointer (some ⟨b25, 0, none⟩)), (3, .pointer (some ⟨kb, 0, none⟩)), (21, .slice (some ⟨sb51, k052, none⟩) ops.length c), (22, .int .i64 ((ops.length : Nat) : Int)), (152, .int .i64 l), (23, .int .i64 (i + 1))]) (φ := inR .i64 (i + 1) ∧ True) (rest := []) h990 (by kernel_rfl) rfl ⟨⟨by omega, by omega⟩, trivial⟩ fun a1010 h1011 => ?_
          clear h990
          refine nd_done ?_
          exact ⟨(g - 1), by omega, nd9, Sz, Cz, Qz, M, (i + 1), by omega, ⟨by omega, by omega⟩, hivz.1, hivz.2, hXz, hN.liq, hmz, (h1011.slotsMono (restr_spec (keep := [4, 3, 21, 22, 23]) rfl))⟩
    ·
      have hc50f : ¬ i < ((ops.length : Nat) : Int) := by simpa using hc50
      refine wp_exit ?_
      refine hK31 _ _ ?_
      clear hK31
      refine wp_seq_k fun K1012 hK1012 => ?_
      refine nd_start (l := [0]) rfl ?_
      refine nd_batch tabOk tabZ_ok [(0, {})] [4, 3, 21, 22, 23, 2] (T' := [(4, .pointer (some ⟨b25, 0, none⟩)), (3, .pointer (some ⟨kb, 0, none⟩)), (21, .slice o ops.length c), (22, .int .i64 ((ops.length : Nat) : Int)), (23, .int .i64 i), (2, .bool true)]) (φ := True) (rest := []) h48 (by kernel_rfl) rfl trivial fun a1013 h1014 => ?_
      clear h48
      refine nd_done ?_
      refine hK1012 _ _ ?_
      clear hK1012
      refine wp_ret ?_
      try simp only [Exit.then, Exit.inBlock]
      try rw [if_pos trivial]
      exact s_ret tabOk tabZ_ok h1014 [(.tmp 2, {})] (vs := [.bool true]) (φ := True) rfl (by kernel_rfl) trivial ⟨rfl, h1014.frame⟩

end Go.Proofs.Qxb6500918aDoor
