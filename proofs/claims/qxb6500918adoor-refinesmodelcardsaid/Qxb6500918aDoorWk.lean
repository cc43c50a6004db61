/-
  RefinesModel. (Made by program: a symbolic walk that prints its steps.)
-/
import Derived.Test.Qxb6500918aDoorWj
import Derived.Test.Qxb6500918aDoorM4
namespace Go.Proofs.Qxb6500918aDoor
open Go.Sx Go.Kn
set_option maxRecDepth 100000
set_option maxHeartbeats 4000000
set_option linter.unusedVariables false
set_option linter.unusedSimpArgs false

theorem law3_ok (ops : List OpV) (o : Option Addr) (c : Nat) (w : World) (hscr : Scr w o ops) (hev : ∀ x ∈ ops, EvOk x.ev ∧ EvU x.ev) (hwd : ∀ x ∈ ops, WordsAt [] w x.xo x.ev.ws) (hg1 : CellsAt w 1 0 (tcbC noT)) (hgs1 : 1 < w.heap.size) (hg2 : CellsAt w 2 0 (quC noQ)) (hgs2 : 2 < w.heap.size) (hxf : ∀ x ∈ ops, 0 ≤ x.ev.xfer ∧ x.ev.xfer < 4294967296) {ty3 : TypeId} (hg3 : w.heap[3]? = some (Blk.obj ⟨[.int .u16 0, .int .u32 0], ty3, true⟩)) :
    Calls Tryd.prog 3 #[.slice o ops.length c] w fun e w' => e = .returned (.bool true) ∧ Fr [] w w' := by
  refine enter0 (n := 36) (K := []) (T := [(0, .slice o ops.length c)]) (L := []) (args := [.slice o ops.length c]) Tryd.func3 rfl rfl rfl rfl knil (by simp) knil ?_
  intro a h
  refine wp_seq_k fun K1 hK1 => ?_
  refine nd_start (l := [0]) rfl ?_
  refine nd_batch tabOk tabZ_ok [(0, {})] [0, 2] (T' := [(0, .slice o ops.length c), (2, .bool false)]) (φ := True) (rest := []) h (by kernel_rfl) rfl trivial fun a2 h3 => ?_
  clear h
  refine nd_done ?_
  refine hK1 _ _ ?_
  clear hK1
  refine wp_seq_k fun K4 hK4 => ?_
  refine wp_seq_k fun K5 hK5 => ?_
  refine nd_start (l := [0, 1, 2]) rfl ?_
  refine nd_batch tabOk tabZ_ok [(0, {})] [0, 2, 7] (T' := [(0, .slice o ops.length c), (2, .bool false), (7, .slice o ops.length c)]) (φ := True) (rest := [1, 2]) h3 (by kernel_rfl) rfl trivial fun a6 h7 => ?_
  clear h3
  refine nd_op ?_
  refine op_call h7 rfl rfl rfl (callOk Tryd.func10 (by decide) rfl) (args := [.slice o ops.length c]) rfl (small_ok ops o c _ (scr_fr hscr h7.frame)) ?_
  rintro _ w8 ⟨bb, rfl, hbb, hf9⟩
  refine ⟨_, rfl, ?_⟩
  have h10 := (h7.grow hf9).put (d := some 8) (v := .bool bb) (T' := [(8, .bool bb), (0, .slice o ops.length c), (2, .bool false), (7, .slice o ops.length c)]) rfl
  clear h7
  refine nd_batch tabOk tabZ_ok [(2, {})] [0, 2, 9] (T' := [(0, .slice o ops.length c), (2, .bool false), (9, .bool (!bb))]) (φ := True) (rest := []) h10 (by kernel_rfl) rfl trivial fun a11 h12 => ?_
  clear h10
  refine nd_done ?_
  refine hK5 _ _ ?_
  clear hK5
  refine c_split h12 (b := !bb) rfl (fun hc13 => ?_) (fun hc13 => ?_)
  ·
    refine wp_seq_k fun K14 hK14 => ?_
    refine nd_start (l := [0]) rfl ?_
    refine nd_batch tabOk tabZ_ok [(0, {})] [0, 2] (T' := [(0, .slice o ops.length c), (2, .bool true)]) (φ := True) (rest := []) h12 (by kernel_rfl) rfl trivial fun a15 h16 => ?_
    clear h12
    refine nd_done ?_
    refine hK14 _ _ ?_
    clear hK14
    refine wp_ret ?_
    try simp only [Exit.then, Exit.inBlock]
    try rw [if_pos trivial]
    exact s_ret tabOk tabZ_ok h16 [(.tmp 2, {})] (vs := [.bool true]) (φ := True) rfl (by kernel_rfl) trivial ⟨rfl, h16.frame⟩
  ·
    have hol := hbb (by simpa using hc13)
    refine wp_skip ?_
    refine hK4 _ _ ?_
    clear hK4
    refine wp_seq_k fun K17 hK17 => ?_
    refine nd_start (l := [0, 1, 2, 3]) rfl ?_
    refine nd_op ?_
    have h18a := h12.slotsMono (restr_spec (keep := [0, 2]) rfl)
    have h18 := h18a.pc0
    clear h12 h18a
    refine op_call h18 rfl rfl rfl (callOk Tryd.func11 (by decide) rfl) (args := []) rfl (new_ok _ (cellsK hg1 h18.frame hgs1 (by simp)) (Nat.lt_of_lt_of_le hgs1 h18.frame.size) (cellsK hg2 h18.frame hgs2 (by simp)) (Nat.lt_of_lt_of_le hgs2 h18.frame.size)) ?_
    rintro _ w20 ⟨kb, bo, bc, nd, rfl, hk9, hcp9, hnk9, hkn9, hcn9, hf19⟩
    refine ⟨_, rfl, ?_⟩
    have h21 := (h18.pcAdd (p' := pKer kb bo bc nd bootS bootX) (ps' := [pKer kb bo bc nd bootS bootX]) (pKer_ok ⟨hk9, bootX_at hcp9, hnk9⟩) hf19 (fun b hb => (List.mem_cons.1 hb).elim (fun e => by rw [e]; exact hkn9) (fun e => hcn9 b e)) rfl).put (d := some 10) (v := .pointer (some ⟨kb, 0, none⟩)) (T' := [(10, .pointer (some ⟨kb, 0, none⟩)), (0, .slice o ops.length c), (2, .bool false)]) rfl
    have hszh21 : w.heap.size ≤ _ := h18.frame.size
    clear h18
    refine nd_op ?_
    obtain ⟨Q0, hQ0⟩ := boot_LI
    obtain ⟨ty9, hg9⟩ := (g3_fr hg3 h21.frame)
    refine op_call h21 rfl rfl rfl (callOk Tryd.func12 (by decide) rfl) (args := []) rfl (newM_ok hQ0 _ hg9) ?_
    rintro _ w23 ⟨mb, Z, R, rfl, hM9, hMn9, hf22, htl9, hql9, hky9⟩
    refine ⟨_, rfl, ?_⟩
    have hzo := zok_boot htl9 hql9 hky9
    have hIv := boot_Iv hQ0
    have h24 := (h21.pcAdd (p' := pMod mb Z R (bootA Q0) bootX) (ps' := [pKer kb bo bc nd bootS bootX, pMod mb Z R (bootA Q0) bootX]) (pMod_ok (MQ.bootX hM9)) hf22 (fun b hb => hMn9 b (mem_ndp.1 hb)) rfl).put (d := some 11) (v := .pointer (some ⟨mb, 0, none⟩)) (T' := [(11, .pointer (some ⟨mb, 0, none⟩)), (10, .pointer (some ⟨kb, 0, none⟩)), (0, .slice o ops.length c), (2, .bool false)]) rfl
    have hszh24 : w.heap.size ≤ _ := h21.frame.size
    clear h21
    refine nd_batch tabOk tabZ_ok [(2, {}), (3, {})] [0, 2, 3, 4] (T' := [(0, .slice o ops.length c), (2, .bool false), (3, .pointer (some ⟨kb, 0, none⟩)), (4, .pointer (some ⟨mb, 0, none⟩))]) (φ := True) (rest := []) h24 (by kernel_rfl) rfl trivial fun a25 h26 => ?_
    clear h24
    refine nd_done ?_
    refine hK17 _ _ ?_
    clear hK17
    refine wp_seq_k fun K27 hK27 => ?_
    refine wp_seq_k fun K28 hK28 => ?_
    refine nd_start (l := [0, 1, 2, 3]) rfl ?_
    refine nd_batch tabOk tabZ_ok [(0, {}), (1, {})] [0, 2, 3, 4, 12, 13] (T' := [(0, .slice o ops.length c), (2, .bool false), (3, .pointer (some ⟨kb, 0, none⟩)), (4, .pointer (some ⟨mb, 0, none⟩)), (12, .pointer (some ⟨kb, 0, none⟩)), (13, .pointer (some ⟨mb, 0, none⟩))]) (φ := True) (rest := [2, 3]) h26 (by kernel_rfl) rfl trivial fun a29 h30 => ?_
    clear h26
    refine nd_op ?_
    have hd31 : ∀ b ∈ kb :: capF bo bc nd bootX, b ∉ mdF mb Z R bootX := fun b hb hq => Pf_nodup h30.inv.nd (i := 0) (j := 1) (x := pKer kb bo bc nd bootS bootX) (y := pMod mb Z R (bootA Q0) bootX) rfl rfl (by decide) b hb (mem_ndp.2 hq)
    have gk34 := (h30.inv.get (j := 0) (p := pKer kb bo bc nd bootS bootX) rfl)
    have hm32 := ((h30.inv.get (j := 1) (p := pMod mb Z R (bootA Q0) bootX) rfl)).mh (g3_fr hg3 h30.frame)
    refine op_call h30 rfl rfl rfl (callOk Tryd.func13 (by decide) rfl) (args := [.pointer (some ⟨kb, 0, none⟩), .pointer (some ⟨mb, 0, none⟩)]) rfl (agrees_ok kb bo bc nd hzo hIv _ gk34.ker gk34.cap gk34.nk hd31 hm32) ?_
    rintro _ w35 ⟨rfl, hq33⟩
    refine ⟨_, rfl, ?_⟩
    have h36 := (h30.pcSet (j := 1) (p := pMod mb Z R (bootA Q0) bootX) (p' := pMod mb Z R (bootA Q0) bootX) (ps' := [pKer kb bo bc nd bootS bootX, pMod mb Z R (bootA Q0) bootX]) rfl (pMod_ok hq33.mh.mq) hq33.fr mod_in (mod_sub hq33.sub) knil rfl).put (d := some 14) (v := .bool true) (T' := [(14, .bool true), (0, .slice o ops.length c), (2, .bool false), (3, .pointer (some ⟨kb, 0, none⟩)), (4, .pointer (some ⟨mb, 0, none⟩)), (12, .pointer (some ⟨kb, 0, none⟩)), (13, .pointer (some ⟨mb, 0, none⟩))]) rfl
    have hszh36 : w.heap.size ≤ _ := h30.frame.size
    clear h30
    refine nd_batch tabOk tabZ_ok [(3, {})] [0, 2, 3, 4, 15] (T' := [(0, .slice o ops.length c), (2, .bool false), (3, .pointer (some ⟨kb, 0, none⟩)), (4, .pointer (some ⟨mb, 0, none⟩)), (15, .bool false)]) (φ := True) (rest := []) h36 (by kernel_rfl) rfl trivial fun a37 h38 => ?_
    clear h36
    refine nd_done ?_
    refine hK28 _ _ ?_
    clear hK28
    refine c_false h38 rfl ?_
    refine wp_skip ?_
    refine hK27 _ _ ?_
    clear hK27
    refine wp_seq_k fun K39 hK39 => ?_
    refine wp_seq_k fun K40 hK40 => ?_
    refine nd_start (l := [0, 1, 2]) rfl ?_
    refine nd_batch tabOk tabZ_ok [(0, {}), (1, {}), (2, {})] [0, 2, 3, 4, 16, 17, 18] (T' := [(0, .slice o ops.length c), (2, .bool false), (3, .pointer (some ⟨kb, 0, none⟩)), (4, .pointer (some ⟨mb, 0, none⟩)), (16, .slice o ops.length c), (17, .int .i64 ((ops.length : Nat) : Int)), (18, .int .i64 0)]) (φ := True) (rest := []) h38 (by kernel_rfl) rfl trivial fun a41 h42 => ?_
    clear h38
    refine nd_done ?_
    refine hK40 _ _ ?_
    clear hK40
    refine wp_block ?_
    refine wp_loop_ghost (fun g ga gw => ∃ (nd : Nat → Nat) (S : KP) (C : CP) (a : AK) (Z : MZ) (R : MR) (i : Int), ((g : Int) = ops.length - i) ∧ (0 ≤ i ∧ i ≤ ops.length) ∧ (Iv S a C (i + 1)) ∧ (ZOk Z C.ent) ∧ St ⟨36, [], w, Pk w.heap.size [pKer kb bo bc nd S C, pMod mb Z R a C], Pf [pKer kb bo bc nd S C, pMod mb Z R a C]⟩ [(3, .pointer (some ⟨kb, 0, none⟩)), (4, .pointer (some ⟨mb, 0, none⟩)), (16, .slice o ops.length c), (17, .int .i64 ((ops.length : Nat) : Int)), (18, .int .i64 i)] [] ga gw) ops.length ⟨nd, bootS, bootX, (bootA Q0), Z, R, 0, by simp, ⟨by simp, by simp⟩, (by rw [Int.zero_add]; exact hIv), hzo, (h42.slotsMono (restr_spec (keep := [3, 4, 16, 17, 18]) rfl))⟩ ?_
    clear h42
    rintro g a43 w44 ⟨nd, S, C, a, Z, R, i, hi46, hi47, hi48, hi49, h45⟩
    have hig := hi46
    have hi0 := hi47
    have hIv := hi48
    have hzo := hi49
    refine wp_seq_k fun K50 hK50 => ?_
    refine nd_start (l := [0]) rfl ?_
    refine nd_batch tabOk tabZ_ok [(0, {})] [3, 4, 16, 17, 18, 19] (T' := [(3, .pointer (some ⟨kb, 0, none⟩)), (4, .pointer (some ⟨mb, 0, none⟩)), (16, .slice o ops.length c), (17, .int .i64 ((ops.length : Nat) : Int)), (18, .int .i64 i), (19, .bool (decide (i < ((ops.length : Nat) : Int))))]) (φ := True) (rest := []) h45 (by kernel_rfl) rfl trivial fun a51 h52 => ?_
    clear h45
    refine nd_done ?_
    refine hK50 _ _ ?_
    clear hK50
    refine wp_seq_k fun K53 hK53 => ?_
    refine c_split h52 (b := decide (i < ((ops.length : Nat) : Int))) rfl (fun hc54 => ?_) (fun hc54 => ?_)
    ·
      have hc54f : i < ((ops.length : Nat) : Int) := by simpa using hc54
      obtain ⟨x, hx⟩ : ∃ x, ops[i.toNat]? = some x := ⟨ops[i.toNat]'(by omega), by simp⟩
      have hxm := List.mem_of_getElem? hx
      obtain ⟨sb55, k056, ho9, hsb57, hsc58⟩ := hscr.get hx
      subst ho9
      refine wp_skip ?_
      refine hK53 _ _ ?_
      clear hK53
      refine wp_seq_k fun K59 hK59 => ?_
      refine wp_block ?_
      refine wp_seq_k fun K60 hK60 => ?_
      refine nd_start (l := [0, 1, 2, 3]) rfl ?_
      refine nd_batch tabOk tabZ_ok [(0, {})] [3, 4, 16, 17, 18, 20] (T' := [(3, .pointer (some ⟨kb, 0, none⟩)), (4, .pointer (some ⟨mb, 0, none⟩)), (16, .slice (some ⟨sb55, k056, none⟩) ops.length c), (17, .int .i64 ((ops.length : Nat) : Int)), (18, .int .i64 i), (20, .pointer (some ⟨sb55, k056 + (i.toNat * 11), none⟩))]) (φ := (0 ≤ i ∧ i < ((ops.length : Nat) : Int)) ∧ True) (rest := [1, 2, 3]) h52 (by kernel_rfl) rfl ⟨⟨by omega, by omega⟩, trivial⟩ fun a61 h62 => ?_
      clear h52
      refine nd_op ?_
      refine op_loadx tabOk (b := sb55) (k := k056 + (i.toNat * 11)) (vs := opC x) h62 rfl rfl rfl rfl rfl rfl rfl (CellsAt.fr (hsc58 _ _ hx) h62.frame hsb57) ?_
      have h63 := h62.put (d := some 21) (v := .agg #[.int .u8 x.ev.kind, .int .u32 x.ev.pick, .int .u64 x.ev.draw, .int .u32 x.ev.addr, .int .u32 x.ev.node, .int .u32 x.ev.dst, .int .u32 x.ev.xfer, .int .u8 x.ev.ty, .int .u64 x.ev.arg, .int .u64 x.ev.badge, .slice x.xo x.ev.ws.length x.cx]) (T' := [(21, .agg #[.int .u8 x.ev.kind, .int .u32 x.ev.pick, .int .u64 x.ev.draw, .int .u32 x.ev.addr, .int .u32 x.ev.node, .int .u32 x.ev.dst, .int .u32 x.ev.xfer, .int .u8 x.ev.ty, .int .u64 x.ev.arg, .int .u64 x.ev.badge, .slice x.xo x.ev.ws.length x.cx]), (3, .pointer (some ⟨kb, 0, none⟩)), (4, .pointer (some ⟨mb, 0, none⟩)), (16, .slice (some ⟨sb55, k056, none⟩) ops.length c), (17, .int .i64 ((ops.length : Nat) : Int)), (18, .int .i64 i), (20, .pointer (some ⟨sb55, k056 + (i.toNat * 11), none⟩))]) rfl
      clear h62
      refine nd_op ?_
      refine op_new tabOk (cells := [.int .u8 0, .int .u32 0, .int .u64 0, .int .u32 0, .int .u32 0, .int .u32 0, .int .u32 0, .int .u8 0, .int .u64 0, .int .u64 0, .slice none 0 0]) (ty := 35) (ln := none) (L1 := fun b64 => [(b64, ⟨[.int .u8 0, .int .u32 0, .int .u64 0, .int .u32 0, .int .u32 0, .int .u32 0, .int .u32 0, .int .u8 0, .int .u64 0, .int .u64 0, .slice none 0 0], 35, false⟩)]) h63 rfl rfl rfl rfl (by kernel_rfl) (fun _ => rfl) fun b64 w65 a66 h67 hf68 hn69 => ?_
      clear h63
      refine nd_op ?_
      refine op_store tabOk {k := 0} (L' := [(b64, ⟨[.int .u8 x.ev.kind, .int .u32 x.ev.pick, .int .u64 x.ev.draw, .int .u32 x.ev.addr, .int .u32 x.ev.node, .int .u32 x.ev.dst, .int .u32 x.ev.xfer, .int .u8 x.ev.ty, .int .u64 x.ev.arg, .int .u64 x.ev.badge, .slice x.xo x.ev.ws.length x.cx], 35, false⟩)]) (φ := b64 = b64 ∧ Nat.ble (0 + 11) 11 = true) h67 rfl rfl rfl (by kernel_rfl) ⟨rfl, rfl⟩ fun w70 h71 => ?_
      clear h67
      refine nd_done ?_
      refine hK60 _ _ ?_
      clear hK60
      refine wp_seq_k fun K72 hK72 => ?_
      refine dr_start (KB := [b64]) (Bi := [[0], [0], [0], [0], [0], [], [0], [0], [0], [0], [], [0], [0]]) mixed h71 fun w73 h74 => ?_
      clear h71
      refine dr_batch tabOk tabZ_ok (by repeat (first | with_reducible exact PF.body | with_reducible apply PF.inB | with_reducible apply PF.next)) [(0, {}), (1, {k := 0, p := 0}), (3, {}), (4, {k := 0, p := 0})] [6, 3, 4, 16, 17, 18, 22, 23, 25, 26] (T' := [(6, .pointer (some ⟨b64, 0, none⟩)), (3, .pointer (some ⟨kb, 0, none⟩)), (4, .pointer (some ⟨mb, 0, none⟩)), (16, .slice (some ⟨sb55, k056, none⟩) ops.length c), (17, .int .i64 ((ops.length : Nat) : Int)), (18, .int .i64 i), (22, .pointer (some ⟨kb, 0, none⟩)), (23, .agg #[.int .u8 x.ev.kind, .int .u32 x.ev.pick, .int .u64 x.ev.draw, .int .u32 x.ev.addr, .int .u32 x.ev.node, .int .u32 x.ev.dst, .int .u32 x.ev.xfer, .int .u8 x.ev.ty, .int .u64 x.ev.arg, .int .u64 x.ev.badge, .slice x.xo x.ev.ws.length x.cx]), (25, .pointer (some ⟨mb, 0, none⟩)), (26, .agg #[.int .u8 x.ev.kind, .int .u32 x.ev.pick, .int .u64 x.ev.draw, .int .u32 x.ev.addr, .int .u32 x.ev.node, .int .u32 x.ev.dst, .int .u32 x.ev.xfer, .int .u8 x.ev.ty, .int .u64 x.ev.arg, .int .u64 x.ev.badge, .slice x.xo x.ev.ws.length x.cx])]) (φ := (b64 = b64 ∧ Nat.ble (0 + 11) 11 = true) ∧ (b64 = b64 ∧ Nat.ble (0 + 11) 11 = true) ∧ True) (fuel := 9) h74 (by kernel_rfl) rfl (by kernel_rfl) (by kernel_rfl) ⟨trivial, rfl, trivial, rfl, trivial⟩ ⟨⟨rfl, rfl⟩, ⟨rfl, rfl⟩, trivial⟩ fun a76 h77 => ?_
      clear h74
      refine wpAnyK_one (i := 2) (fuel := 8) (by kernel_rfl) ?_
      obtain ⟨Sz, Cz, oz, ezSz⟩ : ∃ a b c, stepP S C x.ev = (a, b, c) := ⟨_, _, _, rfl⟩
      have hAst := hIv.ab.step hIv.ci (hev x hxm).1
      have hIvz := hIv.step (hev x hxm).1 (hev x hxm).2 (hxf x hxm) (by omega)
      rw [ezSz] at hAst
      dsimp only at hAst
      obtain ⟨b9, hb9⟩ : ∃ b9, stepA a C x.ev = (b9, Cz, oz) := ⟨(stepA a C x.ev).1, Prod.ext rfl hAst.2.symm⟩
      rw [ezSz, hb9] at hIvz
      dsimp only at hIvz
      have hnwk : ∀ b ∈ kb :: capF bo bc nd C, w.heap.size ≤ b := h77.inv.newOf (j := 0) (p := pKer kb bo bc nd S C) rfl
      have hstS := step_ok kb bo bc nd S hIv.ab.ri C hIv.ok2.li hIv.ci x.ev (hev x hxm).1 x.xo x.cx _ (h77.inv.get (j := 0) (p := pKer kb bo bc nd S C) rfl).ker (h77.inv.get (j := 0) (p := pKer kb bo bc nd S C) rfl).cap (h77.inv.get (j := 0) (p := pKer kb bo bc nd S C) rfl).nk (cellsK hg1 h77.frame hgs1 (by simp)) (Nat.lt_of_lt_of_le hgs1 h77.frame.size) (by have := hnwk kb (List.mem_cons_self ..); omega) (fun hq => by have := hnwk 1 (List.mem_cons_of_mem _ hq); omega) (words_at (hwd x hxm) h77.frame hnwk)
      rw [ezSz] at hstS
      have hgk := (h77.inv.get (j := 0) (p := pKer kb bo bc nd S C) rfl).nk
      have hgl := lt_of_heap (h77.inv.get (j := 0) (p := pKer kb bo bc nd S C) rfl).ker
      refine op_call h77 rfl rfl rfl (callOk Tryd.func14 (by decide) rfl) (args := [.pointer (some ⟨kb, 0, none⟩), .agg #[.int .u8 x.ev.kind, .int .u32 x.ev.pick, .int .u64 x.ev.draw, .int .u32 x.ev.addr, .int .u32 x.ev.node, .int .u32 x.ev.dst, .int .u32 x.ev.xfer, .int .u8 x.ev.ty, .int .u64 x.ev.arg, .int .u64 x.ev.badge, .slice x.xo x.ev.ws.length x.cx]]) rfl (hstS) ?_
      rintro _ w79 ⟨rfl, hkS, nd9, hcS, hsS, hf78⟩
      refine ⟨_, rfl, ?_⟩
      dsimp only at hkS hcS hsS ⊢
      have hnkS : kb ∉ capF bo bc nd9 Cz := fun hq => (hsS _ hq).elim hgk (fun h => by omega)
      have h80 := (h77.pcSet (j := 0) (p := pKer kb bo bc nd S C) (p' := pKer kb bo bc nd9 Sz Cz) (ps' := [pKer kb bo bc nd9 Sz Cz, pMod mb Z R a C]) rfl (pKer_ok ⟨hkS, hcS, hnkS⟩) hf78 (fun _ h => h) (ker_sub hsS) (kcons (by intro hq; cases hq) knil) rfl).put (d := some 24) (v := .agg #[.int .u8 oz.code, .int .u16 oz.run.idx, .int .u32 oz.run.gen, .int .u64 oz.badge, .int .u64 oz.m0, .int .u64 oz.m1, .int .u64 oz.m2, .int .u64 oz.m3, .int .u8 oz.len, .int .u8 oz.got]) (T' := [(24, .agg #[.int .u8 oz.code, .int .u16 oz.run.idx, .int .u32 oz.run.gen, .int .u64 oz.badge, .int .u64 oz.m0, .int .u64 oz.m1, .int .u64 oz.m2, .int .u64 oz.m3, .int .u8 oz.len, .int .u8 oz.got]), (6, .pointer (some ⟨b64, 0, none⟩)), (3, .pointer (some ⟨kb, 0, none⟩)), (4, .pointer (some ⟨mb, 0, none⟩)), (16, .slice (some ⟨sb55, k056, none⟩) ops.length c), (17, .int .i64 ((ops.length : Nat) : Int)), (18, .int .i64 i), (22, .pointer (some ⟨kb, 0, none⟩)), (23, .agg #[.int .u8 x.ev.kind, .int .u32 x.ev.pick, .int .u64 x.ev.draw, .int .u32 x.ev.addr, .int .u32 x.ev.node, .int .u32 x.ev.dst, .int .u32 x.ev.xfer, .int .u8 x.ev.ty, .int .u64 x.ev.arg, .int .u64 x.ev.badge, .slice x.xo x.ev.ws.length x.cx]), (25, .pointer (some ⟨mb, 0, none⟩)), (26, .agg #[.int .u8 x.ev.kind, .int .u32 x.ev.pick, .int .u64 x.ev.draw, .int .u32 x.ev.addr, .int .u32 x.ev.node, .int .u32 x.ev.dst, .int .u32 x.ev.xfer, .int .u8 x.ev.ty, .int .u64 x.ev.arg, .int .u64 x.ev.badge, .slice x.xo x.ev.ws.length x.cx])]) rfl
      have hkh80 := h77.known
      refine ⟨(keepOf hkh80 h80.known (kcons (keepAt (q := 0) (q' := 0) rfl rfl) knil)), ?_⟩
      have hszh80 : w.heap.size ≤ _ := h77.frame.size
      clear h77
      refine wpAnyK_one (i := 5) (fuel := 7) (by kernel_rfl) ?_
      have hnwm : ∀ b ∈ mdF mb Z R C, w.heap.size ≤ b := fun b hb => h80.inv.newOf (j := 1) (p := pMod mb Z R a C) rfl b (mem_ndp.2 hb)
      have hstM := mstep_ok (xo := x.xo) (cx := x.cx) hIv (by omega) hzo (hev x hxm).1 _ (((h80.inv.get (j := 1) (p := pMod mb Z R a C) rfl)).mh (g3_fr hg3 h80.frame)) (words_at (hwd x hxm) h80.frame hnwm)
      rw [hb9] at hstM
      refine op_call h80 rfl rfl rfl (callOk Tryd.func15 (by decide) rfl) (args := [.pointer (some ⟨mb, 0, none⟩), .agg #[.int .u8 x.ev.kind, .int .u32 x.ev.pick, .int .u64 x.ev.draw, .int .u32 x.ev.addr, .int .u32 x.ev.node, .int .u32 x.ev.dst, .int .u32 x.ev.xfer, .int .u8 x.ev.ty, .int .u64 x.ev.arg, .int .u64 x.ev.badge, .slice x.xo x.ev.ws.length x.cx]]) rfl (hstM) ?_
      rintro _ w81 ⟨Z9, R9, rfl, hmg9, hzo9⟩
      refine ⟨_, rfl, ?_⟩
      dsimp only at hmg9 hzo9 ⊢
      have h82 := (h80.pcSet (j := 1) (p := pMod mb Z R a C) (p' := pMod mb Z9 R9 b9 Cz) (ps' := [pKer kb bo bc nd9 Sz Cz, pMod mb Z9 R9 b9 Cz]) rfl (pMod_ok hmg9.mh.mq) hmg9.fr mod_in (mod_sub hmg9.sub) (kcons (by intro hq; cases hq) knil) rfl).put (d := some 27) (v := .agg #[.int .u8 oz.code, .int .u16 oz.run.idx, .int .u32 oz.run.gen, .int .u64 oz.badge, .int .u64 oz.m0, .int .u64 oz.m1, .int .u64 oz.m2, .int .u64 oz.m3, .int .u8 oz.len, .int .u8 oz.got]) (T' := [(27, .agg #[.int .u8 oz.code, .int .u16 oz.run.idx, .int .u32 oz.run.gen, .int .u64 oz.badge, .int .u64 oz.m0, .int .u64 oz.m1, .int .u64 oz.m2, .int .u64 oz.m3, .int .u8 oz.len, .int .u8 oz.got]), (24, .agg #[.int .u8 oz.code, .int .u16 oz.run.idx, .int .u32 oz.run.gen, .int .u64 oz.badge, .int .u64 oz.m0, .int .u64 oz.m1, .int .u64 oz.m2, .int .u64 oz.m3, .int .u8 oz.len, .int .u8 oz.got]), (6, .pointer (some ⟨b64, 0, none⟩)), (3, .pointer (some ⟨kb, 0, none⟩)), (4, .pointer (some ⟨mb, 0, none⟩)), (16, .slice (some ⟨sb55, k056, none⟩) ops.length c), (17, .int .i64 ((ops.length : Nat) : Int)), (18, .int .i64 i), (22, .pointer (some ⟨kb, 0, none⟩)), (23, .agg #[.int .u8 x.ev.kind, .int .u32 x.ev.pick, .int .u64 x.ev.draw, .int .u32 x.ev.addr, .int .u32 x.ev.node, .int .u32 x.ev.dst, .int .u32 x.ev.xfer, .int .u8 x.ev.ty, .int .u64 x.ev.arg, .int .u64 x.ev.badge, .slice x.xo x.ev.ws.length x.cx]), (25, .pointer (some ⟨mb, 0, none⟩)), (26, .agg #[.int .u8 x.ev.kind, .int .u32 x.ev.pick, .int .u64 x.ev.draw, .int .u32 x.ev.addr, .int .u32 x.ev.node, .int .u32 x.ev.dst, .int .u32 x.ev.xfer, .int .u8 x.ev.ty, .int .u64 x.ev.arg, .int .u64 x.ev.badge, .slice x.xo x.ev.ws.length x.cx])]) rfl
      have hkh82 := h80.known
      refine ⟨keepNil, ?_⟩
      have hszh82 : w.heap.size ≤ _ := h80.frame.size
      clear h80
      refine dr_batch tabOk tabZ_ok (by repeat (first | with_reducible exact PF.body | with_reducible apply PF.inB | with_reducible apply PF.next)) [(6, {f := 1}), (7, {}), (8, {}), (9, {})] [6, 3, 4, 16, 17, 18, 29, 30, 31] (T' := [(6, .pointer (some ⟨b64, 0, none⟩)), (3, .pointer (some ⟨kb, 0, none⟩)), (4, .pointer (some ⟨mb, 0, none⟩)), (16, .slice (some ⟨sb55, k056, none⟩) ops.length c), (17, .int .i64 ((ops.length : Nat) : Int)), (18, .int .i64 i), (29, .bool false), (30, .pointer (some ⟨kb, 0, none⟩)), (31, .pointer (some ⟨mb, 0, none⟩))]) (φ := EqRun Tryd.prog 42 (.agg #[.int .u8 oz.code, .int .u16 oz.run.idx, .int .u32 oz.run.gen, .int .u64 oz.badge, .int .u64 oz.m0, .int .u64 oz.m1, .int .u64 oz.m2, .int .u64 oz.m3, .int .u8 oz.len, .int .u8 oz.got]) (.agg #[.int .u8 oz.code, .int .u16 oz.run.idx, .int .u32 oz.run.gen, .int .u64 oz.badge, .int .u64 oz.m0, .int .u64 oz.m1, .int .u64 oz.m2, .int .u64 oz.m3, .int .u8 oz.len, .int .u8 oz.got]) true ∧ True) (fuel := 3) h82 (by kernel_rfl) rfl (by kernel_rfl) (by kernel_rfl) ⟨trivial, trivial, trivial, trivial, trivial⟩ ⟨(runOutS oz), trivial⟩ fun a83 h84 => ?_
      clear h82
      refine wpAnyK_one (i := 10) (fuel := 2) (by kernel_rfl) ?_
      have hd85 : ∀ b ∈ kb :: capF bo bc nd9 Cz, b ∉ mdF mb Z9 R9 Cz := fun b hb hq => Pf_nodup h84.inv.nd (i := 0) (j := 1) (x := pKer kb bo bc nd9 Sz Cz) (y := pMod mb Z9 R9 b9 Cz) rfl rfl (by decide) b hb (mem_ndp.2 hq)
      have gk88 := (h84.inv.get (j := 0) (p := pKer kb bo bc nd9 Sz Cz) rfl)
      have hm86 := ((h84.inv.get (j := 1) (p := pMod mb Z9 R9 b9 Cz) rfl)).mh (g3_fr hg3 h84.frame)
      refine op_call h84 rfl rfl rfl (callOk Tryd.func13 (by decide) rfl) (args := [.pointer (some ⟨kb, 0, none⟩), .pointer (some ⟨mb, 0, none⟩)]) rfl (agrees_ok kb bo bc nd9 hzo9 hIvz _ gk88.ker gk88.cap gk88.nk hd85 hm86) ?_
      rintro _ w89 ⟨rfl, hq87⟩
      refine ⟨_, rfl, ?_⟩
      have h90 := (h84.pcSet (j := 1) (p := pMod mb Z9 R9 b9 Cz) (p' := pMod mb Z9 R9 b9 Cz) (ps' := [pKer kb bo bc nd9 Sz Cz, pMod mb Z9 R9 b9 Cz]) rfl (pMod_ok hq87.mh.mq) hq87.fr mod_in (mod_sub hq87.sub) (kcons (by intro hq; cases hq) knil) rfl).put (d := some 32) (v := .bool true) (T' := [(32, .bool true), (6, .pointer (some ⟨b64, 0, none⟩)), (3, .pointer (some ⟨kb, 0, none⟩)), (4, .pointer (some ⟨mb, 0, none⟩)), (16, .slice (some ⟨sb55, k056, none⟩) ops.length c), (17, .int .i64 ((ops.length : Nat) : Int)), (18, .int .i64 i), (29, .bool false), (30, .pointer (some ⟨kb, 0, none⟩)), (31, .pointer (some ⟨mb, 0, none⟩))]) rfl
      have hkh90 := h84.known
      refine ⟨keepNil, ?_⟩
      have hszh90 : w.heap.size ≤ _ := h84.frame.size
      clear h84
      refine dr_batch tabOk tabZ_ok (by repeat (first | with_reducible exact PF.body | with_reducible apply PF.inB | with_reducible apply PF.next)) [(11, {}), (12, {})] [6, 3, 4, 16, 17, 18, 34] (T' := [(6, .pointer (some ⟨b64, 0, none⟩)), (3, .pointer (some ⟨kb, 0, none⟩)), (4, .pointer (some ⟨mb, 0, none⟩)), (16, .slice (some ⟨sb55, k056, none⟩) ops.length c), (17, .int .i64 ((ops.length : Nat) : Int)), (18, .int .i64 i), (34, .bool false)]) (φ := True) (fuel := 0) h90 (by kernel_rfl) rfl (by kernel_rfl) (by kernel_rfl) ⟨trivial, trivial, trivial⟩ trivial fun a91 h92 => ?_
      clear h90
      refine wpAnyK_done (by kernel_rfl) ?_ _
      refine hK72 _ _ ?_
      clear hK72
      refine c_false h92 rfl ?_
      refine wp_skip ?_
      refine hK59 _ _ ?_
      clear hK59
      refine nd_start (l := [0, 1]) rfl ?_
      refine nd_batch tabOk tabZ_ok [(0, {}), (1, {})] [6, 3, 4, 16, 17, 18] (T' := [(6, .pointer (some ⟨b64, 0, none⟩)), (3, .pointer (some ⟨kb, 0, none⟩)), (4, .pointer (some ⟨mb, 0, none⟩)), (16, .slice (some ⟨sb55, k056, none⟩) ops.length c), (17, .int .i64 ((ops.length : Nat) : Int)), (18, .int .i64 (i + 1))]) (φ := inR .i64 (i + 1) ∧ True) (rest := []) h92 (by kernel_rfl) rfl ⟨⟨by omega, by omega⟩, trivial⟩ fun a93 h94 => ?_
      clear h92
      refine nd_done ?_
      have h95 := h94.memMono (L' := []) (List.Sublist.cons _ List.Sublist.slnil)
      clear h94
      exact ⟨(g - 1), by omega, nd9, Sz, Cz, b9, Z9, R9, (i + 1), by omega, ⟨by omega, by omega⟩, hIvz, hzo9, (h95.slotsMono (restr_spec (keep := [3, 4, 16, 17, 18]) rfl))⟩
    ·
      have hc54f : ¬ i < ((ops.length : Nat) : Int) := by simpa using hc54
      refine wp_exit ?_
      refine hK39 _ _ ?_
      clear hK39
      refine wp_seq_k fun K96 hK96 => ?_
      refine nd_start (l := [0]) rfl ?_
      refine nd_batch tabOk tabZ_ok [(0, {})] [3, 4, 16, 17, 18, 2] (T' := [(3, .pointer (some ⟨kb, 0, none⟩)), (4, .pointer (some ⟨mb, 0, none⟩)), (16, .slice o ops.length c), (17, .int .i64 ((ops.length : Nat) : Int)), (18, .int .i64 i), (2, .bool true)]) (φ := True) (rest := []) h52 (by kernel_rfl) rfl trivial fun a97 h98 => ?_
      clear h52
      refine nd_done ?_
      refine hK96 _ _ ?_
      clear hK96
      refine wp_ret ?_
      try simp only [Exit.then, Exit.inBlock]
      try rw [if_pos trivial]
      exact s_ret tabOk tabZ_ok h98 [(.tmp 2, {})] (vs := [.bool true]) (φ := True) rfl (by kernel_rfl) trivial ⟨rfl, h98.frame⟩

end Go.Proofs.Qxb6500918aDoor
