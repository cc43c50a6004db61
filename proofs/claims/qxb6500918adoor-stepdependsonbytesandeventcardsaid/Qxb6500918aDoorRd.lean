/-
  StepDependsOnBytesAndEvent. (Made by program: a symbolic walk that prints its steps.)
-/
import Derived.Test.Qxb6500918aDoorRb
import Derived.Test.Qxb6500918aDoorRc
import Derived.Test.Qxb6500918aDoorPF
import Derived.Test.Qxb6500918aDoorKT
namespace Go.Proofs.Qxb6500918aDoor
open Go.Sx Go.Kn
set_option maxRecDepth 100000
set_option maxHeartbeats 4000000
set_option linter.unusedVariables false
set_option linter.unusedSimpArgs false

theorem law9_ok (ops : List OpV) (o : Option Addr) (c : Nat) (w : World) (hscr : Scr w o ops) (hev : ∀ x ∈ ops, EvOk x.ev ∧ EvU x.ev) (hwd : ∀ x ∈ ops, WordsAt [] w x.xo x.ev.ws) (hg1 : CellsAt w 1 0 (tcbC noT)) (hgs1 : 1 < w.heap.size) (hg2 : CellsAt w 2 0 (quC noQ)) (hgs2 : 2 < w.heap.size) (hxf : ∀ x ∈ ops, 0 ≤ x.ev.xfer ∧ x.ev.xfer < 4294967296) :
    Calls Tryd.prog 9 #[.slice o ops.length c] w fun e w' => e = .returned (.bool true) ∧ Fr [] w w' := by
  refine enter0 (n := 63) (K := []) (T := [(0, .slice o ops.length c)]) (L := []) (args := [.slice o ops.length c]) Tryd.func9 rfl rfl rfl rfl knil (by simp) knil ?_
  intro a h
  refine wp_seq_k fun K1 hK1 => ?_
  refine nd_start (l := [0]) rfl ?_
  refine nd_batch tabOk tabZ_ok [(0, {})] [0, 2] (T' := [(0, .slice o ops.length c), (2, .bool false)]) (φ := True) (rest := []) h (by kernel_rfl) rfl trivial fun a2 h3 => ?_
  clear h
  refine nd_done ?_
  refine hK1 _ _ ?_
  clear hK1
  refine wp_seq_k fun K4 hK4 => ?_
  refine wp_seq_k fun K5 hK5 => ?_
  refine nd_start (l := [0, 1, 2]) rfl ?_
  refine nd_batch tabOk tabZ_ok [(0, {})] [0, 2, 11] (T' := [(0, .slice o ops.length c), (2, .bool false), (11, .slice o ops.length c)]) (φ := True) (rest := [1, 2]) h3 (by kernel_rfl) rfl trivial fun a6 h7 => ?_
  clear h3
  refine nd_op ?_
  refine op_call h7 rfl rfl rfl (callOk Tryd.func10 (by decide) rfl) (args := [.slice o ops.length c]) rfl (small_ok ops o c _ (scr_fr hscr h7.frame)) ?_
  rintro _ w8 ⟨bb, rfl, hbb, hf9⟩
  refine ⟨_, rfl, ?_⟩
  have h10 := (h7.grow hf9).put (d := some 12) (v := .bool bb) (T' := [(12, .bool bb), (0, .slice o ops.length c), (2, .bool false), (11, .slice o ops.length c)]) rfl
  clear h7
  refine nd_batch tabOk tabZ_ok [(2, {})] [0, 2, 13] (T' := [(0, .slice o ops.length c), (2, .bool false), (13, .bool (!bb))]) (φ := True) (rest := []) h10 (by kernel_rfl) rfl trivial fun a11 h12 => ?_
  clear h10
  refine nd_done ?_
  refine hK5 _ _ ?_
  clear hK5
  refine c_split h12 (b := !bb) rfl (fun hc13 => ?_) (fun hc13 => ?_)
  ·
    refine wp_seq_k fun K14 hK14 => ?_
    refine nd_start (l := [0]) rfl ?_
    refine nd_batch tabOk tabZ_ok [(0, {})] [0, 2] (T' := [(0, .slice o ops.length c), (2, .bool true)]) (φ := True) (rest := []) h12 (by kernel_rfl) rfl trivial fun a15 h16 => ?_
    clear h12
    refine nd_done ?_
    refine hK14 _ _ ?_
    clear hK14
    refine wp_ret ?_
    try simp only [Exit.then, Exit.inBlock]
    try rw [if_pos trivial]
    exact s_ret tabOk tabZ_ok h16 [(.tmp 2, {})] (vs := [.bool true]) (φ := True) rfl (by kernel_rfl) trivial ⟨rfl, h16.frame⟩
  ·
    have hol := hbb (by simpa using hc13)
    refine wp_skip ?_
    refine hK4 _ _ ?_
    clear hK4
    refine wp_seq_k fun K17 hK17 => ?_
    refine nd_start (l := [0, 1]) rfl ?_
    refine nd_op ?_
    have h18a := h12.slotsMono (restr_spec (keep := [0, 2]) rfl)
    have h18 := h18a.pc0
    clear h12 h18a
    refine op_make h18 rfl rfl rfl ?_
    intro mb w19 hm20 hf21 hn22
    have h23 := (h18.pcAdd (p' := pMet mb 0 ([])) (ps' := [pMet mb 0 ([])]) (metOk (met_nil hm20)) hf21 (fun b hb => by simp [pMet, metF] at hb; rw [hb]; exact hn22) rfl).put (d := some 14) (v := .map (some mb)) (T' := [(14, .map (some mb)), (0, .slice o ops.length c), (2, .bool false)]) rfl
    have hszh23 : w.heap.size ≤ _ := h18.frame.size
    clear h18
    refine nd_batch tabOk tabZ_ok [(1, {})] [0, 2, 3] (T' := [(0, .slice o ops.length c), (2, .bool false), (3, .map (some mb))]) (φ := True) (rest := []) h23 (by kernel_rfl) rfl trivial fun a24 h25 => ?_
    clear h23
    refine nd_done ?_
    refine hK17 _ _ ?_
    clear hK17
    refine wp_seq_k fun K26 hK26 => ?_
    refine wp_seq_k fun K27 hK27 => ?_
    refine nd_start (l := [0, 1, 2, 3, 4, 5]) rfl ?_
    refine nd_batch tabOk tabZ_ok [(0, {}), (1, {})] [0, 2, 3, 15, 16] (T' := [(0, .slice o ops.length c), (2, .bool false), (3, .map (some mb)), (15, .slice o ops.length c), (16, .slice o ops.length c)]) (φ := True) (rest := [2, 3, 4, 5]) h25 (by kernel_rfl) rfl trivial fun a28 h29 => ?_
    clear h25
    refine nd_op ?_
    refine op_call h29 rfl rfl rfl (callOk Tryd.func34 (by decide) rfl) (args := [.slice o ops.length c]) rfl (swap_ok ops hol o c _ (scr_fr hscr h29.frame)) ?_
    rintro _ w33 ⟨ops2, o2, c2, F2, rfl, hol2, hsw2, hr30, hf31, hF32⟩
    refine ⟨_, rfl, ?_⟩
    have h34 := (h29.pcAdd (p' := pRow (rl opC 35 11 ops2 o2 c2 F2)) (ps' := [pMet mb 0 ([]), pRow (rl opC 35 11 ops2 o2 c2 F2)]) (pRow_ok hr30) hf31 hF32 rfl).put (d := some 17) (v := .slice o2 ops2.length c2) (T' := [(17, .slice o2 ops2.length c2), (0, .slice o ops.length c), (2, .bool false), (3, .map (some mb)), (15, .slice o ops.length c), (16, .slice o ops.length c)]) rfl
    have hszh34 : w.heap.size ≤ _ := h29.frame.size
    clear h29
    refine nd_op ?_
    refine op_new tabOk (cells := [.slice o ops.length c, .slice o2 ops2.length c2]) (ty := 22) (ln := (some 2)) (L1 := fun b35 => [(b35, ⟨[.slice o ops.length c, .slice o2 ops2.length c2], 22, false⟩)]) h34 rfl rfl rfl rfl (by kernel_rfl) (fun _ => rfl) fun b35 w36 a37 h38 hf39 hn40 => ?_
    clear h34
    refine nd_batch tabOk tabZ_ok [(4, {}), (5, {})] [18, 0, 2, 3, 19, 20] (T' := [(18, .slice (some ⟨b35, 0, none⟩) 2 2), (0, .slice o ops.length c), (2, .bool false), (3, .map (some mb)), (19, .int .i64 2), (20, .int .i64 0)]) (φ := True) (rest := []) h38 (by kernel_rfl) rfl trivial fun a41 h42 => ?_
    clear h38
    refine nd_done ?_
    refine hK27 _ _ ?_
    clear hK27
    refine wp_block ?_
    refine wp_loop_ghost (fun g ga gw => ∃ (c9 : Nat) (es : List Me) (j : Int), ((g : Int) = 2 - j) ∧ (0 ≤ j ∧ j ≤ 2) ∧ (∀ e ∈ es, MeOk e) ∧ St ⟨63, [], w, Pk w.heap.size [pMet mb c9 es, pRow (rl opC 35 11 ops2 o2 c2 F2)], Pf [pMet mb c9 es, pRow (rl opC 35 11 ops2 o2 c2 F2)]⟩ [(18, .slice (some ⟨b35, 0, none⟩) 2 2), (3, .map (some mb)), (19, .int .i64 2), (20, .int .i64 j)] [(b35, ⟨[.slice o ops.length c, .slice o2 ops2.length c2], 22, false⟩)] ga gw) 2 ⟨0, [], 0, by simp, ⟨by simp, by simp⟩, (fun _ hq => by cases hq), (h42.slotsMono (restr_spec (keep := [18, 3, 19, 20]) rfl))⟩ ?_
    clear h42
    rintro g a43 w44 ⟨c9, es, j, hi46, hi47, hi48, h45⟩
    have hjg := hi46
    have hj0 := hi47
    have hM0 := hi48
    refine wp_seq_k fun K49 hK49 => ?_
    refine nd_start (l := [0]) rfl ?_
    refine nd_batch tabOk tabZ_ok [(0, {})] [18, 3, 19, 20, 21] (T' := [(18, .slice (some ⟨b35, 0, none⟩) 2 2), (3, .map (some mb)), (19, .int .i64 2), (20, .int .i64 j), (21, .bool (decide (j < 2)))]) (φ := True) (rest := []) h45 (by kernel_rfl) rfl trivial fun a50 h51 => ?_
    clear h45
    refine nd_done ?_
    refine hK49 _ _ ?_
    clear hK49
    refine wp_seq_k fun K52 hK52 => ?_
    refine c_split h51 (b := decide (j < 2)) rfl (fun hc53 => ?_) (fun hc53 => ?_)
    ·
      have hc53f : j < 2 := by simpa using hc53
      obtain ⟨so, sops, sc, hcell, hsub, hsl, hsr⟩ : ∃ (so : Option Addr) (sops : List OpV) (sc : Nat), cellsAre [.slice o ops.length c, .slice o2 ops2.length c2] (j.toNat * 1) [.slice so sops.length sc] ∧ (∀ x ∈ sops, x ∈ ops) ∧ sops.length ≤ 65536 ∧ ∀ gw, Fr [] w gw → (rl opC 35 11 ops2 o2 c2 F2).at gw → Scr gw so sops := by
        have hj : j = 0 ∨ j = 1 := by omega
        rcases hj with hj | hj
        · subst hj; exact ⟨o, ops, c, ⟨rfl, trivial⟩, fun _ h => h, hol, fun gw hf _ => scr_fr hscr hf⟩
        · subst hj; exact ⟨o2, ops2, c2, ⟨rfl, trivial⟩, hsw2, by omega, fun gw _ hr => row_scr hr⟩
      refine wp_skip ?_
      refine hK52 _ _ ?_
      clear hK52
      refine wp_seq_k fun K54 hK54 => ?_
      refine wp_block ?_
      refine wp_seq_k fun K55 hK55 => ?_
      refine nd_start (l := [0, 1, 2]) rfl ?_
      refine nd_batch tabOk tabZ_ok [(0, {}), (1, {k := 0, m := 1, vs := [.slice so sops.length sc]}), (2, {})] [18, 3, 19, 20, 5] (T' := [(18, .slice (some ⟨b35, 0, none⟩) 2 2), (3, .map (some mb)), (19, .int .i64 2), (20, .int .i64 j), (5, .slice so sops.length sc)]) (φ := (0 ≤ j ∧ j < 2) ∧ (b35 = b35 ∧ cellsAre ([.slice o ops.length c, .slice o2 ops2.length c2]) (0 + (j.toNat * 1)) [.slice so sops.length sc]) ∧ True) (rest := []) h51 (by kernel_rfl) rfl ⟨⟨by omega, by omega⟩, ⟨rfl, (by rw [Nat.zero_add]; exact hcell)⟩, trivial⟩ fun a56 h57 => ?_
      clear h51
      refine nd_done ?_
      refine hK55 _ _ ?_
      clear hK55
      refine wp_seq_k fun K58 hK58 => ?_
      refine nd_start (l := [0, 1]) rfl ?_
      refine nd_op ?_
      refine op_call h57 rfl rfl rfl (callOk Tryd.func11 (by decide) rfl) (args := []) rfl (new_ok _ (cellsK hg1 h57.frame hgs1 (by simp)) (Nat.lt_of_lt_of_le hgs1 h57.frame.size) (cellsK hg2 h57.frame hgs2 (by simp)) (Nat.lt_of_lt_of_le hgs2 h57.frame.size)) ?_
      rintro _ w60 ⟨kb, bo, bc, nd, rfl, hk9, hcp9, hnk9, hkn9, hcn9, hf59⟩
      refine ⟨_, rfl, ?_⟩
      have h61 := (h57.pcAdd (p' := pKer kb bo bc nd bootS bootX) (ps' := [pMet mb c9 es, pRow (rl opC 35 11 ops2 o2 c2 F2), pKer kb bo bc nd bootS bootX]) (pKer_ok ⟨hk9, bootX_at hcp9, hnk9⟩) hf59 (fun b hb => (List.mem_cons.1 hb).elim (fun e => by rw [e]; exact hkn9) (fun e => hcn9 b e)) rfl).put (d := some 24) (v := .pointer (some ⟨kb, 0, none⟩)) (T' := [(24, .pointer (some ⟨kb, 0, none⟩)), (18, .slice (some ⟨b35, 0, none⟩) 2 2), (3, .map (some mb)), (19, .int .i64 2), (20, .int .i64 j), (5, .slice so sops.length sc)]) rfl
      have hszh61 : w.heap.size ≤ _ := h57.frame.size
      clear h57
      refine nd_batch tabOk tabZ_ok [(1, {})] [18, 3, 19, 20, 5, 6] (T' := [(18, .slice (some ⟨b35, 0, none⟩) 2 2), (3, .map (some mb)), (19, .int .i64 2), (20, .int .i64 j), (5, .slice so sops.length sc), (6, .pointer (some ⟨kb, 0, none⟩))]) (φ := True) (rest := []) h61 (by kernel_rfl) rfl trivial fun a62 h63 => ?_
      clear h61
      refine nd_done ?_
      refine hK58 _ _ ?_
      clear hK58
      refine wp_seq_k fun K64 hK64 => ?_
      refine nd_start (l := [0, 1, 2]) rfl ?_
      refine nd_batch tabOk tabZ_ok [(0, {}), (1, {}), (2, {})] [18, 3, 19, 20, 5, 6, 25, 26, 27] (T' := [(18, .slice (some ⟨b35, 0, none⟩) 2 2), (3, .map (some mb)), (19, .int .i64 2), (20, .int .i64 j), (5, .slice so sops.length sc), (6, .pointer (some ⟨kb, 0, none⟩)), (25, .slice so sops.length sc), (26, .int .i64 ((sops.length : Nat) : Int)), (27, .int .i64 0)]) (φ := True) (rest := []) h63 (by kernel_rfl) rfl trivial fun a65 h66 => ?_
      clear h63
      refine nd_done ?_
      refine hK64 _ _ ?_
      clear hK64
      refine wp_block ?_
      obtain ⟨Q0, hQ0⟩ := boot_LI
      refine wp_loop_ghost (fun g2 ga gw => ∃ (c9 : Nat) (es : List Me) (nd : Nat → Nat) (S : KP) (C : CP) (a : AK) (i : Int), ((g2 : Int) = sops.length - i) ∧ (0 ≤ i ∧ i ≤ sops.length) ∧ (∀ e ∈ es, MeOk e) ∧ (Iv S a C (i + 1)) ∧ St ⟨63, [], w, Pk w.heap.size [pMet mb c9 es, pRow (rl opC 35 11 ops2 o2 c2 F2), pKer kb bo bc nd S C], Pf [pMet mb c9 es, pRow (rl opC 35 11 ops2 o2 c2 F2), pKer kb bo bc nd S C]⟩ [(18, .slice (some ⟨b35, 0, none⟩) 2 2), (3, .map (some mb)), (19, .int .i64 2), (20, .int .i64 j), (6, .pointer (some ⟨kb, 0, none⟩)), (25, .slice so sops.length sc), (26, .int .i64 ((sops.length : Nat) : Int)), (27, .int .i64 i)] [(b35, ⟨[.slice o ops.length c, .slice o2 ops2.length c2], 22, false⟩)] ga gw) sops.length ⟨c9, es, nd, bootS, bootX, (bootA Q0), 0, by simp, ⟨by simp, by simp⟩, hM0, (by rw [Int.zero_add]; exact boot_Iv hQ0), (h66.slotsMono (restr_spec (keep := [18, 3, 19, 20, 6, 25, 26, 27]) rfl))⟩ ?_
      clear h66
      rintro g2 a67 w68 ⟨c9, es, nd, S, C, a, i, hi70, hi71, hi72, hi73, h69⟩
      have hig2 := hi70
      have hi0 := hi71
      have hM := hi72
      have hIv := hi73
      refine wp_seq_k fun K74 hK74 => ?_
      refine nd_start (l := [0]) rfl ?_
      refine nd_batch tabOk tabZ_ok [(0, {})] [18, 3, 19, 20, 6, 25, 26, 27, 28] (T' := [(18, .slice (some ⟨b35, 0, none⟩) 2 2), (3, .map (some mb)), (19, .int .i64 2), (20, .int .i64 j), (6, .pointer (some ⟨kb, 0, none⟩)), (25, .slice so sops.length sc), (26, .int .i64 ((sops.length : Nat) : Int)), (27, .int .i64 i), (28, .bool (decide (i < ((sops.length : Nat) : Int))))]) (φ := True) (rest := []) h69 (by kernel_rfl) rfl trivial fun a75 h76 => ?_
      clear h69
      refine nd_done ?_
      refine hK74 _ _ ?_
      clear hK74
      refine wp_seq_k fun K77 hK77 => ?_
      refine c_split h76 (b := decide (i < ((sops.length : Nat) : Int))) rfl (fun hc78 => ?_) (fun hc78 => ?_)
      ·
        have hc78f : i < ((sops.length : Nat) : Int) := by simpa using hc78
        obtain ⟨x, hx⟩ : ∃ x, sops[i.toNat]? = some x := ⟨sops[i.toNat]'(by omega), by simp⟩
        have hxm := hsub x (List.mem_of_getElem? hx)
        have hsc9 := hsr _ h76.frame (h76.inv.get (j := 1) (p := pRow (rl opC 35 11 ops2 o2 c2 F2)) rfl)
        obtain ⟨sb, k0, ho9, hsb, hsc⟩ := hsc9.get hx
        subst ho9
        refine wp_skip ?_
        refine hK77 _ _ ?_
        clear hK77
        refine wp_seq_k fun K79 hK79 => ?_
        refine wp_block ?_
        refine wp_seq_k fun K80 hK80 => ?_
        refine nd_start (l := [0, 1, 2, 3]) rfl ?_
        refine nd_batch tabOk tabZ_ok [(0, {})] [18, 3, 19, 20, 6, 25, 26, 27, 29] (T' := [(18, .slice (some ⟨b35, 0, none⟩) 2 2), (3, .map (some mb)), (19, .int .i64 2), (20, .int .i64 j), (6, .pointer (some ⟨kb, 0, none⟩)), (25, .slice (some ⟨sb, k0, none⟩) sops.length sc), (26, .int .i64 ((sops.length : Nat) : Int)), (27, .int .i64 i), (29, .pointer (some ⟨sb, k0 + (i.toNat * 11), none⟩))]) (φ := (0 ≤ i ∧ i < ((sops.length : Nat) : Int)) ∧ True) (rest := [1, 2, 3]) h76 (by kernel_rfl) rfl ⟨⟨by omega, by omega⟩, trivial⟩ fun a81 h82 => ?_
        clear h76
        refine nd_op ?_
        refine op_loadx tabOk (b := sb) (k := k0 + (i.toNat * 11)) (vs := opC x) h82 rfl rfl rfl rfl rfl rfl rfl (hsc _ _ hx) ?_
        have h83 := h82.put (d := some 30) (v := .agg #[.int .u8 x.ev.kind, .int .u32 x.ev.pick, .int .u64 x.ev.draw, .int .u32 x.ev.addr, .int .u32 x.ev.node, .int .u32 x.ev.dst, .int .u32 x.ev.xfer, .int .u8 x.ev.ty, .int .u64 x.ev.arg, .int .u64 x.ev.badge, .slice x.xo x.ev.ws.length x.cx]) (T' := [(30, .agg #[.int .u8 x.ev.kind, .int .u32 x.ev.pick, .int .u64 x.ev.draw, .int .u32 x.ev.addr, .int .u32 x.ev.node, .int .u32 x.ev.dst, .int .u32 x.ev.xfer, .int .u8 x.ev.ty, .int .u64 x.ev.arg, .int .u64 x.ev.badge, .slice x.xo x.ev.ws.length x.cx]), (18, .slice (some ⟨b35, 0, none⟩) 2 2), (3, .map (some mb)), (19, .int .i64 2), (20, .int .i64 j), (6, .pointer (some ⟨kb, 0, none⟩)), (25, .slice (some ⟨sb, k0, none⟩) sops.length sc), (26, .int .i64 ((sops.length : Nat) : Int)), (27, .int .i64 i), (29, .pointer (some ⟨sb, k0 + (i.toNat * 11), none⟩))]) rfl
        clear h82
        refine nd_op ?_
        refine op_new tabOk (cells := [.int .u8 0, .int .u32 0, .int .u64 0, .int .u32 0, .int .u32 0, .int .u32 0, .int .u32 0, .int .u8 0, .int .u64 0, .int .u64 0, .slice none 0 0]) (ty := 35) (ln := none) (L1 := fun b84 => [(b35, ⟨[.slice o ops.length c, .slice o2 ops2.length c2], 22, false⟩), (b84, ⟨[.int .u8 0, .int .u32 0, .int .u64 0, .int .u32 0, .int .u32 0, .int .u32 0, .int .u32 0, .int .u8 0, .int .u64 0, .int .u64 0, .slice none 0 0], 35, false⟩)]) h83 rfl rfl rfl rfl (by kernel_rfl) (fun _ => rfl) fun b84 w85 a86 h87 hf88 hn89 => ?_
        clear h83
        refine nd_op ?_
        refine op_store tabOk {k := 1} (L' := [(b35, ⟨[.slice o ops.length c, .slice o2 ops2.length c2], 22, false⟩), (b84, ⟨[.int .u8 x.ev.kind, .int .u32 x.ev.pick, .int .u64 x.ev.draw, .int .u32 x.ev.addr, .int .u32 x.ev.node, .int .u32 x.ev.dst, .int .u32 x.ev.xfer, .int .u8 x.ev.ty, .int .u64 x.ev.arg, .int .u64 x.ev.badge, .slice x.xo x.ev.ws.length x.cx], 35, false⟩)]) (φ := b84 = b84 ∧ Nat.ble (0 + 11) 11 = true) h87 rfl rfl rfl (by kernel_rfl) ⟨rfl, rfl⟩ fun w90 h91 => ?_
        clear h87
        refine nd_done ?_
        refine hK80 _ _ ?_
        clear hK80
        refine wp_seq_k fun K92 hK92 => ?_
        refine nd_start (l := [0, 1, 2, 3]) rfl ?_
        refine nd_batch tabOk tabZ_ok [(0, {})] [8, 18, 3, 19, 20, 6, 25, 26, 27, 31] (T' := [(8, .pointer (some ⟨b84, 0, none⟩)), (18, .slice (some ⟨b35, 0, none⟩) 2 2), (3, .map (some mb)), (19, .int .i64 2), (20, .int .i64 j), (6, .pointer (some ⟨kb, 0, none⟩)), (25, .slice (some ⟨sb, k0, none⟩) sops.length sc), (26, .int .i64 ((sops.length : Nat) : Int)), (27, .int .i64 i), (31, .pointer (some ⟨kb, 0, none⟩))]) (φ := True) (rest := [1, 2, 3]) h91 (by kernel_rfl) rfl trivial fun a93 h94 => ?_
        clear h91
        refine nd_op ?_
        refine op_call h94 rfl rfl rfl (callOk Tryd.func16 (by decide) rfl) (args := [.pointer (some ⟨kb, 0, none⟩)]) rfl (bytes_ok kb bo bc nd S hIv.ab.ri a.q hIv.ab.li C hIv.ur hIv.uc _ (h94.inv.get (j := 2) (p := pKer kb bo bc nd S C) rfl).ker (h94.inv.get (j := 2) (p := pKer kb bo bc nd S C) rfl).cap (h94.inv.get (j := 2) (p := pKer kb bo bc nd S C) rfl).nk) ?_
        rintro _ w101 ⟨o95, c96, F97, rfl, hr98, hF100, hf99⟩
        refine ⟨_, rfl, ?_⟩
        have h102 := (h94.pcAdd (p' := pRow (rl u8C 5 1 (uvs (bytesN S a.q C)) o95 c96 F97)) (ps' := [pMet mb c9 es, pRow (rl opC 35 11 ops2 o2 c2 F2), pKer kb bo bc nd S C, pRow (rl u8C 5 1 (uvs (bytesN S a.q C)) o95 c96 F97)]) (pRow_ok hr98) hf99 hF100 rfl).put (d := some 32) (v := .slice o95 ((uvs (bytesN S a.q C)).length) c96) (T' := [(32, .slice o95 ((uvs (bytesN S a.q C)).length) c96), (8, .pointer (some ⟨b84, 0, none⟩)), (18, .slice (some ⟨b35, 0, none⟩) 2 2), (3, .map (some mb)), (19, .int .i64 2), (20, .int .i64 j), (6, .pointer (some ⟨kb, 0, none⟩)), (25, .slice (some ⟨sb, k0, none⟩) sops.length sc), (26, .int .i64 ((sops.length : Nat) : Int)), (27, .int .i64 i), (31, .pointer (some ⟨kb, 0, none⟩))]) rfl
        have hszh102 : w.heap.size ≤ _ := h94.frame.size
        clear h94
        refine nd_op ?_
        obtain ⟨ky, hky⟩ : ∃ ky, ky = strOf (uvs (bytesN S a.q C)) := ⟨_, rfl⟩
        refine op_now (v := .string (strOf (uvs (bytesN S a.q C)))) h102 rfl rfl (run_conv h102.slots rfl rfl (h102.inv.get (j := 3) (p := pRow (rl u8C 5 1 (uvs (bytesN S a.q C)) o95 c96 F97)) rfl) (bytes_pos _ _ _)) ?_
        rw [← hky]
        have h103 := h102.put (d := some 33) (v := .string ky) (T' := [(33, .string ky), (32, .slice o95 ((uvs (bytesN S a.q C)).length) c96), (8, .pointer (some ⟨b84, 0, none⟩)), (18, .slice (some ⟨b35, 0, none⟩) 2 2), (3, .map (some mb)), (19, .int .i64 2), (20, .int .i64 j), (6, .pointer (some ⟨kb, 0, none⟩)), (25, .slice (some ⟨sb, k0, none⟩) sops.length sc), (26, .int .i64 ((sops.length : Nat) : Int)), (27, .int .i64 i), (31, .pointer (some ⟨kb, 0, none⟩))]) rfl
        clear h102
        have h104 := h103.pcSub (ps' := [pMet mb c9 es, pRow (rl opC 35 11 ops2 o2 c2 F2), pKer kb bo bc nd S C]) (List.Sublist.cons_cons _ (List.Sublist.cons_cons _ (List.Sublist.cons_cons _ (List.Sublist.cons _ List.Sublist.slnil))))
        clear h103
        refine nd_batch tabOk tabZ_ok [(3, {})] [8, 18, 3, 19, 20, 6, 25, 26, 27, 9] (T' := [(8, .pointer (some ⟨b84, 0, none⟩)), (18, .slice (some ⟨b35, 0, none⟩) 2 2), (3, .map (some mb)), (19, .int .i64 2), (20, .int .i64 j), (6, .pointer (some ⟨kb, 0, none⟩)), (25, .slice (some ⟨sb, k0, none⟩) sops.length sc), (26, .int .i64 ((sops.length : Nat) : Int)), (27, .int .i64 i), (9, .string ky)]) (φ := True) (rest := []) h104 (by kernel_rfl) rfl trivial fun a105 h106 => ?_
        clear h104
        refine nd_done ?_
        refine hK92 _ _ ?_
        clear hK92
        refine wp_seq_k fun K107 hK107 => ?_
        refine wp_seq_k fun K108 hK108 => ?_
        refine nd_start (l := [0, 1, 2, 3]) rfl ?_
        refine nd_batch tabOk tabZ_ok [(0, {}), (1, {})] [8, 18, 3, 19, 20, 6, 25, 26, 27, 9, 34, 35] (T' := [(8, .pointer (some ⟨b84, 0, none⟩)), (18, .slice (some ⟨b35, 0, none⟩) 2 2), (3, .map (some mb)), (19, .int .i64 2), (20, .int .i64 j), (6, .pointer (some ⟨kb, 0, none⟩)), (25, .slice (some ⟨sb, k0, none⟩) sops.length sc), (26, .int .i64 ((sops.length : Nat) : Int)), (27, .int .i64 i), (9, .string ky), (34, .map (some mb)), (35, .string ky)]) (φ := True) (rest := [2, 3]) h106 (by kernel_rfl) rfl trivial fun a109 h110 => ?_
        clear h106
        refine nd_op ?_
        rcases met_split ky es with hno | ⟨pre, e, post, hes, hek, hpre⟩
        ·
          have hss := step_same hIv hIv (by omega) (by omega) rfl (hev x hxm).1
          obtain ⟨_, hst2, hab2, hby2⟩ := hss
          refine op_metLookN h110 rfl rfl rfl rfl rfl (h110.inv.get (j := 0) (p := pMet mb c9 es) rfl) hno ?_
          have h111 := (h110).put (d := some 36) (v := .pointer none) (T' := [(36, .pointer none), (8, .pointer (some ⟨b84, 0, none⟩)), (18, .slice (some ⟨b35, 0, none⟩) 2 2), (3, .map (some mb)), (19, .int .i64 2), (20, .int .i64 j), (6, .pointer (some ⟨kb, 0, none⟩)), (25, .slice (some ⟨sb, k0, none⟩) sops.length sc), (26, .int .i64 ((sops.length : Nat) : Int)), (27, .int .i64 i), (9, .string ky), (34, .map (some mb)), (35, .string ky)]) rfl
          have hszh111 : w.heap.size ≤ _ := h110.frame.size
          clear h110
          refine nd_batch tabOk tabZ_ok [(3, {})] [8, 18, 3, 19, 20, 6, 25, 26, 27, 9, 37] (T' := [(8, .pointer (some ⟨b84, 0, none⟩)), (18, .slice (some ⟨b35, 0, none⟩) 2 2), (3, .map (some mb)), (19, .int .i64 2), (20, .int .i64 j), (6, .pointer (some ⟨kb, 0, none⟩)), (25, .slice (some ⟨sb, k0, none⟩) sops.length sc), (26, .int .i64 ((sops.length : Nat) : Int)), (27, .int .i64 i), (9, .string ky), (37, .bool true)]) (φ := True) (rest := []) h111 (by kernel_rfl) rfl trivial fun a112 h113 => ?_
          clear h111
          refine nd_done ?_
          refine hK108 _ _ ?_
          clear hK108
          refine c_true h113 rfl ?_
          refine nd_start (l := [0, 1, 2, 3, 4]) rfl ?_
          refine nd_batch tabOk tabZ_ok [(0, {}), (1, {}), (2, {})] [8, 18, 3, 19, 20, 6, 25, 26, 27, 9, 38, 39, 40] (T' := [(8, .pointer (some ⟨b84, 0, none⟩)), (18, .slice (some ⟨b35, 0, none⟩) 2 2), (3, .map (some mb)), (19, .int .i64 2), (20, .int .i64 j), (6, .pointer (some ⟨kb, 0, none⟩)), (25, .slice (some ⟨sb, k0, none⟩) sops.length sc), (26, .int .i64 ((sops.length : Nat) : Int)), (27, .int .i64 i), (9, .string ky), (38, .map (some mb)), (39, .string ky), (40, .pointer (some ⟨kb, 0, none⟩))]) (φ := True) (rest := [3, 4]) h113 (by kernel_rfl) rfl trivial fun a114 h115 => ?_
          clear h113
          refine nd_op ?_
          refine op_call h115 rfl rfl rfl (callOk Tryd.func21 (by decide) rfl) (args := [.pointer (some ⟨kb, 0, none⟩)]) rfl (clone_ok kb bo bc nd S C _ (h115.inv.get (j := 2) (p := pKer kb bo bc nd S C) rfl).ker (h115.inv.get (j := 2) (p := pKer kb bo bc nd S C) rfl).cap) ?_
          rintro _ w118 ⟨kb2, bo2, bc2, nd2, rfl, hk117, hc117, hnk117, hnw117, hf116⟩
          refine ⟨_, rfl, ?_⟩
          have h119 := (h115.pcAdd (p' := pKer kb2 bo2 bc2 nd2 S C) (ps' := [pMet mb c9 es, pRow (rl opC 35 11 ops2 o2 c2 F2), pKer kb bo bc nd S C, pKer kb2 bo2 bc2 nd2 S C]) (pKer_ok ⟨hk117, hc117, hnk117⟩) hf116 hnw117 rfl).put (d := some 41) (v := .pointer (some ⟨kb2, 0, none⟩)) (T' := [(41, .pointer (some ⟨kb2, 0, none⟩)), (8, .pointer (some ⟨b84, 0, none⟩)), (18, .slice (some ⟨b35, 0, none⟩) 2 2), (3, .map (some mb)), (19, .int .i64 2), (20, .int .i64 j), (6, .pointer (some ⟨kb, 0, none⟩)), (25, .slice (some ⟨sb, k0, none⟩) sops.length sc), (26, .int .i64 ((sops.length : Nat) : Int)), (27, .int .i64 i), (9, .string ky), (38, .map (some mb)), (39, .string ky), (40, .pointer (some ⟨kb, 0, none⟩))]) rfl
          have hszh119 : w.heap.size ≤ _ := h115.frame.size
          clear h115
          refine nd_op ?_
          have hd123 : ∀ b ∈ meF (⟨ky, kb2, bo2, bc2, nd2, S, C, a, (i + 1), c9⟩ : Me), b ∉ metF mb es := Pf_nodup h119.inv.nd (i := 3) (j := 0) (x := pKer kb2 bo2 bc2 nd2 S C) (y := pMet mb c9 es) rfl rfl (by decide)
          have hn124 : (meF (⟨ky, kb2, bo2, bc2, nd2, S, C, a, (i + 1), c9⟩ : Me)).Nodup := (h119.inv.ok _ (nthP_mem (j := 3) (p := pKer kb2 bo2 bc2 nd2 S C) rfl)).nd
          refine op_metPut (e := (⟨ky, kb2, bo2, bc2, nd2, S, C, a, (i + 1), c9⟩ : Me)) (c := c9) (es := es) h119 rfl rfl rfl rfl rfl rfl (h119.inv.get (j := 0) (p := pMet mb c9 es) rfl) (h119.inv.get (j := 3) (p := pKer kb2 bo2 bc2 nd2 S C) rfl) hd123 hn124 hno rfl ?_
          intro w120 hp121 hf122
          have h125 := (St.pcInto (ps := [pMet mb c9 es, pRow (rl opC 35 11 ops2 o2 c2 F2), pKer kb bo bc nd S C]) (q := pKer kb2 bo2 bc2 nd2 S C) (p := pMet mb c9 es) (p' := pMet mb (c9 + 1) (es ++ [(⟨ky, kb2, bo2, bc2, nd2, S, C, a, (i + 1), c9⟩ : Me)])) (ps' := [pMet mb (c9 + 1) (es ++ [(⟨ky, kb2, bo2, bc2, nd2, S, C, a, (i + 1), c9⟩ : Me)]), pRow (rl opC 35 11 ops2 o2 c2 F2), pKer kb bo bc nd S C]) h119 (j := 0) rfl (metOk hp121) (met_F1 mb es (⟨ky, kb2, bo2, bc2, nd2, S, C, a, (i + 1), c9⟩ : Me)) hf122 (fun b hb => by simp at hb; rw [hb]; exact List.mem_cons_self ..) (kcons (by intro hq; cases hq) (kcons (by intro hq; cases hq) knil)) rfl).put (d := none) (v := undef) (T' := [(41, .pointer (some ⟨kb2, 0, none⟩)), (8, .pointer (some ⟨b84, 0, none⟩)), (18, .slice (some ⟨b35, 0, none⟩) 2 2), (3, .map (some mb)), (19, .int .i64 2), (20, .int .i64 j), (6, .pointer (some ⟨kb, 0, none⟩)), (25, .slice (some ⟨sb, k0, none⟩) sops.length sc), (26, .int .i64 ((sops.length : Nat) : Int)), (27, .int .i64 i), (9, .string ky), (38, .map (some mb)), (39, .string ky), (40, .pointer (some ⟨kb, 0, none⟩))]) rfl
          have hszh125 : w.heap.size ≤ _ := h119.frame.size
          clear h119
          have hM2 : ∀ e ∈ es ++ [(⟨ky, kb2, bo2, bc2, nd2, S, C, a, (i + 1), c9⟩ : Me)], MeOk e := fun e he => (List.mem_append.1 he).elim (hM e) (fun h => by simp at h; rw [h]; exact ⟨hIv, by show i + 1 ≤ 65537; omega, hky⟩)
          refine nd_done ?_
          refine hK107 _ _ ?_
          clear hK107
          refine wp_seq_k fun K126 hK126 => ?_
          refine nd_start (l := [0, 1, 2, 3, 4]) rfl ?_
          refine nd_batch tabOk tabZ_ok [(0, {}), (1, {})] [8, 18, 3, 19, 20, 6, 25, 26, 27, 9, 42, 43] (T' := [(8, .pointer (some ⟨b84, 0, none⟩)), (18, .slice (some ⟨b35, 0, none⟩) 2 2), (3, .map (some mb)), (19, .int .i64 2), (20, .int .i64 j), (6, .pointer (some ⟨kb, 0, none⟩)), (25, .slice (some ⟨sb, k0, none⟩) sops.length sc), (26, .int .i64 ((sops.length : Nat) : Int)), (27, .int .i64 i), (9, .string ky), (42, .map (some mb)), (43, .string ky)]) (φ := True) (rest := [2, 3, 4]) h125 (by kernel_rfl) rfl trivial fun a127 h128 => ?_
          clear h125
          refine nd_op ?_
          refine op_metLook (e := (⟨ky, kb2, bo2, bc2, nd2, S, C, a, (i + 1), c9⟩ : Me)) (pre := es) (post := []) h128 rfl rfl rfl rfl rfl (h128.inv.get (j := 0) (p := pMet mb (c9 + 1) (es ++ [(⟨ky, kb2, bo2, bc2, nd2, S, C, a, (i + 1), c9⟩ : Me)])) rfl) rfl hno ?_
          have h129 := (h128).put (d := some 44) (v := .pointer (some ⟨kb2, 0, none⟩)) (T' := [(44, .pointer (some ⟨kb2, 0, none⟩)), (8, .pointer (some ⟨b84, 0, none⟩)), (18, .slice (some ⟨b35, 0, none⟩) 2 2), (3, .map (some mb)), (19, .int .i64 2), (20, .int .i64 j), (6, .pointer (some ⟨kb, 0, none⟩)), (25, .slice (some ⟨sb, k0, none⟩) sops.length sc), (26, .int .i64 ((sops.length : Nat) : Int)), (27, .int .i64 i), (9, .string ky), (42, .map (some mb)), (43, .string ky)]) rfl
          have hszh129 : w.heap.size ≤ _ := h128.frame.size
          clear h128
          refine nd_op ?_
          have hq132 : KAt _ kb2 bo2 bc2 nd2 S C := ((h129.inv.get (j := 0) (p := pMet mb (c9 + 1) (es ++ [(⟨ky, kb2, bo2, bc2, nd2, S, C, a, (i + 1), c9⟩ : Me)])) rfl)).k (⟨ky, kb2, bo2, bc2, nd2, S, C, a, (i + 1), c9⟩ : Me) (by simp)
          refine op_call h129 rfl rfl rfl (callOk Tryd.func21 (by decide) rfl) (args := [.pointer (some ⟨kb2, 0, none⟩)]) rfl (clone_ok kb2 bo2 bc2 nd2 S C _ hq132.ker hq132.cap) ?_
          rintro _ w133 ⟨kb3, bo3, bc3, nd3, rfl, hk131, hc131, hnk131, hnw131, hf130⟩
          refine ⟨_, rfl, ?_⟩
          have h134 := (h129.pcAdd (p' := pKer kb3 bo3 bc3 nd3 S C) (ps' := [pMet mb (c9 + 1) (es ++ [(⟨ky, kb2, bo2, bc2, nd2, S, C, a, (i + 1), c9⟩ : Me)]), pRow (rl opC 35 11 ops2 o2 c2 F2), pKer kb bo bc nd S C, pKer kb3 bo3 bc3 nd3 S C]) (pKer_ok ⟨hk131, hc131, hnk131⟩) hf130 hnw131 rfl).put (d := some 45) (v := .pointer (some ⟨kb3, 0, none⟩)) (T' := [(45, .pointer (some ⟨kb3, 0, none⟩)), (44, .pointer (some ⟨kb2, 0, none⟩)), (8, .pointer (some ⟨b84, 0, none⟩)), (18, .slice (some ⟨b35, 0, none⟩) 2 2), (3, .map (some mb)), (19, .int .i64 2), (20, .int .i64 j), (6, .pointer (some ⟨kb, 0, none⟩)), (25, .slice (some ⟨sb, k0, none⟩) sops.length sc), (26, .int .i64 ((sops.length : Nat) : Int)), (27, .int .i64 i), (9, .string ky), (42, .map (some mb)), (43, .string ky)]) rfl
          have hszh134 : w.heap.size ≤ _ := h129.frame.size
          clear h129
          obtain ⟨Sz, Cz, oz, ezSz⟩ : ∃ a b c, stepP S C x.ev = (a, b, c) := ⟨_, _, _, rfl⟩
          obtain ⟨Sy, hyy, ezSy⟩ : ∃ Sy, Sy = Sz ∧ stepP S C x.ev = (Sy, Cz, oz) := ⟨Sz, rfl, ezSz⟩
          have hIvz := hIv.step (hev x hxm).1 (hev x hxm).2 (hxf x hxm) (by omega)
          obtain ⟨b9, hb9⟩ : ∃ b9, b9 = (stepA a C x.ev).1 := ⟨_, rfl⟩
          rw [ezSy, ← hb9] at hab2
          rw [ezSz, ← hb9] at hIvz
          dsimp only at hab2 hIvz
          clear hby2
          have hby2 : bytesN Sy b9.q Cz = bytesN Sz b9.q Cz := by rw [hyy]
          have hAy : Abs Sy b9 := hab2
          have hUy := (step_U hIv.ur hIv.uc (hev x hxm).2).1
          rw [ezSy] at hUy
          dsimp only at hUy
          refine nd_batch tabOk tabZ_ok [(4, {})] [8, 18, 3, 19, 20, 6, 25, 26, 27, 9, 10] (T' := [(8, .pointer (some ⟨b84, 0, none⟩)), (18, .slice (some ⟨b35, 0, none⟩) 2 2), (3, .map (some mb)), (19, .int .i64 2), (20, .int .i64 j), (6, .pointer (some ⟨kb, 0, none⟩)), (25, .slice (some ⟨sb, k0, none⟩) sops.length sc), (26, .int .i64 ((sops.length : Nat) : Int)), (27, .int .i64 i), (9, .string ky), (10, .pointer (some ⟨kb3, 0, none⟩))]) (φ := True) (rest := []) h134 (by kernel_rfl) rfl trivial fun a135 h136 => ?_
          clear h134
          refine nd_done ?_
          refine hK126 _ _ ?_
          clear hK126
          refine wp_seq_k fun K137 hK137 => ?_
          refine dr_start (KB := [b35, b84]) (Bi := [[0, 1], [0, 1], [1], [0, 1], [0, 1], [], [0, 1], [0, 1], [0, 1], [], [0, 1], [], [], [0, 1], [0, 1]]) mixed h136 fun w138 h139 => ?_
          clear h136
          refine dr_batch tabOk tabZ_ok (by repeat (first | with_reducible exact PF.body | with_reducible apply PF.inB | with_reducible apply PF.next)) [(0, {}), (1, {k := 1, p := 1}), (3, {}), (4, {k := 1, p := 1})] [8, 18, 3, 19, 20, 6, 25, 26, 27, 9, 10, 46, 47, 49, 50] (T' := [(8, .pointer (some ⟨b84, 0, none⟩)), (18, .slice (some ⟨b35, 0, none⟩) 2 2), (3, .map (some mb)), (19, .int .i64 2), (20, .int .i64 j), (6, .pointer (some ⟨kb, 0, none⟩)), (25, .slice (some ⟨sb, k0, none⟩) sops.length sc), (26, .int .i64 ((sops.length : Nat) : Int)), (27, .int .i64 i), (9, .string ky), (10, .pointer (some ⟨kb3, 0, none⟩)), (46, .pointer (some ⟨kb3, 0, none⟩)), (47, .agg #[.int .u8 x.ev.kind, .int .u32 x.ev.pick, .int .u64 x.ev.draw, .int .u32 x.ev.addr, .int .u32 x.ev.node, .int .u32 x.ev.dst, .int .u32 x.ev.xfer, .int .u8 x.ev.ty, .int .u64 x.ev.arg, .int .u64 x.ev.badge, .slice x.xo x.ev.ws.length x.cx]), (49, .pointer (some ⟨kb, 0, none⟩)), (50, .agg #[.int .u8 x.ev.kind, .int .u32 x.ev.pick, .int .u64 x.ev.draw, .int .u32 x.ev.addr, .int .u32 x.ev.node, .int .u32 x.ev.dst, .int .u32 x.ev.xfer, .int .u8 x.ev.ty, .int .u64 x.ev.arg, .int .u64 x.ev.badge, .slice x.xo x.ev.ws.length x.cx])]) (φ := (b84 = b84 ∧ Nat.ble (0 + 11) 11 = true) ∧ (b84 = b84 ∧ Nat.ble (0 + 11) 11 = true) ∧ True) (fuel := 11) h139 (by kernel_rfl) rfl (by kernel_rfl) (by kernel_rfl) ⟨trivial, rfl, trivial, rfl, trivial⟩ ⟨⟨rfl, rfl⟩, ⟨rfl, rfl⟩, trivial⟩ fun a141 h142 => ?_
          clear h139
          refine wpAnyK_one (i := 2) (fuel := 10) (by kernel_rfl) ?_
          have hnwkSy : ∀ b ∈ kb3 :: capF bo3 bc3 nd3 C, w.heap.size ≤ b := h142.inv.newOf (j := 3) (p := pKer kb3 bo3 bc3 nd3 S C) rfl
          have hstSy := step_ok kb3 bo3 bc3 nd3 S hIv.ab.ri C hIv.ok2.li hIv.ci x.ev (hev x hxm).1 x.xo x.cx _ (h142.inv.get (j := 3) (p := pKer kb3 bo3 bc3 nd3 S C) rfl).ker (h142.inv.get (j := 3) (p := pKer kb3 bo3 bc3 nd3 S C) rfl).cap (h142.inv.get (j := 3) (p := pKer kb3 bo3 bc3 nd3 S C) rfl).nk (cellsK hg1 h142.frame hgs1 (by simp)) (Nat.lt_of_lt_of_le hgs1 h142.frame.size) (by have := hnwkSy kb3 (List.mem_cons_self ..); omega) (fun hq => by have := hnwkSy 1 (List.mem_cons_of_mem _ hq); omega) (words_at (hwd x hxm) h142.frame hnwkSy)
          rw [ezSy] at hstSy
          have hgkSy := (h142.inv.get (j := 3) (p := pKer kb3 bo3 bc3 nd3 S C) rfl).nk
          have hglSy := lt_of_heap (h142.inv.get (j := 3) (p := pKer kb3 bo3 bc3 nd3 S C) rfl).ker
          refine op_call h142 rfl rfl rfl (callOk Tryd.func14 (by decide) rfl) (args := [.pointer (some ⟨kb3, 0, none⟩), .agg #[.int .u8 x.ev.kind, .int .u32 x.ev.pick, .int .u64 x.ev.draw, .int .u32 x.ev.addr, .int .u32 x.ev.node, .int .u32 x.ev.dst, .int .u32 x.ev.xfer, .int .u8 x.ev.ty, .int .u64 x.ev.arg, .int .u64 x.ev.badge, .slice x.xo x.ev.ws.length x.cx]]) rfl (hstSy) ?_
          rintro _ w144 ⟨rfl, hkSy, nd8, hcSy, hsSy, hf143⟩
          refine ⟨_, rfl, ?_⟩
          dsimp only at hkSy hcSy hsSy ⊢
          have hnkSy : kb3 ∉ capF bo3 bc3 nd8 Cz := fun hq => (hsSy _ hq).elim hgkSy (fun h => by omega)
          have h145 := (h142.pcSet (j := 3) (p := pKer kb3 bo3 bc3 nd3 S C) (p' := pKer kb3 bo3 bc3 nd8 Sy Cz) (ps' := [pMet mb (c9 + 1) (es ++ [(⟨ky, kb2, bo2, bc2, nd2, S, C, a, (i + 1), c9⟩ : Me)]), pRow (rl opC 35 11 ops2 o2 c2 F2), pKer kb bo bc nd S C, pKer kb3 bo3 bc3 nd8 Sy Cz]) rfl (pKer_ok ⟨hkSy, hcSy, hnkSy⟩) hf143 (fun _ h => h) (ker_sub hsSy) (kcons (by intro hq; cases hq) (kcons (by intro hq; cases hq) knil)) rfl).put (d := some 48) (v := .agg #[.int .u8 oz.code, .int .u16 oz.run.idx, .int .u32 oz.run.gen, .int .u64 oz.badge, .int .u64 oz.m0, .int .u64 oz.m1, .int .u64 oz.m2, .int .u64 oz.m3, .int .u8 oz.len, .int .u8 oz.got]) (T' := [(48, .agg #[.int .u8 oz.code, .int .u16 oz.run.idx, .int .u32 oz.run.gen, .int .u64 oz.badge, .int .u64 oz.m0, .int .u64 oz.m1, .int .u64 oz.m2, .int .u64 oz.m3, .int .u8 oz.len, .int .u8 oz.got]), (8, .pointer (some ⟨b84, 0, none⟩)), (18, .slice (some ⟨b35, 0, none⟩) 2 2), (3, .map (some mb)), (19, .int .i64 2), (20, .int .i64 j), (6, .pointer (some ⟨kb, 0, none⟩)), (25, .slice (some ⟨sb, k0, none⟩) sops.length sc), (26, .int .i64 ((sops.length : Nat) : Int)), (27, .int .i64 i), (9, .string ky), (10, .pointer (some ⟨kb3, 0, none⟩)), (46, .pointer (some ⟨kb3, 0, none⟩)), (47, .agg #[.int .u8 x.ev.kind, .int .u32 x.ev.pick, .int .u64 x.ev.draw, .int .u32 x.ev.addr, .int .u32 x.ev.node, .int .u32 x.ev.dst, .int .u32 x.ev.xfer, .int .u8 x.ev.ty, .int .u64 x.ev.arg, .int .u64 x.ev.badge, .slice x.xo x.ev.ws.length x.cx]), (49, .pointer (some ⟨kb, 0, none⟩)), (50, .agg #[.int .u8 x.ev.kind, .int .u32 x.ev.pick, .int .u64 x.ev.draw, .int .u32 x.ev.addr, .int .u32 x.ev.node, .int .u32 x.ev.dst, .int .u32 x.ev.xfer, .int .u8 x.ev.ty, .int .u64 x.ev.arg, .int .u64 x.ev.badge, .slice x.xo x.ev.ws.length x.cx])]) rfl
          have hkh145 := h142.known
          refine ⟨(keepOf hkh145 h145.known (kcons (keepAt (q := 1) (q' := 1) rfl rfl) knil)), ?_⟩
          have hszh145 : w.heap.size ≤ _ := h142.frame.size
          clear h142
          refine wpAnyK_one (i := 5) (fuel := 9) (by kernel_rfl) ?_
          have hnwkSz : ∀ b ∈ kb :: capF bo bc nd C, w.heap.size ≤ b := h145.inv.newOf (j := 2) (p := pKer kb bo bc nd S C) rfl
          have hstSz := step_ok kb bo bc nd S hIv.ab.ri C hIv.ok2.li hIv.ci x.ev (hev x hxm).1 x.xo x.cx _ (h145.inv.get (j := 2) (p := pKer kb bo bc nd S C) rfl).ker (h145.inv.get (j := 2) (p := pKer kb bo bc nd S C) rfl).cap (h145.inv.get (j := 2) (p := pKer kb bo bc nd S C) rfl).nk (cellsK hg1 h145.frame hgs1 (by simp)) (Nat.lt_of_lt_of_le hgs1 h145.frame.size) (by have := hnwkSz kb (List.mem_cons_self ..); omega) (fun hq => by have := hnwkSz 1 (List.mem_cons_of_mem _ hq); omega) (words_at (hwd x hxm) h145.frame hnwkSz)
          rw [ezSz] at hstSz
          have hgkSz := (h145.inv.get (j := 2) (p := pKer kb bo bc nd S C) rfl).nk
          have hglSz := lt_of_heap (h145.inv.get (j := 2) (p := pKer kb bo bc nd S C) rfl).ker
          refine op_call h145 rfl rfl rfl (callOk Tryd.func14 (by decide) rfl) (args := [.pointer (some ⟨kb, 0, none⟩), .agg #[.int .u8 x.ev.kind, .int .u32 x.ev.pick, .int .u64 x.ev.draw, .int .u32 x.ev.addr, .int .u32 x.ev.node, .int .u32 x.ev.dst, .int .u32 x.ev.xfer, .int .u8 x.ev.ty, .int .u64 x.ev.arg, .int .u64 x.ev.badge, .slice x.xo x.ev.ws.length x.cx]]) rfl (hstSz) ?_
          rintro _ w147 ⟨rfl, hkSz, nd9, hcSz, hsSz, hf146⟩
          refine ⟨_, rfl, ?_⟩
          dsimp only at hkSz hcSz hsSz ⊢
          have hnkSz : kb ∉ capF bo bc nd9 Cz := fun hq => (hsSz _ hq).elim hgkSz (fun h => by omega)
          have h148 := (h145.pcSet (j := 2) (p := pKer kb bo bc nd S C) (p' := pKer kb bo bc nd9 Sz Cz) (ps' := [pMet mb (c9 + 1) (es ++ [(⟨ky, kb2, bo2, bc2, nd2, S, C, a, (i + 1), c9⟩ : Me)]), pRow (rl opC 35 11 ops2 o2 c2 F2), pKer kb bo bc nd9 Sz Cz, pKer kb3 bo3 bc3 nd8 Sy Cz]) rfl (pKer_ok ⟨hkSz, hcSz, hnkSz⟩) hf146 (fun _ h => h) (ker_sub hsSz) (kcons (by intro hq; cases hq) (kcons (by intro hq; cases hq) knil)) rfl).put (d := some 51) (v := .agg #[.int .u8 oz.code, .int .u16 oz.run.idx, .int .u32 oz.run.gen, .int .u64 oz.badge, .int .u64 oz.m0, .int .u64 oz.m1, .int .u64 oz.m2, .int .u64 oz.m3, .int .u8 oz.len, .int .u8 oz.got]) (T' := [(51, .agg #[.int .u8 oz.code, .int .u16 oz.run.idx, .int .u32 oz.run.gen, .int .u64 oz.badge, .int .u64 oz.m0, .int .u64 oz.m1, .int .u64 oz.m2, .int .u64 oz.m3, .int .u8 oz.len, .int .u8 oz.got]), (48, .agg #[.int .u8 oz.code, .int .u16 oz.run.idx, .int .u32 oz.run.gen, .int .u64 oz.badge, .int .u64 oz.m0, .int .u64 oz.m1, .int .u64 oz.m2, .int .u64 oz.m3, .int .u8 oz.len, .int .u8 oz.got]), (8, .pointer (some ⟨b84, 0, none⟩)), (18, .slice (some ⟨b35, 0, none⟩) 2 2), (3, .map (some mb)), (19, .int .i64 2), (20, .int .i64 j), (6, .pointer (some ⟨kb, 0, none⟩)), (25, .slice (some ⟨sb, k0, none⟩) sops.length sc), (26, .int .i64 ((sops.length : Nat) : Int)), (27, .int .i64 i), (9, .string ky), (10, .pointer (some ⟨kb3, 0, none⟩)), (46, .pointer (some ⟨kb3, 0, none⟩)), (47, .agg #[.int .u8 x.ev.kind, .int .u32 x.ev.pick, .int .u64 x.ev.draw, .int .u32 x.ev.addr, .int .u32 x.ev.node, .int .u32 x.ev.dst, .int .u32 x.ev.xfer, .int .u8 x.ev.ty, .int .u64 x.ev.arg, .int .u64 x.ev.badge, .slice x.xo x.ev.ws.length x.cx]), (49, .pointer (some ⟨kb, 0, none⟩)), (50, .agg #[.int .u8 x.ev.kind, .int .u32 x.ev.pick, .int .u64 x.ev.draw, .int .u32 x.ev.addr, .int .u32 x.ev.node, .int .u32 x.ev.dst, .int .u32 x.ev.xfer, .int .u8 x.ev.ty, .int .u64 x.ev.arg, .int .u64 x.ev.badge, .slice x.xo x.ev.ws.length x.cx])]) rfl
          have hkh148 := h145.known
          refine ⟨keepNil, ?_⟩
          have hszh148 : w.heap.size ≤ _ := h145.frame.size
          clear h145
          refine dr_batch tabOk tabZ_ok (by repeat (first | with_reducible exact PF.body | with_reducible apply PF.inB | with_reducible apply PF.next)) [(6, {f := 1}), (7, {}), (8, {}), (10, {})] [8, 18, 3, 19, 20, 6, 25, 26, 27, 9, 10, 53, 54, 56] (T' := [(8, .pointer (some ⟨b84, 0, none⟩)), (18, .slice (some ⟨b35, 0, none⟩) 2 2), (3, .map (some mb)), (19, .int .i64 2), (20, .int .i64 j), (6, .pointer (some ⟨kb, 0, none⟩)), (25, .slice (some ⟨sb, k0, none⟩) sops.length sc), (26, .int .i64 ((sops.length : Nat) : Int)), (27, .int .i64 i), (9, .string ky), (10, .pointer (some ⟨kb3, 0, none⟩)), (53, .bool false), (54, .pointer (some ⟨kb3, 0, none⟩)), (56, .pointer (some ⟨kb, 0, none⟩))]) (φ := EqRun Tryd.prog 42 (.agg #[.int .u8 oz.code, .int .u16 oz.run.idx, .int .u32 oz.run.gen, .int .u64 oz.badge, .int .u64 oz.m0, .int .u64 oz.m1, .int .u64 oz.m2, .int .u64 oz.m3, .int .u8 oz.len, .int .u8 oz.got]) (.agg #[.int .u8 oz.code, .int .u16 oz.run.idx, .int .u32 oz.run.gen, .int .u64 oz.badge, .int .u64 oz.m0, .int .u64 oz.m1, .int .u64 oz.m2, .int .u64 oz.m3, .int .u8 oz.len, .int .u8 oz.got]) true ∧ True) (fuel := 5) h148 (by kernel_rfl) rfl (by kernel_rfl) (by kernel_rfl) ⟨trivial, trivial, trivial, trivial, trivial⟩ ⟨(runOutS oz), trivial⟩ fun a149 h150 => ?_
          clear h148
          refine wpAnyK_one (i := 9) (fuel := 4) (by kernel_rfl) ?_
          refine op_call h150 rfl rfl rfl (callOk Tryd.func16 (by decide) rfl) (args := [.pointer (some ⟨kb3, 0, none⟩)]) rfl (bytes_ok kb3 bo3 bc3 nd8 Sy hAy.ri b9.q hAy.li Cz hUy hIvz.uc _ (h150.inv.get (j := 3) (p := pKer kb3 bo3 bc3 nd8 Sy Cz) rfl).ker (h150.inv.get (j := 3) (p := pKer kb3 bo3 bc3 nd8 Sy Cz) rfl).cap (h150.inv.get (j := 3) (p := pKer kb3 bo3 bc3 nd8 Sy Cz) rfl).nk) ?_
          rintro _ w157 ⟨o151, c152, F153, rfl, hr154, hF156, hf155⟩
          refine ⟨_, rfl, ?_⟩
          have h158 := (h150.pcAdd (p' := pRow (rl u8C 5 1 (uvs (bytesN Sy b9.q Cz)) o151 c152 F153)) (ps' := [pMet mb (c9 + 1) (es ++ [(⟨ky, kb2, bo2, bc2, nd2, S, C, a, (i + 1), c9⟩ : Me)]), pRow (rl opC 35 11 ops2 o2 c2 F2), pKer kb bo bc nd9 Sz Cz, pKer kb3 bo3 bc3 nd8 Sy Cz, pRow (rl u8C 5 1 (uvs (bytesN Sy b9.q Cz)) o151 c152 F153)]) (pRow_ok hr154) hf155 hF156 rfl).put (d := some 55) (v := .slice o151 ((uvs (bytesN Sy b9.q Cz)).length) c152) (T' := [(55, .slice o151 ((uvs (bytesN Sy b9.q Cz)).length) c152), (8, .pointer (some ⟨b84, 0, none⟩)), (18, .slice (some ⟨b35, 0, none⟩) 2 2), (3, .map (some mb)), (19, .int .i64 2), (20, .int .i64 j), (6, .pointer (some ⟨kb, 0, none⟩)), (25, .slice (some ⟨sb, k0, none⟩) sops.length sc), (26, .int .i64 ((sops.length : Nat) : Int)), (27, .int .i64 i), (9, .string ky), (10, .pointer (some ⟨kb3, 0, none⟩)), (53, .bool false), (54, .pointer (some ⟨kb3, 0, none⟩)), (56, .pointer (some ⟨kb, 0, none⟩))]) rfl
          have hkh158 := h150.known
          refine ⟨keepNil, ?_⟩
          have hszh158 : w.heap.size ≤ _ := h150.frame.size
          clear h150
          refine wpAnyK_one (i := 11) (fuel := 3) (by kernel_rfl) ?_
          refine op_call h158 rfl rfl rfl (callOk Tryd.func16 (by decide) rfl) (args := [.pointer (some ⟨kb, 0, none⟩)]) rfl (bytes_ok kb bo bc nd9 Sz hIvz.ab.ri b9.q hIvz.ab.li Cz hIvz.ur hIvz.uc _ (h158.inv.get (j := 2) (p := pKer kb bo bc nd9 Sz Cz) rfl).ker (h158.inv.get (j := 2) (p := pKer kb bo bc nd9 Sz Cz) rfl).cap (h158.inv.get (j := 2) (p := pKer kb bo bc nd9 Sz Cz) rfl).nk) ?_
          rintro _ w165 ⟨o159, c160, F161, rfl, hr162, hF164, hf163⟩
          refine ⟨_, rfl, ?_⟩
          have h166 := (h158.pcAdd (p' := pRow (rl u8C 5 1 (uvs (bytesN Sz b9.q Cz)) o159 c160 F161)) (ps' := [pMet mb (c9 + 1) (es ++ [(⟨ky, kb2, bo2, bc2, nd2, S, C, a, (i + 1), c9⟩ : Me)]), pRow (rl opC 35 11 ops2 o2 c2 F2), pKer kb bo bc nd9 Sz Cz, pKer kb3 bo3 bc3 nd8 Sy Cz, pRow (rl u8C 5 1 (uvs (bytesN Sy b9.q Cz)) o151 c152 F153), pRow (rl u8C 5 1 (uvs (bytesN Sz b9.q Cz)) o159 c160 F161)]) (pRow_ok hr162) hf163 hF164 rfl).put (d := some 57) (v := .slice o159 ((uvs (bytesN Sz b9.q Cz)).length) c160) (T' := [(57, .slice o159 ((uvs (bytesN Sz b9.q Cz)).length) c160), (55, .slice o151 ((uvs (bytesN Sy b9.q Cz)).length) c152), (8, .pointer (some ⟨b84, 0, none⟩)), (18, .slice (some ⟨b35, 0, none⟩) 2 2), (3, .map (some mb)), (19, .int .i64 2), (20, .int .i64 j), (6, .pointer (some ⟨kb, 0, none⟩)), (25, .slice (some ⟨sb, k0, none⟩) sops.length sc), (26, .int .i64 ((sops.length : Nat) : Int)), (27, .int .i64 i), (9, .string ky), (10, .pointer (some ⟨kb3, 0, none⟩)), (53, .bool false), (54, .pointer (some ⟨kb3, 0, none⟩)), (56, .pointer (some ⟨kb, 0, none⟩))]) rfl
          have hkh166 := h158.known
          refine ⟨keepNil, ?_⟩
          have hszh166 : w.heap.size ≤ _ := h158.frame.size
          clear h158
          refine wpAnyK_one (i := 12) (fuel := 2) (by kernel_rfl) ?_
          refine op_call h166 rfl rfl rfl (callOk Tryd.func17 (by decide) rfl) (args := [.slice o151 ((uvs (bytesN Sy b9.q Cz)).length) c152, .slice o159 ((uvs (bytesN Sz b9.q Cz)).length) c160]) rfl (equalE (by rw [hby2]) (bytes_pos _ _ _) (h166.inv.get (j := 4) (p := pRow (rl u8C 5 1 (uvs (bytesN Sy b9.q Cz)) o151 c152 F153)) rfl) (h166.inv.get (j := 5) (p := pRow (rl u8C 5 1 (uvs (bytesN Sz b9.q Cz)) o159 c160 F161)) rfl)) ?_
          rintro _ w167 ⟨rfl, hf169⟩
          refine ⟨_, rfl, ?_⟩
          have h168 := (h166.grow hf169).put (d := some 58) (v := .bool true) (T' := [(58, .bool true), (57, .slice o159 ((uvs (bytesN Sz b9.q Cz)).length) c160), (55, .slice o151 ((uvs (bytesN Sy b9.q Cz)).length) c152), (8, .pointer (some ⟨b84, 0, none⟩)), (18, .slice (some ⟨b35, 0, none⟩) 2 2), (3, .map (some mb)), (19, .int .i64 2), (20, .int .i64 j), (6, .pointer (some ⟨kb, 0, none⟩)), (25, .slice (some ⟨sb, k0, none⟩) sops.length sc), (26, .int .i64 ((sops.length : Nat) : Int)), (27, .int .i64 i), (9, .string ky), (10, .pointer (some ⟨kb3, 0, none⟩)), (53, .bool false), (54, .pointer (some ⟨kb3, 0, none⟩)), (56, .pointer (some ⟨kb, 0, none⟩))]) rfl
          refine ⟨keepNil, ?_⟩
          clear h166
          refine dr_batch tabOk tabZ_ok (by repeat (first | with_reducible exact PF.body | with_reducible apply PF.inB | with_reducible apply PF.next)) [(13, {}), (14, {})] [8, 18, 3, 19, 20, 6, 25, 26, 27, 9, 10, 60] (T' := [(8, .pointer (some ⟨b84, 0, none⟩)), (18, .slice (some ⟨b35, 0, none⟩) 2 2), (3, .map (some mb)), (19, .int .i64 2), (20, .int .i64 j), (6, .pointer (some ⟨kb, 0, none⟩)), (25, .slice (some ⟨sb, k0, none⟩) sops.length sc), (26, .int .i64 ((sops.length : Nat) : Int)), (27, .int .i64 i), (9, .string ky), (10, .pointer (some ⟨kb3, 0, none⟩)), (60, .bool false)]) (φ := True) (fuel := 0) h168 (by kernel_rfl) rfl (by kernel_rfl) (by kernel_rfl) ⟨trivial, trivial, trivial⟩ trivial fun a170 h171 => ?_
          clear h168
          refine wpAnyK_done (by kernel_rfl) ?_ _
          refine hK137 _ _ ?_
          clear hK137
          refine c_false h171 rfl ?_
          refine wp_skip ?_
          refine hK79 _ _ ?_
          clear hK79
          refine nd_start (l := [0, 1]) rfl ?_
          refine nd_batch tabOk tabZ_ok [(0, {}), (1, {})] [8, 18, 3, 19, 20, 6, 25, 26, 9, 10, 27] (T' := [(8, .pointer (some ⟨b84, 0, none⟩)), (18, .slice (some ⟨b35, 0, none⟩) 2 2), (3, .map (some mb)), (19, .int .i64 2), (20, .int .i64 j), (6, .pointer (some ⟨kb, 0, none⟩)), (25, .slice (some ⟨sb, k0, none⟩) sops.length sc), (26, .int .i64 ((sops.length : Nat) : Int)), (9, .string ky), (10, .pointer (some ⟨kb3, 0, none⟩)), (27, .int .i64 (i + 1))]) (φ := inR .i64 (i + 1) ∧ True) (rest := []) h171 (by kernel_rfl) rfl ⟨⟨by omega, by omega⟩, trivial⟩ fun a172 h173 => ?_
          clear h171
          refine nd_done ?_
          have h174 := h173.memMono (L' := [(b35, ⟨[.slice o ops.length c, .slice o2 ops2.length c2], 22, false⟩)]) (List.Sublist.cons_cons _ (List.Sublist.cons _ List.Sublist.slnil))
          clear h173
          have h175 := h174.pcSub (ps' := [pMet mb (c9 + 1) (es ++ [(⟨ky, kb2, bo2, bc2, nd2, S, C, a, (i + 1), c9⟩ : Me)]), pRow (rl opC 35 11 ops2 o2 c2 F2), pKer kb bo bc nd9 Sz Cz]) (List.Sublist.cons_cons _ (List.Sublist.cons_cons _ (List.Sublist.cons_cons _ (List.Sublist.cons _ (List.Sublist.cons _ (List.Sublist.cons _ List.Sublist.slnil))))))
          clear h174
          exact ⟨(g2 - 1), by omega, (c9 + 1), (es ++ [(⟨ky, kb2, bo2, bc2, nd2, S, C, a, (i + 1), c9⟩ : Me)]), nd9, Sz, Cz, b9, (i + 1), by omega, ⟨by omega, by omega⟩, hM2, hIvz, (h175.slotsMono (restr_spec (keep := [18, 3, 19, 20, 6, 25, 26, 27]) rfl))⟩
        ·
          obtain ⟨ek, ekb, ebo, ebc, end9, eS, eC, ea, en, eb⟩ := e
          have hek : ek = ky := hek
          have hok9 := hM _ (by rw [hes]; simp : (⟨ek, ekb, ebo, ebc, end9, eS, eC, ea, en, eb⟩ : Me) ∈ es)
          have hive : Iv eS ea eC en := hok9.iv
          have hnb9 : en ≤ 65537 := hok9.nb
          have hke : ek = strOf (uvs (bytesN eS ea.q eC)) := hok9.ky
          have hbq : uvs (bytesN S a.q C) = uvs (bytesN eS ea.q eC) := strOf_inj (uvs_byte hIv.nums) (uvs_byte hive.nums) (by rw [← hky, ← hke, hek])
          obtain ⟨hCC, hst2, hab2, hby2⟩ := step_same hIv hive (by omega) (by omega) hbq (hev x hxm).1
          have hCC := hCC.symm
          subst hCC
          refine op_metLook (e := (⟨ek, ekb, ebo, ebc, end9, eS, C, ea, en, eb⟩ : Me)) (pre := pre) (post := post) h110 rfl rfl rfl rfl rfl (by rw [← hes]; exact (h110.inv.get (j := 0) (p := pMet mb c9 es) rfl)) hek hpre ?_
          have h176 := (h110).put (d := some 36) (v := .pointer (some ⟨ekb, 0, none⟩)) (T' := [(36, .pointer (some ⟨ekb, 0, none⟩)), (8, .pointer (some ⟨b84, 0, none⟩)), (18, .slice (some ⟨b35, 0, none⟩) 2 2), (3, .map (some mb)), (19, .int .i64 2), (20, .int .i64 j), (6, .pointer (some ⟨kb, 0, none⟩)), (25, .slice (some ⟨sb, k0, none⟩) sops.length sc), (26, .int .i64 ((sops.length : Nat) : Int)), (27, .int .i64 i), (9, .string ky), (34, .map (some mb)), (35, .string ky)]) rfl
          have hszh176 : w.heap.size ≤ _ := h110.frame.size
          clear h110
          refine nd_batch tabOk tabZ_ok [(3, {})] [8, 18, 3, 19, 20, 6, 25, 26, 27, 9, 37] (T' := [(8, .pointer (some ⟨b84, 0, none⟩)), (18, .slice (some ⟨b35, 0, none⟩) 2 2), (3, .map (some mb)), (19, .int .i64 2), (20, .int .i64 j), (6, .pointer (some ⟨kb, 0, none⟩)), (25, .slice (some ⟨sb, k0, none⟩) sops.length sc), (26, .int .i64 ((sops.length : Nat) : Int)), (27, .int .i64 i), (9, .string ky), (37, .bool false)]) (φ := True) (rest := []) h176 (by kernel_rfl) rfl trivial fun a177 h178 => ?_
          clear h176
          refine nd_done ?_
          refine hK108 _ _ ?_
          clear hK108
          refine c_false h178 rfl ?_
          refine wp_skip ?_
          refine hK107 _ _ ?_
          clear hK107
          refine wp_seq_k fun K179 hK179 => ?_
          refine nd_start (l := [0, 1, 2, 3, 4]) rfl ?_
          refine nd_batch tabOk tabZ_ok [(0, {}), (1, {})] [8, 18, 3, 19, 20, 6, 25, 26, 27, 9, 42, 43] (T' := [(8, .pointer (some ⟨b84, 0, none⟩)), (18, .slice (some ⟨b35, 0, none⟩) 2 2), (3, .map (some mb)), (19, .int .i64 2), (20, .int .i64 j), (6, .pointer (some ⟨kb, 0, none⟩)), (25, .slice (some ⟨sb, k0, none⟩) sops.length sc), (26, .int .i64 ((sops.length : Nat) : Int)), (27, .int .i64 i), (9, .string ky), (42, .map (some mb)), (43, .string ky)]) (φ := True) (rest := [2, 3, 4]) h178 (by kernel_rfl) rfl trivial fun a180 h181 => ?_
          clear h178
          refine nd_op ?_
          refine op_metLook (e := (⟨ek, ekb, ebo, ebc, end9, eS, C, ea, en, eb⟩ : Me)) (pre := pre) (post := post) h181 rfl rfl rfl rfl rfl (by rw [← hes]; exact (h181.inv.get (j := 0) (p := pMet mb c9 es) rfl)) hek hpre ?_
          have h182 := (h181).put (d := some 44) (v := .pointer (some ⟨ekb, 0, none⟩)) (T' := [(44, .pointer (some ⟨ekb, 0, none⟩)), (8, .pointer (some ⟨b84, 0, none⟩)), (18, .slice (some ⟨b35, 0, none⟩) 2 2), (3, .map (some mb)), (19, .int .i64 2), (20, .int .i64 j), (6, .pointer (some ⟨kb, 0, none⟩)), (25, .slice (some ⟨sb, k0, none⟩) sops.length sc), (26, .int .i64 ((sops.length : Nat) : Int)), (27, .int .i64 i), (9, .string ky), (42, .map (some mb)), (43, .string ky)]) rfl
          have hszh182 : w.heap.size ≤ _ := h181.frame.size
          clear h181
          refine nd_op ?_
          have hq185 : KAt _ ekb ebo ebc end9 eS C := ((h182.inv.get (j := 0) (p := pMet mb c9 es) rfl)).k (⟨ek, ekb, ebo, ebc, end9, eS, C, ea, en, eb⟩ : Me) (by rw [hes]; simp)
          refine op_call h182 rfl rfl rfl (callOk Tryd.func21 (by decide) rfl) (args := [.pointer (some ⟨ekb, 0, none⟩)]) rfl (clone_ok ekb ebo ebc end9 eS C _ hq185.ker hq185.cap) ?_
          rintro _ w186 ⟨kb3, bo3, bc3, nd3, rfl, hk184, hc184, hnk184, hnw184, hf183⟩
          refine ⟨_, rfl, ?_⟩
          have h187 := (h182.pcAdd (p' := pKer kb3 bo3 bc3 nd3 eS C) (ps' := [pMet mb c9 es, pRow (rl opC 35 11 ops2 o2 c2 F2), pKer kb bo bc nd S C, pKer kb3 bo3 bc3 nd3 eS C]) (pKer_ok ⟨hk184, hc184, hnk184⟩) hf183 hnw184 rfl).put (d := some 45) (v := .pointer (some ⟨kb3, 0, none⟩)) (T' := [(45, .pointer (some ⟨kb3, 0, none⟩)), (44, .pointer (some ⟨ekb, 0, none⟩)), (8, .pointer (some ⟨b84, 0, none⟩)), (18, .slice (some ⟨b35, 0, none⟩) 2 2), (3, .map (some mb)), (19, .int .i64 2), (20, .int .i64 j), (6, .pointer (some ⟨kb, 0, none⟩)), (25, .slice (some ⟨sb, k0, none⟩) sops.length sc), (26, .int .i64 ((sops.length : Nat) : Int)), (27, .int .i64 i), (9, .string ky), (42, .map (some mb)), (43, .string ky)]) rfl
          have hszh187 : w.heap.size ≤ _ := h182.frame.size
          clear h182
          obtain ⟨Sz, Cz, oz, ezSz⟩ : ∃ a b c, stepP S C x.ev = (a, b, c) := ⟨_, _, _, rfl⟩
          obtain ⟨Sy, ezSy⟩ : ∃ Sy, stepP eS C x.ev = (Sy, Cz, oz) := ⟨(stepP eS C x.ev).1, by rw [ezSz] at hst2; exact Prod.ext rfl hst2⟩
          have hIvz := hIv.step (hev x hxm).1 (hev x hxm).2 (hxf x hxm) (by omega)
          obtain ⟨b9, hb9⟩ : ∃ b9, b9 = (stepA a C x.ev).1 := ⟨_, rfl⟩
          rw [ezSy, ← hb9] at hab2
          rw [ezSz, ← hb9] at hIvz
          dsimp only at hab2 hIvz
          rw [ezSy, ezSz, ← hb9] at hby2
          dsimp only at hby2
          have hAy : Abs Sy b9 := hab2
          have hUy := (step_U hive.ur hIv.uc (hev x hxm).2).1
          rw [ezSy] at hUy
          dsimp only at hUy
          refine nd_batch tabOk tabZ_ok [(4, {})] [8, 18, 3, 19, 20, 6, 25, 26, 27, 9, 10] (T' := [(8, .pointer (some ⟨b84, 0, none⟩)), (18, .slice (some ⟨b35, 0, none⟩) 2 2), (3, .map (some mb)), (19, .int .i64 2), (20, .int .i64 j), (6, .pointer (some ⟨kb, 0, none⟩)), (25, .slice (some ⟨sb, k0, none⟩) sops.length sc), (26, .int .i64 ((sops.length : Nat) : Int)), (27, .int .i64 i), (9, .string ky), (10, .pointer (some ⟨kb3, 0, none⟩))]) (φ := True) (rest := []) h187 (by kernel_rfl) rfl trivial fun a188 h189 => ?_
          clear h187
          refine nd_done ?_
          refine hK179 _ _ ?_
          clear hK179
          refine wp_seq_k fun K190 hK190 => ?_
          refine dr_start (KB := [b35, b84]) (Bi := [[0, 1], [0, 1], [1], [0, 1], [0, 1], [], [0, 1], [0, 1], [0, 1], [], [0, 1], [], [], [0, 1], [0, 1]]) mixed h189 fun w191 h192 => ?_
          clear h189
          refine dr_batch tabOk tabZ_ok (by repeat (first | with_reducible exact PF.body | with_reducible apply PF.inB | with_reducible apply PF.next)) [(0, {}), (1, {k := 1, p := 1}), (3, {}), (4, {k := 1, p := 1})] [8, 18, 3, 19, 20, 6, 25, 26, 27, 9, 10, 46, 47, 49, 50] (T' := [(8, .pointer (some ⟨b84, 0, none⟩)), (18, .slice (some ⟨b35, 0, none⟩) 2 2), (3, .map (some mb)), (19, .int .i64 2), (20, .int .i64 j), (6, .pointer (some ⟨kb, 0, none⟩)), (25, .slice (some ⟨sb, k0, none⟩) sops.length sc), (26, .int .i64 ((sops.length : Nat) : Int)), (27, .int .i64 i), (9, .string ky), (10, .pointer (some ⟨kb3, 0, none⟩)), (46, .pointer (some ⟨kb3, 0, none⟩)), (47, .agg #[.int .u8 x.ev.kind, .int .u32 x.ev.pick, .int .u64 x.ev.draw, .int .u32 x.ev.addr, .int .u32 x.ev.node, .int .u32 x.ev.dst, .int .u32 x.ev.xfer, .int .u8 x.ev.ty, .int .u64 x.ev.arg, .int .u64 x.ev.badge, .slice x.xo x.ev.ws.length x.cx]), (49, .pointer (some ⟨kb, 0, none⟩)), (50, .agg #[.int .u8 x.ev.kind, .int .u32 x.ev.pick, .int .u64 x.ev.draw, .int .u32 x.ev.addr, .int .u32 x.ev.node, .int .u32 x.ev.dst, .int .u32 x.ev.xfer, .int .u8 x.ev.ty, .int .u64 x.ev.arg, .int .u64 x.ev.badge, .slice x.xo x.ev.ws.length x.cx])]) (φ := (b84 = b84 ∧ Nat.ble (0 + 11) 11 = true) ∧ (b84 = b84 ∧ Nat.ble (0 + 11) 11 = true) ∧ True) (fuel := 11) h192 (by kernel_rfl) rfl (by kernel_rfl) (by kernel_rfl) ⟨trivial, rfl, trivial, rfl, trivial⟩ ⟨⟨rfl, rfl⟩, ⟨rfl, rfl⟩, trivial⟩ fun a194 h195 => ?_
          clear h192
          refine wpAnyK_one (i := 2) (fuel := 10) (by kernel_rfl) ?_
          have hnwkSy : ∀ b ∈ kb3 :: capF bo3 bc3 nd3 C, w.heap.size ≤ b := h195.inv.newOf (j := 3) (p := pKer kb3 bo3 bc3 nd3 eS C) rfl
          have hstSy := step_ok kb3 bo3 bc3 nd3 eS hive.ab.ri C hive.ok2.li hIv.ci x.ev (hev x hxm).1 x.xo x.cx _ (h195.inv.get (j := 3) (p := pKer kb3 bo3 bc3 nd3 eS C) rfl).ker (h195.inv.get (j := 3) (p := pKer kb3 bo3 bc3 nd3 eS C) rfl).cap (h195.inv.get (j := 3) (p := pKer kb3 bo3 bc3 nd3 eS C) rfl).nk (cellsK hg1 h195.frame hgs1 (by simp)) (Nat.lt_of_lt_of_le hgs1 h195.frame.size) (by have := hnwkSy kb3 (List.mem_cons_self ..); omega) (fun hq => by have := hnwkSy 1 (List.mem_cons_of_mem _ hq); omega) (words_at (hwd x hxm) h195.frame hnwkSy)
          rw [ezSy] at hstSy
          have hgkSy := (h195.inv.get (j := 3) (p := pKer kb3 bo3 bc3 nd3 eS C) rfl).nk
          have hglSy := lt_of_heap (h195.inv.get (j := 3) (p := pKer kb3 bo3 bc3 nd3 eS C) rfl).ker
          refine op_call h195 rfl rfl rfl (callOk Tryd.func14 (by decide) rfl) (args := [.pointer (some ⟨kb3, 0, none⟩), .agg #[.int .u8 x.ev.kind, .int .u32 x.ev.pick, .int .u64 x.ev.draw, .int .u32 x.ev.addr, .int .u32 x.ev.node, .int .u32 x.ev.dst, .int .u32 x.ev.xfer, .int .u8 x.ev.ty, .int .u64 x.ev.arg, .int .u64 x.ev.badge, .slice x.xo x.ev.ws.length x.cx]]) rfl (hstSy) ?_
          rintro _ w197 ⟨rfl, hkSy, nd8, hcSy, hsSy, hf196⟩
          refine ⟨_, rfl, ?_⟩
          dsimp only at hkSy hcSy hsSy ⊢
          have hnkSy : kb3 ∉ capF bo3 bc3 nd8 Cz := fun hq => (hsSy _ hq).elim hgkSy (fun h => by omega)
          have h198 := (h195.pcSet (j := 3) (p := pKer kb3 bo3 bc3 nd3 eS C) (p' := pKer kb3 bo3 bc3 nd8 Sy Cz) (ps' := [pMet mb c9 es, pRow (rl opC 35 11 ops2 o2 c2 F2), pKer kb bo bc nd S C, pKer kb3 bo3 bc3 nd8 Sy Cz]) rfl (pKer_ok ⟨hkSy, hcSy, hnkSy⟩) hf196 (fun _ h => h) (ker_sub hsSy) (kcons (by intro hq; cases hq) (kcons (by intro hq; cases hq) knil)) rfl).put (d := some 48) (v := .agg #[.int .u8 oz.code, .int .u16 oz.run.idx, .int .u32 oz.run.gen, .int .u64 oz.badge, .int .u64 oz.m0, .int .u64 oz.m1, .int .u64 oz.m2, .int .u64 oz.m3, .int .u8 oz.len, .int .u8 oz.got]) (T' := [(48, .agg #[.int .u8 oz.code, .int .u16 oz.run.idx, .int .u32 oz.run.gen, .int .u64 oz.badge, .int .u64 oz.m0, .int .u64 oz.m1, .int .u64 oz.m2, .int .u64 oz.m3, .int .u8 oz.len, .int .u8 oz.got]), (8, .pointer (some ⟨b84, 0, none⟩)), (18, .slice (some ⟨b35, 0, none⟩) 2 2), (3, .map (some mb)), (19, .int .i64 2), (20, .int .i64 j), (6, .pointer (some ⟨kb, 0, none⟩)), (25, .slice (some ⟨sb, k0, none⟩) sops.length sc), (26, .int .i64 ((sops.length : Nat) : Int)), (27, .int .i64 i), (9, .string ky), (10, .pointer (some ⟨kb3, 0, none⟩)), (46, .pointer (some ⟨kb3, 0, none⟩)), (47, .agg #[.int .u8 x.ev.kind, .int .u32 x.ev.pick, .int .u64 x.ev.draw, .int .u32 x.ev.addr, .int .u32 x.ev.node, .int .u32 x.ev.dst, .int .u32 x.ev.xfer, .int .u8 x.ev.ty, .int .u64 x.ev.arg, .int .u64 x.ev.badge, .slice x.xo x.ev.ws.length x.cx]), (49, .pointer (some ⟨kb, 0, none⟩)), (50, .agg #[.int .u8 x.ev.kind, .int .u32 x.ev.pick, .int .u64 x.ev.draw, .int .u32 x.ev.addr, .int .u32 x.ev.node, .int .u32 x.ev.dst, .int .u32 x.ev.xfer, .int .u8 x.ev.ty, .int .u64 x.ev.arg, .int .u64 x.ev.badge, .slice x.xo x.ev.ws.length x.cx])]) rfl
          have hkh198 := h195.known
          refine ⟨(keepOf hkh198 h198.known (kcons (keepAt (q := 1) (q' := 1) rfl rfl) knil)), ?_⟩
          have hszh198 : w.heap.size ≤ _ := h195.frame.size
          clear h195
          refine wpAnyK_one (i := 5) (fuel := 9) (by kernel_rfl) ?_
          have hnwkSz : ∀ b ∈ kb :: capF bo bc nd C, w.heap.size ≤ b := h198.inv.newOf (j := 2) (p := pKer kb bo bc nd S C) rfl
          have hstSz := step_ok kb bo bc nd S hIv.ab.ri C hIv.ok2.li hIv.ci x.ev (hev x hxm).1 x.xo x.cx _ (h198.inv.get (j := 2) (p := pKer kb bo bc nd S C) rfl).ker (h198.inv.get (j := 2) (p := pKer kb bo bc nd S C) rfl).cap (h198.inv.get (j := 2) (p := pKer kb bo bc nd S C) rfl).nk (cellsK hg1 h198.frame hgs1 (by simp)) (Nat.lt_of_lt_of_le hgs1 h198.frame.size) (by have := hnwkSz kb (List.mem_cons_self ..); omega) (fun hq => by have := hnwkSz 1 (List.mem_cons_of_mem _ hq); omega) (words_at (hwd x hxm) h198.frame hnwkSz)
          rw [ezSz] at hstSz
          have hgkSz := (h198.inv.get (j := 2) (p := pKer kb bo bc nd S C) rfl).nk
          have hglSz := lt_of_heap (h198.inv.get (j := 2) (p := pKer kb bo bc nd S C) rfl).ker
          refine op_call h198 rfl rfl rfl (callOk Tryd.func14 (by decide) rfl) (args := [.pointer (some ⟨kb, 0, none⟩), .agg #[.int .u8 x.ev.kind, .int .u32 x.ev.pick, .int .u64 x.ev.draw, .int .u32 x.ev.addr, .int .u32 x.ev.node, .int .u32 x.ev.dst, .int .u32 x.ev.xfer, .int .u8 x.ev.ty, .int .u64 x.ev.arg, .int .u64 x.ev.badge, .slice x.xo x.ev.ws.length x.cx]]) rfl (hstSz) ?_
          rintro _ w200 ⟨rfl, hkSz, nd9, hcSz, hsSz, hf199⟩
          refine ⟨_, rfl, ?_⟩
          dsimp only at hkSz hcSz hsSz ⊢
          have hnkSz : kb ∉ capF bo bc nd9 Cz := fun hq => (hsSz _ hq).elim hgkSz (fun h => by omega)
          have h201 := (h198.pcSet (j := 2) (p := pKer kb bo bc nd S C) (p' := pKer kb bo bc nd9 Sz Cz) (ps' := [pMet mb c9 es, pRow (rl opC 35 11 ops2 o2 c2 F2), pKer kb bo bc nd9 Sz Cz, pKer kb3 bo3 bc3 nd8 Sy Cz]) rfl (pKer_ok ⟨hkSz, hcSz, hnkSz⟩) hf199 (fun _ h => h) (ker_sub hsSz) (kcons (by intro hq; cases hq) (kcons (by intro hq; cases hq) knil)) rfl).put (d := some 51) (v := .agg #[.int .u8 oz.code, .int .u16 oz.run.idx, .int .u32 oz.run.gen, .int .u64 oz.badge, .int .u64 oz.m0, .int .u64 oz.m1, .int .u64 oz.m2, .int .u64 oz.m3, .int .u8 oz.len, .int .u8 oz.got]) (T' := [(51, .agg #[.int .u8 oz.code, .int .u16 oz.run.idx, .int .u32 oz.run.gen, .int .u64 oz.badge, .int .u64 oz.m0, .int .u64 oz.m1, .int .u64 oz.m2, .int .u64 oz.m3, .int .u8 oz.len, .int .u8 oz.got]), (48, .agg #[.int .u8 oz.code, .int .u16 oz.run.idx, .int .u32 oz.run.gen, .int .u64 oz.badge, .int .u64 oz.m0, .int .u64 oz.m1, .int .u64 oz.m2, .int .u64 oz.m3, .int .u8 oz.len, .int .u8 oz.got]), (8, .pointer (some ⟨b84, 0, none⟩)), (18, .slice (some ⟨b35, 0, none⟩) 2 2), (3, .map (some mb)), (19, .int .i64 2), (20, .int .i64 j), (6, .pointer (some ⟨kb, 0, none⟩)), (25, .slice (some ⟨sb, k0, none⟩) sops.length sc), (26, .int .i64 ((sops.length : Nat) : Int)), (27, .int .i64 i), (9, .string ky), (10, .pointer (some ⟨kb3, 0, none⟩)), (46, .pointer (some ⟨kb3, 0, none⟩)), (47, .agg #[.int .u8 x.ev.kind, .int .u32 x.ev.pick, .int .u64 x.ev.draw, .int .u32 x.ev.addr, .int .u32 x.ev.node, .int .u32 x.ev.dst, .int .u32 x.ev.xfer, .int .u8 x.ev.ty, .int .u64 x.ev.arg, .int .u64 x.ev.badge, .slice x.xo x.ev.ws.length x.cx]), (49, .pointer (some ⟨kb, 0, none⟩)), (50, .agg #[.int .u8 x.ev.kind, .int .u32 x.ev.pick, .int .u64 x.ev.draw, .int .u32 x.ev.addr, .int .u32 x.ev.node, .int .u32 x.ev.dst, .int .u32 x.ev.xfer, .int .u8 x.ev.ty, .int .u64 x.ev.arg, .int .u64 x.ev.badge, .slice x.xo x.ev.ws.length x.cx])]) rfl
          have hkh201 := h198.known
          refine ⟨keepNil, ?_⟩
          have hszh201 : w.heap.size ≤ _ := h198.frame.size
          clear h198
          refine dr_batch tabOk tabZ_ok (by repeat (first | with_reducible exact PF.body | with_reducible apply PF.inB | with_reducible apply PF.next)) [(6, {f := 1}), (7, {}), (8, {}), (10, {})] [8, 18, 3, 19, 20, 6, 25, 26, 27, 9, 10, 53, 54, 56] (T' := [(8, .pointer (some ⟨b84, 0, none⟩)), (18, .slice (some ⟨b35, 0, none⟩) 2 2), (3, .map (some mb)), (19, .int .i64 2), (20, .int .i64 j), (6, .pointer (some ⟨kb, 0, none⟩)), (25, .slice (some ⟨sb, k0, none⟩) sops.length sc), (26, .int .i64 ((sops.length : Nat) : Int)), (27, .int .i64 i), (9, .string ky), (10, .pointer (some ⟨kb3, 0, none⟩)), (53, .bool false), (54, .pointer (some ⟨kb3, 0, none⟩)), (56, .pointer (some ⟨kb, 0, none⟩))]) (φ := EqRun Tryd.prog 42 (.agg #[.int .u8 oz.code, .int .u16 oz.run.idx, .int .u32 oz.run.gen, .int .u64 oz.badge, .int .u64 oz.m0, .int .u64 oz.m1, .int .u64 oz.m2, .int .u64 oz.m3, .int .u8 oz.len, .int .u8 oz.got]) (.agg #[.int .u8 oz.code, .int .u16 oz.run.idx, .int .u32 oz.run.gen, .int .u64 oz.badge, .int .u64 oz.m0, .int .u64 oz.m1, .int .u64 oz.m2, .int .u64 oz.m3, .int .u8 oz.len, .int .u8 oz.got]) true ∧ True) (fuel := 5) h201 (by kernel_rfl) rfl (by kernel_rfl) (by kernel_rfl) ⟨trivial, trivial, trivial, trivial, trivial⟩ ⟨(runOutS oz), trivial⟩ fun a202 h203 => ?_
          clear h201
          refine wpAnyK_one (i := 9) (fuel := 4) (by kernel_rfl) ?_
          refine op_call h203 rfl rfl rfl (callOk Tryd.func16 (by decide) rfl) (args := [.pointer (some ⟨kb3, 0, none⟩)]) rfl (bytes_ok kb3 bo3 bc3 nd8 Sy hAy.ri b9.q hAy.li Cz hUy hIvz.uc _ (h203.inv.get (j := 3) (p := pKer kb3 bo3 bc3 nd8 Sy Cz) rfl).ker (h203.inv.get (j := 3) (p := pKer kb3 bo3 bc3 nd8 Sy Cz) rfl).cap (h203.inv.get (j := 3) (p := pKer kb3 bo3 bc3 nd8 Sy Cz) rfl).nk) ?_
          rintro _ w210 ⟨o204, c205, F206, rfl, hr207, hF209, hf208⟩
          refine ⟨_, rfl, ?_⟩
          have h211 := (h203.pcAdd (p' := pRow (rl u8C 5 1 (uvs (bytesN Sy b9.q Cz)) o204 c205 F206)) (ps' := [pMet mb c9 es, pRow (rl opC 35 11 ops2 o2 c2 F2), pKer kb bo bc nd9 Sz Cz, pKer kb3 bo3 bc3 nd8 Sy Cz, pRow (rl u8C 5 1 (uvs (bytesN Sy b9.q Cz)) o204 c205 F206)]) (pRow_ok hr207) hf208 hF209 rfl).put (d := some 55) (v := .slice o204 ((uvs (bytesN Sy b9.q Cz)).length) c205) (T' := [(55, .slice o204 ((uvs (bytesN Sy b9.q Cz)).length) c205), (8, .pointer (some ⟨b84, 0, none⟩)), (18, .slice (some ⟨b35, 0, none⟩) 2 2), (3, .map (some mb)), (19, .int .i64 2), (20, .int .i64 j), (6, .pointer (some ⟨kb, 0, none⟩)), (25, .slice (some ⟨sb, k0, none⟩) sops.length sc), (26, .int .i64 ((sops.length : Nat) : Int)), (27, .int .i64 i), (9, .string ky), (10, .pointer (some ⟨kb3, 0, none⟩)), (53, .bool false), (54, .pointer (some ⟨kb3, 0, none⟩)), (56, .pointer (some ⟨kb, 0, none⟩))]) rfl
          have hkh211 := h203.known
          refine ⟨keepNil, ?_⟩
          have hszh211 : w.heap.size ≤ _ := h203.frame.size
          clear h203
          refine wpAnyK_one (i := 11) (fuel := 3) (by kernel_rfl) ?_
          refine op_call h211 rfl rfl rfl (callOk Tryd.func16 (by decide) rfl) (args := [.pointer (some ⟨kb, 0, none⟩)]) rfl (bytes_ok kb bo bc nd9 Sz hIvz.ab.ri b9.q hIvz.ab.li Cz hIvz.ur hIvz.uc _ (h211.inv.get (j := 2) (p := pKer kb bo bc nd9 Sz Cz) rfl).ker (h211.inv.get (j := 2) (p := pKer kb bo bc nd9 Sz Cz) rfl).cap (h211.inv.get (j := 2) (p := pKer kb bo bc nd9 Sz Cz) rfl).nk) ?_
          rintro _ w218 ⟨o212, c213, F214, rfl, hr215, hF217, hf216⟩
          refine ⟨_, rfl, ?_⟩
          have h219 := (h211.pcAdd (p' := pRow (rl u8C 5 1 (uvs (bytesN Sz b9.q Cz)) o212 c213 F214)) (ps' := [pMet mb c9 es, pRow (rl opC 35 11 ops2 o2 c2 F2), pKer kb bo bc nd9 Sz Cz, pKer kb3 bo3 bc3 nd8 Sy Cz, pRow (rl u8C 5 1 (uvs (bytesN Sy b9.q Cz)) o204 c205 F206), pRow (rl u8C 5 1 (uvs (bytesN Sz b9.q Cz)) o212 c213 F214)]) (pRow_ok hr215) hf216 hF217 rfl).put (d := some 57) (v := .slice o212 ((uvs (bytesN Sz b9.q Cz)).length) c213) (T' := [(57, .slice o212 ((uvs (bytesN Sz b9.q Cz)).length) c213), (55, .slice o204 ((uvs (bytesN Sy b9.q Cz)).length) c205), (8, .pointer (some ⟨b84, 0, none⟩)), (18, .slice (some ⟨b35, 0, none⟩) 2 2), (3, .map (some mb)), (19, .int .i64 2), (20, .int .i64 j), (6, .pointer (some ⟨kb, 0, none⟩)), (25, .slice (some ⟨sb, k0, none⟩) sops.length sc), (26, .int .i64 ((sops.length : Nat) : Int)), (27, .int .i64 i), (9, .string ky), (10, .pointer (some ⟨kb3, 0, none⟩)), (53, .bool false), (54, .pointer (some ⟨kb3, 0, none⟩)), (56, .pointer (some ⟨kb, 0, none⟩))]) rfl
          have hkh219 := h211.known
          refine ⟨keepNil, ?_⟩
          have hszh219 : w.heap.size ≤ _ := h211.frame.size
          clear h211
          refine wpAnyK_one (i := 12) (fuel := 2) (by kernel_rfl) ?_
          refine op_call h219 rfl rfl rfl (callOk Tryd.func17 (by decide) rfl) (args := [.slice o204 ((uvs (bytesN Sy b9.q Cz)).length) c205, .slice o212 ((uvs (bytesN Sz b9.q Cz)).length) c213]) rfl (equalE (by rw [hby2]) (bytes_pos _ _ _) (h219.inv.get (j := 4) (p := pRow (rl u8C 5 1 (uvs (bytesN Sy b9.q Cz)) o204 c205 F206)) rfl) (h219.inv.get (j := 5) (p := pRow (rl u8C 5 1 (uvs (bytesN Sz b9.q Cz)) o212 c213 F214)) rfl)) ?_
          rintro _ w220 ⟨rfl, hf222⟩
          refine ⟨_, rfl, ?_⟩
          have h221 := (h219.grow hf222).put (d := some 58) (v := .bool true) (T' := [(58, .bool true), (57, .slice o212 ((uvs (bytesN Sz b9.q Cz)).length) c213), (55, .slice o204 ((uvs (bytesN Sy b9.q Cz)).length) c205), (8, .pointer (some ⟨b84, 0, none⟩)), (18, .slice (some ⟨b35, 0, none⟩) 2 2), (3, .map (some mb)), (19, .int .i64 2), (20, .int .i64 j), (6, .pointer (some ⟨kb, 0, none⟩)), (25, .slice (some ⟨sb, k0, none⟩) sops.length sc), (26, .int .i64 ((sops.length : Nat) : Int)), (27, .int .i64 i), (9, .string ky), (10, .pointer (some ⟨kb3, 0, none⟩)), (53, .bool false), (54, .pointer (some ⟨kb3, 0, none⟩)), (56, .pointer (some ⟨kb, 0, none⟩))]) rfl
          refine ⟨keepNil, ?_⟩
          clear h219
          refine dr_batch tabOk tabZ_ok (by repeat (first | with_reducible exact PF.body | with_reducible apply PF.inB | with_reducible apply PF.next)) [(13, {}), (14, {})] [8, 18, 3, 19, 20, 6, 25, 26, 27, 9, 10, 60] (T' := [(8, .pointer (some ⟨b84, 0, none⟩)), (18, .slice (some ⟨b35, 0, none⟩) 2 2), (3, .map (some mb)), (19, .int .i64 2), (20, .int .i64 j), (6, .pointer (some ⟨kb, 0, none⟩)), (25, .slice (some ⟨sb, k0, none⟩) sops.length sc), (26, .int .i64 ((sops.length : Nat) : Int)), (27, .int .i64 i), (9, .string ky), (10, .pointer (some ⟨kb3, 0, none⟩)), (60, .bool false)]) (φ := True) (fuel := 0) h221 (by kernel_rfl) rfl (by kernel_rfl) (by kernel_rfl) ⟨trivial, trivial, trivial⟩ trivial fun a223 h224 => ?_
          clear h221
          refine wpAnyK_done (by kernel_rfl) ?_ _
          refine hK190 _ _ ?_
          clear hK190
          refine c_false h224 rfl ?_
          refine wp_skip ?_
          refine hK79 _ _ ?_
          clear hK79
          refine nd_start (l := [0, 1]) rfl ?_
          refine nd_batch tabOk tabZ_ok [(0, {}), (1, {})] [8, 18, 3, 19, 20, 6, 25, 26, 9, 10, 27] (T' := [(8, .pointer (some ⟨b84, 0, none⟩)), (18, .slice (some ⟨b35, 0, none⟩) 2 2), (3, .map (some mb)), (19, .int .i64 2), (20, .int .i64 j), (6, .pointer (some ⟨kb, 0, none⟩)), (25, .slice (some ⟨sb, k0, none⟩) sops.length sc), (26, .int .i64 ((sops.length : Nat) : Int)), (9, .string ky), (10, .pointer (some ⟨kb3, 0, none⟩)), (27, .int .i64 (i + 1))]) (φ := inR .i64 (i + 1) ∧ True) (rest := []) h224 (by kernel_rfl) rfl ⟨⟨by omega, by omega⟩, trivial⟩ fun a225 h226 => ?_
          clear h224
          refine nd_done ?_
          have h227 := h226.memMono (L' := [(b35, ⟨[.slice o ops.length c, .slice o2 ops2.length c2], 22, false⟩)]) (List.Sublist.cons_cons _ (List.Sublist.cons _ List.Sublist.slnil))
          clear h226
          have h228 := h227.pcSub (ps' := [pMet mb c9 es, pRow (rl opC 35 11 ops2 o2 c2 F2), pKer kb bo bc nd9 Sz Cz]) (List.Sublist.cons_cons _ (List.Sublist.cons_cons _ (List.Sublist.cons_cons _ (List.Sublist.cons _ (List.Sublist.cons _ (List.Sublist.cons _ List.Sublist.slnil))))))
          clear h227
          exact ⟨(g2 - 1), by omega, c9, es, nd9, Sz, Cz, b9, (i + 1), by omega, ⟨by omega, by omega⟩, hM, hIvz, (h228.slotsMono (restr_spec (keep := [18, 3, 19, 20, 6, 25, 26, 27]) rfl))⟩
      ·
        have hc78f : ¬ i < ((sops.length : Nat) : Int) := by simpa using hc78
        refine wp_exit ?_
        refine hK54 _ _ ?_
        clear hK54
        refine nd_start (l := [0, 1]) rfl ?_
        refine nd_batch tabOk tabZ_ok [(0, {}), (1, {})] [18, 3, 19, 6, 25, 26, 27, 20] (T' := [(18, .slice (some ⟨b35, 0, none⟩) 2 2), (3, .map (some mb)), (19, .int .i64 2), (6, .pointer (some ⟨kb, 0, none⟩)), (25, .slice so sops.length sc), (26, .int .i64 ((sops.length : Nat) : Int)), (27, .int .i64 i), (20, .int .i64 (j + 1))]) (φ := inR .i64 (j + 1) ∧ True) (rest := []) h76 (by kernel_rfl) rfl ⟨⟨by omega, by omega⟩, trivial⟩ fun a229 h230 => ?_
        clear h76
        refine nd_done ?_
        have h231 := h230.pcSub (ps' := [pMet mb c9 es, pRow (rl opC 35 11 ops2 o2 c2 F2)]) (List.Sublist.cons_cons _ (List.Sublist.cons_cons _ (List.Sublist.cons _ List.Sublist.slnil)))
        clear h230
        exact ⟨(g - 1), by omega, c9, es, (j + 1), by omega, ⟨by omega, by omega⟩, hM, (h231.slotsMono (restr_spec (keep := [18, 3, 19, 20]) rfl))⟩
    ·
      have hc53f : ¬ j < 2 := by simpa using hc53
      refine wp_exit ?_
      refine hK26 _ _ ?_
      clear hK26
      refine wp_seq_k fun K232 hK232 => ?_
      refine nd_start (l := [0]) rfl ?_
      refine nd_batch tabOk tabZ_ok [(0, {})] [18, 3, 19, 20, 2] (T' := [(18, .slice (some ⟨b35, 0, none⟩) 2 2), (3, .map (some mb)), (19, .int .i64 2), (20, .int .i64 j), (2, .bool true)]) (φ := True) (rest := []) h51 (by kernel_rfl) rfl trivial fun a233 h234 => ?_
      clear h51
      refine nd_done ?_
      refine hK232 _ _ ?_
      clear hK232
      refine wp_ret ?_
      try simp only [Exit.then, Exit.inBlock]
      try rw [if_pos trivial]
      exact s_ret tabOk tabZ_ok h234 [(.tmp 2, {})] (vs := [.bool true]) (φ := True) rfl (by kernel_rfl) trivial ⟨rfl, h234.frame⟩

end Go.Proofs.Qxb6500918aDoor
