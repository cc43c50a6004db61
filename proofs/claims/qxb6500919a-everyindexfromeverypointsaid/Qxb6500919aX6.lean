/-
  EveryIndexFromEveryPoint: the law walked. (Made by program: a symbolic walk that prints its steps.)
-/
import Derived.Test.Qxb6500919aTab
import Derived.Test.Qxb6500919aL6
import Derived.Test.Qxb6500919aXK
import Derived.Test.Qxb6500919aSxJ
import Derived.Test.Qxb6500919aW1
import Derived.Test.Qxb6500919aW2
import Derived.Test.Qxb6500919aW4
import Derived.Test.Qxb6500919aWH
import Derived.Test.Qxb6500919aWI
import Derived.Test.Qxb6500919aWJ
namespace Go.Proofs.Qxb6500919a
open Go.Sx Go.Rp
set_option maxRecDepth 100000
set_option maxHeartbeats 4000000
set_option linter.unusedVariables false
set_option linter.unusedSimpArgs false

theorem law6_ok (o : Option Addr) (c : Nat) (ops : List Opn) (w : World) (hok : ∀ op ∈ ops, op.ok) (hscr : Scr w o ops) : Calls Try.prog 6 #[.slice o ops.length c] w fun e w' => e = .returned (.bool true) ∧ Fr [] w w' := by
  refine enter0 (n := 151) (K := []) (T := [(0, .slice o ops.length c)]) (L := []) (args := [.slice o ops.length c]) Try.func6 rfl rfl rfl rfl knil (by simp) knil ?_
  intro a h
  refine wp_seq_k fun K1 hK1 => ?_
  refine nd_start (l := [0]) rfl ?_
  refine nd_batch tabOk tabZ_ok [(0, {})] [0, 2] (T' := [(0, .slice o ops.length c), (2, .bool false)]) (φ := True) (rest := []) h (by kernel_rfl) rfl trivial fun a2 h3 => ?_
  clear h
  refine nd_done ?_
  refine hK1 _ _ ?_
  clear hK1
  refine wp_seq_k fun K4 hK4 => ?_
  refine wp_seq_k fun K5 hK5 => ?_
  refine nd_start (l := [0, 1, 2]) rfl ?_
  refine nd_batch tabOk tabZ_ok [(0, {})] [0, 2, 14] (T' := [(0, .slice o ops.length c), (2, .bool false), (14, .slice o ops.length c)]) (φ := True) (rest := [1, 2]) h3 (by kernel_rfl) rfl trivial fun a6 h7 => ?_
  clear h3
  refine nd_op ?_
  refine op_call h7 rfl rfl rfl (callOk Try.func9 (by decide) rfl) (args := [.slice o ops.length c]) rfl (small_ok o ops.length c _) ?_
  rintro _ w8 ⟨rfl, hf10⟩
  refine ⟨_, rfl, ?_⟩
  have h9 := (h7.grow hf10).put (d := some 15) (v := .bool (decide (ops.length ≤ 65536))) (T' := [(15, .bool (decide (ops.length ≤ 65536))), (0, .slice o ops.length c), (2, .bool false), (14, .slice o ops.length c)]) rfl
  clear h7
  refine nd_batch tabOk tabZ_ok [(2, {})] [0, 2, 16] (T' := [(0, .slice o ops.length c), (2, .bool false), (16, .bool (!(decide (ops.length ≤ 65536))))]) (φ := True) (rest := []) h9 (by kernel_rfl) rfl trivial fun a11 h12 => ?_
  clear h9
  refine nd_done ?_
  refine hK5 _ _ ?_
  clear hK5
  refine c_split h12 (b := !(decide (ops.length ≤ 65536))) rfl (fun hc13 => ?_) (fun hc13 => ?_)
  ·
    refine wp_seq_k fun K14 hK14 => ?_
    refine nd_start (l := [0]) rfl ?_
    refine nd_batch tabOk tabZ_ok [(0, {})] [0, 2] (T' := [(0, .slice o ops.length c), (2, .bool true)]) (φ := True) (rest := []) h12 (by kernel_rfl) rfl trivial fun a15 h16 => ?_
    clear h12
    refine nd_done ?_
    refine hK14 _ _ ?_
    clear hK14
    refine wp_ret ?_
    try simp only [Exit.then, Exit.inBlock]
    try rw [if_pos trivial]
    exact s_ret tabOk tabZ_ok h16 [(.tmp 2, {})] (vs := [.bool true]) (φ := True) rfl (by kernel_rfl) trivial ⟨rfl, h16.frame⟩
  ·
    have hsm : ops.length ≤ 65536 := by simpa using hc13
    refine wp_skip ?_
    refine hK4 _ _ ?_
    clear hK4
    refine wp_seq_k fun K17 hK17 => ?_
    refine nd_start (l := [0, 1]) rfl ?_
    refine nd_op ?_
    have h18 := h12.slotsMono (T' := [(0, .slice o ops.length c), (2, .bool false)]) (restr_spec (keep := [0, 2]) rfl)
    clear h12
    have h19 := h18.pc0
    clear h18
    refine op_call h19 rfl rfl rfl (callOk Try.func10 (by decide) rfl) (args := []) rfl (new_ok _) ?_
    rintro _ w21 ⟨bs, bl, rfl, hs0, hf20, hn1, hn2⟩
    refine ⟨_, rfl, ?_⟩
    have h22 := (h19.pcAdd (p' := pSess bs bl hd0 ss0) (ps' := [pSess bs bl hd0 ss0]) (pSess_ok hs0) hf20 (fun b hb => by simp [Hd.F, hd0] at hb; rcases hb with rfl | rfl; exact hn1; exact hn2) rfl).put (d := some 17) (v := .pointer (some ⟨bs, 0, none⟩)) (T' := [(17, .pointer (some ⟨bs, 0, none⟩)), (0, .slice o ops.length c), (2, .bool false)]) rfl
    have hszh22 : w.heap.size ≤ _ := h19.frame.size
    clear h19
    refine nd_batch tabOk tabZ_ok [(1, {})] [0, 2, 3] (T' := [(0, .slice o ops.length c), (2, .bool false), (3, .pointer (some ⟨bs, 0, none⟩))]) (φ := True) (rest := []) h22 (by kernel_rfl) rfl trivial fun a23 h24 => ?_
    clear h22
    refine nd_done ?_
    refine hK17 _ _ ?_
    clear hK17
    refine wp_seq_k fun K25 hK25 => ?_
    refine nd_start (l := [0, 1, 2, 3, 4, 5, 6]) rfl ?_
    refine nd_batch tabOk tabZ_ok [(0, {}), (1, {})] [0, 2, 3, 18, 19] (T' := [(0, .slice o ops.length c), (2, .bool false), (3, .pointer (some ⟨bs, 0, none⟩)), (18, .pointer (some ⟨bs, 0, none⟩)), (19, .agg #[.int .u8 8, .int .i64 0, .int .i64 0, .int .u8 0, .int .u32 0, .int .u64 0])]) (φ := True) (rest := [2, 3, 4, 5, 6]) h24 (by kernel_rfl) rfl trivial fun a26 h27 => ?_
    clear h24
    refine nd_op ?_
    refine op_call h27 rfl rfl rfl (callOk Try.func12 (by decide) rfl) (args := [.pointer (some ⟨bs, 0, none⟩), .agg #[.int .u8 8, .int .i64 0, .int .i64 0, .int .u8 0, .int .u32 0, .int .u64 0]]) rfl ((by have hq := do_ok bs bl hd0 ss0 _ (h27.inv.get (j := 0) (p := pSess bs bl hd0 ss0) rfl) (B := ((0 : Nat) : Int)) (by omega) ss0_wf ⟨8, 0, 0, ⟨0, 0, 0⟩⟩ (opk_ok (by decide) (by decide)); rw [do_where] at hq; exact hq)) ?_
    rintro _ w32 ⟨d28, rfl, hs29, hf30, hF31⟩
    refine ⟨_, rfl, ?_⟩
    have h33 := (h27.pcSet (j := 0) (p := pSess bs bl hd0 ss0) (p' := pSess bs bl d28 ss0) (ps' := [pSess bs bl d28 ss0]) rfl (pSess_ok hs29) hf30 (fun _ h => h) (sess_sub hF31) knil rfl).put (d := some 20) (v := .agg #[.int .u8 0, .int .i64 ss0.pos, .int .i64 ss0.lg.base.idx, .int .i64 ss0.lg.fin, .bool ss0.live, .bool ss0.out.refused, .int .i8 ss0.out.running, .int .u64 ss0.out.value, .int .u64 (dig ss0.m), .int .i64 ss0.pos, .int .i64 0, .int .i64 (-1)]) (T' := [(20, .agg #[.int .u8 0, .int .i64 ss0.pos, .int .i64 ss0.lg.base.idx, .int .i64 ss0.lg.fin, .bool ss0.live, .bool ss0.out.refused, .int .i8 ss0.out.running, .int .u64 ss0.out.value, .int .u64 (dig ss0.m), .int .i64 ss0.pos, .int .i64 0, .int .i64 (-1)]), (0, .slice o ops.length c), (2, .bool false), (3, .pointer (some ⟨bs, 0, none⟩)), (18, .pointer (some ⟨bs, 0, none⟩)), (19, .agg #[.int .u8 8, .int .i64 0, .int .i64 0, .int .u8 0, .int .u32 0, .int .u64 0])]) rfl
    have hszh33 : w.heap.size ≤ _ := h27.frame.size
    clear h27
    refine nd_batch tabOk tabZ_ok [(3, {}), (4, {})] [0, 2, 3, 22] (T' := [(0, .slice o ops.length c), (2, .bool false), (3, .pointer (some ⟨bs, 0, none⟩)), (22, .agg #[.int .u64 (dig ss0.m), .bool false, .int .i8 0, .int .u64 0])]) (φ := True) (rest := [5, 6]) h33 (by kernel_rfl) rfl trivial fun a34 h35 => ?_
    clear h33
    refine nd_op ?_
    refine op_new tabOk (cells := [.int .u64 (dig ss0.m), .bool false, .int .i8 0, .int .u64 0]) (ty := 59) (ln := (some 1)) (L1 := fun b36 => [(b36, ⟨[.int .u64 (dig ss0.m), .bool false, .int .i8 0, .int .u64 0], 59, false⟩)]) h35 rfl rfl rfl rfl (by kernel_rfl) (fun _ => rfl) fun b36 w37 a38 h39 hf40 hn41 => ?_
    clear h35
    refine nd_batch tabOk tabZ_ok [(6, {})] [0, 2, 3, 4] (T' := [(0, .slice o ops.length c), (2, .bool false), (3, .pointer (some ⟨bs, 0, none⟩)), (4, .slice (some ⟨b36, 0, none⟩) 1 1)]) (φ := True) (rest := []) h39 (by kernel_rfl) rfl trivial fun a42 h43 => ?_
    clear h39
    refine nd_done ?_
    refine hK25 _ _ ?_
    clear hK25
    refine wp_seq_k fun K44 hK44 => ?_
    refine wp_seq_k fun K45 hK45 => ?_
    refine nd_start (l := [0, 1, 2]) rfl ?_
    refine nd_batch tabOk tabZ_ok [(0, {}), (1, {}), (2, {})] [0, 2, 3, 4, 24, 25, 26] (T' := [(0, .slice o ops.length c), (2, .bool false), (3, .pointer (some ⟨bs, 0, none⟩)), (4, .slice (some ⟨b36, 0, none⟩) 1 1), (24, .slice o ops.length c), (25, .int .i64 ((ops.length : Nat) : Int)), (26, .int .i64 0)]) (φ := True) (rest := []) h43 (by kernel_rfl) rfl trivial fun a46 h47 => ?_
    clear h43
    refine nd_done ?_
    refine hK45 _ _ ?_
    clear hK45
    refine wp_block ?_
    have h48 := St.pcOf (L := []) (p' := pRow (rl seenC 59 4 (runL []) (some ⟨b36, 0, none⟩) 1 ([b36]))) (ps' := [pSess bs bl d28 ss0, pRow (rl seenC 59 4 (runL []) (some ⟨b36, 0, none⟩) 1 ([b36]))]) h47 rfl (pRow_ok ⟨rfl, .inr ⟨b36, [.int .u64 (dig ss0.m), .bool false, .int .i8 0, .int .u64 0], rfl, h47.kn (k := 0) (blk := ⟨[.int .u64 (dig ss0.m), .bool false, .int .i8 0, .int .u64 0], 59, false⟩) rfl, rfl, Nat.le_refl _, rfl, rfl⟩⟩) rfl
    clear h47
    refine wp_loop_ghost (fun g ga gw => ∃ (i : Nat) (s : Ss) (d : Hd) (all : List Ev) (ro : Option Addr) (rc : Nat) (rF : List Nat), (i ≤ ops.length) ∧ (g = ops.length - i) ∧ (s.wf (i : Int)) ∧ (Hon all s) ∧ St ⟨151, [], w, Pk w.heap.size [pSess bs bl d s, pRow (rl seenC 59 4 (runL all) ro rc rF)], Pf [pSess bs bl d s, pRow (rl seenC 59 4 (runL all) ro rc rF)]⟩ [(3, .pointer (some ⟨bs, 0, none⟩)), (4, .slice ro ((runL all).length) rc), (24, .slice o ops.length c), (25, .int .i64 ((ops.length : Nat) : Int)), (26, .int .i64 ((i : Nat) : Int))] [] ga gw) ops.length ⟨0, ss0, d28, [], (some ⟨b36, 0, none⟩), 1, [b36], Nat.zero_le _, rfl, ss0_wf, ss0_hon, (h48.slotsMono (restr_spec (keep := [3, 4, 24, 25, 26]) rfl))⟩ ?_
    clear h48
    rintro g a49 w50 ⟨i, s, d, all, ro, rc, rF, hi52, hi53, hi54, hi55, h51⟩
    have hi := hi52
    have hg := hi53
    have hwf := hi54
    have hon := hi55
    have hfin := hon_fin hon.lg hwf.lg.b0
    have hfB := hwf.lg.fin
    have hrl := runL_len all
    have hb0 := hwf.lg.b0
    have hlo := hwf.lo
    have hhi := hwf.hi
    refine wp_seq_k fun K56 hK56 => ?_
    refine nd_start (l := [0]) rfl ?_
    refine nd_batch tabOk tabZ_ok [(0, {})] [3, 4, 24, 25, 26, 27] (T' := [(3, .pointer (some ⟨bs, 0, none⟩)), (4, .slice ro ((runL all).length) rc), (24, .slice o ops.length c), (25, .int .i64 ((ops.length : Nat) : Int)), (26, .int .i64 ((i : Nat) : Int)), (27, .bool (decide (((i : Nat) : Int) < ((ops.length : Nat) : Int))))]) (φ := True) (rest := []) h51 (by kernel_rfl) rfl trivial fun a57 h58 => ?_
    clear h51
    refine nd_done ?_
    refine hK56 _ _ ?_
    clear hK56
    refine wp_seq_k fun K59 hK59 => ?_
    refine c_split h58 (b := decide (((i : Nat) : Int) < ((ops.length : Nat) : Int))) rfl (fun hc60 => ?_) (fun hc60 => ?_)
    ·
      have hc60f : ((i : Nat) : Int) < ((ops.length : Nat) : Int) := by simpa using hc60
      obtain ⟨x, hx⟩ := Sx.get_some (xs := ops) (i := i) (by omega)
      have hxok := hok x (List.mem_of_getElem? hx)
      obtain ⟨sb61, k062, ho63, hb64, hc65⟩ := hscr.get hx
      subst ho63
      refine wp_skip ?_
      refine hK59 _ _ ?_
      clear hK59
      refine wp_seq_k fun K66 hK66 => ?_
      refine wp_block ?_
      refine wp_seq_k fun K67 hK67 => ?_
      refine nd_start (l := [0, 1, 2, 3]) rfl ?_
      refine nd_batch tabOk tabZ_ok [(0, {})] [3, 4, 24, 25, 26, 28] (T' := [(3, .pointer (some ⟨bs, 0, none⟩)), (4, .slice ro ((runL all).length) rc), (24, .slice (some ⟨sb61, k062, none⟩) ops.length c), (25, .int .i64 ((ops.length : Nat) : Int)), (26, .int .i64 ((i : Nat) : Int)), (28, .pointer (some ⟨sb61, k062 + (i * 6), none⟩))]) (φ := (0 ≤ ((i : Nat) : Int) ∧ ((i : Nat) : Int) < ((ops.length : Nat) : Int)) ∧ True) (rest := [1, 2, 3]) h58 (by kernel_rfl) rfl ⟨⟨by omega, by omega⟩, trivial⟩ fun a68 h69 => ?_
      clear h58
      refine nd_op ?_
      refine op_loadx tabOk (b := sb61) (k := k062 + (i * 6)) (vs := opC x) h69 rfl rfl rfl rfl rfl rfl rfl (CellsAt.fr (hc65 _ _ hx) h69.frame hb64) ?_
      have h70 := h69.put (d := some 29) (v := .agg #[.int .u8 x.kind, .int .i64 x.n, .int .i64 x.m, .int .u8 x.ev.kind, .int .u32 x.ev.pick, .int .u64 x.ev.arg]) (T' := [(29, .agg #[.int .u8 x.kind, .int .i64 x.n, .int .i64 x.m, .int .u8 x.ev.kind, .int .u32 x.ev.pick, .int .u64 x.ev.arg]), (3, .pointer (some ⟨bs, 0, none⟩)), (4, .slice ro ((runL all).length) rc), (24, .slice (some ⟨sb61, k062, none⟩) ops.length c), (25, .int .i64 ((ops.length : Nat) : Int)), (26, .int .i64 ((i : Nat) : Int)), (28, .pointer (some ⟨sb61, k062 + (i * 6), none⟩))]) rfl
      clear h69
      refine nd_op ?_
      refine op_new tabOk (cells := [.int .u8 0, .int .i64 0, .int .i64 0, .int .u8 0, .int .u32 0, .int .u64 0]) (ty := 35) (ln := none) (L1 := fun b71 => [(b71, ⟨[.int .u8 0, .int .i64 0, .int .i64 0, .int .u8 0, .int .u32 0, .int .u64 0], 35, false⟩)]) h70 rfl rfl rfl rfl (by kernel_rfl) (fun _ => rfl) fun b71 w72 a73 h74 hf75 hn76 => ?_
      clear h70
      refine nd_op ?_
      refine op_store tabOk {k := 0} (L' := [(b71, ⟨[.int .u8 x.kind, .int .i64 x.n, .int .i64 x.m, .int .u8 x.ev.kind, .int .u32 x.ev.pick, .int .u64 x.ev.arg], 35, false⟩)]) (φ := b71 = b71 ∧ Nat.ble (0 + 6) 6 = true) h74 rfl rfl rfl (by kernel_rfl) ⟨rfl, rfl⟩ fun w77 h78 => ?_
      clear h74
      refine nd_done ?_
      refine hK67 _ _ ?_
      clear hK67
      refine wp_seq_k fun K79 hK79 => ?_
      refine nd_start (l := [0, 1, 2, 3, 4]) rfl ?_
      refine nd_batch tabOk tabZ_ok [(0, {}), (1, {})] [6, 3, 4, 24, 25, 26, 30, 31] (T' := [(6, .pointer (some ⟨b71, 0, none⟩)), (3, .pointer (some ⟨bs, 0, none⟩)), (4, .slice ro ((runL all).length) rc), (24, .slice (some ⟨sb61, k062, none⟩) ops.length c), (25, .int .i64 ((ops.length : Nat) : Int)), (26, .int .i64 ((i : Nat) : Int)), (30, .pointer (some ⟨bs, 0, none⟩)), (31, .agg #[.int .u8 8, .int .i64 0, .int .i64 0, .int .u8 0, .int .u32 0, .int .u64 0])]) (φ := True) (rest := [2, 3, 4]) h78 (by kernel_rfl) rfl trivial fun a80 h81 => ?_
      clear h78
      refine nd_op ?_
      refine op_call h81 rfl rfl rfl (callOk Try.func12 (by decide) rfl) (args := [.pointer (some ⟨bs, 0, none⟩), .agg #[.int .u8 8, .int .i64 0, .int .i64 0, .int .u8 0, .int .u32 0, .int .u64 0]]) rfl ((by have hq := do_ok bs bl d s _ (h81.inv.get (j := 0) (p := pSess bs bl d s) rfl) (B := (i : Int)) (by omega) hwf ⟨8, 0, 0, ⟨0, 0, 0⟩⟩ (opk_ok (by decide) (by decide)); rw [do_where] at hq; exact hq)) ?_
      rintro _ w86 ⟨d82, rfl, hs83, hf84, hF85⟩
      refine ⟨_, rfl, ?_⟩
      have h87 := (h81.pcSet (j := 0) (p := pSess bs bl d s) (p' := pSess bs bl d82 s) (ps' := [pSess bs bl d82 s, pRow (rl seenC 59 4 (runL all) ro rc rF)]) rfl (pSess_ok hs83) hf84 (fun _ h => h) (sess_sub hF85) (kcons (by intro hq; cases hq) knil) rfl).put (d := some 32) (v := .agg #[.int .u8 0, .int .i64 s.pos, .int .i64 s.lg.base.idx, .int .i64 s.lg.fin, .bool s.live, .bool s.out.refused, .int .i8 s.out.running, .int .u64 s.out.value, .int .u64 (dig s.m), .int .i64 s.pos, .int .i64 0, .int .i64 (-1)]) (T' := [(32, .agg #[.int .u8 0, .int .i64 s.pos, .int .i64 s.lg.base.idx, .int .i64 s.lg.fin, .bool s.live, .bool s.out.refused, .int .i8 s.out.running, .int .u64 s.out.value, .int .u64 (dig s.m), .int .i64 s.pos, .int .i64 0, .int .i64 (-1)]), (6, .pointer (some ⟨b71, 0, none⟩)), (3, .pointer (some ⟨bs, 0, none⟩)), (4, .slice ro ((runL all).length) rc), (24, .slice (some ⟨sb61, k062, none⟩) ops.length c), (25, .int .i64 ((ops.length : Nat) : Int)), (26, .int .i64 ((i : Nat) : Int)), (30, .pointer (some ⟨bs, 0, none⟩)), (31, .agg #[.int .u8 8, .int .i64 0, .int .i64 0, .int .u8 0, .int .u32 0, .int .u64 0])]) rfl
      have hszh87 : w.heap.size ≤ _ := h81.frame.size
      clear h81
      refine nd_op ?_
      refine op_new tabOk (cells := [.int .u8 0, .int .i64 0, .int .i64 0, .int .i64 0, .bool false, .bool false, .int .i8 0, .int .u64 0, .int .u64 0, .int .i64 0, .int .i64 0, .int .i64 0]) (ty := 41) (ln := none) (L1 := fun b88 => [(b71, ⟨[.int .u8 x.kind, .int .i64 x.n, .int .i64 x.m, .int .u8 x.ev.kind, .int .u32 x.ev.pick, .int .u64 x.ev.arg], 35, false⟩), (b88, ⟨[.int .u8 0, .int .i64 0, .int .i64 0, .int .i64 0, .bool false, .bool false, .int .i8 0, .int .u64 0, .int .u64 0, .int .i64 0, .int .i64 0, .int .i64 0], 41, false⟩)]) h87 rfl rfl rfl rfl (by kernel_rfl) (fun _ => rfl) fun b88 w89 a90 h91 hf92 hn93 => ?_
      clear h87
      refine nd_op ?_
      refine op_store tabOk {k := 1} (L' := [(b71, ⟨[.int .u8 x.kind, .int .i64 x.n, .int .i64 x.m, .int .u8 x.ev.kind, .int .u32 x.ev.pick, .int .u64 x.ev.arg], 35, false⟩), (b88, ⟨[.int .u8 0, .int .i64 s.pos, .int .i64 s.lg.base.idx, .int .i64 s.lg.fin, .bool s.live, .bool s.out.refused, .int .i8 s.out.running, .int .u64 s.out.value, .int .u64 (dig s.m), .int .i64 s.pos, .int .i64 0, .int .i64 (-1)], 41, false⟩)]) (φ := b88 = b88 ∧ Nat.ble (0 + 12) 12 = true) h91 rfl rfl rfl (by kernel_rfl) ⟨rfl, rfl⟩ fun w94 h95 => ?_
      clear h91
      refine nd_done ?_
      refine hK79 _ _ ?_
      clear hK79
      refine wp_seq_k fun K96 hK96 => ?_
      refine nd_start (l := [0, 1, 2, 3, 4]) rfl ?_
      refine nd_batch tabOk tabZ_ok [(0, {}), (1, {k := 0})] [7, 6, 3, 4, 24, 25, 26, 33, 34] (T' := [(7, .pointer (some ⟨b88, 0, none⟩)), (6, .pointer (some ⟨b71, 0, none⟩)), (3, .pointer (some ⟨bs, 0, none⟩)), (4, .slice ro ((runL all).length) rc), (24, .slice (some ⟨sb61, k062, none⟩) ops.length c), (25, .int .i64 ((ops.length : Nat) : Int)), (26, .int .i64 ((i : Nat) : Int)), (33, .pointer (some ⟨bs, 0, none⟩)), (34, .agg #[.int .u8 x.kind, .int .i64 x.n, .int .i64 x.m, .int .u8 x.ev.kind, .int .u32 x.ev.pick, .int .u64 x.ev.arg])]) (φ := (b71 = b71 ∧ Nat.ble (0 + 6) 6 = true) ∧ True) (rest := [2, 3, 4]) h95 (by kernel_rfl) rfl ⟨⟨rfl, rfl⟩, trivial⟩ fun a97 h98 => ?_
      clear h95
      refine nd_op ?_
      refine op_call h98 rfl rfl rfl (callOk Try.func12 (by decide) rfl) (args := [.pointer (some ⟨bs, 0, none⟩), .agg #[.int .u8 x.kind, .int .i64 x.n, .int .i64 x.m, .int .u8 x.ev.kind, .int .u32 x.ev.pick, .int .u64 x.ev.arg]]) rfl (do_ok bs bl d82 s _ (h98.inv.get (j := 0) (p := pSess bs bl d82 s) rfl) (B := (i : Int)) (by omega) hwf x hxok) ?_
      rintro _ w103 ⟨d99, rfl, hs100, hf101, hF102⟩
      refine ⟨_, rfl, ?_⟩
      have h104 := (h98.pcSet (j := 0) (p := pSess bs bl d82 s) (p' := pSess bs bl d99 ((doR s x).2)) (ps' := [pSess bs bl d99 ((doR s x).2), pRow (rl seenC 59 4 (runL all) ro rc rF)]) rfl (pSess_ok hs100) hf101 (fun _ h => h) (sess_sub hF102) (kcons (by intro hq; cases hq) (kcons (by intro hq; cases hq) knil)) rfl).put (d := some 35) (v := .agg #[.int .u8 ((doR s x).1.code), .int .i64 ((doR s x).1.pos), .int .i64 ((doR s x).1.base), .int .i64 ((doR s x).1.fin), .bool ((doR s x).1.live), .bool ((doR s x).1.out.refused), .int .i8 ((doR s x).1.out.running), .int .u64 ((doR s x).1.out.value), .int .u64 ((doR s x).1.dig), .int .i64 ((doR s x).1.from_), .int .i64 ((doR s x).1.replayed), .int .i64 ((doR s x).1.at_)]) (T' := [(35, .agg #[.int .u8 ((doR s x).1.code), .int .i64 ((doR s x).1.pos), .int .i64 ((doR s x).1.base), .int .i64 ((doR s x).1.fin), .bool ((doR s x).1.live), .bool ((doR s x).1.out.refused), .int .i8 ((doR s x).1.out.running), .int .u64 ((doR s x).1.out.value), .int .u64 ((doR s x).1.dig), .int .i64 ((doR s x).1.from_), .int .i64 ((doR s x).1.replayed), .int .i64 ((doR s x).1.at_)]), (7, .pointer (some ⟨b88, 0, none⟩)), (6, .pointer (some ⟨b71, 0, none⟩)), (3, .pointer (some ⟨bs, 0, none⟩)), (4, .slice ro ((runL all).length) rc), (24, .slice (some ⟨sb61, k062, none⟩) ops.length c), (25, .int .i64 ((ops.length : Nat) : Int)), (26, .int .i64 ((i : Nat) : Int)), (33, .pointer (some ⟨bs, 0, none⟩)), (34, .agg #[.int .u8 x.kind, .int .i64 x.n, .int .i64 x.m, .int .u8 x.ev.kind, .int .u32 x.ev.pick, .int .u64 x.ev.arg])]) rfl
      have hszh104 : w.heap.size ≤ _ := h98.frame.size
      clear h98
      have hwf1 : (doR s x).2.wf ((i + 1 : Nat) : Int) := by have hq := do_wf hwf x hxok.2; rw [show ((i + 1 : Nat) : Int) = (i : Int) + 1 by omega]; exact hq
      have hon1 := do_hon' hwf hon x
      refine nd_op ?_
      refine op_new tabOk (cells := [.int .u8 0, .int .i64 0, .int .i64 0, .int .i64 0, .bool false, .bool false, .int .i8 0, .int .u64 0, .int .u64 0, .int .i64 0, .int .i64 0, .int .i64 0]) (ty := 41) (ln := none) (L1 := fun b105 => [(b71, ⟨[.int .u8 x.kind, .int .i64 x.n, .int .i64 x.m, .int .u8 x.ev.kind, .int .u32 x.ev.pick, .int .u64 x.ev.arg], 35, false⟩), (b88, ⟨[.int .u8 0, .int .i64 s.pos, .int .i64 s.lg.base.idx, .int .i64 s.lg.fin, .bool s.live, .bool s.out.refused, .int .i8 s.out.running, .int .u64 s.out.value, .int .u64 (dig s.m), .int .i64 s.pos, .int .i64 0, .int .i64 (-1)], 41, false⟩), (b105, ⟨[.int .u8 0, .int .i64 0, .int .i64 0, .int .i64 0, .bool false, .bool false, .int .i8 0, .int .u64 0, .int .u64 0, .int .i64 0, .int .i64 0, .int .i64 0], 41, false⟩)]) h104 rfl rfl rfl rfl (by kernel_rfl) (fun _ => rfl) fun b105 w106 a107 h108 hf109 hn110 => ?_
      clear h104
      refine nd_op ?_
      refine op_store tabOk {k := 2} (L' := [(b71, ⟨[.int .u8 x.kind, .int .i64 x.n, .int .i64 x.m, .int .u8 x.ev.kind, .int .u32 x.ev.pick, .int .u64 x.ev.arg], 35, false⟩), (b88, ⟨[.int .u8 0, .int .i64 s.pos, .int .i64 s.lg.base.idx, .int .i64 s.lg.fin, .bool s.live, .bool s.out.refused, .int .i8 s.out.running, .int .u64 s.out.value, .int .u64 (dig s.m), .int .i64 s.pos, .int .i64 0, .int .i64 (-1)], 41, false⟩), (b105, ⟨[.int .u8 ((doR s x).1.code), .int .i64 ((doR s x).1.pos), .int .i64 ((doR s x).1.base), .int .i64 ((doR s x).1.fin), .bool ((doR s x).1.live), .bool ((doR s x).1.out.refused), .int .i8 ((doR s x).1.out.running), .int .u64 ((doR s x).1.out.value), .int .u64 ((doR s x).1.dig), .int .i64 ((doR s x).1.from_), .int .i64 ((doR s x).1.replayed), .int .i64 ((doR s x).1.at_)], 41, false⟩)]) (φ := b105 = b105 ∧ Nat.ble (0 + 12) 12 = true) h108 rfl rfl rfl (by kernel_rfl) ⟨rfl, rfl⟩ fun w111 h112 => ?_
      clear h108
      refine nd_done ?_
      refine hK96 _ _ ?_
      clear hK96
      refine wp_block ?_
      refine wp_seq_k fun K113 hK113 => ?_
      rcases Bool.eq_false_or_eq_true ((x.kind == 0)) with hb114 | hb114
      ·
        have hb114f : x.kind = 0 := by simpa using hb114
        have hk0 : x.kind = 0 := hb114f
        refine nd_start (l := [0, 1, 2, 3, 4, 5, 6, 7, 8]) rfl ?_
        refine nd_batch tabOk tabZ_ok [(0, {}), (1, {k := 0}), (2, {f := 2}), (3, {}), (4, {}), (5, {k := 2}), (6, {}), (7, {}), (8, {})] [8, 7, 6, 3, 4, 24, 25, 26, 36] (T' := [(8, .pointer (some ⟨b105, 0, none⟩)), (7, .pointer (some ⟨b88, 0, none⟩)), (6, .pointer (some ⟨b71, 0, none⟩)), (3, .pointer (some ⟨bs, 0, none⟩)), (4, .slice ro ((runL all).length) rc), (24, .slice (some ⟨sb61, k062, none⟩) ops.length c), (25, .int .i64 ((ops.length : Nat) : Int)), (26, .int .i64 ((i : Nat) : Int)), (36, .bool ((doR s x).1.code == 0))]) (φ := (b71 = b71 ∧ Nat.ble (0 + 1) 6 = true) ∧ ((x.kind == 0)) = true ∧ (b105 = b105 ∧ Nat.ble (0 + 1) 12 = true) ∧ True) (rest := []) h112 (by kernel_rfl) rfl ⟨⟨rfl, rfl⟩, hb114, ⟨rfl, rfl⟩, trivial⟩ fun a115 h116 => ?_
        clear h112
        refine nd_done ?_
        refine hK113 _ _ ?_
        clear hK113
        refine c_split h116 (b := ((doR s x).1.code == 0)) rfl (fun hc117 => ?_) (fun hc117 => ?_)
        ·
          have hc117f : (doR s x).1.code = 0 := by simpa using hc117
          have hcode : (doR s x).1.code = 0 := hc117f
          obtain ⟨hnx, hrun⟩ := step6 hwf hon hk0 hcode
          refine nd_start (l := [0, 1, 2, 3, 4, 5, 6, 7, 8]) rfl ?_
          refine nd_batch tabOk tabZ_ok [(0, {}), (1, {}), (2, {k := 2}), (3, {}), (4, {k := 2}), (5, {})] [8, 7, 6, 3, 4, 24, 25, 26, 45, 50] (T' := [(8, .pointer (some ⟨b105, 0, none⟩)), (7, .pointer (some ⟨b88, 0, none⟩)), (6, .pointer (some ⟨b71, 0, none⟩)), (3, .pointer (some ⟨bs, 0, none⟩)), (4, .slice ro ((runL all).length) rc), (24, .slice (some ⟨sb61, k062, none⟩) ops.length c), (25, .int .i64 ((ops.length : Nat) : Int)), (26, .int .i64 ((i : Nat) : Int)), (45, .slice ro ((runL all).length) rc), (50, .agg #[.int .u64 ((doR s x).1.dig), .bool ((doR s x).1.out.refused), .int .i8 ((doR s x).1.out.running), .int .u64 ((doR s x).1.out.value)])]) (φ := (b105 = b105 ∧ Nat.ble (8 + 1) 12 = true) ∧ (b105 = b105 ∧ Nat.ble (5 + 3) 12 = true) ∧ True) (rest := [6, 7, 8]) h116 (by kernel_rfl) rfl ⟨⟨rfl, rfl⟩, ⟨rfl, rfl⟩, trivial⟩ fun a118 h119 => ?_
          clear h116
          refine nd_op ?_
          refine op_new tabOk (cells := [.int .u64 ((doR s x).1.dig), .bool ((doR s x).1.out.refused), .int .i8 ((doR s x).1.out.running), .int .u64 ((doR s x).1.out.value)]) (ty := 59) (ln := (some 1)) (L1 := fun b120 => [(b71, ⟨[.int .u8 x.kind, .int .i64 x.n, .int .i64 x.m, .int .u8 x.ev.kind, .int .u32 x.ev.pick, .int .u64 x.ev.arg], 35, false⟩), (b88, ⟨[.int .u8 0, .int .i64 s.pos, .int .i64 s.lg.base.idx, .int .i64 s.lg.fin, .bool s.live, .bool s.out.refused, .int .i8 s.out.running, .int .u64 s.out.value, .int .u64 (dig s.m), .int .i64 s.pos, .int .i64 0, .int .i64 (-1)], 41, false⟩), (b105, ⟨[.int .u8 ((doR s x).1.code), .int .i64 ((doR s x).1.pos), .int .i64 ((doR s x).1.base), .int .i64 ((doR s x).1.fin), .bool ((doR s x).1.live), .bool ((doR s x).1.out.refused), .int .i8 ((doR s x).1.out.running), .int .u64 ((doR s x).1.out.value), .int .u64 ((doR s x).1.dig), .int .i64 ((doR s x).1.from_), .int .i64 ((doR s x).1.replayed), .int .i64 ((doR s x).1.at_)], 41, false⟩), (b120, ⟨[.int .u64 ((doR s x).1.dig), .bool ((doR s x).1.out.refused), .int .i8 ((doR s x).1.out.running), .int .u64 ((doR s x).1.out.value)], 59, false⟩)]) h119 rfl rfl rfl rfl (by kernel_rfl) (fun _ => rfl) fun b120 w121 a122 h123 hf124 hn125 => ?_
          clear h119
          refine nd_op ?_
          refine op_append tabOk (e := 59) (so := ro) (n := (runL all).length) (c := rc) (xo := some ⟨b120, 0, none⟩) (m := 1) (cx := 1) (vals := (runL all).flatMap seenC) (vs := [.int .u64 ((doR s x).1.dig), .bool ((doR s x).1.out.refused), .int .i8 ((doR s x).1.out.running), .int .u64 ((doR s x).1.out.value)]) (F := rF) h123 rfl rfl rfl rfl rfl rfl rfl rfl rfl rfl rfl rfl (h123.inv.get (j := 1) (p := pRow (rl seenC 59 4 (runL all) ro rc rF)) rfl) (src_one (h123.kn (k := 3) rfl) rfl ⟨rfl, rfl, rfl, rfl, trivial⟩) (by omega) rfl ?_
          intro o126 c127 F128 w129 hr130 hf131 hF132
          have hr1302 := rl_app1 (enc := seenC) (xs := (runL all)) (y := (⟨(doR s x).1.dig, (doR s x).1.out⟩ : Seen)) hr130
          rw [show (runL all).length + 1 = ((runL all) ++ [(⟨(doR s x).1.dig, (doR s x).1.out⟩ : Seen)]).length by simp]
          have h133 := (h123.pcSet (j := 1) (p := pRow (rl seenC 59 4 (runL all) ro rc rF)) (p' := pRow (rl seenC 59 4 ((runL all) ++ [(⟨(doR s x).1.dig, (doR s x).1.out⟩ : Seen)]) o126 c127 F128)) (ps' := [pSess bs bl d99 ((doR s x).2), pRow (rl seenC 59 4 ((runL all) ++ [(⟨(doR s x).1.dig, (doR s x).1.out⟩ : Seen)]) o126 c127 F128)]) rfl (pRow_ok hr1302) hf131 (fun _ h => h) hF132 (kcons (by intro hq; cases hq) (kcons (by intro hq; cases hq) (kcons (by intro hq; cases hq) (kcons (by intro hq; cases hq) knil)))) rfl).put (d := some 52) (v := .slice o126 (((runL all) ++ [(⟨(doR s x).1.dig, (doR s x).1.out⟩ : Seen)]).length) c127) (T' := [(52, .slice o126 (((runL all) ++ [(⟨(doR s x).1.dig, (doR s x).1.out⟩ : Seen)]).length) c127), (51, .slice (some ⟨b120, 0, none⟩) 1 1), (8, .pointer (some ⟨b105, 0, none⟩)), (7, .pointer (some ⟨b88, 0, none⟩)), (6, .pointer (some ⟨b71, 0, none⟩)), (3, .pointer (some ⟨bs, 0, none⟩)), (4, .slice ro ((runL all).length) rc), (24, .slice (some ⟨sb61, k062, none⟩) ops.length c), (25, .int .i64 ((ops.length : Nat) : Int)), (26, .int .i64 ((i : Nat) : Int)), (45, .slice ro ((runL all).length) rc), (50, .agg #[.int .u64 ((doR s x).1.dig), .bool ((doR s x).1.out.refused), .int .i8 ((doR s x).1.out.running), .int .u64 ((doR s x).1.out.value)])]) rfl
          have hszh133 : w.heap.size ≤ _ := h123.frame.size
          clear h123
          refine nd_batch tabOk tabZ_ok [(8, {})] [8, 7, 6, 3, 24, 25, 26, 4] (T' := [(8, .pointer (some ⟨b105, 0, none⟩)), (7, .pointer (some ⟨b88, 0, none⟩)), (6, .pointer (some ⟨b71, 0, none⟩)), (3, .pointer (some ⟨bs, 0, none⟩)), (24, .slice (some ⟨sb61, k062, none⟩) ops.length c), (25, .int .i64 ((ops.length : Nat) : Int)), (26, .int .i64 ((i : Nat) : Int)), (4, .slice o126 (((runL all) ++ [(⟨(doR s x).1.dig, (doR s x).1.out⟩ : Seen)]).length) c127)]) (φ := True) (rest := []) h133 (by kernel_rfl) rfl trivial fun a134 h135 => ?_
          clear h133
          refine nd_done ?_
          refine hK66 _ _ ?_
          clear hK66
          refine nd_start (l := [0, 1]) rfl ?_
          refine nd_batch tabOk tabZ_ok [(0, {}), (1, {})] [8, 7, 6, 3, 24, 25, 4, 26] (T' := [(8, .pointer (some ⟨b105, 0, none⟩)), (7, .pointer (some ⟨b88, 0, none⟩)), (6, .pointer (some ⟨b71, 0, none⟩)), (3, .pointer (some ⟨bs, 0, none⟩)), (24, .slice (some ⟨sb61, k062, none⟩) ops.length c), (25, .int .i64 ((ops.length : Nat) : Int)), (4, .slice o126 (((runL all) ++ [(⟨(doR s x).1.dig, (doR s x).1.out⟩ : Seen)]).length) c127), (26, .int .i64 (((i : Nat) : Int) + 1))]) (φ := inR .i64 (((i : Nat) : Int) + 1) ∧ True) (rest := []) h135 (by kernel_rfl) rfl ⟨⟨by omega, by omega⟩, trivial⟩ fun a136 h137 => ?_
          clear h135
          refine nd_done ?_
          have h138 := h137.memMono (L' := []) (List.Sublist.cons _ (List.Sublist.cons _ (List.Sublist.cons _ (List.Sublist.cons _ List.Sublist.slnil))))
          clear h137
          rw [hrun] at h138
          exact ⟨(g - 1), by omega, (i + 1), (doR s x).2, d99, (all ++ [x.ev]), o126, c127, F128, by omega, by omega, hwf1, (by rw [← hnx]; exact hon1), (h138.slotsMono (restr_spec (keep := [3, 4, 24, 25, 26]) rfl))⟩
        ·
          have hc117f : (doR s x).1.code ≠ 0 := by simpa using hc117
          have hcode : (doR s x).1.code ≠ 0 := hc117f
          obtain ⟨hnx, hp1, hp2, hp3⟩ := step6no hk0 hcode all
          refine wp_seq_k fun K139 hK139 => ?_
          rcases Bool.eq_false_or_eq_true ((x.kind == 0)) with hb140 | hb140
          ·
            have hb140f : x.kind = 0 := by simpa using hb140
            refine nd_start (l := [0, 1, 2, 3, 4, 5, 6, 7, 8, 9, 10, 11, 12, 13, 14, 15, 16, 17, 18, 19, 20, 21, 22, 23, 24]) rfl ?_
            refine nd_batch tabOk tabZ_ok [(0, {}), (1, {k := 0}), (2, {f := 2}), (3, {}), (4, {}), (5, {k := 2}), (6, {}), (7, {k := 1}), (8, {f := 1}), (9, {}), (10, {}), (11, {k := 2}), (12, {}), (13, {k := 1}), (14, {f := 1}), (15, {}), (16, {}), (17, {}), (18, {k := 2}), (19, {}), (20, {k := 1}), (21, {f := 1}), (22, {}), (23, {}), (24, {})] [8, 7, 6, 3, 4, 24, 25, 26, 53] (T' := [(8, .pointer (some ⟨b105, 0, none⟩)), (7, .pointer (some ⟨b88, 0, none⟩)), (6, .pointer (some ⟨b71, 0, none⟩)), (3, .pointer (some ⟨bs, 0, none⟩)), (4, .slice ro ((runL all).length) rc), (24, .slice (some ⟨sb61, k062, none⟩) ops.length c), (25, .int .i64 ((ops.length : Nat) : Int)), (26, .int .i64 ((i : Nat) : Int)), (53, .bool false)]) (φ := (b71 = b71 ∧ Nat.ble (0 + 1) 6 = true) ∧ ((x.kind == 0)) = true ∧ (b105 = b105 ∧ Nat.ble (1 + 1) 12 = true) ∧ (b88 = b88 ∧ Nat.ble (1 + 1) 12 = true) ∧ (((doR s x).1.pos != s.pos)) = false ∧ (b105 = b105 ∧ Nat.ble (3 + 1) 12 = true) ∧ (b88 = b88 ∧ Nat.ble (3 + 1) 12 = true) ∧ (((doR s x).1.fin != s.lg.fin)) = false ∧ (b105 = b105 ∧ Nat.ble (8 + 1) 12 = true) ∧ (b88 = b88 ∧ Nat.ble (8 + 1) 12 = true) ∧ (((doR s x).1.dig != (dig s.m))) = false ∧ True) (rest := []) h116 (by kernel_rfl) rfl ⟨⟨rfl, rfl⟩, hb140, ⟨rfl, rfl⟩, ⟨rfl, rfl⟩, (by rw [hp1]; simp), ⟨rfl, rfl⟩, ⟨rfl, rfl⟩, (by rw [hp2]; simp), ⟨rfl, rfl⟩, ⟨rfl, rfl⟩, (by rw [hp3]; simp), trivial⟩ fun a141 h142 => ?_
            clear h116
            refine nd_done ?_
            refine hK139 _ _ ?_
            clear hK139
            refine c_false h142 rfl ?_
            refine wp_seq_k fun K143 hK143 => ?_
            refine nd_start (l := [0, 1, 2, 3]) rfl ?_
            refine nd_batch tabOk tabZ_ok [(0, {}), (1, {k := 0}), (2, {}), (3, {})] [8, 7, 6, 3, 4, 24, 25, 26, 78] (T' := [(8, .pointer (some ⟨b105, 0, none⟩)), (7, .pointer (some ⟨b88, 0, none⟩)), (6, .pointer (some ⟨b71, 0, none⟩)), (3, .pointer (some ⟨bs, 0, none⟩)), (4, .slice ro ((runL all).length) rc), (24, .slice (some ⟨sb61, k062, none⟩) ops.length c), (25, .int .i64 ((ops.length : Nat) : Int)), (26, .int .i64 ((i : Nat) : Int)), (78, .bool (x.kind == 5))]) (φ := (b71 = b71 ∧ Nat.ble (0 + 1) 6 = true) ∧ True) (rest := []) h142 (by kernel_rfl) rfl ⟨⟨rfl, rfl⟩, trivial⟩ fun a144 h145 => ?_
            clear h142
            refine nd_done ?_
            refine hK143 _ _ ?_
            clear hK143
            refine c_split h145 (b := (x.kind == 5)) rfl (fun hc146 => ?_) (fun hc146 => ?_)
            ·
              have hc146f : x.kind = 5 := by simpa using hc146
              have hk5 : x.kind = 5 := hc146f
              omega
            ·
              have hc146f : x.kind ≠ 5 := by simpa using hc146
              refine wp_skip ?_
              refine hK66 _ _ ?_
              clear hK66
              refine nd_start (l := [0, 1]) rfl ?_
              refine nd_batch tabOk tabZ_ok [(0, {}), (1, {})] [8, 7, 6, 3, 4, 24, 25, 26] (T' := [(8, .pointer (some ⟨b105, 0, none⟩)), (7, .pointer (some ⟨b88, 0, none⟩)), (6, .pointer (some ⟨b71, 0, none⟩)), (3, .pointer (some ⟨bs, 0, none⟩)), (4, .slice ro ((runL all).length) rc), (24, .slice (some ⟨sb61, k062, none⟩) ops.length c), (25, .int .i64 ((ops.length : Nat) : Int)), (26, .int .i64 (((i : Nat) : Int) + 1))]) (φ := inR .i64 (((i : Nat) : Int) + 1) ∧ True) (rest := []) h145 (by kernel_rfl) rfl ⟨⟨by omega, by omega⟩, trivial⟩ fun a147 h148 => ?_
              clear h145
              refine nd_done ?_
              have h149 := h148.memMono (L' := []) (List.Sublist.cons _ (List.Sublist.cons _ (List.Sublist.cons _ List.Sublist.slnil)))
              clear h148
              exact ⟨(g - 1), by omega, (i + 1), (doR s x).2, d99, all, ro, rc, rF, by omega, by omega, hwf1, (by rw [← hnx]; exact hon1), (h149.slotsMono (restr_spec (keep := [3, 4, 24, 25, 26]) rfl))⟩
          ·
            have hb140f : x.kind ≠ 0 := by simpa using hb140
            exact absurd hk0 hb140f
      ·
        have hb114f : x.kind ≠ 0 := by simpa using hb114
        have hk0 : x.kind ≠ 0 := hb114f
        refine nd_start (l := [0, 1, 2, 3, 4, 5, 6, 7, 8]) rfl ?_
        refine nd_batch tabOk tabZ_ok [(0, {}), (1, {k := 0}), (2, {f := 1}), (3, {}), (4, {}), (5, {}), (6, {}), (7, {}), (8, {})] [8, 7, 6, 3, 4, 24, 25, 26, 36] (T' := [(8, .pointer (some ⟨b105, 0, none⟩)), (7, .pointer (some ⟨b88, 0, none⟩)), (6, .pointer (some ⟨b71, 0, none⟩)), (3, .pointer (some ⟨bs, 0, none⟩)), (4, .slice ro ((runL all).length) rc), (24, .slice (some ⟨sb61, k062, none⟩) ops.length c), (25, .int .i64 ((ops.length : Nat) : Int)), (26, .int .i64 ((i : Nat) : Int)), (36, .bool false)]) (φ := (b71 = b71 ∧ Nat.ble (0 + 1) 6 = true) ∧ ((x.kind == 0)) = false ∧ True) (rest := []) h112 (by kernel_rfl) rfl ⟨⟨rfl, rfl⟩, hb114, trivial⟩ fun a150 h151 => ?_
        clear h112
        refine nd_done ?_
        refine hK113 _ _ ?_
        clear hK113
        refine c_false h151 rfl ?_
        refine wp_seq_k fun K152 hK152 => ?_
        rcases Bool.eq_false_or_eq_true ((x.kind == 0)) with hb153 | hb153
        ·
          have hb153f : x.kind = 0 := by simpa using hb153
          exact absurd hb153f hk0
        ·
          have hb153f : x.kind ≠ 0 := by simpa using hb153
          refine nd_start (l := [0, 1, 2, 3, 4, 5, 6, 7, 8, 9, 10, 11, 12, 13, 14, 15, 16, 17, 18, 19, 20, 21, 22, 23, 24]) rfl ?_
          refine nd_batch tabOk tabZ_ok [(0, {}), (1, {k := 0}), (2, {f := 1}), (3, {}), (4, {}), (5, {}), (6, {}), (7, {}), (8, {}), (9, {}), (10, {}), (11, {}), (12, {}), (13, {}), (14, {}), (15, {}), (16, {}), (17, {}), (18, {}), (19, {}), (20, {}), (21, {}), (22, {}), (23, {}), (24, {})] [8, 7, 6, 3, 4, 24, 25, 26, 53] (T' := [(8, .pointer (some ⟨b105, 0, none⟩)), (7, .pointer (some ⟨b88, 0, none⟩)), (6, .pointer (some ⟨b71, 0, none⟩)), (3, .pointer (some ⟨bs, 0, none⟩)), (4, .slice ro ((runL all).length) rc), (24, .slice (some ⟨sb61, k062, none⟩) ops.length c), (25, .int .i64 ((ops.length : Nat) : Int)), (26, .int .i64 ((i : Nat) : Int)), (53, .bool false)]) (φ := (b71 = b71 ∧ Nat.ble (0 + 1) 6 = true) ∧ ((x.kind == 0)) = false ∧ True) (rest := []) h151 (by kernel_rfl) rfl ⟨⟨rfl, rfl⟩, hb153, trivial⟩ fun a154 h155 => ?_
          clear h151
          refine nd_done ?_
          refine hK152 _ _ ?_
          clear hK152
          refine c_false h155 rfl ?_
          refine wp_seq_k fun K156 hK156 => ?_
          refine nd_start (l := [0, 1, 2, 3]) rfl ?_
          refine nd_batch tabOk tabZ_ok [(0, {}), (1, {k := 0}), (2, {}), (3, {})] [8, 7, 6, 3, 4, 24, 25, 26, 78] (T' := [(8, .pointer (some ⟨b105, 0, none⟩)), (7, .pointer (some ⟨b88, 0, none⟩)), (6, .pointer (some ⟨b71, 0, none⟩)), (3, .pointer (some ⟨bs, 0, none⟩)), (4, .slice ro ((runL all).length) rc), (24, .slice (some ⟨sb61, k062, none⟩) ops.length c), (25, .int .i64 ((ops.length : Nat) : Int)), (26, .int .i64 ((i : Nat) : Int)), (78, .bool (x.kind == 5))]) (φ := (b71 = b71 ∧ Nat.ble (0 + 1) 6 = true) ∧ True) (rest := []) h155 (by kernel_rfl) rfl ⟨⟨rfl, rfl⟩, trivial⟩ fun a157 h158 => ?_
          clear h155
          refine nd_done ?_
          refine hK156 _ _ ?_
          clear hK156
          refine c_split h158 (b := (x.kind == 5)) rfl (fun hc159 => ?_) (fun hc159 => ?_)
          ·
            have hc159f : x.kind = 5 := by simpa using hc159
            obtain ⟨hnx, hp1, hp2, hp3, hp4⟩ := resume6 hwf hon hc159f
            have hcap := rl_cap (h158.inv.get (j := 1) (p := pRow (rl seenC 59 4 (runL all) ro rc rF)) rfl)
            have hpp : (doR s x).1.pos + 1 ≤ (rc : Int) := by omega
            refine nd_start (l := [0, 1, 2, 3, 4, 5]) rfl ?_
            refine nd_batch tabOk tabZ_ok [(0, {}), (1, {}), (2, {k := 2}), (3, {}), (4, {}), (5, {})] [8, 7, 6, 3, 24, 25, 26, 4] (T' := [(8, .pointer (some ⟨b105, 0, none⟩)), (7, .pointer (some ⟨b88, 0, none⟩)), (6, .pointer (some ⟨b71, 0, none⟩)), (3, .pointer (some ⟨bs, 0, none⟩)), (24, .slice (some ⟨sb61, k062, none⟩) ops.length c), (25, .int .i64 ((ops.length : Nat) : Int)), (26, .int .i64 ((i : Nat) : Int)), (4, .slice ro ((((doR s x).1.pos) + 1).toNat) rc)]) (φ := (b105 = b105 ∧ Nat.ble (1 + 1) 12 = true) ∧ inR .i64 (((doR s x).1.pos) + 1) ∧ (0 ≤ (((doR s x).1.pos) + 1) ∧ (((doR s x).1.pos) + 1) ≤ ((rc : Nat) : Int)) ∧ True) (rest := []) h158 (by kernel_rfl) rfl ⟨⟨rfl, rfl⟩, ⟨by omega, by omega⟩, ⟨by omega, by omega⟩, trivial⟩ fun a160 h161 => ?_
            clear h158
            refine nd_done ?_
            refine hK66 _ _ ?_
            clear hK66
            refine nd_start (l := [0, 1]) rfl ?_
            refine nd_batch tabOk tabZ_ok [(0, {}), (1, {})] [8, 7, 6, 3, 24, 25, 4, 26] (T' := [(8, .pointer (some ⟨b105, 0, none⟩)), (7, .pointer (some ⟨b88, 0, none⟩)), (6, .pointer (some ⟨b71, 0, none⟩)), (3, .pointer (some ⟨bs, 0, none⟩)), (24, .slice (some ⟨sb61, k062, none⟩) ops.length c), (25, .int .i64 ((ops.length : Nat) : Int)), (4, .slice ro ((((doR s x).1.pos) + 1).toNat) rc), (26, .int .i64 (((i : Nat) : Int) + 1))]) (φ := inR .i64 (((i : Nat) : Int) + 1) ∧ True) (rest := []) h161 (by kernel_rfl) rfl ⟨⟨by omega, by omega⟩, trivial⟩ fun a162 h163 => ?_
            clear h161
            refine nd_done ?_
            have h164 := h163.memMono (L' := []) (List.Sublist.cons _ (List.Sublist.cons _ (List.Sublist.cons _ List.Sublist.slnil)))
            clear h163
            have hlen2 : (((doR s x).1.pos) + 1).toNat = (runL (all.take s.pos.toNat)).length := by rw [runL_len, List.length_take, hp1]; omega
            rw [hlen2] at h164
            have h165 := h164.pcAs (j := 1) (p := pRow (rl seenC 59 4 (runL all) ro rc rF)) (p' := pRow (rl seenC 59 4 (runL (all.take s.pos.toNat)) ro rc rF)) (ps' := [pSess bs bl d99 ((doR s x).2), pRow (rl seenC 59 4 (runL (all.take s.pos.toNat)) ro rc rF)]) rfl (pRow_ok (by have hq := rl_cut (h164.inv.get (j := 1) (p := pRow (rl seenC 59 4 (runL all) ro rc rF)) rfl) seenC_len (k := (s.pos + 1).toNat) (by omega); rw [hp4] at hq; exact hq)) rfl rfl
            clear h164
            exact ⟨(g - 1), by omega, (i + 1), (doR s x).2, d99, (all.take s.pos.toNat), ro, rc, rF, by omega, by omega, hwf1, (by rw [← hnx]; exact hon1), (h165.slotsMono (restr_spec (keep := [3, 4, 24, 25, 26]) rfl))⟩
          ·
            have hc159f : x.kind ≠ 5 := by simpa using hc159
            have hnx := else6 (s := s) hk0 hc159f all
            refine wp_skip ?_
            refine hK66 _ _ ?_
            clear hK66
            refine nd_start (l := [0, 1]) rfl ?_
            refine nd_batch tabOk tabZ_ok [(0, {}), (1, {})] [8, 7, 6, 3, 4, 24, 25, 26] (T' := [(8, .pointer (some ⟨b105, 0, none⟩)), (7, .pointer (some ⟨b88, 0, none⟩)), (6, .pointer (some ⟨b71, 0, none⟩)), (3, .pointer (some ⟨bs, 0, none⟩)), (4, .slice ro ((runL all).length) rc), (24, .slice (some ⟨sb61, k062, none⟩) ops.length c), (25, .int .i64 ((ops.length : Nat) : Int)), (26, .int .i64 (((i : Nat) : Int) + 1))]) (φ := inR .i64 (((i : Nat) : Int) + 1) ∧ True) (rest := []) h158 (by kernel_rfl) rfl ⟨⟨by omega, by omega⟩, trivial⟩ fun a166 h167 => ?_
            clear h158
            refine nd_done ?_
            have h168 := h167.memMono (L' := []) (List.Sublist.cons _ (List.Sublist.cons _ (List.Sublist.cons _ List.Sublist.slnil)))
            clear h167
            exact ⟨(g - 1), by omega, (i + 1), (doR s x).2, d99, all, ro, rc, rF, by omega, by omega, hwf1, (by rw [← hnx]; exact hon1), (h168.slotsMono (restr_spec (keep := [3, 4, 24, 25, 26]) rfl))⟩
    ·
      have hc60f : ¬ ((i : Nat) : Int) < ((ops.length : Nat) : Int) := by simpa using hc60
      have h169 := h58.slotsMono (T' := [(3, .pointer (some ⟨bs, 0, none⟩)), (4, .slice ro ((runL all).length) rc)]) (restr_spec (keep := [3, 4]) rfl)
      clear h58
      have hcapr := rl_cap (h169.inv.get (j := 1) (p := pRow (rl seenC 59 4 (runL all) ro rc rF)) rfl)
      have hrowh176 := (h169.inv.get (j := 1) (p := pRow (rl seenC 59 4 (runL all) ro rc rF)) rfl)
      obtain ⟨rb170, cs171, ho173, hb172, _, hF174, hcap177, _⟩ := rl_open hrowh176 seenC_len (runL_get (all := all) (i := 0) (Nat.zero_le _))
      subst ho173 hF174
      have hrd175 : ∀ j y, (runL all)[j]? = some y → cellsAre cs171 (j * 4) (seenC y) := fun j y hy => rl_at hrowh176 hb172 seenC_len hy
      have h176 := St.pcTake (ps := [pSess bs bl d s]) (p := pRow (rl seenC 59 4 (runL all) (some ⟨rb170, 0, none⟩) rc [rb170])) h169 rfl hb172 knil
      clear h169 hrowh176
      refine wp_exit ?_
      refine hK44 _ _ ?_
      clear hK44
      refine wp_seq_k fun K178 hK178 => ?_
      refine wp_seq_k fun K179 hK179 => ?_
      refine nd_start (l := [0, 1, 2, 3, 4, 5, 6]) rfl ?_
      refine nd_batch tabOk tabZ_ok [(0, {})] [3, 4, 88] (T' := [(3, .pointer (some ⟨bs, 0, none⟩)), (4, .slice (some ⟨rb170, 0, none⟩) ((runL all).length) rc), (88, .pointer (some ⟨bs, 0, none⟩))]) (φ := True) (rest := [1, 2, 3, 4, 5, 6]) h176 (by kernel_rfl) rfl trivial fun a180 h181 => ?_
      clear h176
      refine nd_op ?_
      refine op_call h181 rfl rfl rfl (callOk Try.func17 (by decide) rfl) (args := [.pointer (some ⟨bs, 0, none⟩)]) rfl (slog_ok bs _ _ _ _ _ false _ (h181.inv.get (j := 0) (p := pSess bs bl d s) rfl).blk) ?_
      rintro _ w182 ⟨rfl, hf184⟩
      refine ⟨_, rfl, ?_⟩
      have h183 := (h181.grow hf184).put (d := some 89) (v := .pointer (some ⟨bl, 0, none⟩)) (T' := [(89, .pointer (some ⟨bl, 0, none⟩)), (3, .pointer (some ⟨bs, 0, none⟩)), (4, .slice (some ⟨rb170, 0, none⟩) ((runL all).length) rc), (88, .pointer (some ⟨bs, 0, none⟩))]) rfl
      clear h181
      refine nd_op ?_
      refine op_call h183 rfl rfl rfl (callOk Try.func20 (by decide) rfl) (args := [.pointer (some ⟨bl, 0, none⟩)]) rfl (end_ok bl s.lg.base _ _ _ _ _ false _ (h183.inv.get (j := 0) (p := pSess bs bl d s) rfl).log.blk hwf.lg.b0 (by have := hwf.lg.fin; unfold Lg.fin at this; omega) (by have := hwf.lg.len; omega)) ?_
      rintro _ w185 ⟨rfl, hf187⟩
      refine ⟨_, rfl, ?_⟩
      have h186 := (h183.grow hf187).put (d := some 90) (v := .int .i64 (s.lg.base.idx + (s.lg.evs.length : Int))) (T' := [(90, .int .i64 (s.lg.base.idx + (s.lg.evs.length : Int))), (89, .pointer (some ⟨bl, 0, none⟩)), (3, .pointer (some ⟨bs, 0, none⟩)), (4, .slice (some ⟨rb170, 0, none⟩) ((runL all).length) rc), (88, .pointer (some ⟨bs, 0, none⟩))]) rfl
      clear h183
      refine nd_batch tabOk tabZ_ok [(3, {}), (4, {}), (5, {}), (6, {f := 1})] [3, 4, 94] (T' := [(3, .pointer (some ⟨bs, 0, none⟩)), (4, .slice (some ⟨rb170, 0, none⟩) ((runL all).length) rc), (94, .bool false)]) (φ := inR .i64 ((((runL all).length : Nat) : Int) - 1) ∧ (((s.lg.base.idx + (s.lg.evs.length : Int)) != ((((runL all).length : Nat) : Int) - 1))) = false ∧ True) (rest := []) h186 (by kernel_rfl) rfl ⟨⟨by omega, by omega⟩, (by rw [show s.lg.base.idx + (s.lg.evs.length : Int) = ((runL all).length : Int) - 1 by have h1 := hfin; unfold Lg.fin at h1; omega]; simp), trivial⟩ fun a188 h189 => ?_
      clear h186
      refine nd_done ?_
      refine hK179 _ _ ?_
      clear hK179
      refine c_false h189 rfl ?_
      refine wp_skip ?_
      refine hK178 _ _ ?_
      clear hK178
      refine wp_seq_k fun K190 hK190 => ?_
      refine wp_seq_k fun K191 hK191 => ?_
      refine nd_start (l := [0, 1, 2, 3, 4]) rfl ?_
      refine nd_batch tabOk tabZ_ok [(0, {})] [3, 4, 95] (T' := [(3, .pointer (some ⟨bs, 0, none⟩)), (4, .slice (some ⟨rb170, 0, none⟩) ((runL all).length) rc), (95, .pointer (some ⟨bs, 0, none⟩))]) (φ := True) (rest := [1, 2, 3, 4]) h189 (by kernel_rfl) rfl trivial fun a192 h193 => ?_
      clear h189
      refine nd_op ?_
      refine op_call h193 rfl rfl rfl (callOk Try.func17 (by decide) rfl) (args := [.pointer (some ⟨bs, 0, none⟩)]) rfl (slog_ok bs _ _ _ _ _ false _ (h193.inv.get (j := 0) (p := pSess bs bl d s) rfl).blk) ?_
      rintro _ w194 ⟨rfl, hf196⟩
      refine ⟨_, rfl, ?_⟩
      have h195 := (h193.grow hf196).put (d := some 96) (v := .pointer (some ⟨bl, 0, none⟩)) (T' := [(96, .pointer (some ⟨bl, 0, none⟩)), (3, .pointer (some ⟨bs, 0, none⟩)), (4, .slice (some ⟨rb170, 0, none⟩) ((runL all).length) rc), (95, .pointer (some ⟨bs, 0, none⟩))]) rfl
      clear h193
      refine nd_op ?_
      refine op_call h195 rfl rfl rfl (callOk Try.func19 (by decide) rfl) (args := [.pointer (some ⟨bl, 0, none⟩)]) rfl (points_ok bl _ s.lg _ (h195.inv.get (j := 0) (p := pSess bs bl d s) rfl).log (by have := hwf.lg.slen; omega)) ?_
      rintro _ w197 ⟨po, pc, pF, rfl, hrow, hpf, hpfr⟩
      refine ⟨_, rfl, ?_⟩
      obtain ⟨bp, pcs, ho2, hbp, _, hF2, _, _⟩ := rl_open hrow i64C_len (i := 0) (x := s.lg.base.idx) rfl
      subst ho2 hF2
      have hrd : ∀ j y, (ptsOf s.lg.base.idx s.lg.sns)[j]? = some y → cellsAre pcs (j * 1) (i64C y) := fun j y hy => rl_at hrow hbp i64C_len hy
      have h198q : St _ _ [(rb170, ⟨cs171, 59, false⟩), (bp, ⟨pcs, 3, false⟩)] _ _ := h195.fresh hpf (hpfr bp (by simp)) hbp
      have h198 := h198q.put (d := some 97) (v := .slice (some ⟨bp, 0, none⟩) ((ptsOf s.lg.base.idx s.lg.sns).length) pc) (T' := [(97, .slice (some ⟨bp, 0, none⟩) ((ptsOf s.lg.base.idx s.lg.sns).length) pc), (96, .pointer (some ⟨bl, 0, none⟩)), (3, .pointer (some ⟨bs, 0, none⟩)), (4, .slice (some ⟨rb170, 0, none⟩) ((runL all).length) rc), (95, .pointer (some ⟨bs, 0, none⟩))]) rfl
      clear h195 h198q
      refine nd_batch tabOk tabZ_ok [(3, {}), (4, {})] [97, 3, 4, 98, 99] (T' := [(97, .slice (some ⟨bp, 0, none⟩) ((ptsOf s.lg.base.idx s.lg.sns).length) pc), (3, .pointer (some ⟨bs, 0, none⟩)), (4, .slice (some ⟨rb170, 0, none⟩) ((runL all).length) rc), (98, .int .i64 (((ptsOf s.lg.base.idx s.lg.sns).length : Nat) : Int)), (99, .int .i64 0)]) (φ := True) (rest := []) h198 (by kernel_rfl) rfl trivial fun a199 h200 => ?_
      clear h198
      refine nd_done ?_
      refine hK191 _ _ ?_
      clear hK191
      refine wp_block ?_
      have hpl := ptsOf_len s.lg.base.idx s.lg.sns
      have hsl := hwf.lg.slen
      have hel := hwf.lg.len
      have hml := hwf.lg.mlen
      refine wp_loop_ghost (fun gg2 ga gw => ∃ (k : Nat), (k ≤ (ptsOf s.lg.base.idx s.lg.sns).length) ∧ (gg2 = (ptsOf s.lg.base.idx s.lg.sns).length - k) ∧ St ⟨151, [], w, Pk w.heap.size [pSess bs bl d s], Pf [pSess bs bl d s]⟩ [(3, .pointer (some ⟨bs, 0, none⟩)), (4, .slice (some ⟨rb170, 0, none⟩) ((runL all).length) rc), (97, .slice (some ⟨bp, 0, none⟩) ((ptsOf s.lg.base.idx s.lg.sns).length) pc), (98, .int .i64 (((ptsOf s.lg.base.idx s.lg.sns).length : Nat) : Int)), (99, .int .i64 ((k : Nat) : Int))] [(rb170, ⟨cs171, 59, false⟩), (bp, ⟨pcs, 3, false⟩)] ga gw) (ptsOf s.lg.base.idx s.lg.sns).length ⟨0, Nat.zero_le _, rfl, (h200.slotsMono (restr_spec (keep := [3, 4, 97, 98, 99]) rfl))⟩ ?_
      clear h200
      rintro gg2 a201 w202 ⟨k, hi204, hi205, h203⟩
      have hk := hi204
      have hg2 := hi205
      refine wp_seq_k fun K206 hK206 => ?_
      refine nd_start (l := [0]) rfl ?_
      refine nd_batch tabOk tabZ_ok [(0, {})] [3, 4, 97, 98, 99, 100] (T' := [(3, .pointer (some ⟨bs, 0, none⟩)), (4, .slice (some ⟨rb170, 0, none⟩) ((runL all).length) rc), (97, .slice (some ⟨bp, 0, none⟩) ((ptsOf s.lg.base.idx s.lg.sns).length) pc), (98, .int .i64 (((ptsOf s.lg.base.idx s.lg.sns).length : Nat) : Int)), (99, .int .i64 ((k : Nat) : Int)), (100, .bool (decide (((k : Nat) : Int) < (((ptsOf s.lg.base.idx s.lg.sns).length : Nat) : Int))))]) (φ := True) (rest := []) h203 (by kernel_rfl) rfl trivial fun a207 h208 => ?_
      clear h203
      refine nd_done ?_
      refine hK206 _ _ ?_
      clear hK206
      refine wp_seq_k fun K209 hK209 => ?_
      refine c_split h208 (b := decide (((k : Nat) : Int) < (((ptsOf s.lg.base.idx s.lg.sns).length : Nat) : Int))) rfl (fun hc210 => ?_) (fun hc210 => ?_)
      ·
        have hc210f : ((k : Nat) : Int) < (((ptsOf s.lg.base.idx s.lg.sns).length : Nat) : Int) := by simpa using hc210
        obtain ⟨p, hp⟩ := Sx.get_some (xs := (ptsOf s.lg.base.idx s.lg.sns)) (i := k) (by omega)
        have hpm := List.mem_of_getElem? hp
        obtain ⟨_, _, _, _, hpb, hpfn⟩ := point_hon hwf.lg hon.lg hpm
        refine wp_skip ?_
        refine hK209 _ _ ?_
        clear hK209
        refine wp_seq_k fun K211 hK211 => ?_
        refine wp_block ?_
        refine wp_seq_k fun K212 hK212 => ?_
        refine nd_start (l := [0, 1, 2]) rfl ?_
        refine nd_batch tabOk tabZ_ok [(0, {}), (1, {k := 1, m := 1, vs := [.int .i64 p]}), (2, {})] [3, 4, 97, 98, 99, 10] (T' := [(3, .pointer (some ⟨bs, 0, none⟩)), (4, .slice (some ⟨rb170, 0, none⟩) ((runL all).length) rc), (97, .slice (some ⟨bp, 0, none⟩) ((ptsOf s.lg.base.idx s.lg.sns).length) pc), (98, .int .i64 (((ptsOf s.lg.base.idx s.lg.sns).length : Nat) : Int)), (99, .int .i64 ((k : Nat) : Int)), (10, .int .i64 p)]) (φ := (0 ≤ ((k : Nat) : Int) ∧ ((k : Nat) : Int) < (((ptsOf s.lg.base.idx s.lg.sns).length : Nat) : Int)) ∧ (bp = bp ∧ cellsAre pcs (0 + (k * 1)) [.int .i64 p]) ∧ True) (rest := []) h208 (by kernel_rfl) rfl ⟨⟨by omega, by omega⟩, ⟨rfl, (by rw [Nat.zero_add]; exact hrd _ _ hp)⟩, trivial⟩ fun a213 h214 => ?_
        clear h208
        refine nd_done ?_
        refine hK212 _ _ ?_
        clear hK212
        refine wp_seq_k fun K215 hK215 => ?_
        refine nd_start (l := [0, 1, 2, 3, 4]) rfl ?_
        refine nd_batch tabOk tabZ_ok [(0, {})] [3, 4, 97, 98, 99, 10, 103] (T' := [(3, .pointer (some ⟨bs, 0, none⟩)), (4, .slice (some ⟨rb170, 0, none⟩) ((runL all).length) rc), (97, .slice (some ⟨bp, 0, none⟩) ((ptsOf s.lg.base.idx s.lg.sns).length) pc), (98, .int .i64 (((ptsOf s.lg.base.idx s.lg.sns).length : Nat) : Int)), (99, .int .i64 ((k : Nat) : Int)), (10, .int .i64 p), (103, .pointer (some ⟨bs, 0, none⟩))]) (φ := True) (rest := [1, 2, 3, 4]) h214 (by kernel_rfl) rfl trivial fun a216 h217 => ?_
        clear h214
        refine nd_op ?_
        refine op_call h217 rfl rfl rfl (callOk Try.func17 (by decide) rfl) (args := [.pointer (some ⟨bs, 0, none⟩)]) rfl (slog_ok bs _ _ _ _ _ false _ (h217.inv.get (j := 0) (p := pSess bs bl d s) rfl).blk) ?_
        rintro _ w218 ⟨rfl, hf220⟩
        refine ⟨_, rfl, ?_⟩
        have h219 := (h217.grow hf220).put (d := some 104) (v := .pointer (some ⟨bl, 0, none⟩)) (T' := [(104, .pointer (some ⟨bl, 0, none⟩)), (3, .pointer (some ⟨bs, 0, none⟩)), (4, .slice (some ⟨rb170, 0, none⟩) ((runL all).length) rc), (97, .slice (some ⟨bp, 0, none⟩) ((ptsOf s.lg.base.idx s.lg.sns).length) pc), (98, .int .i64 (((ptsOf s.lg.base.idx s.lg.sns).length : Nat) : Int)), (99, .int .i64 ((k : Nat) : Int)), (10, .int .i64 p), (103, .pointer (some ⟨bs, 0, none⟩))]) rfl
        clear h217
        refine nd_op ?_
        refine op_call h219 rfl rfl rfl (callOk Try.func18 (by decide) rfl) (args := [.pointer (some ⟨bl, 0, none⟩)]) rfl (clone_ok bl _ s.lg _ (h219.inv.get (j := 0) (p := pSess bs bl d s) rfl).log (by omega) (by omega) (by omega)) ?_
        rintro _ w226 ⟨bq221, d222, rfl, hs223, hf224, hn225⟩
        refine ⟨_, rfl, ?_⟩
        have h227 := (h219.pcAdd (p' := pLog bq221 d222 s.lg) (ps' := [pSess bs bl d s, pLog bq221 d222 s.lg]) (pLog_ok hs223) hf224 hn225 rfl).put (d := some 105) (v := .pointer (some ⟨bq221, 0, none⟩)) (T' := [(105, .pointer (some ⟨bq221, 0, none⟩)), (104, .pointer (some ⟨bl, 0, none⟩)), (3, .pointer (some ⟨bs, 0, none⟩)), (4, .slice (some ⟨rb170, 0, none⟩) ((runL all).length) rc), (97, .slice (some ⟨bp, 0, none⟩) ((ptsOf s.lg.base.idx s.lg.sns).length) pc), (98, .int .i64 (((ptsOf s.lg.base.idx s.lg.sns).length : Nat) : Int)), (99, .int .i64 ((k : Nat) : Int)), (10, .int .i64 p), (103, .pointer (some ⟨bs, 0, none⟩))]) rfl
        have hszh227 : w.heap.size ≤ _ := h219.frame.size
        clear h219
        refine nd_op ?_
        refine op_call h227 rfl rfl rfl (callOk Try.func21 (by decide) rfl) (args := [.pointer (some ⟨bq221, 0, none⟩)]) rfl (openS_ok bq221 d222 s.lg _ (h227.inv.get (j := 1) (p := pLog bq221 d222 s.lg) rfl)) ?_
        rintro _ w232 ⟨bt228, rfl, hs229, hf230, hn231⟩
        refine ⟨_, rfl, ?_⟩
        have h233 := (h227.pcSet (j := 1) (p := pLog bq221 d222 s.lg) (p' := pSess bt228 bq221 d222 (ssOf s.lg)) (ps' := [pSess bs bl d s, pSess bt228 bq221 d222 (ssOf s.lg)]) rfl (pSess_ok hs229) hf230 (fun _ h => by cases h) (fun b hb => by rcases List.mem_cons.1 hb with rfl | hb; exact .inr hn231; exact .inl hb) (kcons (by intro hq; cases hq) (kcons (by intro hq; cases hq) knil)) rfl).put (d := some 106) (v := .pointer (some ⟨bt228, 0, none⟩)) (T' := [(106, .pointer (some ⟨bt228, 0, none⟩)), (105, .pointer (some ⟨bq221, 0, none⟩)), (104, .pointer (some ⟨bl, 0, none⟩)), (3, .pointer (some ⟨bs, 0, none⟩)), (4, .slice (some ⟨rb170, 0, none⟩) ((runL all).length) rc), (97, .slice (some ⟨bp, 0, none⟩) ((ptsOf s.lg.base.idx s.lg.sns).length) pc), (98, .int .i64 (((ptsOf s.lg.base.idx s.lg.sns).length : Nat) : Int)), (99, .int .i64 ((k : Nat) : Int)), (10, .int .i64 p), (103, .pointer (some ⟨bs, 0, none⟩))]) rfl
        have hszh233 : w.heap.size ≤ _ := h227.frame.size
        clear h227
        refine nd_batch tabOk tabZ_ok [(4, {})] [3, 4, 97, 98, 99, 10, 11] (T' := [(3, .pointer (some ⟨bs, 0, none⟩)), (4, .slice (some ⟨rb170, 0, none⟩) ((runL all).length) rc), (97, .slice (some ⟨bp, 0, none⟩) ((ptsOf s.lg.base.idx s.lg.sns).length) pc), (98, .int .i64 (((ptsOf s.lg.base.idx s.lg.sns).length : Nat) : Int)), (99, .int .i64 ((k : Nat) : Int)), (10, .int .i64 p), (11, .pointer (some ⟨bt228, 0, none⟩))]) (φ := True) (rest := []) h233 (by kernel_rfl) rfl trivial fun a234 h235 => ?_
        clear h233
        refine nd_done ?_
        refine hK215 _ _ ?_
        clear hK215
        refine wp_seq_k fun K236 hK236 => ?_
        refine nd_start (l := [0, 1, 2, 3, 4, 5]) rfl ?_
        refine nd_batch tabOk tabZ_ok [(0, {}), (1, {}), (2, {})] [3, 4, 97, 98, 99, 10, 11, 107, 109] (T' := [(3, .pointer (some ⟨bs, 0, none⟩)), (4, .slice (some ⟨rb170, 0, none⟩) ((runL all).length) rc), (97, .slice (some ⟨bp, 0, none⟩) ((ptsOf s.lg.base.idx s.lg.sns).length) pc), (98, .int .i64 (((ptsOf s.lg.base.idx s.lg.sns).length : Nat) : Int)), (99, .int .i64 ((k : Nat) : Int)), (10, .int .i64 p), (11, .pointer (some ⟨bt228, 0, none⟩)), (107, .pointer (some ⟨bt228, 0, none⟩)), (109, .agg #[.int .u8 1, .int .i64 p, .int .i64 0, .int .u8 0, .int .u32 0, .int .u64 0])]) (φ := True) (rest := [3, 4, 5]) h235 (by kernel_rfl) rfl trivial fun a237 h238 => ?_
        clear h235
        refine nd_op ?_
        refine op_call h238 rfl rfl rfl (callOk Try.func12 (by decide) rfl) (args := [.pointer (some ⟨bt228, 0, none⟩), .agg #[.int .u8 1, .int .i64 p, .int .i64 0, .int .u8 0, .int .u32 0, .int .u64 0]]) rfl ((by have hq := do_ok bt228 bq221 d222 (ssOf s.lg) _ (h238.inv.get (j := 1) (p := pSess bt228 bq221 d222 (ssOf s.lg)) rfl) (B := (ops.length : Int)) (by omega) ((ssOf_wf hwf.lg).mono (by omega)) ⟨1, p, 0, ⟨0, 0, 0⟩⟩ (opk_ok (by decide) (by decide)); rw [do_seek, seek6 hwf.lg hon.lg hpb hpfn] at hq; exact hq)) ?_
        rintro _ w243 ⟨d239, rfl, hs240, hf241, hF242⟩
        refine ⟨_, rfl, ?_⟩
        have h244 := (h238.pcSet (j := 1) (p := pSess bt228 bq221 d222 (ssOf s.lg)) (p' := pSess bt228 bq221 d239 (ssAt s.lg all p)) (ps' := [pSess bs bl d s, pSess bt228 bq221 d239 (ssAt s.lg all p)]) rfl (pSess_ok hs240) hf241 (fun _ h => h) (sess_sub hF242) (kcons (by intro hq; cases hq) (kcons (by intro hq; cases hq) knil)) rfl).put (d := some 110) (v := .agg #[.int .u8 0, .int .i64 p, .int .i64 s.lg.base.idx, .int .i64 s.lg.fin, .bool false, .bool ((stAt all p).2.refused), .int .i8 ((stAt all p).2.running), .int .u64 ((stAt all p).2.value), .int .u64 (dig (stAt all p).1), .int .i64 ((s.lg.near p).idx), .int .i64 (p - (s.lg.near p).idx), .int .i64 (-1)]) (T' := [(110, .agg #[.int .u8 0, .int .i64 p, .int .i64 s.lg.base.idx, .int .i64 s.lg.fin, .bool false, .bool ((stAt all p).2.refused), .int .i8 ((stAt all p).2.running), .int .u64 ((stAt all p).2.value), .int .u64 (dig (stAt all p).1), .int .i64 ((s.lg.near p).idx), .int .i64 (p - (s.lg.near p).idx), .int .i64 (-1)]), (3, .pointer (some ⟨bs, 0, none⟩)), (4, .slice (some ⟨rb170, 0, none⟩) ((runL all).length) rc), (97, .slice (some ⟨bp, 0, none⟩) ((ptsOf s.lg.base.idx s.lg.sns).length) pc), (98, .int .i64 (((ptsOf s.lg.base.idx s.lg.sns).length : Nat) : Int)), (99, .int .i64 ((k : Nat) : Int)), (10, .int .i64 p), (11, .pointer (some ⟨bt228, 0, none⟩)), (107, .pointer (some ⟨bt228, 0, none⟩)), (109, .agg #[.int .u8 1, .int .i64 p, .int .i64 0, .int .u8 0, .int .u32 0, .int .u64 0])]) rfl
        have hszh244 : w.heap.size ≤ _ := h238.frame.size
        clear h238
        refine nd_op ?_
        refine op_new tabOk (cells := [.int .u8 0, .int .i64 0, .int .i64 0, .int .i64 0, .bool false, .bool false, .int .i8 0, .int .u64 0, .int .u64 0, .int .i64 0, .int .i64 0, .int .i64 0]) (ty := 41) (ln := none) (L1 := fun b245 => [(rb170, ⟨cs171, 59, false⟩), (bp, ⟨pcs, 3, false⟩), (b245, ⟨[.int .u8 0, .int .i64 0, .int .i64 0, .int .i64 0, .bool false, .bool false, .int .i8 0, .int .u64 0, .int .u64 0, .int .i64 0, .int .i64 0, .int .i64 0], 41, false⟩)]) h244 rfl rfl rfl rfl (by kernel_rfl) (fun _ => rfl) fun b245 w246 a247 h248 hf249 hn250 => ?_
        clear h244
        refine nd_op ?_
        refine op_store tabOk {k := 2} (L' := [(rb170, ⟨cs171, 59, false⟩), (bp, ⟨pcs, 3, false⟩), (b245, ⟨[.int .u8 0, .int .i64 p, .int .i64 s.lg.base.idx, .int .i64 s.lg.fin, .bool false, .bool ((stAt all p).2.refused), .int .i8 ((stAt all p).2.running), .int .u64 ((stAt all p).2.value), .int .u64 (dig (stAt all p).1), .int .i64 ((s.lg.near p).idx), .int .i64 (p - (s.lg.near p).idx), .int .i64 (-1)], 41, false⟩)]) (φ := b245 = b245 ∧ Nat.ble (0 + 12) 12 = true) h248 rfl rfl rfl (by kernel_rfl) ⟨rfl, rfl⟩ fun w251 h252 => ?_
        clear h248
        refine nd_done ?_
        refine hK236 _ _ ?_
        clear hK236
        refine wp_seq_k fun K253 hK253 => ?_
        refine nd_start (l := [0, 1]) rfl ?_
        refine nd_batch tabOk tabZ_ok [(0, {}), (1, {})] [12, 3, 4, 97, 98, 99, 10, 11, 13] (T' := [(12, .pointer (some ⟨b245, 0, none⟩)), (3, .pointer (some ⟨bs, 0, none⟩)), (4, .slice (some ⟨rb170, 0, none⟩) ((runL all).length) rc), (97, .slice (some ⟨bp, 0, none⟩) ((ptsOf s.lg.base.idx s.lg.sns).length) pc), (98, .int .i64 (((ptsOf s.lg.base.idx s.lg.sns).length : Nat) : Int)), (99, .int .i64 ((k : Nat) : Int)), (10, .int .i64 p), (11, .pointer (some ⟨bt228, 0, none⟩)), (13, .int .i64 p)]) (φ := True) (rest := []) h252 (by kernel_rfl) rfl trivial fun a254 h255 => ?_
        clear h252
        refine nd_done ?_
        refine hK253 _ _ ?_
        clear hK253
        refine wp_block ?_
        refine wp_loop_ghost (fun gg3 ga gw => ∃ (q : Int) (dt : Hd) (fr rp : Int), (p ≤ q) ∧ (q ≤ s.lg.fin) ∧ (gg3 = (s.lg.fin - q).toNat) ∧ St ⟨151, [], w, Pk w.heap.size [pSess bs bl d s, pSess bt228 bq221 dt (ssAt s.lg all q)], Pf [pSess bs bl d s, pSess bt228 bq221 dt (ssAt s.lg all q)]⟩ [(3, .pointer (some ⟨bs, 0, none⟩)), (4, .slice (some ⟨rb170, 0, none⟩) ((runL all).length) rc), (11, .pointer (some ⟨bt228, 0, none⟩)), (12, .pointer (some ⟨b245, 0, none⟩)), (97, .slice (some ⟨bp, 0, none⟩) ((ptsOf s.lg.base.idx s.lg.sns).length) pc), (98, .int .i64 (((ptsOf s.lg.base.idx s.lg.sns).length : Nat) : Int)), (99, .int .i64 ((k : Nat) : Int)), (13, .int .i64 q)] [(rb170, ⟨cs171, 59, false⟩), (bp, ⟨pcs, 3, false⟩), (b245, ⟨[.int .u8 0, .int .i64 q, .int .i64 s.lg.base.idx, .int .i64 s.lg.fin, .bool false, .bool ((stAt all q).2.refused), .int .i8 ((stAt all q).2.running), .int .u64 ((stAt all q).2.value), .int .u64 (dig (stAt all q).1), .int .i64 fr, .int .i64 rp, .int .i64 (-1)], 41, false⟩)] ga gw) (s.lg.fin - p).toNat ⟨p, d239, (s.lg.near p).idx, (p - (s.lg.near p).idx), Int.le_refl _, hpfn, rfl, (h255.slotsMono (restr_spec (keep := [3, 4, 11, 12, 97, 98, 99, 13]) rfl))⟩ ?_
        clear h255
        rintro gg3 a256 w257 ⟨q, dt, fr, rp, hi259, hi260, hi261, h258⟩
        have hq1 := hi259
        have hq2 := hi260
        have hg3 := hi261
        have hqn : ((q.toNat : Nat) : Int) = q := by omega
        have hsn : (runL all)[q.toNat]? = some (snAt all q) := by have h1 := runL_get (all := all) (i := q.toNat) (by omega); rw [hqn] at h1; exact h1
        refine wp_seq_k fun K262 hK262 => ?_
        refine wp_block ?_
        refine wp_seq_k fun K263 hK263 => ?_
        refine wp_seq_k fun K264 hK264 => ?_
        refine dr_start (KB := [rb170, bp, b245]) (Bi := [[0, 1, 2], [0, 1, 2], [0, 1, 2], [0, 1, 2], [0, 1, 2], [0, 1, 2], [0, 1, 2], [0, 1, 2], [0, 1, 2], [0, 1, 2], [0, 1, 2], [0, 1, 2], [0, 1, 2], [0, 1, 2], [0, 1, 2], [0, 1, 2], [0, 1, 2], [0, 1, 2], [0, 1, 2], [0, 1, 2], [0, 1, 2], [0, 1, 2], [0, 1, 2], [0, 1, 2], [0, 1, 2], [0, 1, 2], [0, 1, 2], [0, 1, 2], [0, 1, 2]]) mixed h258 fun w265 h266 => ?_
        clear h258
        refine dr_batch tabOk tabZ_ok (by repeat (first | exact PF.body | with_reducible apply PF.inB | with_reducible apply PF.next)) [(0, {}), (1, {k := 2, p := 2}), (2, {}), (3, {}), (4, {}), (5, {k := 2, p := 2}), (6, {}), (7, {f := 1}), (8, {}), (9, {}), (10, {}), (11, {k := 2, p := 2}), (12, {}), (13, {}), (14, {}), (15, {}), (16, {k := 0, m := 1, vs := [.int .u64 (dig (stAt all q).1)], p := 0}), (17, {f := 1}), (18, {}), (19, {}), (20, {}), (21, {k := 2, p := 2}), (22, {}), (23, {}), (24, {}), (25, {}), (26, {k := 0, m := 1, vs := [.bool ((stAt all q).2.refused), .int .i8 ((stAt all q).2.running), .int .u64 ((stAt all q).2.value)], p := 0}), (27, {f := 1}), (28, {})] [3, 4, 11, 12, 97, 98, 99, 13, 142] (T' := [(3, .pointer (some ⟨bs, 0, none⟩)), (4, .slice (some ⟨rb170, 0, none⟩) ((runL all).length) rc), (11, .pointer (some ⟨bt228, 0, none⟩)), (12, .pointer (some ⟨b245, 0, none⟩)), (97, .slice (some ⟨bp, 0, none⟩) ((ptsOf s.lg.base.idx s.lg.sns).length) pc), (98, .int .i64 (((ptsOf s.lg.base.idx s.lg.sns).length : Nat) : Int)), (99, .int .i64 ((k : Nat) : Int)), (13, .int .i64 q), (142, .bool false)]) (φ := (b245 = b245 ∧ Nat.ble (0 + 1) 12 = true) ∧ (b245 = b245 ∧ Nat.ble (1 + 1) 12 = true) ∧ ((q != q)) = false ∧ (b245 = b245 ∧ Nat.ble (8 + 1) 12 = true) ∧ (0 ≤ q ∧ q < (((runL all).length : Nat) : Int)) ∧ (rb170 = rb170 ∧ cellsAre cs171 (0 + (q.toNat * 4)) [.int .u64 (dig (stAt all q).1)]) ∧ (((dig (stAt all q).1) != (dig (stAt all q).1))) = false ∧ (b245 = b245 ∧ Nat.ble (5 + 3) 12 = true) ∧ (0 ≤ q ∧ q < (((runL all).length : Nat) : Int)) ∧ (rb170 = rb170 ∧ cellsAre cs171 (0 + (q.toNat * 4) + 1) [.bool ((stAt all q).2.refused), .int .i8 ((stAt all q).2.running), .int .u64 ((stAt all q).2.value)]) ∧ EqRun Try.prog 39 (.agg #[.bool ((stAt all q).2.refused), .int .i8 ((stAt all q).2.running), .int .u64 ((stAt all q).2.value)]) (.agg #[.bool ((stAt all q).2.refused), .int .i8 ((stAt all q).2.running), .int .u64 ((stAt all q).2.value)]) true ∧ True) (fuel := 0) h266 (by kernel_rfl) rfl (by kernel_rfl) (by kernel_rfl) ⟨trivial, rfl, trivial, trivial, trivial, rfl, trivial, trivial, trivial, trivial, trivial, rfl, trivial, trivial, trivial, trivial, rfl, trivial, trivial, trivial, trivial, rfl, trivial, trivial, trivial, trivial, rfl, trivial, trivial, trivial⟩ ⟨⟨rfl, rfl⟩, ⟨rfl, rfl⟩, (by simp), ⟨rfl, rfl⟩, ⟨by omega, by omega⟩, ⟨rfl, (by rw [Nat.zero_add]; exact ⟨(hrd175 _ _ hsn).1, trivial⟩)⟩, (by simp), ⟨rfl, rfl⟩, ⟨by omega, by omega⟩, ⟨rfl, (by rw [Nat.zero_add]; exact (hrd175 _ _ hsn).2)⟩, (by have hq := run39 (stAt all q).2 (stAt all q).2; rw [show otEq (stAt all q).2 (stAt all q).2 = true from otEq_iff.2 rfl] at hq; exact hq), trivial⟩ fun a268 h269 => ?_
        clear h266
        refine wpAnyK_done (by kernel_rfl) ?_ _
        refine hK264 _ _ ?_
        clear hK264
        refine c_false h269 rfl ?_
        refine wp_skip ?_
        refine hK263 _ _ ?_
        clear hK263
        refine wp_seq_k fun K270 hK270 => ?_
        refine wp_seq_k fun K271 hK271 => ?_
        refine nd_start (l := [0, 1, 2, 3]) rfl ?_
        refine nd_batch tabOk tabZ_ok [(0, {}), (1, {}), (2, {k := 2}), (3, {})] [3, 4, 11, 12, 97, 98, 99, 13, 146] (T' := [(3, .pointer (some ⟨bs, 0, none⟩)), (4, .slice (some ⟨rb170, 0, none⟩) ((runL all).length) rc), (11, .pointer (some ⟨bt228, 0, none⟩)), (12, .pointer (some ⟨b245, 0, none⟩)), (97, .slice (some ⟨bp, 0, none⟩) ((ptsOf s.lg.base.idx s.lg.sns).length) pc), (98, .int .i64 (((ptsOf s.lg.base.idx s.lg.sns).length : Nat) : Int)), (99, .int .i64 ((k : Nat) : Int)), (13, .int .i64 q), (146, .bool (q == s.lg.fin))]) (φ := (b245 = b245 ∧ Nat.ble (3 + 1) 12 = true) ∧ True) (rest := []) h269 (by kernel_rfl) rfl ⟨⟨rfl, rfl⟩, trivial⟩ fun a272 h273 => ?_
        clear h269
        refine nd_done ?_
        refine hK271 _ _ ?_
        clear hK271
        refine c_split h273 (b := (q == s.lg.fin)) rfl (fun hc274 => ?_) (fun hc274 => ?_)
        ·
          have hc274f : q = s.lg.fin := by simpa using hc274
          refine wp_exit ?_
          refine hK211 _ _ ?_
          clear hK211
          refine nd_start (l := [0, 1]) rfl ?_
          refine nd_batch tabOk tabZ_ok [(0, {}), (1, {})] [3, 4, 11, 12, 97, 98, 13, 99] (T' := [(3, .pointer (some ⟨bs, 0, none⟩)), (4, .slice (some ⟨rb170, 0, none⟩) ((runL all).length) rc), (11, .pointer (some ⟨bt228, 0, none⟩)), (12, .pointer (some ⟨b245, 0, none⟩)), (97, .slice (some ⟨bp, 0, none⟩) ((ptsOf s.lg.base.idx s.lg.sns).length) pc), (98, .int .i64 (((ptsOf s.lg.base.idx s.lg.sns).length : Nat) : Int)), (13, .int .i64 q), (99, .int .i64 (((k : Nat) : Int) + 1))]) (φ := inR .i64 (((k : Nat) : Int) + 1) ∧ True) (rest := []) h273 (by kernel_rfl) rfl ⟨⟨by omega, by omega⟩, trivial⟩ fun a275 h276 => ?_
          clear h273
          refine nd_done ?_
          have h277 := h276.memMono (L' := [(rb170, ⟨cs171, 59, false⟩), (bp, ⟨pcs, 3, false⟩)]) (List.Sublist.cons_cons _ (List.Sublist.cons_cons _ (List.Sublist.cons _ List.Sublist.slnil)))
          clear h276
          have h278 := h277.pcSub (ps' := [pSess bs bl d s]) (List.Sublist.cons_cons _ (List.Sublist.cons _ List.Sublist.slnil))
          clear h277
          exact ⟨(gg2 - 1), by omega, (k + 1), by omega, by omega, (h278.slotsMono (restr_spec (keep := [3, 4, 97, 98, 99]) rfl))⟩
        ·
          have hc274f : q ≠ s.lg.fin := by simpa using hc274
          refine wp_skip ?_
          refine hK270 _ _ ?_
          clear hK270
          refine nd_start (l := [0, 1, 2, 3]) rfl ?_
          refine nd_batch tabOk tabZ_ok [(0, {}), (1, {})] [3, 4, 11, 12, 97, 98, 99, 13, 147, 148] (T' := [(3, .pointer (some ⟨bs, 0, none⟩)), (4, .slice (some ⟨rb170, 0, none⟩) ((runL all).length) rc), (11, .pointer (some ⟨bt228, 0, none⟩)), (12, .pointer (some ⟨b245, 0, none⟩)), (97, .slice (some ⟨bp, 0, none⟩) ((ptsOf s.lg.base.idx s.lg.sns).length) pc), (98, .int .i64 (((ptsOf s.lg.base.idx s.lg.sns).length : Nat) : Int)), (99, .int .i64 ((k : Nat) : Int)), (13, .int .i64 q), (147, .pointer (some ⟨bt228, 0, none⟩)), (148, .agg #[.int .u8 3, .int .i64 1, .int .i64 0, .int .u8 0, .int .u32 0, .int .u64 0])]) (φ := True) (rest := [2, 3]) h273 (by kernel_rfl) rfl trivial fun a279 h280 => ?_
          clear h273
          refine nd_op ?_
          refine op_call h280 rfl rfl rfl (callOk Try.func12 (by decide) rfl) (args := [.pointer (some ⟨bt228, 0, none⟩), .agg #[.int .u8 3, .int .i64 1, .int .i64 0, .int .u8 0, .int .u32 0, .int .u64 0]]) rfl ((by have hq := do_ok bt228 bq221 dt (ssAt s.lg all q) _ (h280.inv.get (j := 1) (p := pSess bt228 bq221 dt (ssAt s.lg all q)) rfl) (B := (ops.length : Int)) (by omega) ((ssAt_wf hwf.lg hon.lg (by omega) hq2).mono (by omega)) ⟨3, 1, 0, ⟨0, 0, 0⟩⟩ (opk_ok (by decide) (by decide)); rw [do_forw, forw6 hwf.lg hon.lg (by omega) (by omega)] at hq; exact hq)) ?_
          rintro _ w285 ⟨d281, rfl, hs282, hf283, hF284⟩
          refine ⟨_, rfl, ?_⟩
          have h286 := (h280.pcSet (j := 1) (p := pSess bt228 bq221 dt (ssAt s.lg all q)) (p' := pSess bt228 bq221 d281 (ssAt s.lg all (q + 1))) (ps' := [pSess bs bl d s, pSess bt228 bq221 d281 (ssAt s.lg all (q + 1))]) rfl (pSess_ok hs282) hf283 (fun _ h => h) (sess_sub hF284) (kcons (by intro hq; cases hq) (kcons (by intro hq; cases hq) (kcons (by intro hq; cases hq) knil))) rfl).put (d := some 149) (v := .agg #[.int .u8 0, .int .i64 (q + 1), .int .i64 s.lg.base.idx, .int .i64 s.lg.fin, .bool false, .bool ((stAt all (q + 1)).2.refused), .int .i8 ((stAt all (q + 1)).2.running), .int .u64 ((stAt all (q + 1)).2.value), .int .u64 (dig (stAt all (q + 1)).1), .int .i64 (q + 1 - 1), .int .i64 1, .int .i64 (-1)]) (T' := [(149, .agg #[.int .u8 0, .int .i64 (q + 1), .int .i64 s.lg.base.idx, .int .i64 s.lg.fin, .bool false, .bool ((stAt all (q + 1)).2.refused), .int .i8 ((stAt all (q + 1)).2.running), .int .u64 ((stAt all (q + 1)).2.value), .int .u64 (dig (stAt all (q + 1)).1), .int .i64 (q + 1 - 1), .int .i64 1, .int .i64 (-1)]), (3, .pointer (some ⟨bs, 0, none⟩)), (4, .slice (some ⟨rb170, 0, none⟩) ((runL all).length) rc), (11, .pointer (some ⟨bt228, 0, none⟩)), (12, .pointer (some ⟨b245, 0, none⟩)), (97, .slice (some ⟨bp, 0, none⟩) ((ptsOf s.lg.base.idx s.lg.sns).length) pc), (98, .int .i64 (((ptsOf s.lg.base.idx s.lg.sns).length : Nat) : Int)), (99, .int .i64 ((k : Nat) : Int)), (13, .int .i64 q), (147, .pointer (some ⟨bt228, 0, none⟩)), (148, .agg #[.int .u8 3, .int .i64 1, .int .i64 0, .int .u8 0, .int .u32 0, .int .u64 0])]) rfl
          have hszh286 : w.heap.size ≤ _ := h280.frame.size
          clear h280
          refine nd_op ?_
          refine op_store tabOk {k := 2} (L' := [(rb170, ⟨cs171, 59, false⟩), (bp, ⟨pcs, 3, false⟩), (b245, ⟨[.int .u8 0, .int .i64 (q + 1), .int .i64 s.lg.base.idx, .int .i64 s.lg.fin, .bool false, .bool ((stAt all (q + 1)).2.refused), .int .i8 ((stAt all (q + 1)).2.running), .int .u64 ((stAt all (q + 1)).2.value), .int .u64 (dig (stAt all (q + 1)).1), .int .i64 (q + 1 - 1), .int .i64 1, .int .i64 (-1)], 41, false⟩)]) (φ := b245 = b245 ∧ Nat.ble (0 + 12) 12 = true) h286 rfl rfl rfl (by kernel_rfl) ⟨rfl, rfl⟩ fun w287 h288 => ?_
          clear h286
          refine nd_done ?_
          refine hK262 _ _ ?_
          clear hK262
          refine nd_start (l := [0, 1, 2]) rfl ?_
          refine nd_batch tabOk tabZ_ok [(0, {}), (1, {}), (2, {})] [3, 4, 11, 12, 97, 98, 99, 13] (T' := [(3, .pointer (some ⟨bs, 0, none⟩)), (4, .slice (some ⟨rb170, 0, none⟩) ((runL all).length) rc), (11, .pointer (some ⟨bt228, 0, none⟩)), (12, .pointer (some ⟨b245, 0, none⟩)), (97, .slice (some ⟨bp, 0, none⟩) ((ptsOf s.lg.base.idx s.lg.sns).length) pc), (98, .int .i64 (((ptsOf s.lg.base.idx s.lg.sns).length : Nat) : Int)), (99, .int .i64 ((k : Nat) : Int)), (13, .int .i64 (q + 1))]) (φ := inR .i64 (q + 1) ∧ True) (rest := []) h288 (by kernel_rfl) rfl ⟨⟨by omega, by omega⟩, trivial⟩ fun a289 h290 => ?_
          clear h288
          refine nd_done ?_
          exact ⟨(gg3 - 1), by omega, (q + 1), d281, (q + 1 - 1), 1, by omega, by omega, by omega, (h290.slotsMono (restr_spec (keep := [3, 4, 11, 12, 97, 98, 99, 13]) rfl))⟩
      ·
        have hc210f : ¬ ((k : Nat) : Int) < (((ptsOf s.lg.base.idx s.lg.sns).length : Nat) : Int) := by simpa using hc210
        refine wp_exit ?_
        refine hK190 _ _ ?_
        clear hK190
        refine wp_seq_k fun K291 hK291 => ?_
        refine nd_start (l := [0]) rfl ?_
        refine nd_batch tabOk tabZ_ok [(0, {})] [3, 4, 97, 98, 99, 2] (T' := [(3, .pointer (some ⟨bs, 0, none⟩)), (4, .slice (some ⟨rb170, 0, none⟩) ((runL all).length) rc), (97, .slice (some ⟨bp, 0, none⟩) ((ptsOf s.lg.base.idx s.lg.sns).length) pc), (98, .int .i64 (((ptsOf s.lg.base.idx s.lg.sns).length : Nat) : Int)), (99, .int .i64 ((k : Nat) : Int)), (2, .bool true)]) (φ := True) (rest := []) h208 (by kernel_rfl) rfl trivial fun a292 h293 => ?_
        clear h208
        refine nd_done ?_
        refine hK291 _ _ ?_
        clear hK291
        refine wp_ret ?_
        try simp only [Exit.then, Exit.inBlock]
        try rw [if_pos trivial]
        exact s_ret tabOk tabZ_ok h293 [(.tmp 2, {})] (vs := [.bool true]) (φ := True) rfl (by kernel_rfl) trivial ⟨rfl, h293.frame⟩

end Go.Proofs.Qxb6500919a
