/-
  RefusalsChangeNothing: the law walked. (Made by program: a symbolic walk that prints its steps.)
-/
import Derived.Test.Qxb6500919aTab
import Derived.Test.Qxb6500919aL4
import Derived.Test.Qxb6500919aXK
import Derived.Test.Qxb6500919aSxJ
import Derived.Test.Qxb6500919aEq2
import Derived.Test.Qxb6500919aW1
import Derived.Test.Qxb6500919aW2
import Derived.Test.Qxb6500919aW4
import Derived.Test.Qxb6500919aWH
import Derived.Test.Qxb6500919aWI
import Derived.Test.Qxb6500919aWJ
import Derived.Test.Qxb6500919aWK
namespace Go.Proofs.Qxb6500919a
open Go.Sx Go.Rp
set_option maxRecDepth 100000
set_option maxHeartbeats 4000000
set_option linter.unusedVariables false
set_option linter.unusedSimpArgs false

theorem law4_ok (o : Option Addr) (c : Nat) (ops : List Opn) (w : World) (hok : ∀ op ∈ ops, op.ok) (hscr : Scr w o ops) : Calls Try.prog 4 #[.slice o ops.length c] w fun e w' => e = .returned (.bool true) ∧ Fr [] w w' := by
  refine enter0 (n := 95) (K := []) (T := [(0, .slice o ops.length c)]) (L := []) (args := [.slice o ops.length c]) Try.func4 rfl rfl rfl rfl knil (by simp) knil ?_
  intro a h
  refine wp_seq_k fun K1 hK1 => ?_
  refine nd_start (l := [0]) rfl ?_
  refine nd_batch tabOk tabZ_ok [(0, {})] [0, 2] (T' := [(0, .slice o ops.length c), (2, .bool false)]) (φ := True) (rest := []) h (by kernel_rfl) rfl trivial fun a2 h3 => ?_
  clear h
  refine nd_done ?_
  refine hK1 _ _ ?_
  clear hK1
  refine wp_seq_k fun K4 hK4 => ?_
  refine wp_seq_k fun K5 hK5 => ?_
  refine nd_start (l := [0, 1, 2]) rfl ?_
  refine nd_batch tabOk tabZ_ok [(0, {})] [0, 2, 12] (T' := [(0, .slice o ops.length c), (2, .bool false), (12, .slice o ops.length c)]) (φ := True) (rest := [1, 2]) h3 (by kernel_rfl) rfl trivial fun a6 h7 => ?_
  clear h3
  refine nd_op ?_
  refine op_call h7 rfl rfl rfl (callOk Try.func9 (by decide) rfl) (args := [.slice o ops.length c]) rfl (small_ok o ops.length c _) ?_
  rintro _ w8 ⟨rfl, hf10⟩
  refine ⟨_, rfl, ?_⟩
  have h9 := (h7.grow hf10).put (d := some 13) (v := .bool (decide (ops.length ≤ 65536))) (T' := [(13, .bool (decide (ops.length ≤ 65536))), (0, .slice o ops.length c), (2, .bool false), (12, .slice o ops.length c)]) rfl
  clear h7
  refine nd_batch tabOk tabZ_ok [(2, {})] [0, 2, 14] (T' := [(0, .slice o ops.length c), (2, .bool false), (14, .bool (!(decide (ops.length ≤ 65536))))]) (φ := True) (rest := []) h9 (by kernel_rfl) rfl trivial fun a11 h12 => ?_
  clear h9
  refine nd_done ?_
  refine hK5 _ _ ?_
  clear hK5
  refine c_split h12 (b := !(decide (ops.length ≤ 65536))) rfl (fun hc13 => ?_) (fun hc13 => ?_)
  ·
    refine wp_seq_k fun K14 hK14 => ?_
    refine nd_start (l := [0]) rfl ?_
    refine nd_batch tabOk tabZ_ok [(0, {})] [0, 2] (T' := [(0, .slice o ops.length c), (2, .bool true)]) (φ := True) (rest := []) h12 (by kernel_rfl) rfl trivial fun a15 h16 => ?_
    clear h12
    refine nd_done ?_
    refine hK14 _ _ ?_
    clear hK14
    refine wp_ret ?_
    try simp only [Exit.then, Exit.inBlock]
    try rw [if_pos trivial]
    exact s_ret tabOk tabZ_ok h16 [(.tmp 2, {})] (vs := [.bool true]) (φ := True) rfl (by kernel_rfl) trivial ⟨rfl, h16.frame⟩
  ·
    have hsm : ops.length ≤ 65536 := by simpa using hc13
    refine wp_skip ?_
    refine hK4 _ _ ?_
    clear hK4
    refine wp_seq_k fun K17 hK17 => ?_
    refine nd_start (l := [0, 1]) rfl ?_
    refine nd_op ?_
    have h18 := h12.slotsMono (T' := [(0, .slice o ops.length c), (2, .bool false)]) (restr_spec (keep := [0, 2]) rfl)
    clear h12
    have h19 := h18.pc0
    clear h18
    refine op_call h19 rfl rfl rfl (callOk Try.func10 (by decide) rfl) (args := []) rfl (new_ok _) ?_
    rintro _ w21 ⟨bs, bl, rfl, hs0, hf20, hn1, hn2⟩
    refine ⟨_, rfl, ?_⟩
    have h22 := (h19.pcAdd (p' := pSess bs bl hd0 ss0) (ps' := [pSess bs bl hd0 ss0]) (pSess_ok hs0) hf20 (fun b hb => by simp [Hd.F, hd0] at hb; rcases hb with rfl | rfl; exact hn1; exact hn2) rfl).put (d := some 15) (v := .pointer (some ⟨bs, 0, none⟩)) (T' := [(15, .pointer (some ⟨bs, 0, none⟩)), (0, .slice o ops.length c), (2, .bool false)]) rfl
    have hszh22 : w.heap.size ≤ _ := h19.frame.size
    clear h19
    refine nd_batch tabOk tabZ_ok [(1, {})] [0, 2, 3] (T' := [(0, .slice o ops.length c), (2, .bool false), (3, .pointer (some ⟨bs, 0, none⟩))]) (φ := True) (rest := []) h22 (by kernel_rfl) rfl trivial fun a23 h24 => ?_
    clear h22
    refine nd_done ?_
    refine hK17 _ _ ?_
    clear hK17
    refine wp_seq_k fun K25 hK25 => ?_
    refine wp_seq_k fun K26 hK26 => ?_
    refine nd_start (l := [0, 1, 2]) rfl ?_
    refine nd_batch tabOk tabZ_ok [(0, {}), (1, {}), (2, {})] [0, 2, 3, 16, 17, 18] (T' := [(0, .slice o ops.length c), (2, .bool false), (3, .pointer (some ⟨bs, 0, none⟩)), (16, .slice o ops.length c), (17, .int .i64 ((ops.length : Nat) : Int)), (18, .int .i64 0)]) (φ := True) (rest := []) h24 (by kernel_rfl) rfl trivial fun a27 h28 => ?_
    clear h24
    refine nd_done ?_
    refine hK26 _ _ ?_
    clear hK26
    refine wp_block ?_
    refine wp_loop_ghost (fun g ga gw => ∃ (i : Nat) (s : Ss) (d : Hd), (i ≤ ops.length) ∧ (g = ops.length - i) ∧ (s.wf (i : Int)) ∧ St ⟨95, [], w, Pk w.heap.size [pSess bs bl d s], Pf [pSess bs bl d s]⟩ [(3, .pointer (some ⟨bs, 0, none⟩)), (16, .slice o ops.length c), (17, .int .i64 ((ops.length : Nat) : Int)), (18, .int .i64 ((i : Nat) : Int))] [] ga gw) ops.length ⟨0, ss0, hd0, Nat.zero_le _, rfl, ss0_wf, (h28.slotsMono (restr_spec (keep := [3, 16, 17, 18]) rfl))⟩ ?_
    clear h28
    rintro g a29 w30 ⟨i, s, d, hi32, hi33, hi34, h31⟩
    have hi := hi32
    have hg := hi33
    have hwf := hi34
    have hfB := hwf.lg.fin
    have hel := hwf.lg.len
    have hml := hwf.lg.mlen
    have hsl := hwf.lg.slen
    refine wp_seq_k fun K35 hK35 => ?_
    refine nd_start (l := [0]) rfl ?_
    refine nd_batch tabOk tabZ_ok [(0, {})] [3, 16, 17, 18, 19] (T' := [(3, .pointer (some ⟨bs, 0, none⟩)), (16, .slice o ops.length c), (17, .int .i64 ((ops.length : Nat) : Int)), (18, .int .i64 ((i : Nat) : Int)), (19, .bool (decide (((i : Nat) : Int) < ((ops.length : Nat) : Int))))]) (φ := True) (rest := []) h31 (by kernel_rfl) rfl trivial fun a36 h37 => ?_
    clear h31
    refine nd_done ?_
    refine hK35 _ _ ?_
    clear hK35
    refine wp_seq_k fun K38 hK38 => ?_
    refine c_split h37 (b := decide (((i : Nat) : Int) < ((ops.length : Nat) : Int))) rfl (fun hc39 => ?_) (fun hc39 => ?_)
    ·
      have hc39f : ((i : Nat) : Int) < ((ops.length : Nat) : Int) := by simpa using hc39
      obtain ⟨x, hx⟩ := Sx.get_some (xs := ops) (i := i) (by omega)
      have hxok := hok x (List.mem_of_getElem? hx)
      obtain ⟨sb40, k041, ho42, hb43, hc44⟩ := hscr.get hx
      subst ho42
      refine wp_skip ?_
      refine hK38 _ _ ?_
      clear hK38
      refine wp_seq_k fun K45 hK45 => ?_
      refine wp_block ?_
      refine wp_seq_k fun K46 hK46 => ?_
      refine nd_start (l := [0, 1, 2, 3]) rfl ?_
      refine nd_batch tabOk tabZ_ok [(0, {})] [3, 16, 17, 18, 20] (T' := [(3, .pointer (some ⟨bs, 0, none⟩)), (16, .slice (some ⟨sb40, k041, none⟩) ops.length c), (17, .int .i64 ((ops.length : Nat) : Int)), (18, .int .i64 ((i : Nat) : Int)), (20, .pointer (some ⟨sb40, k041 + (i * 6), none⟩))]) (φ := (0 ≤ ((i : Nat) : Int) ∧ ((i : Nat) : Int) < ((ops.length : Nat) : Int)) ∧ True) (rest := [1, 2, 3]) h37 (by kernel_rfl) rfl ⟨⟨by omega, by omega⟩, trivial⟩ fun a47 h48 => ?_
      clear h37
      refine nd_op ?_
      refine op_loadx tabOk (b := sb40) (k := k041 + (i * 6)) (vs := opC x) h48 rfl rfl rfl rfl rfl rfl rfl (CellsAt.fr (hc44 _ _ hx) h48.frame hb43) ?_
      have h49 := h48.put (d := some 21) (v := .agg #[.int .u8 x.kind, .int .i64 x.n, .int .i64 x.m, .int .u8 x.ev.kind, .int .u32 x.ev.pick, .int .u64 x.ev.arg]) (T' := [(21, .agg #[.int .u8 x.kind, .int .i64 x.n, .int .i64 x.m, .int .u8 x.ev.kind, .int .u32 x.ev.pick, .int .u64 x.ev.arg]), (3, .pointer (some ⟨bs, 0, none⟩)), (16, .slice (some ⟨sb40, k041, none⟩) ops.length c), (17, .int .i64 ((ops.length : Nat) : Int)), (18, .int .i64 ((i : Nat) : Int)), (20, .pointer (some ⟨sb40, k041 + (i * 6), none⟩))]) rfl
      clear h48
      refine nd_op ?_
      refine op_new tabOk (cells := [.int .u8 0, .int .i64 0, .int .i64 0, .int .u8 0, .int .u32 0, .int .u64 0]) (ty := 35) (ln := none) (L1 := fun b50 => [(b50, ⟨[.int .u8 0, .int .i64 0, .int .i64 0, .int .u8 0, .int .u32 0, .int .u64 0], 35, false⟩)]) h49 rfl rfl rfl rfl (by kernel_rfl) (fun _ => rfl) fun b50 w51 a52 h53 hf54 hn55 => ?_
      clear h49
      refine nd_op ?_
      refine op_store tabOk {k := 0} (L' := [(b50, ⟨[.int .u8 x.kind, .int .i64 x.n, .int .i64 x.m, .int .u8 x.ev.kind, .int .u32 x.ev.pick, .int .u64 x.ev.arg], 35, false⟩)]) (φ := b50 = b50 ∧ Nat.ble (0 + 6) 6 = true) h53 rfl rfl rfl (by kernel_rfl) ⟨rfl, rfl⟩ fun w56 h57 => ?_
      clear h53
      refine nd_done ?_
      refine hK46 _ _ ?_
      clear hK46
      refine wp_seq_k fun K58 hK58 => ?_
      refine nd_start (l := [0, 1, 2, 3, 4, 5, 6, 7, 8, 9, 10, 11, 12]) rfl ?_
      refine nd_batch tabOk tabZ_ok [(0, {})] [5, 3, 16, 17, 18, 22] (T' := [(5, .pointer (some ⟨b50, 0, none⟩)), (3, .pointer (some ⟨bs, 0, none⟩)), (16, .slice (some ⟨sb40, k041, none⟩) ops.length c), (17, .int .i64 ((ops.length : Nat) : Int)), (18, .int .i64 ((i : Nat) : Int)), (22, .pointer (some ⟨bs, 0, none⟩))]) (φ := True) (rest := [1, 2, 3, 4, 5, 6, 7, 8, 9, 10, 11, 12]) h57 (by kernel_rfl) rfl trivial fun a59 h60 => ?_
      clear h57
      refine nd_op ?_
      refine op_call h60 rfl rfl rfl (callOk Try.func17 (by decide) rfl) (args := [.pointer (some ⟨bs, 0, none⟩)]) rfl (slog_ok bs _ _ _ _ _ false _ (h60.inv.get (j := 0) (p := pSess bs bl d s) rfl).blk) ?_
      rintro _ w61 ⟨rfl, hf63⟩
      refine ⟨_, rfl, ?_⟩
      have h62 := (h60.grow hf63).put (d := some 23) (v := .pointer (some ⟨bl, 0, none⟩)) (T' := [(23, .pointer (some ⟨bl, 0, none⟩)), (5, .pointer (some ⟨b50, 0, none⟩)), (3, .pointer (some ⟨bs, 0, none⟩)), (16, .slice (some ⟨sb40, k041, none⟩) ops.length c), (17, .int .i64 ((ops.length : Nat) : Int)), (18, .int .i64 ((i : Nat) : Int)), (22, .pointer (some ⟨bs, 0, none⟩))]) rfl
      clear h60
      refine nd_op ?_
      refine op_call h62 rfl rfl rfl (callOk Try.func18 (by decide) rfl) (args := [.pointer (some ⟨bl, 0, none⟩)]) rfl (clone_ok bl _ s.lg _ (h62.inv.get (j := 0) (p := pSess bs bl d s) rfl).log (by omega) (by omega) (by omega)) ?_
      rintro _ w69 ⟨bq64, d65, rfl, hs66, hf67, hn68⟩
      refine ⟨_, rfl, ?_⟩
      have h70 := (h62.pcAdd (p' := pLog bq64 d65 s.lg) (ps' := [pSess bs bl d s, pLog bq64 d65 s.lg]) (pLog_ok hs66) hf67 hn68 rfl).put (d := some 24) (v := .pointer (some ⟨bq64, 0, none⟩)) (T' := [(24, .pointer (some ⟨bq64, 0, none⟩)), (23, .pointer (some ⟨bl, 0, none⟩)), (5, .pointer (some ⟨b50, 0, none⟩)), (3, .pointer (some ⟨bs, 0, none⟩)), (16, .slice (some ⟨sb40, k041, none⟩) ops.length c), (17, .int .i64 ((ops.length : Nat) : Int)), (18, .int .i64 ((i : Nat) : Int)), (22, .pointer (some ⟨bs, 0, none⟩))]) rfl
      have hszh70 : w.heap.size ≤ _ := h62.frame.size
      clear h62
      refine nd_batch tabOk tabZ_ok [(3, {})] [24, 5, 3, 16, 17, 18, 25] (T' := [(24, .pointer (some ⟨bq64, 0, none⟩)), (5, .pointer (some ⟨b50, 0, none⟩)), (3, .pointer (some ⟨bs, 0, none⟩)), (16, .slice (some ⟨sb40, k041, none⟩) ops.length c), (17, .int .i64 ((ops.length : Nat) : Int)), (18, .int .i64 ((i : Nat) : Int)), (25, .pointer (some ⟨bs, 0, none⟩))]) (φ := True) (rest := [4, 5, 6, 7, 8, 9, 10, 11, 12]) h70 (by kernel_rfl) rfl trivial fun a71 h72 => ?_
      clear h70
      refine nd_op ?_
      refine op_call h72 rfl rfl rfl (callOk Try.func15 (by decide) rfl) (args := [.pointer (some ⟨bs, 0, none⟩)]) rfl (smach_ok bs _ s.m _ _ _ false _ (h72.inv.get (j := 0) (p := pSess bs bl d s) rfl).blk) ?_
      rintro _ w73 ⟨rfl, hf75⟩
      refine ⟨_, rfl, ?_⟩
      have h74 := (h72.grow hf75).put (d := some 26) (v := .agg #[.int .u64 s.m.now, .int .i8 s.m.cur, .int .u8 s.m.s0, .int .u8 s.m.s1, .int .u8 s.m.s2, .int .u8 s.m.s3, .int .u64 s.m.r0, .int .u64 s.m.r1, .int .u64 s.m.r2, .int .u64 s.m.r3, .int .u64 s.m.word]) (T' := [(26, .agg #[.int .u64 s.m.now, .int .i8 s.m.cur, .int .u8 s.m.s0, .int .u8 s.m.s1, .int .u8 s.m.s2, .int .u8 s.m.s3, .int .u64 s.m.r0, .int .u64 s.m.r1, .int .u64 s.m.r2, .int .u64 s.m.r3, .int .u64 s.m.word]), (24, .pointer (some ⟨bq64, 0, none⟩)), (5, .pointer (some ⟨b50, 0, none⟩)), (3, .pointer (some ⟨bs, 0, none⟩)), (16, .slice (some ⟨sb40, k041, none⟩) ops.length c), (17, .int .i64 ((ops.length : Nat) : Int)), (18, .int .i64 ((i : Nat) : Int)), (25, .pointer (some ⟨bs, 0, none⟩))]) rfl
      clear h72
      refine nd_batch tabOk tabZ_ok [(5, {}), (6, {})] [26, 24, 5, 3, 16, 17, 18, 27, 28] (T' := [(26, .agg #[.int .u64 s.m.now, .int .i8 s.m.cur, .int .u8 s.m.s0, .int .u8 s.m.s1, .int .u8 s.m.s2, .int .u8 s.m.s3, .int .u64 s.m.r0, .int .u64 s.m.r1, .int .u64 s.m.r2, .int .u64 s.m.r3, .int .u64 s.m.word]), (24, .pointer (some ⟨bq64, 0, none⟩)), (5, .pointer (some ⟨b50, 0, none⟩)), (3, .pointer (some ⟨bs, 0, none⟩)), (16, .slice (some ⟨sb40, k041, none⟩) ops.length c), (17, .int .i64 ((ops.length : Nat) : Int)), (18, .int .i64 ((i : Nat) : Int)), (27, .pointer (some ⟨bs, 0, none⟩)), (28, .agg #[.int .u8 8, .int .i64 0, .int .i64 0, .int .u8 0, .int .u32 0, .int .u64 0])]) (φ := True) (rest := [7, 8, 9, 10, 11, 12]) h74 (by kernel_rfl) rfl trivial fun a76 h77 => ?_
      clear h74
      refine nd_op ?_
      refine op_call h77 rfl rfl rfl (callOk Try.func12 (by decide) rfl) (args := [.pointer (some ⟨bs, 0, none⟩), .agg #[.int .u8 8, .int .i64 0, .int .i64 0, .int .u8 0, .int .u32 0, .int .u64 0]]) rfl ((by have hq := do_ok bs bl d s _ (h77.inv.get (j := 0) (p := pSess bs bl d s) rfl) (B := (i : Int)) (by omega) hwf ⟨8, 0, 0, ⟨0, 0, 0⟩⟩ (opk_ok (by decide) (by decide)); rw [do_where] at hq; exact hq)) ?_
      rintro _ w82 ⟨d78, rfl, hs79, hf80, hF81⟩
      refine ⟨_, rfl, ?_⟩
      have h83 := (h77.pcSet (j := 0) (p := pSess bs bl d s) (p' := pSess bs bl d78 s) (ps' := [pSess bs bl d78 s, pLog bq64 d65 s.lg]) rfl (pSess_ok hs79) hf80 (fun _ h => h) (sess_sub hF81) (kcons (by intro hq; cases hq) knil) rfl).put (d := some 29) (v := .agg #[.int .u8 0, .int .i64 s.pos, .int .i64 s.lg.base.idx, .int .i64 s.lg.fin, .bool s.live, .bool s.out.refused, .int .i8 s.out.running, .int .u64 s.out.value, .int .u64 (dig s.m), .int .i64 s.pos, .int .i64 0, .int .i64 (-1)]) (T' := [(29, .agg #[.int .u8 0, .int .i64 s.pos, .int .i64 s.lg.base.idx, .int .i64 s.lg.fin, .bool s.live, .bool s.out.refused, .int .i8 s.out.running, .int .u64 s.out.value, .int .u64 (dig s.m), .int .i64 s.pos, .int .i64 0, .int .i64 (-1)]), (26, .agg #[.int .u64 s.m.now, .int .i8 s.m.cur, .int .u8 s.m.s0, .int .u8 s.m.s1, .int .u8 s.m.s2, .int .u8 s.m.s3, .int .u64 s.m.r0, .int .u64 s.m.r1, .int .u64 s.m.r2, .int .u64 s.m.r3, .int .u64 s.m.word]), (24, .pointer (some ⟨bq64, 0, none⟩)), (5, .pointer (some ⟨b50, 0, none⟩)), (3, .pointer (some ⟨bs, 0, none⟩)), (16, .slice (some ⟨sb40, k041, none⟩) ops.length c), (17, .int .i64 ((ops.length : Nat) : Int)), (18, .int .i64 ((i : Nat) : Int)), (27, .pointer (some ⟨bs, 0, none⟩)), (28, .agg #[.int .u8 8, .int .i64 0, .int .i64 0, .int .u8 0, .int .u32 0, .int .u64 0])]) rfl
      have hszh83 : w.heap.size ≤ _ := h77.frame.size
      clear h77
      refine nd_op ?_
      refine op_new tabOk (cells := [.int .u64 0, .int .i8 0, .int .u8 0, .int .u8 0, .int .u8 0, .int .u8 0, .int .u64 0, .int .u64 0, .int .u64 0, .int .u64 0, .int .u64 0]) (ty := 46) (ln := none) (L1 := fun b84 => [(b50, ⟨[.int .u8 x.kind, .int .i64 x.n, .int .i64 x.m, .int .u8 x.ev.kind, .int .u32 x.ev.pick, .int .u64 x.ev.arg], 35, false⟩), (b84, ⟨[.int .u64 0, .int .i8 0, .int .u8 0, .int .u8 0, .int .u8 0, .int .u8 0, .int .u64 0, .int .u64 0, .int .u64 0, .int .u64 0, .int .u64 0], 46, false⟩)]) h83 rfl rfl rfl rfl (by kernel_rfl) (fun _ => rfl) fun b84 w85 a86 h87 hf88 hn89 => ?_
      clear h83
      refine nd_op ?_
      refine op_new tabOk (cells := [.int .u8 0, .int .i64 0, .int .i64 0, .int .i64 0, .bool false, .bool false, .int .i8 0, .int .u64 0, .int .u64 0, .int .i64 0, .int .i64 0, .int .i64 0]) (ty := 41) (ln := none) (L1 := fun b90 => [(b50, ⟨[.int .u8 x.kind, .int .i64 x.n, .int .i64 x.m, .int .u8 x.ev.kind, .int .u32 x.ev.pick, .int .u64 x.ev.arg], 35, false⟩), (b84, ⟨[.int .u64 0, .int .i8 0, .int .u8 0, .int .u8 0, .int .u8 0, .int .u8 0, .int .u64 0, .int .u64 0, .int .u64 0, .int .u64 0, .int .u64 0], 46, false⟩), (b90, ⟨[.int .u8 0, .int .i64 0, .int .i64 0, .int .i64 0, .bool false, .bool false, .int .i8 0, .int .u64 0, .int .u64 0, .int .i64 0, .int .i64 0, .int .i64 0], 41, false⟩)]) h87 rfl rfl rfl rfl (by kernel_rfl) (fun _ => rfl) fun b90 w91 a92 h93 hf94 hn95 => ?_
      clear h87
      refine nd_batch tabOk tabZ_ok [(10, {})] [8, 7, 29, 26, 5, 3, 16, 17, 18, 6] (T' := [(8, .pointer (some ⟨b90, 0, none⟩)), (7, .pointer (some ⟨b84, 0, none⟩)), (29, .agg #[.int .u8 0, .int .i64 s.pos, .int .i64 s.lg.base.idx, .int .i64 s.lg.fin, .bool s.live, .bool s.out.refused, .int .i8 s.out.running, .int .u64 s.out.value, .int .u64 (dig s.m), .int .i64 s.pos, .int .i64 0, .int .i64 (-1)]), (26, .agg #[.int .u64 s.m.now, .int .i8 s.m.cur, .int .u8 s.m.s0, .int .u8 s.m.s1, .int .u8 s.m.s2, .int .u8 s.m.s3, .int .u64 s.m.r0, .int .u64 s.m.r1, .int .u64 s.m.r2, .int .u64 s.m.r3, .int .u64 s.m.word]), (5, .pointer (some ⟨b50, 0, none⟩)), (3, .pointer (some ⟨bs, 0, none⟩)), (16, .slice (some ⟨sb40, k041, none⟩) ops.length c), (17, .int .i64 ((ops.length : Nat) : Int)), (18, .int .i64 ((i : Nat) : Int)), (6, .pointer (some ⟨bq64, 0, none⟩))]) (φ := True) (rest := [11, 12]) h93 (by kernel_rfl) rfl trivial fun a96 h97 => ?_
      clear h93
      refine nd_op ?_
      refine op_store tabOk {k := 1} (L' := [(b50, ⟨[.int .u8 x.kind, .int .i64 x.n, .int .i64 x.m, .int .u8 x.ev.kind, .int .u32 x.ev.pick, .int .u64 x.ev.arg], 35, false⟩), (b84, ⟨[.int .u64 s.m.now, .int .i8 s.m.cur, .int .u8 s.m.s0, .int .u8 s.m.s1, .int .u8 s.m.s2, .int .u8 s.m.s3, .int .u64 s.m.r0, .int .u64 s.m.r1, .int .u64 s.m.r2, .int .u64 s.m.r3, .int .u64 s.m.word], 46, false⟩), (b90, ⟨[.int .u8 0, .int .i64 0, .int .i64 0, .int .i64 0, .bool false, .bool false, .int .i8 0, .int .u64 0, .int .u64 0, .int .i64 0, .int .i64 0, .int .i64 0], 41, false⟩)]) (φ := b84 = b84 ∧ Nat.ble (0 + 11) 11 = true) h97 rfl rfl rfl (by kernel_rfl) ⟨rfl, rfl⟩ fun w98 h99 => ?_
      clear h97
      refine nd_op ?_
      refine op_store tabOk {k := 2} (L' := [(b50, ⟨[.int .u8 x.kind, .int .i64 x.n, .int .i64 x.m, .int .u8 x.ev.kind, .int .u32 x.ev.pick, .int .u64 x.ev.arg], 35, false⟩), (b84, ⟨[.int .u64 s.m.now, .int .i8 s.m.cur, .int .u8 s.m.s0, .int .u8 s.m.s1, .int .u8 s.m.s2, .int .u8 s.m.s3, .int .u64 s.m.r0, .int .u64 s.m.r1, .int .u64 s.m.r2, .int .u64 s.m.r3, .int .u64 s.m.word], 46, false⟩), (b90, ⟨[.int .u8 0, .int .i64 s.pos, .int .i64 s.lg.base.idx, .int .i64 s.lg.fin, .bool s.live, .bool s.out.refused, .int .i8 s.out.running, .int .u64 s.out.value, .int .u64 (dig s.m), .int .i64 s.pos, .int .i64 0, .int .i64 (-1)], 41, false⟩)]) (φ := b90 = b90 ∧ Nat.ble (0 + 12) 12 = true) h99 rfl rfl rfl (by kernel_rfl) ⟨rfl, rfl⟩ fun w100 h101 => ?_
      clear h99
      refine nd_done ?_
      refine hK58 _ _ ?_
      clear hK58
      refine wp_seq_k fun K102 hK102 => ?_
      refine nd_start (l := [0, 1, 2, 3, 4]) rfl ?_
      refine nd_batch tabOk tabZ_ok [(0, {}), (1, {k := 0})] [8, 7, 5, 3, 16, 17, 18, 6, 30, 31] (T' := [(8, .pointer (some ⟨b90, 0, none⟩)), (7, .pointer (some ⟨b84, 0, none⟩)), (5, .pointer (some ⟨b50, 0, none⟩)), (3, .pointer (some ⟨bs, 0, none⟩)), (16, .slice (some ⟨sb40, k041, none⟩) ops.length c), (17, .int .i64 ((ops.length : Nat) : Int)), (18, .int .i64 ((i : Nat) : Int)), (6, .pointer (some ⟨bq64, 0, none⟩)), (30, .pointer (some ⟨bs, 0, none⟩)), (31, .agg #[.int .u8 x.kind, .int .i64 x.n, .int .i64 x.m, .int .u8 x.ev.kind, .int .u32 x.ev.pick, .int .u64 x.ev.arg])]) (φ := (b50 = b50 ∧ Nat.ble (0 + 6) 6 = true) ∧ True) (rest := [2, 3, 4]) h101 (by kernel_rfl) rfl ⟨⟨rfl, rfl⟩, trivial⟩ fun a103 h104 => ?_
      clear h101
      refine nd_op ?_
      refine op_call h104 rfl rfl rfl (callOk Try.func12 (by decide) rfl) (args := [.pointer (some ⟨bs, 0, none⟩), .agg #[.int .u8 x.kind, .int .i64 x.n, .int .i64 x.m, .int .u8 x.ev.kind, .int .u32 x.ev.pick, .int .u64 x.ev.arg]]) rfl (do_ok bs bl d78 s _ (h104.inv.get (j := 0) (p := pSess bs bl d78 s) rfl) (B := (i : Int)) (by omega) hwf x hxok) ?_
      rintro _ w109 ⟨d105, rfl, hs106, hf107, hF108⟩
      refine ⟨_, rfl, ?_⟩
      have h110 := (h104.pcSet (j := 0) (p := pSess bs bl d78 s) (p' := pSess bs bl d105 ((doR s x).2)) (ps' := [pSess bs bl d105 ((doR s x).2), pLog bq64 d65 s.lg]) rfl (pSess_ok hs106) hf107 (fun _ h => h) (sess_sub hF108) (kcons (by intro hq; cases hq) (kcons (by intro hq; cases hq) (kcons (by intro hq; cases hq) knil))) rfl).put (d := some 32) (v := .agg #[.int .u8 ((doR s x).1.code), .int .i64 ((doR s x).1.pos), .int .i64 ((doR s x).1.base), .int .i64 ((doR s x).1.fin), .bool ((doR s x).1.live), .bool ((doR s x).1.out.refused), .int .i8 ((doR s x).1.out.running), .int .u64 ((doR s x).1.out.value), .int .u64 ((doR s x).1.dig), .int .i64 ((doR s x).1.from_), .int .i64 ((doR s x).1.replayed), .int .i64 ((doR s x).1.at_)]) (T' := [(32, .agg #[.int .u8 ((doR s x).1.code), .int .i64 ((doR s x).1.pos), .int .i64 ((doR s x).1.base), .int .i64 ((doR s x).1.fin), .bool ((doR s x).1.live), .bool ((doR s x).1.out.refused), .int .i8 ((doR s x).1.out.running), .int .u64 ((doR s x).1.out.value), .int .u64 ((doR s x).1.dig), .int .i64 ((doR s x).1.from_), .int .i64 ((doR s x).1.replayed), .int .i64 ((doR s x).1.at_)]), (8, .pointer (some ⟨b90, 0, none⟩)), (7, .pointer (some ⟨b84, 0, none⟩)), (5, .pointer (some ⟨b50, 0, none⟩)), (3, .pointer (some ⟨bs, 0, none⟩)), (16, .slice (some ⟨sb40, k041, none⟩) ops.length c), (17, .int .i64 ((ops.length : Nat) : Int)), (18, .int .i64 ((i : Nat) : Int)), (6, .pointer (some ⟨bq64, 0, none⟩)), (30, .pointer (some ⟨bs, 0, none⟩)), (31, .agg #[.int .u8 x.kind, .int .i64 x.n, .int .i64 x.m, .int .u8 x.ev.kind, .int .u32 x.ev.pick, .int .u64 x.ev.arg])]) rfl
      have hszh110 : w.heap.size ≤ _ := h104.frame.size
      clear h104
      have hwf1 : (doR s x).2.wf ((i + 1 : Nat) : Int) := by have hq := do_wf hwf x hxok.2; rw [show ((i + 1 : Nat) : Int) = (i : Int) + 1 by omega]; exact hq
      refine nd_op ?_
      refine op_new tabOk (cells := [.int .u8 0, .int .i64 0, .int .i64 0, .int .i64 0, .bool false, .bool false, .int .i8 0, .int .u64 0, .int .u64 0, .int .i64 0, .int .i64 0, .int .i64 0]) (ty := 41) (ln := none) (L1 := fun b111 => [(b50, ⟨[.int .u8 x.kind, .int .i64 x.n, .int .i64 x.m, .int .u8 x.ev.kind, .int .u32 x.ev.pick, .int .u64 x.ev.arg], 35, false⟩), (b84, ⟨[.int .u64 s.m.now, .int .i8 s.m.cur, .int .u8 s.m.s0, .int .u8 s.m.s1, .int .u8 s.m.s2, .int .u8 s.m.s3, .int .u64 s.m.r0, .int .u64 s.m.r1, .int .u64 s.m.r2, .int .u64 s.m.r3, .int .u64 s.m.word], 46, false⟩), (b90, ⟨[.int .u8 0, .int .i64 s.pos, .int .i64 s.lg.base.idx, .int .i64 s.lg.fin, .bool s.live, .bool s.out.refused, .int .i8 s.out.running, .int .u64 s.out.value, .int .u64 (dig s.m), .int .i64 s.pos, .int .i64 0, .int .i64 (-1)], 41, false⟩), (b111, ⟨[.int .u8 0, .int .i64 0, .int .i64 0, .int .i64 0, .bool false, .bool false, .int .i8 0, .int .u64 0, .int .u64 0, .int .i64 0, .int .i64 0, .int .i64 0], 41, false⟩)]) h110 rfl rfl rfl rfl (by kernel_rfl) (fun _ => rfl) fun b111 w112 a113 h114 hf115 hn116 => ?_
      clear h110
      refine nd_op ?_
      refine op_store tabOk {k := 3} (L' := [(b50, ⟨[.int .u8 x.kind, .int .i64 x.n, .int .i64 x.m, .int .u8 x.ev.kind, .int .u32 x.ev.pick, .int .u64 x.ev.arg], 35, false⟩), (b84, ⟨[.int .u64 s.m.now, .int .i8 s.m.cur, .int .u8 s.m.s0, .int .u8 s.m.s1, .int .u8 s.m.s2, .int .u8 s.m.s3, .int .u64 s.m.r0, .int .u64 s.m.r1, .int .u64 s.m.r2, .int .u64 s.m.r3, .int .u64 s.m.word], 46, false⟩), (b90, ⟨[.int .u8 0, .int .i64 s.pos, .int .i64 s.lg.base.idx, .int .i64 s.lg.fin, .bool s.live, .bool s.out.refused, .int .i8 s.out.running, .int .u64 s.out.value, .int .u64 (dig s.m), .int .i64 s.pos, .int .i64 0, .int .i64 (-1)], 41, false⟩), (b111, ⟨[.int .u8 ((doR s x).1.code), .int .i64 ((doR s x).1.pos), .int .i64 ((doR s x).1.base), .int .i64 ((doR s x).1.fin), .bool ((doR s x).1.live), .bool ((doR s x).1.out.refused), .int .i8 ((doR s x).1.out.running), .int .u64 ((doR s x).1.out.value), .int .u64 ((doR s x).1.dig), .int .i64 ((doR s x).1.from_), .int .i64 ((doR s x).1.replayed), .int .i64 ((doR s x).1.at_)], 41, false⟩)]) (φ := b111 = b111 ∧ Nat.ble (0 + 12) 12 = true) h114 rfl rfl rfl (by kernel_rfl) ⟨rfl, rfl⟩ fun w117 h118 => ?_
      clear h114
      refine nd_done ?_
      refine hK102 _ _ ?_
      clear hK102
      refine wp_seq_k fun K119 hK119 => ?_
      rcases Bool.eq_false_or_eq_true ((x.kind == 8)) with hb120 | hb120
      ·
        have hb120f : x.kind = 8 := by simpa using hb120
        have hk8 : x.kind = 8 := hb120f
        refine nd_start (l := [0, 1, 2, 3, 4, 5, 6, 7, 8, 9, 10, 11, 12, 13]) rfl ?_
        refine nd_batch tabOk tabZ_ok [(0, {}), (1, {k := 0}), (2, {f := 2}), (3, {}), (4, {}), (5, {}), (6, {}), (7, {}), (8, {}), (9, {}), (10, {}), (11, {}), (12, {}), (13, {})] [9, 8, 7, 5, 3, 16, 17, 18, 6, 10] (T' := [(9, .pointer (some ⟨b111, 0, none⟩)), (8, .pointer (some ⟨b90, 0, none⟩)), (7, .pointer (some ⟨b84, 0, none⟩)), (5, .pointer (some ⟨b50, 0, none⟩)), (3, .pointer (some ⟨bs, 0, none⟩)), (16, .slice (some ⟨sb40, k041, none⟩) ops.length c), (17, .int .i64 ((ops.length : Nat) : Int)), (18, .int .i64 ((i : Nat) : Int)), (6, .pointer (some ⟨bq64, 0, none⟩)), (10, .bool true)]) (φ := (b50 = b50 ∧ Nat.ble (0 + 1) 6 = true) ∧ ((x.kind == 8)) = true ∧ True) (rest := []) h118 (by kernel_rfl) rfl ⟨⟨rfl, rfl⟩, hb120, trivial⟩ fun a121 h122 => ?_
        clear h118
        refine nd_done ?_
        refine hK119 _ _ ?_
        clear hK119
        refine wp_seq_k fun K123 hK123 => ?_
        rcases Bool.eq_false_or_eq_true ((x.kind == 1)) with hb124 | hb124
        ·
          have hb124f : x.kind = 1 := by simpa using hb124
          have hk1 : x.kind = 1 := hb124f
          omega
        ·
          have hb124f : x.kind ≠ 1 := by simpa using hb124
          have hk1 : x.kind ≠ 1 := hb124f
          refine nd_start (l := [0, 1, 2, 3, 4, 5, 6, 7, 8, 9, 10, 11, 12, 13, 14, 15, 16, 17]) rfl ?_
          refine nd_batch tabOk tabZ_ok [(0, {}), (1, {k := 0}), (2, {f := 1}), (3, {}), (4, {}), (5, {}), (6, {}), (7, {}), (8, {}), (9, {}), (10, {}), (11, {}), (12, {}), (13, {}), (14, {}), (15, {}), (16, {}), (17, {})] [9, 8, 7, 5, 3, 16, 17, 18, 6, 10, 11] (T' := [(9, .pointer (some ⟨b111, 0, none⟩)), (8, .pointer (some ⟨b90, 0, none⟩)), (7, .pointer (some ⟨b84, 0, none⟩)), (5, .pointer (some ⟨b50, 0, none⟩)), (3, .pointer (some ⟨bs, 0, none⟩)), (16, .slice (some ⟨sb40, k041, none⟩) ops.length c), (17, .int .i64 ((ops.length : Nat) : Int)), (18, .int .i64 ((i : Nat) : Int)), (6, .pointer (some ⟨bq64, 0, none⟩)), (10, .bool true), (11, .bool false)]) (φ := (b50 = b50 ∧ Nat.ble (0 + 1) 6 = true) ∧ ((x.kind == 1)) = false ∧ True) (rest := []) h122 (by kernel_rfl) rfl ⟨⟨rfl, rfl⟩, hb124, trivial⟩ fun a125 h126 => ?_
          clear h122
          refine nd_done ?_
          refine hK123 _ _ ?_
          clear hK123
          refine wp_seq_k fun K127 hK127 => ?_
          refine wp_seq_k fun K128 hK128 => ?_
          refine nd_start (l := [0, 1, 2, 3, 4, 5]) rfl ?_
          refine nd_batch tabOk tabZ_ok [(0, {}), (1, {}), (2, {}), (3, {}), (4, {}), (5, {})] [9, 8, 7, 5, 3, 16, 17, 18, 6, 10, 11, 68] (T' := [(9, .pointer (some ⟨b111, 0, none⟩)), (8, .pointer (some ⟨b90, 0, none⟩)), (7, .pointer (some ⟨b84, 0, none⟩)), (5, .pointer (some ⟨b50, 0, none⟩)), (3, .pointer (some ⟨bs, 0, none⟩)), (16, .slice (some ⟨sb40, k041, none⟩) ops.length c), (17, .int .i64 ((ops.length : Nat) : Int)), (18, .int .i64 ((i : Nat) : Int)), (6, .pointer (some ⟨bq64, 0, none⟩)), (10, .bool true), (11, .bool false), (68, .bool false)]) (φ := True) (rest := []) h126 (by kernel_rfl) rfl trivial fun a129 h130 => ?_
          clear h126
          refine nd_done ?_
          refine hK128 _ _ ?_
          clear hK128
          refine c_false h130 rfl ?_
          refine wp_skip ?_
          refine hK127 _ _ ?_
          clear hK127
          refine wp_seq_k fun K131 hK131 => ?_
          refine wp_seq_k fun K132 hK132 => ?_
          rcases Bool.eq_false_or_eq_true (((doR s x).1.code == 0)) with hb133 | hb133
          ·
            have hb133f : (doR s x).1.code = 0 := by simpa using hb133
            have hcode : (doR s x).1.code = 0 := hb133f
            refine nd_start (l := [0, 1, 2, 3, 4, 5, 6]) rfl ?_
            refine nd_batch tabOk tabZ_ok [(0, {}), (1, {k := 3}), (2, {f := 2}), (3, {}), (4, {}), (5, {}), (6, {})] [9, 8, 7, 5, 3, 16, 17, 18, 6, 10, 11, 75] (T' := [(9, .pointer (some ⟨b111, 0, none⟩)), (8, .pointer (some ⟨b90, 0, none⟩)), (7, .pointer (some ⟨b84, 0, none⟩)), (5, .pointer (some ⟨b50, 0, none⟩)), (3, .pointer (some ⟨bs, 0, none⟩)), (16, .slice (some ⟨sb40, k041, none⟩) ops.length c), (17, .int .i64 ((ops.length : Nat) : Int)), (18, .int .i64 ((i : Nat) : Int)), (6, .pointer (some ⟨bq64, 0, none⟩)), (10, .bool true), (11, .bool false), (75, .bool false)]) (φ := (b111 = b111 ∧ Nat.ble (0 + 1) 12 = true) ∧ (((doR s x).1.code == 0)) = true ∧ True) (rest := []) h130 (by kernel_rfl) rfl ⟨⟨rfl, rfl⟩, hb133, trivial⟩ fun a134 h135 => ?_
            clear h130
            refine nd_done ?_
            refine hK132 _ _ ?_
            clear hK132
            refine c_false h135 rfl ?_
            refine wp_skip ?_
            refine hK131 _ _ ?_
            clear hK131
            refine wp_seq_k fun K136 hK136 => ?_
            refine dr_start (KB := [b50, b84, b90, b111]) (Bi := [[0, 1, 2, 3], [0, 1, 2, 3], [], [], [0, 1, 2, 3], [0, 1, 2, 3], [0, 1, 2, 3], [0, 1, 2, 3], [1], [0, 1, 2, 3], [0, 1, 2, 3], [0, 1, 2, 3], [0, 1, 2, 3], [0, 1, 2, 3], [0, 1, 2, 3], [2], [0, 1, 2, 3], [0, 1, 2, 3]]) mixed h135 fun w137 h138 => ?_
            clear h135
            refine dr_batch tabOk tabZ_ok (by repeat (first | exact PF.body | with_reducible apply PF.inB | with_reducible apply PF.next)) [(0, {}), (1, {})] [9, 8, 7, 5, 3, 16, 17, 18, 6, 10, 11, 76, 77] (T' := [(9, .pointer (some ⟨b111, 0, none⟩)), (8, .pointer (some ⟨b90, 0, none⟩)), (7, .pointer (some ⟨b84, 0, none⟩)), (5, .pointer (some ⟨b50, 0, none⟩)), (3, .pointer (some ⟨bs, 0, none⟩)), (16, .slice (some ⟨sb40, k041, none⟩) ops.length c), (17, .int .i64 ((ops.length : Nat) : Int)), (18, .int .i64 ((i : Nat) : Int)), (6, .pointer (some ⟨bq64, 0, none⟩)), (10, .bool true), (11, .bool false), (76, .pointer (some ⟨bq64, 0, none⟩)), (77, .pointer (some ⟨bs, 0, none⟩))]) (φ := True) (fuel := 16) h138 (by kernel_rfl) rfl (by kernel_rfl) (by kernel_rfl) ⟨trivial, trivial, trivial⟩ trivial fun a140 h141 => ?_
            clear h138
            refine wpAnyK_one (i := 2) (fuel := 15) (by kernel_rfl) ?_
            have hsame : (doR s x).2 = s := do_same (.inr (.inr (.inr hk8)))
            rw [hsame] at h141
            refine op_call h141 rfl rfl rfl (callOk Try.func17 (by decide) rfl) (args := [.pointer (some ⟨bs, 0, none⟩)]) rfl (slog_ok bs _ _ _ _ _ false _ (h141.inv.get (j := 0) (p := pSess bs bl d105 s) rfl).blk) ?_
            rintro _ w142 ⟨rfl, hf144⟩
            refine ⟨_, rfl, ?_⟩
            have h143 := (h141.grow hf144).put (d := some 78) (v := .pointer (some ⟨bl, 0, none⟩)) (T' := [(78, .pointer (some ⟨bl, 0, none⟩)), (9, .pointer (some ⟨b111, 0, none⟩)), (8, .pointer (some ⟨b90, 0, none⟩)), (7, .pointer (some ⟨b84, 0, none⟩)), (5, .pointer (some ⟨b50, 0, none⟩)), (3, .pointer (some ⟨bs, 0, none⟩)), (16, .slice (some ⟨sb40, k041, none⟩) ops.length c), (17, .int .i64 ((ops.length : Nat) : Int)), (18, .int .i64 ((i : Nat) : Int)), (6, .pointer (some ⟨bq64, 0, none⟩)), (10, .bool true), (11, .bool false), (76, .pointer (some ⟨bq64, 0, none⟩)), (77, .pointer (some ⟨bs, 0, none⟩))]) rfl
            refine ⟨keepNil, ?_⟩
            clear h141
            refine wpAnyK_one (i := 3) (fuel := 14) (by kernel_rfl) ?_
            refine op_call h143 rfl rfl rfl (callOk Try.func16 (by decide) rfl) (args := [.pointer (some ⟨bq64, 0, none⟩), .pointer (some ⟨bl, 0, none⟩)]) rfl (sameLog_ok bq64 bl d65 d105 s.lg _ (h143.inv.get (j := 1) (p := pLog bq64 d65 s.lg) rfl) (h143.inv.get (j := 0) (p := pSess bs bl d105 s) rfl).log (fun b hb hq => Pf_nodup h143.inv.nd (i := 1) (j := 0) (x := pLog bq64 d65 s.lg) (y := pSess bs bl d105 s) rfl rfl (by decide) b hb (List.mem_cons_of_mem _ hq)) (by omega) (by omega) (by omega)) ?_
            rintro _ w145 ⟨rfl, hf147⟩
            refine ⟨_, rfl, ?_⟩
            have h146 := (h143.grow hf147).put (d := some 79) (v := .bool true) (T' := [(79, .bool true), (78, .pointer (some ⟨bl, 0, none⟩)), (9, .pointer (some ⟨b111, 0, none⟩)), (8, .pointer (some ⟨b90, 0, none⟩)), (7, .pointer (some ⟨b84, 0, none⟩)), (5, .pointer (some ⟨b50, 0, none⟩)), (3, .pointer (some ⟨bs, 0, none⟩)), (16, .slice (some ⟨sb40, k041, none⟩) ops.length c), (17, .int .i64 ((ops.length : Nat) : Int)), (18, .int .i64 ((i : Nat) : Int)), (6, .pointer (some ⟨bq64, 0, none⟩)), (10, .bool true), (11, .bool false), (76, .pointer (some ⟨bq64, 0, none⟩)), (77, .pointer (some ⟨bs, 0, none⟩))]) rfl
            refine ⟨keepNil, ?_⟩
            clear h143
            refine dr_batch tabOk tabZ_ok (by repeat (first | exact PF.body | with_reducible apply PF.inB | with_reducible apply PF.next)) [(4, {}), (5, {}), (6, {k := 1, p := 1}), (7, {})] [9, 8, 7, 5, 3, 16, 17, 18, 6, 10, 11, 81, 82, 83] (T' := [(9, .pointer (some ⟨b111, 0, none⟩)), (8, .pointer (some ⟨b90, 0, none⟩)), (7, .pointer (some ⟨b84, 0, none⟩)), (5, .pointer (some ⟨b50, 0, none⟩)), (3, .pointer (some ⟨bs, 0, none⟩)), (16, .slice (some ⟨sb40, k041, none⟩) ops.length c), (17, .int .i64 ((ops.length : Nat) : Int)), (18, .int .i64 ((i : Nat) : Int)), (6, .pointer (some ⟨bq64, 0, none⟩)), (10, .bool true), (11, .bool false), (81, .bool false), (82, .agg #[.int .u64 s.m.now, .int .i8 s.m.cur, .int .u8 s.m.s0, .int .u8 s.m.s1, .int .u8 s.m.s2, .int .u8 s.m.s3, .int .u64 s.m.r0, .int .u64 s.m.r1, .int .u64 s.m.r2, .int .u64 s.m.r3, .int .u64 s.m.word]), (83, .pointer (some ⟨bs, 0, none⟩))]) (φ := (b84 = b84 ∧ Nat.ble (0 + 11) 11 = true) ∧ True) (fuel := 10) h146 (by kernel_rfl) rfl (by kernel_rfl) (by kernel_rfl) ⟨trivial, trivial, rfl, trivial, trivial⟩ ⟨⟨rfl, rfl⟩, trivial⟩ fun a148 h149 => ?_
            clear h146
            refine wpAnyK_one (i := 8) (fuel := 9) (by kernel_rfl) ?_
            refine op_call h149 rfl rfl rfl (callOk Try.func15 (by decide) rfl) (args := [.pointer (some ⟨bs, 0, none⟩)]) rfl (smach_ok bs _ s.m _ _ _ false _ (h149.inv.get (j := 0) (p := pSess bs bl d105 s) rfl).blk) ?_
            rintro _ w150 ⟨rfl, hf152⟩
            refine ⟨_, rfl, ?_⟩
            have h151 := (h149.grow hf152).put (d := some 84) (v := .agg #[.int .u64 s.m.now, .int .i8 s.m.cur, .int .u8 s.m.s0, .int .u8 s.m.s1, .int .u8 s.m.s2, .int .u8 s.m.s3, .int .u64 s.m.r0, .int .u64 s.m.r1, .int .u64 s.m.r2, .int .u64 s.m.r3, .int .u64 s.m.word]) (T' := [(84, .agg #[.int .u64 s.m.now, .int .i8 s.m.cur, .int .u8 s.m.s0, .int .u8 s.m.s1, .int .u8 s.m.s2, .int .u8 s.m.s3, .int .u64 s.m.r0, .int .u64 s.m.r1, .int .u64 s.m.r2, .int .u64 s.m.r3, .int .u64 s.m.word]), (9, .pointer (some ⟨b111, 0, none⟩)), (8, .pointer (some ⟨b90, 0, none⟩)), (7, .pointer (some ⟨b84, 0, none⟩)), (5, .pointer (some ⟨b50, 0, none⟩)), (3, .pointer (some ⟨bs, 0, none⟩)), (16, .slice (some ⟨sb40, k041, none⟩) ops.length c), (17, .int .i64 ((ops.length : Nat) : Int)), (18, .int .i64 ((i : Nat) : Int)), (6, .pointer (some ⟨bq64, 0, none⟩)), (10, .bool true), (11, .bool false), (81, .bool false), (82, .agg #[.int .u64 s.m.now, .int .i8 s.m.cur, .int .u8 s.m.s0, .int .u8 s.m.s1, .int .u8 s.m.s2, .int .u8 s.m.s3, .int .u64 s.m.r0, .int .u64 s.m.r1, .int .u64 s.m.r2, .int .u64 s.m.r3, .int .u64 s.m.word]), (83, .pointer (some ⟨bs, 0, none⟩))]) rfl
            refine ⟨(h149.keepFr hf152 (kcons (by simp) knil)), ?_⟩
            clear h149
            refine dr_batch tabOk tabZ_ok (by repeat (first | exact PF.body | with_reducible apply PF.inB | with_reducible apply PF.next)) [(9, {f := 1}), (10, {}), (11, {}), (12, {k := 2, p := 2}), (13, {}), (14, {})] [9, 8, 7, 5, 3, 16, 17, 18, 6, 10, 11, 87, 88, 89, 90] (T' := [(9, .pointer (some ⟨b111, 0, none⟩)), (8, .pointer (some ⟨b90, 0, none⟩)), (7, .pointer (some ⟨b84, 0, none⟩)), (5, .pointer (some ⟨b50, 0, none⟩)), (3, .pointer (some ⟨bs, 0, none⟩)), (16, .slice (some ⟨sb40, k041, none⟩) ops.length c), (17, .int .i64 ((ops.length : Nat) : Int)), (18, .int .i64 ((i : Nat) : Int)), (6, .pointer (some ⟨bq64, 0, none⟩)), (10, .bool true), (11, .bool false), (87, .bool false), (88, .agg #[.int .u8 0, .int .i64 s.pos, .int .i64 s.lg.base.idx, .int .i64 s.lg.fin, .bool s.live, .bool s.out.refused, .int .i8 s.out.running, .int .u64 s.out.value, .int .u64 (dig s.m), .int .i64 s.pos, .int .i64 0, .int .i64 (-1)]), (89, .pointer (some ⟨bs, 0, none⟩)), (90, .agg #[.int .u8 8, .int .i64 0, .int .i64 0, .int .u8 0, .int .u32 0, .int .u64 0])]) (φ := EqRun Try.prog 46 (.agg #[.int .u64 s.m.now, .int .i8 s.m.cur, .int .u8 s.m.s0, .int .u8 s.m.s1, .int .u8 s.m.s2, .int .u8 s.m.s3, .int .u64 s.m.r0, .int .u64 s.m.r1, .int .u64 s.m.r2, .int .u64 s.m.r3, .int .u64 s.m.word]) (.agg #[.int .u64 s.m.now, .int .i8 s.m.cur, .int .u8 s.m.s0, .int .u8 s.m.s1, .int .u8 s.m.s2, .int .u8 s.m.s3, .int .u64 s.m.r0, .int .u64 s.m.r1, .int .u64 s.m.r2, .int .u64 s.m.r3, .int .u64 s.m.word]) true ∧ (b90 = b90 ∧ Nat.ble (0 + 12) 12 = true) ∧ True) (fuel := 3) h151 (by kernel_rfl) rfl (by kernel_rfl) (by kernel_rfl) ⟨trivial, trivial, trivial, rfl, trivial, trivial, trivial⟩ ⟨(run46s s.m), ⟨rfl, rfl⟩, trivial⟩ fun a153 h154 => ?_
            clear h151
            refine wpAnyK_one (i := 15) (fuel := 2) (by kernel_rfl) ?_
            refine op_call h154 rfl rfl rfl (callOk Try.func12 (by decide) rfl) (args := [.pointer (some ⟨bs, 0, none⟩), .agg #[.int .u8 8, .int .i64 0, .int .i64 0, .int .u8 0, .int .u32 0, .int .u64 0]]) rfl ((by have hq := do_ok bs bl d105 s _ (h154.inv.get (j := 0) (p := pSess bs bl d105 s) rfl) (B := (i : Int)) (by omega) hwf ⟨8, 0, 0, ⟨0, 0, 0⟩⟩ (opk_ok (by decide) (by decide)); rw [do_where] at hq; exact hq)) ?_
            rintro _ w159 ⟨d155, rfl, hs156, hf157, hF158⟩
            refine ⟨_, rfl, ?_⟩
            have h160 := (h154.pcSet (j := 0) (p := pSess bs bl d105 s) (p' := pSess bs bl d155 s) (ps' := [pSess bs bl d155 s, pLog bq64 d65 s.lg]) rfl (pSess_ok hs156) hf157 (fun _ h => h) (sess_sub hF158) (kcons (by intro hq; cases hq) (kcons (by intro hq; cases hq) (kcons (by intro hq; cases hq) (kcons (by intro hq; cases hq) knil)))) rfl).put (d := some 91) (v := .agg #[.int .u8 0, .int .i64 s.pos, .int .i64 s.lg.base.idx, .int .i64 s.lg.fin, .bool s.live, .bool s.out.refused, .int .i8 s.out.running, .int .u64 s.out.value, .int .u64 (dig s.m), .int .i64 s.pos, .int .i64 0, .int .i64 (-1)]) (T' := [(91, .agg #[.int .u8 0, .int .i64 s.pos, .int .i64 s.lg.base.idx, .int .i64 s.lg.fin, .bool s.live, .bool s.out.refused, .int .i8 s.out.running, .int .u64 s.out.value, .int .u64 (dig s.m), .int .i64 s.pos, .int .i64 0, .int .i64 (-1)]), (9, .pointer (some ⟨b111, 0, none⟩)), (8, .pointer (some ⟨b90, 0, none⟩)), (7, .pointer (some ⟨b84, 0, none⟩)), (5, .pointer (some ⟨b50, 0, none⟩)), (3, .pointer (some ⟨bs, 0, none⟩)), (16, .slice (some ⟨sb40, k041, none⟩) ops.length c), (17, .int .i64 ((ops.length : Nat) : Int)), (18, .int .i64 ((i : Nat) : Int)), (6, .pointer (some ⟨bq64, 0, none⟩)), (10, .bool true), (11, .bool false), (87, .bool false), (88, .agg #[.int .u8 0, .int .i64 s.pos, .int .i64 s.lg.base.idx, .int .i64 s.lg.fin, .bool s.live, .bool s.out.refused, .int .i8 s.out.running, .int .u64 s.out.value, .int .u64 (dig s.m), .int .i64 s.pos, .int .i64 0, .int .i64 (-1)]), (89, .pointer (some ⟨bs, 0, none⟩)), (90, .agg #[.int .u8 8, .int .i64 0, .int .i64 0, .int .u8 0, .int .u32 0, .int .u64 0])]) rfl
            have hkh160 := h154.known
            refine ⟨(keepOf hkh160 h160.known (kcons (keepAt (q := 2) (q' := 2) rfl rfl) knil)), ?_⟩
            have hszh160 : w.heap.size ≤ _ := h154.frame.size
            clear h154
            refine dr_batch tabOk tabZ_ok (by repeat (first | exact PF.body | with_reducible apply PF.inB | with_reducible apply PF.next)) [(16, {f := 1}), (17, {})] [9, 8, 7, 5, 3, 16, 17, 18, 6, 10, 11, 93] (T' := [(9, .pointer (some ⟨b111, 0, none⟩)), (8, .pointer (some ⟨b90, 0, none⟩)), (7, .pointer (some ⟨b84, 0, none⟩)), (5, .pointer (some ⟨b50, 0, none⟩)), (3, .pointer (some ⟨bs, 0, none⟩)), (16, .slice (some ⟨sb40, k041, none⟩) ops.length c), (17, .int .i64 ((ops.length : Nat) : Int)), (18, .int .i64 ((i : Nat) : Int)), (6, .pointer (some ⟨bq64, 0, none⟩)), (10, .bool true), (11, .bool false), (93, .bool false)]) (φ := EqRun Try.prog 41 (.agg #[.int .u8 0, .int .i64 s.pos, .int .i64 s.lg.base.idx, .int .i64 s.lg.fin, .bool s.live, .bool s.out.refused, .int .i8 s.out.running, .int .u64 s.out.value, .int .u64 (dig s.m), .int .i64 s.pos, .int .i64 0, .int .i64 (-1)]) (.agg #[.int .u8 0, .int .i64 s.pos, .int .i64 s.lg.base.idx, .int .i64 s.lg.fin, .bool s.live, .bool s.out.refused, .int .i8 s.out.running, .int .u64 s.out.value, .int .u64 (dig s.m), .int .i64 s.pos, .int .i64 0, .int .i64 (-1)]) true ∧ True) (fuel := 0) h160 (by kernel_rfl) rfl (by kernel_rfl) (by kernel_rfl) ⟨trivial, trivial, trivial⟩ ⟨(run41s (s.stat 0)), trivial⟩ fun a161 h162 => ?_
            clear h160
            refine wpAnyK_done (by kernel_rfl) ?_ _
            refine hK136 _ _ ?_
            clear hK136
            refine c_false h162 rfl ?_
            refine wp_skip ?_
            refine hK45 _ _ ?_
            clear hK45
            refine nd_start (l := [0, 1]) rfl ?_
            refine nd_batch tabOk tabZ_ok [(0, {}), (1, {})] [9, 8, 7, 5, 3, 16, 17, 6, 10, 11, 18] (T' := [(9, .pointer (some ⟨b111, 0, none⟩)), (8, .pointer (some ⟨b90, 0, none⟩)), (7, .pointer (some ⟨b84, 0, none⟩)), (5, .pointer (some ⟨b50, 0, none⟩)), (3, .pointer (some ⟨bs, 0, none⟩)), (16, .slice (some ⟨sb40, k041, none⟩) ops.length c), (17, .int .i64 ((ops.length : Nat) : Int)), (6, .pointer (some ⟨bq64, 0, none⟩)), (10, .bool true), (11, .bool false), (18, .int .i64 (((i : Nat) : Int) + 1))]) (φ := inR .i64 (((i : Nat) : Int) + 1) ∧ True) (rest := []) h162 (by kernel_rfl) rfl ⟨⟨by omega, by omega⟩, trivial⟩ fun a163 h164 => ?_
            clear h162
            refine nd_done ?_
            have h165 := h164.memMono (L' := []) (List.Sublist.cons _ (List.Sublist.cons _ (List.Sublist.cons _ (List.Sublist.cons _ List.Sublist.slnil))))
            clear h164
            have h166 := h165.pcSub (ps' := [pSess bs bl d155 s]) (List.Sublist.cons_cons _ (List.Sublist.cons _ List.Sublist.slnil))
            clear h165
            exact ⟨(g - 1), by omega, (i + 1), s, d155, by omega, by omega, (hwf.mono (by omega)), (h166.slotsMono (restr_spec (keep := [3, 16, 17, 18]) rfl))⟩
          ·
            have hb133f : (doR s x).1.code ≠ 0 := by simpa using hb133
            have hcode : (doR s x).1.code ≠ 0 := hb133f
            refine nd_start (l := [0, 1, 2, 3, 4, 5, 6]) rfl ?_
            refine nd_batch tabOk tabZ_ok [(0, {}), (1, {k := 3}), (2, {f := 1}), (3, {}), (4, {}), (5, {}), (6, {})] [9, 8, 7, 5, 3, 16, 17, 18, 6, 10, 11, 75] (T' := [(9, .pointer (some ⟨b111, 0, none⟩)), (8, .pointer (some ⟨b90, 0, none⟩)), (7, .pointer (some ⟨b84, 0, none⟩)), (5, .pointer (some ⟨b50, 0, none⟩)), (3, .pointer (some ⟨bs, 0, none⟩)), (16, .slice (some ⟨sb40, k041, none⟩) ops.length c), (17, .int .i64 ((ops.length : Nat) : Int)), (18, .int .i64 ((i : Nat) : Int)), (6, .pointer (some ⟨bq64, 0, none⟩)), (10, .bool true), (11, .bool false), (75, .bool false)]) (φ := (b111 = b111 ∧ Nat.ble (0 + 1) 12 = true) ∧ (((doR s x).1.code == 0)) = false ∧ True) (rest := []) h130 (by kernel_rfl) rfl ⟨⟨rfl, rfl⟩, hb133, trivial⟩ fun a167 h168 => ?_
            clear h130
            refine nd_done ?_
            refine hK132 _ _ ?_
            clear hK132
            refine c_false h168 rfl ?_
            refine wp_skip ?_
            refine hK131 _ _ ?_
            clear hK131
            refine wp_seq_k fun K169 hK169 => ?_
            refine dr_start (KB := [b50, b84, b90, b111]) (Bi := [[0, 1, 2, 3], [0, 1, 2, 3], [], [], [0, 1, 2, 3], [0, 1, 2, 3], [0, 1, 2, 3], [0, 1, 2, 3], [1], [0, 1, 2, 3], [0, 1, 2, 3], [0, 1, 2, 3], [0, 1, 2, 3], [0, 1, 2, 3], [0, 1, 2, 3], [2], [0, 1, 2, 3], [0, 1, 2, 3]]) mixed h168 fun w170 h171 => ?_
            clear h168
            refine dr_batch tabOk tabZ_ok (by repeat (first | exact PF.body | with_reducible apply PF.inB | with_reducible apply PF.next)) [(0, {}), (1, {})] [9, 8, 7, 5, 3, 16, 17, 18, 6, 10, 11, 76, 77] (T' := [(9, .pointer (some ⟨b111, 0, none⟩)), (8, .pointer (some ⟨b90, 0, none⟩)), (7, .pointer (some ⟨b84, 0, none⟩)), (5, .pointer (some ⟨b50, 0, none⟩)), (3, .pointer (some ⟨bs, 0, none⟩)), (16, .slice (some ⟨sb40, k041, none⟩) ops.length c), (17, .int .i64 ((ops.length : Nat) : Int)), (18, .int .i64 ((i : Nat) : Int)), (6, .pointer (some ⟨bq64, 0, none⟩)), (10, .bool true), (11, .bool false), (76, .pointer (some ⟨bq64, 0, none⟩)), (77, .pointer (some ⟨bs, 0, none⟩))]) (φ := True) (fuel := 16) h171 (by kernel_rfl) rfl (by kernel_rfl) (by kernel_rfl) ⟨trivial, trivial, trivial⟩ trivial fun a173 h174 => ?_
            clear h171
            refine wpAnyK_one (i := 2) (fuel := 15) (by kernel_rfl) ?_
            have hsame : (doR s x).2 = s := do_same (.inl hcode)
            rw [hsame] at h174
            refine op_call h174 rfl rfl rfl (callOk Try.func17 (by decide) rfl) (args := [.pointer (some ⟨bs, 0, none⟩)]) rfl (slog_ok bs _ _ _ _ _ false _ (h174.inv.get (j := 0) (p := pSess bs bl d105 s) rfl).blk) ?_
            rintro _ w175 ⟨rfl, hf177⟩
            refine ⟨_, rfl, ?_⟩
            have h176 := (h174.grow hf177).put (d := some 78) (v := .pointer (some ⟨bl, 0, none⟩)) (T' := [(78, .pointer (some ⟨bl, 0, none⟩)), (9, .pointer (some ⟨b111, 0, none⟩)), (8, .pointer (some ⟨b90, 0, none⟩)), (7, .pointer (some ⟨b84, 0, none⟩)), (5, .pointer (some ⟨b50, 0, none⟩)), (3, .pointer (some ⟨bs, 0, none⟩)), (16, .slice (some ⟨sb40, k041, none⟩) ops.length c), (17, .int .i64 ((ops.length : Nat) : Int)), (18, .int .i64 ((i : Nat) : Int)), (6, .pointer (some ⟨bq64, 0, none⟩)), (10, .bool true), (11, .bool false), (76, .pointer (some ⟨bq64, 0, none⟩)), (77, .pointer (some ⟨bs, 0, none⟩))]) rfl
            refine ⟨keepNil, ?_⟩
            clear h174
            refine wpAnyK_one (i := 3) (fuel := 14) (by kernel_rfl) ?_
            refine op_call h176 rfl rfl rfl (callOk Try.func16 (by decide) rfl) (args := [.pointer (some ⟨bq64, 0, none⟩), .pointer (some ⟨bl, 0, none⟩)]) rfl (sameLog_ok bq64 bl d65 d105 s.lg _ (h176.inv.get (j := 1) (p := pLog bq64 d65 s.lg) rfl) (h176.inv.get (j := 0) (p := pSess bs bl d105 s) rfl).log (fun b hb hq => Pf_nodup h176.inv.nd (i := 1) (j := 0) (x := pLog bq64 d65 s.lg) (y := pSess bs bl d105 s) rfl rfl (by decide) b hb (List.mem_cons_of_mem _ hq)) (by omega) (by omega) (by omega)) ?_
            rintro _ w178 ⟨rfl, hf180⟩
            refine ⟨_, rfl, ?_⟩
            have h179 := (h176.grow hf180).put (d := some 79) (v := .bool true) (T' := [(79, .bool true), (78, .pointer (some ⟨bl, 0, none⟩)), (9, .pointer (some ⟨b111, 0, none⟩)), (8, .pointer (some ⟨b90, 0, none⟩)), (7, .pointer (some ⟨b84, 0, none⟩)), (5, .pointer (some ⟨b50, 0, none⟩)), (3, .pointer (some ⟨bs, 0, none⟩)), (16, .slice (some ⟨sb40, k041, none⟩) ops.length c), (17, .int .i64 ((ops.length : Nat) : Int)), (18, .int .i64 ((i : Nat) : Int)), (6, .pointer (some ⟨bq64, 0, none⟩)), (10, .bool true), (11, .bool false), (76, .pointer (some ⟨bq64, 0, none⟩)), (77, .pointer (some ⟨bs, 0, none⟩))]) rfl
            refine ⟨keepNil, ?_⟩
            clear h176
            refine dr_batch tabOk tabZ_ok (by repeat (first | exact PF.body | with_reducible apply PF.inB | with_reducible apply PF.next)) [(4, {}), (5, {}), (6, {k := 1, p := 1}), (7, {})] [9, 8, 7, 5, 3, 16, 17, 18, 6, 10, 11, 81, 82, 83] (T' := [(9, .pointer (some ⟨b111, 0, none⟩)), (8, .pointer (some ⟨b90, 0, none⟩)), (7, .pointer (some ⟨b84, 0, none⟩)), (5, .pointer (some ⟨b50, 0, none⟩)), (3, .pointer (some ⟨bs, 0, none⟩)), (16, .slice (some ⟨sb40, k041, none⟩) ops.length c), (17, .int .i64 ((ops.length : Nat) : Int)), (18, .int .i64 ((i : Nat) : Int)), (6, .pointer (some ⟨bq64, 0, none⟩)), (10, .bool true), (11, .bool false), (81, .bool false), (82, .agg #[.int .u64 s.m.now, .int .i8 s.m.cur, .int .u8 s.m.s0, .int .u8 s.m.s1, .int .u8 s.m.s2, .int .u8 s.m.s3, .int .u64 s.m.r0, .int .u64 s.m.r1, .int .u64 s.m.r2, .int .u64 s.m.r3, .int .u64 s.m.word]), (83, .pointer (some ⟨bs, 0, none⟩))]) (φ := (b84 = b84 ∧ Nat.ble (0 + 11) 11 = true) ∧ True) (fuel := 10) h179 (by kernel_rfl) rfl (by kernel_rfl) (by kernel_rfl) ⟨trivial, trivial, rfl, trivial, trivial⟩ ⟨⟨rfl, rfl⟩, trivial⟩ fun a181 h182 => ?_
            clear h179
            refine wpAnyK_one (i := 8) (fuel := 9) (by kernel_rfl) ?_
            refine op_call h182 rfl rfl rfl (callOk Try.func15 (by decide) rfl) (args := [.pointer (some ⟨bs, 0, none⟩)]) rfl (smach_ok bs _ s.m _ _ _ false _ (h182.inv.get (j := 0) (p := pSess bs bl d105 s) rfl).blk) ?_
            rintro _ w183 ⟨rfl, hf185⟩
            refine ⟨_, rfl, ?_⟩
            have h184 := (h182.grow hf185).put (d := some 84) (v := .agg #[.int .u64 s.m.now, .int .i8 s.m.cur, .int .u8 s.m.s0, .int .u8 s.m.s1, .int .u8 s.m.s2, .int .u8 s.m.s3, .int .u64 s.m.r0, .int .u64 s.m.r1, .int .u64 s.m.r2, .int .u64 s.m.r3, .int .u64 s.m.word]) (T' := [(84, .agg #[.int .u64 s.m.now, .int .i8 s.m.cur, .int .u8 s.m.s0, .int .u8 s.m.s1, .int .u8 s.m.s2, .int .u8 s.m.s3, .int .u64 s.m.r0, .int .u64 s.m.r1, .int .u64 s.m.r2, .int .u64 s.m.r3, .int .u64 s.m.word]), (9, .pointer (some ⟨b111, 0, none⟩)), (8, .pointer (some ⟨b90, 0, none⟩)), (7, .pointer (some ⟨b84, 0, none⟩)), (5, .pointer (some ⟨b50, 0, none⟩)), (3, .pointer (some ⟨bs, 0, none⟩)), (16, .slice (some ⟨sb40, k041, none⟩) ops.length c), (17, .int .i64 ((ops.length : Nat) : Int)), (18, .int .i64 ((i : Nat) : Int)), (6, .pointer (some ⟨bq64, 0, none⟩)), (10, .bool true), (11, .bool false), (81, .bool false), (82, .agg #[.int .u64 s.m.now, .int .i8 s.m.cur, .int .u8 s.m.s0, .int .u8 s.m.s1, .int .u8 s.m.s2, .int .u8 s.m.s3, .int .u64 s.m.r0, .int .u64 s.m.r1, .int .u64 s.m.r2, .int .u64 s.m.r3, .int .u64 s.m.word]), (83, .pointer (some ⟨bs, 0, none⟩))]) rfl
            refine ⟨(h182.keepFr hf185 (kcons (by simp) knil)), ?_⟩
            clear h182
            refine dr_batch tabOk tabZ_ok (by repeat (first | exact PF.body | with_reducible apply PF.inB | with_reducible apply PF.next)) [(9, {f := 1}), (10, {}), (11, {}), (12, {k := 2, p := 2}), (13, {}), (14, {})] [9, 8, 7, 5, 3, 16, 17, 18, 6, 10, 11, 87, 88, 89, 90] (T' := [(9, .pointer (some ⟨b111, 0, none⟩)), (8, .pointer (some ⟨b90, 0, none⟩)), (7, .pointer (some ⟨b84, 0, none⟩)), (5, .pointer (some ⟨b50, 0, none⟩)), (3, .pointer (some ⟨bs, 0, none⟩)), (16, .slice (some ⟨sb40, k041, none⟩) ops.length c), (17, .int .i64 ((ops.length : Nat) : Int)), (18, .int .i64 ((i : Nat) : Int)), (6, .pointer (some ⟨bq64, 0, none⟩)), (10, .bool true), (11, .bool false), (87, .bool false), (88, .agg #[.int .u8 0, .int .i64 s.pos, .int .i64 s.lg.base.idx, .int .i64 s.lg.fin, .bool s.live, .bool s.out.refused, .int .i8 s.out.running, .int .u64 s.out.value, .int .u64 (dig s.m), .int .i64 s.pos, .int .i64 0, .int .i64 (-1)]), (89, .pointer (some ⟨bs, 0, none⟩)), (90, .agg #[.int .u8 8, .int .i64 0, .int .i64 0, .int .u8 0, .int .u32 0, .int .u64 0])]) (φ := EqRun Try.prog 46 (.agg #[.int .u64 s.m.now, .int .i8 s.m.cur, .int .u8 s.m.s0, .int .u8 s.m.s1, .int .u8 s.m.s2, .int .u8 s.m.s3, .int .u64 s.m.r0, .int .u64 s.m.r1, .int .u64 s.m.r2, .int .u64 s.m.r3, .int .u64 s.m.word]) (.agg #[.int .u64 s.m.now, .int .i8 s.m.cur, .int .u8 s.m.s0, .int .u8 s.m.s1, .int .u8 s.m.s2, .int .u8 s.m.s3, .int .u64 s.m.r0, .int .u64 s.m.r1, .int .u64 s.m.r2, .int .u64 s.m.r3, .int .u64 s.m.word]) true ∧ (b90 = b90 ∧ Nat.ble (0 + 12) 12 = true) ∧ True) (fuel := 3) h184 (by kernel_rfl) rfl (by kernel_rfl) (by kernel_rfl) ⟨trivial, trivial, trivial, rfl, trivial, trivial, trivial⟩ ⟨(run46s s.m), ⟨rfl, rfl⟩, trivial⟩ fun a186 h187 => ?_
            clear h184
            refine wpAnyK_one (i := 15) (fuel := 2) (by kernel_rfl) ?_
            refine op_call h187 rfl rfl rfl (callOk Try.func12 (by decide) rfl) (args := [.pointer (some ⟨bs, 0, none⟩), .agg #[.int .u8 8, .int .i64 0, .int .i64 0, .int .u8 0, .int .u32 0, .int .u64 0]]) rfl ((by have hq := do_ok bs bl d105 s _ (h187.inv.get (j := 0) (p := pSess bs bl d105 s) rfl) (B := (i : Int)) (by omega) hwf ⟨8, 0, 0, ⟨0, 0, 0⟩⟩ (opk_ok (by decide) (by decide)); rw [do_where] at hq; exact hq)) ?_
            rintro _ w192 ⟨d188, rfl, hs189, hf190, hF191⟩
            refine ⟨_, rfl, ?_⟩
            have h193 := (h187.pcSet (j := 0) (p := pSess bs bl d105 s) (p' := pSess bs bl d188 s) (ps' := [pSess bs bl d188 s, pLog bq64 d65 s.lg]) rfl (pSess_ok hs189) hf190 (fun _ h => h) (sess_sub hF191) (kcons (by intro hq; cases hq) (kcons (by intro hq; cases hq) (kcons (by intro hq; cases hq) (kcons (by intro hq; cases hq) knil)))) rfl).put (d := some 91) (v := .agg #[.int .u8 0, .int .i64 s.pos, .int .i64 s.lg.base.idx, .int .i64 s.lg.fin, .bool s.live, .bool s.out.refused, .int .i8 s.out.running, .int .u64 s.out.value, .int .u64 (dig s.m), .int .i64 s.pos, .int .i64 0, .int .i64 (-1)]) (T' := [(91, .agg #[.int .u8 0, .int .i64 s.pos, .int .i64 s.lg.base.idx, .int .i64 s.lg.fin, .bool s.live, .bool s.out.refused, .int .i8 s.out.running, .int .u64 s.out.value, .int .u64 (dig s.m), .int .i64 s.pos, .int .i64 0, .int .i64 (-1)]), (9, .pointer (some ⟨b111, 0, none⟩)), (8, .pointer (some ⟨b90, 0, none⟩)), (7, .pointer (some ⟨b84, 0, none⟩)), (5, .pointer (some ⟨b50, 0, none⟩)), (3, .pointer (some ⟨bs, 0, none⟩)), (16, .slice (some ⟨sb40, k041, none⟩) ops.length c), (17, .int .i64 ((ops.length : Nat) : Int)), (18, .int .i64 ((i : Nat) : Int)), (6, .pointer (some ⟨bq64, 0, none⟩)), (10, .bool true), (11, .bool false), (87, .bool false), (88, .agg #[.int .u8 0, .int .i64 s.pos, .int .i64 s.lg.base.idx, .int .i64 s.lg.fin, .bool s.live, .bool s.out.refused, .int .i8 s.out.running, .int .u64 s.out.value, .int .u64 (dig s.m), .int .i64 s.pos, .int .i64 0, .int .i64 (-1)]), (89, .pointer (some ⟨bs, 0, none⟩)), (90, .agg #[.int .u8 8, .int .i64 0, .int .i64 0, .int .u8 0, .int .u32 0, .int .u64 0])]) rfl
            have hkh193 := h187.known
            refine ⟨(keepOf hkh193 h193.known (kcons (keepAt (q := 2) (q' := 2) rfl rfl) knil)), ?_⟩
            have hszh193 : w.heap.size ≤ _ := h187.frame.size
            clear h187
            refine dr_batch tabOk tabZ_ok (by repeat (first | exact PF.body | with_reducible apply PF.inB | with_reducible apply PF.next)) [(16, {f := 1}), (17, {})] [9, 8, 7, 5, 3, 16, 17, 18, 6, 10, 11, 93] (T' := [(9, .pointer (some ⟨b111, 0, none⟩)), (8, .pointer (some ⟨b90, 0, none⟩)), (7, .pointer (some ⟨b84, 0, none⟩)), (5, .pointer (some ⟨b50, 0, none⟩)), (3, .pointer (some ⟨bs, 0, none⟩)), (16, .slice (some ⟨sb40, k041, none⟩) ops.length c), (17, .int .i64 ((ops.length : Nat) : Int)), (18, .int .i64 ((i : Nat) : Int)), (6, .pointer (some ⟨bq64, 0, none⟩)), (10, .bool true), (11, .bool false), (93, .bool false)]) (φ := EqRun Try.prog 41 (.agg #[.int .u8 0, .int .i64 s.pos, .int .i64 s.lg.base.idx, .int .i64 s.lg.fin, .bool s.live, .bool s.out.refused, .int .i8 s.out.running, .int .u64 s.out.value, .int .u64 (dig s.m), .int .i64 s.pos, .int .i64 0, .int .i64 (-1)]) (.agg #[.int .u8 0, .int .i64 s.pos, .int .i64 s.lg.base.idx, .int .i64 s.lg.fin, .bool s.live, .bool s.out.refused, .int .i8 s.out.running, .int .u64 s.out.value, .int .u64 (dig s.m), .int .i64 s.pos, .int .i64 0, .int .i64 (-1)]) true ∧ True) (fuel := 0) h193 (by kernel_rfl) rfl (by kernel_rfl) (by kernel_rfl) ⟨trivial, trivial, trivial⟩ ⟨(run41s (s.stat 0)), trivial⟩ fun a194 h195 => ?_
            clear h193
            refine wpAnyK_done (by kernel_rfl) ?_ _
            refine hK169 _ _ ?_
            clear hK169
            refine c_false h195 rfl ?_
            refine wp_skip ?_
            refine hK45 _ _ ?_
            clear hK45
            refine nd_start (l := [0, 1]) rfl ?_
            refine nd_batch tabOk tabZ_ok [(0, {}), (1, {})] [9, 8, 7, 5, 3, 16, 17, 6, 10, 11, 18] (T' := [(9, .pointer (some ⟨b111, 0, none⟩)), (8, .pointer (some ⟨b90, 0, none⟩)), (7, .pointer (some ⟨b84, 0, none⟩)), (5, .pointer (some ⟨b50, 0, none⟩)), (3, .pointer (some ⟨bs, 0, none⟩)), (16, .slice (some ⟨sb40, k041, none⟩) ops.length c), (17, .int .i64 ((ops.length : Nat) : Int)), (6, .pointer (some ⟨bq64, 0, none⟩)), (10, .bool true), (11, .bool false), (18, .int .i64 (((i : Nat) : Int) + 1))]) (φ := inR .i64 (((i : Nat) : Int) + 1) ∧ True) (rest := []) h195 (by kernel_rfl) rfl ⟨⟨by omega, by omega⟩, trivial⟩ fun a196 h197 => ?_
            clear h195
            refine nd_done ?_
            have h198 := h197.memMono (L' := []) (List.Sublist.cons _ (List.Sublist.cons _ (List.Sublist.cons _ (List.Sublist.cons _ List.Sublist.slnil))))
            clear h197
            have h199 := h198.pcSub (ps' := [pSess bs bl d188 s]) (List.Sublist.cons_cons _ (List.Sublist.cons _ List.Sublist.slnil))
            clear h198
            exact ⟨(g - 1), by omega, (i + 1), s, d188, by omega, by omega, (hwf.mono (by omega)), (h199.slotsMono (restr_spec (keep := [3, 16, 17, 18]) rfl))⟩
      ·
        have hb120f : x.kind ≠ 8 := by simpa using hb120
        have hk8 : x.kind ≠ 8 := hb120f
        rcases Bool.eq_false_or_eq_true ((x.kind == 6)) with hb200 | hb200
        ·
          have hb200f : x.kind = 6 := by simpa using hb200
          have hk6 : x.kind = 6 := hb200f
          refine nd_start (l := [0, 1, 2, 3, 4, 5, 6, 7, 8, 9, 10, 11, 12, 13]) rfl ?_
          refine nd_batch tabOk tabZ_ok [(0, {}), (1, {k := 0}), (2, {f := 1}), (3, {}), (4, {}), (5, {k := 0}), (6, {f := 2}), (7, {}), (8, {}), (9, {}), (10, {}), (11, {}), (12, {}), (13, {})] [9, 8, 7, 5, 3, 16, 17, 18, 6, 10] (T' := [(9, .pointer (some ⟨b111, 0, none⟩)), (8, .pointer (some ⟨b90, 0, none⟩)), (7, .pointer (some ⟨b84, 0, none⟩)), (5, .pointer (some ⟨b50, 0, none⟩)), (3, .pointer (some ⟨bs, 0, none⟩)), (16, .slice (some ⟨sb40, k041, none⟩) ops.length c), (17, .int .i64 ((ops.length : Nat) : Int)), (18, .int .i64 ((i : Nat) : Int)), (6, .pointer (some ⟨bq64, 0, none⟩)), (10, .bool true)]) (φ := (b50 = b50 ∧ Nat.ble (0 + 1) 6 = true) ∧ ((x.kind == 8)) = false ∧ (b50 = b50 ∧ Nat.ble (0 + 1) 6 = true) ∧ ((x.kind == 6)) = true ∧ True) (rest := []) h118 (by kernel_rfl) rfl ⟨⟨rfl, rfl⟩, hb120, ⟨rfl, rfl⟩, hb200, trivial⟩ fun a201 h202 => ?_
          clear h118
          refine nd_done ?_
          refine hK119 _ _ ?_
          clear hK119
          refine wp_seq_k fun K203 hK203 => ?_
          rcases Bool.eq_false_or_eq_true ((x.kind == 1)) with hb204 | hb204
          ·
            have hb204f : x.kind = 1 := by simpa using hb204
            have hk1 : x.kind = 1 := hb204f
            omega
          ·
            have hb204f : x.kind ≠ 1 := by simpa using hb204
            have hk1 : x.kind ≠ 1 := hb204f
            refine nd_start (l := [0, 1, 2, 3, 4, 5, 6, 7, 8, 9, 10, 11, 12, 13, 14, 15, 16, 17]) rfl ?_
            refine nd_batch tabOk tabZ_ok [(0, {}), (1, {k := 0}), (2, {f := 1}), (3, {}), (4, {}), (5, {}), (6, {}), (7, {}), (8, {}), (9, {}), (10, {}), (11, {}), (12, {}), (13, {}), (14, {}), (15, {}), (16, {}), (17, {})] [9, 8, 7, 5, 3, 16, 17, 18, 6, 10, 11] (T' := [(9, .pointer (some ⟨b111, 0, none⟩)), (8, .pointer (some ⟨b90, 0, none⟩)), (7, .pointer (some ⟨b84, 0, none⟩)), (5, .pointer (some ⟨b50, 0, none⟩)), (3, .pointer (some ⟨bs, 0, none⟩)), (16, .slice (some ⟨sb40, k041, none⟩) ops.length c), (17, .int .i64 ((ops.length : Nat) : Int)), (18, .int .i64 ((i : Nat) : Int)), (6, .pointer (some ⟨bq64, 0, none⟩)), (10, .bool true), (11, .bool false)]) (φ := (b50 = b50 ∧ Nat.ble (0 + 1) 6 = true) ∧ ((x.kind == 1)) = false ∧ True) (rest := []) h202 (by kernel_rfl) rfl ⟨⟨rfl, rfl⟩, hb204, trivial⟩ fun a205 h206 => ?_
            clear h202
            refine nd_done ?_
            refine hK203 _ _ ?_
            clear hK203
            refine wp_seq_k fun K207 hK207 => ?_
            refine wp_seq_k fun K208 hK208 => ?_
            refine nd_start (l := [0, 1, 2, 3, 4, 5]) rfl ?_
            refine nd_batch tabOk tabZ_ok [(0, {}), (1, {}), (2, {}), (3, {}), (4, {}), (5, {})] [9, 8, 7, 5, 3, 16, 17, 18, 6, 10, 11, 68] (T' := [(9, .pointer (some ⟨b111, 0, none⟩)), (8, .pointer (some ⟨b90, 0, none⟩)), (7, .pointer (some ⟨b84, 0, none⟩)), (5, .pointer (some ⟨b50, 0, none⟩)), (3, .pointer (some ⟨bs, 0, none⟩)), (16, .slice (some ⟨sb40, k041, none⟩) ops.length c), (17, .int .i64 ((ops.length : Nat) : Int)), (18, .int .i64 ((i : Nat) : Int)), (6, .pointer (some ⟨bq64, 0, none⟩)), (10, .bool true), (11, .bool false), (68, .bool false)]) (φ := True) (rest := []) h206 (by kernel_rfl) rfl trivial fun a209 h210 => ?_
            clear h206
            refine nd_done ?_
            refine hK208 _ _ ?_
            clear hK208
            refine c_false h210 rfl ?_
            refine wp_skip ?_
            refine hK207 _ _ ?_
            clear hK207
            refine wp_seq_k fun K211 hK211 => ?_
            refine wp_seq_k fun K212 hK212 => ?_
            rcases Bool.eq_false_or_eq_true (((doR s x).1.code == 0)) with hb213 | hb213
            ·
              have hb213f : (doR s x).1.code = 0 := by simpa using hb213
              have hcode : (doR s x).1.code = 0 := hb213f
              refine nd_start (l := [0, 1, 2, 3, 4, 5, 6]) rfl ?_
              refine nd_batch tabOk tabZ_ok [(0, {}), (1, {k := 3}), (2, {f := 2}), (3, {}), (4, {}), (5, {}), (6, {})] [9, 8, 7, 5, 3, 16, 17, 18, 6, 10, 11, 75] (T' := [(9, .pointer (some ⟨b111, 0, none⟩)), (8, .pointer (some ⟨b90, 0, none⟩)), (7, .pointer (some ⟨b84, 0, none⟩)), (5, .pointer (some ⟨b50, 0, none⟩)), (3, .pointer (some ⟨bs, 0, none⟩)), (16, .slice (some ⟨sb40, k041, none⟩) ops.length c), (17, .int .i64 ((ops.length : Nat) : Int)), (18, .int .i64 ((i : Nat) : Int)), (6, .pointer (some ⟨bq64, 0, none⟩)), (10, .bool true), (11, .bool false), (75, .bool false)]) (φ := (b111 = b111 ∧ Nat.ble (0 + 1) 12 = true) ∧ (((doR s x).1.code == 0)) = true ∧ True) (rest := []) h210 (by kernel_rfl) rfl ⟨⟨rfl, rfl⟩, hb213, trivial⟩ fun a214 h215 => ?_
              clear h210
              refine nd_done ?_
              refine hK212 _ _ ?_
              clear hK212
              refine c_false h215 rfl ?_
              refine wp_skip ?_
              refine hK211 _ _ ?_
              clear hK211
              refine wp_seq_k fun K216 hK216 => ?_
              refine dr_start (KB := [b50, b84, b90, b111]) (Bi := [[0, 1, 2, 3], [0, 1, 2, 3], [], [], [0, 1, 2, 3], [0, 1, 2, 3], [0, 1, 2, 3], [0, 1, 2, 3], [1], [0, 1, 2, 3], [0, 1, 2, 3], [0, 1, 2, 3], [0, 1, 2, 3], [0, 1, 2, 3], [0, 1, 2, 3], [2], [0, 1, 2, 3], [0, 1, 2, 3]]) mixed h215 fun w217 h218 => ?_
              clear h215
              refine dr_batch tabOk tabZ_ok (by repeat (first | exact PF.body | with_reducible apply PF.inB | with_reducible apply PF.next)) [(0, {}), (1, {})] [9, 8, 7, 5, 3, 16, 17, 18, 6, 10, 11, 76, 77] (T' := [(9, .pointer (some ⟨b111, 0, none⟩)), (8, .pointer (some ⟨b90, 0, none⟩)), (7, .pointer (some ⟨b84, 0, none⟩)), (5, .pointer (some ⟨b50, 0, none⟩)), (3, .pointer (some ⟨bs, 0, none⟩)), (16, .slice (some ⟨sb40, k041, none⟩) ops.length c), (17, .int .i64 ((ops.length : Nat) : Int)), (18, .int .i64 ((i : Nat) : Int)), (6, .pointer (some ⟨bq64, 0, none⟩)), (10, .bool true), (11, .bool false), (76, .pointer (some ⟨bq64, 0, none⟩)), (77, .pointer (some ⟨bs, 0, none⟩))]) (φ := True) (fuel := 16) h218 (by kernel_rfl) rfl (by kernel_rfl) (by kernel_rfl) ⟨trivial, trivial, trivial⟩ trivial fun a220 h221 => ?_
              clear h218
              refine wpAnyK_one (i := 2) (fuel := 15) (by kernel_rfl) ?_
              have hsame : (doR s x).2 = s := do_same (.inr (.inl hk6))
              rw [hsame] at h221
              refine op_call h221 rfl rfl rfl (callOk Try.func17 (by decide) rfl) (args := [.pointer (some ⟨bs, 0, none⟩)]) rfl (slog_ok bs _ _ _ _ _ false _ (h221.inv.get (j := 0) (p := pSess bs bl d105 s) rfl).blk) ?_
              rintro _ w222 ⟨rfl, hf224⟩
              refine ⟨_, rfl, ?_⟩
              have h223 := (h221.grow hf224).put (d := some 78) (v := .pointer (some ⟨bl, 0, none⟩)) (T' := [(78, .pointer (some ⟨bl, 0, none⟩)), (9, .pointer (some ⟨b111, 0, none⟩)), (8, .pointer (some ⟨b90, 0, none⟩)), (7, .pointer (some ⟨b84, 0, none⟩)), (5, .pointer (some ⟨b50, 0, none⟩)), (3, .pointer (some ⟨bs, 0, none⟩)), (16, .slice (some ⟨sb40, k041, none⟩) ops.length c), (17, .int .i64 ((ops.length : Nat) : Int)), (18, .int .i64 ((i : Nat) : Int)), (6, .pointer (some ⟨bq64, 0, none⟩)), (10, .bool true), (11, .bool false), (76, .pointer (some ⟨bq64, 0, none⟩)), (77, .pointer (some ⟨bs, 0, none⟩))]) rfl
              refine ⟨keepNil, ?_⟩
              clear h221
              refine wpAnyK_one (i := 3) (fuel := 14) (by kernel_rfl) ?_
              refine op_call h223 rfl rfl rfl (callOk Try.func16 (by decide) rfl) (args := [.pointer (some ⟨bq64, 0, none⟩), .pointer (some ⟨bl, 0, none⟩)]) rfl (sameLog_ok bq64 bl d65 d105 s.lg _ (h223.inv.get (j := 1) (p := pLog bq64 d65 s.lg) rfl) (h223.inv.get (j := 0) (p := pSess bs bl d105 s) rfl).log (fun b hb hq => Pf_nodup h223.inv.nd (i := 1) (j := 0) (x := pLog bq64 d65 s.lg) (y := pSess bs bl d105 s) rfl rfl (by decide) b hb (List.mem_cons_of_mem _ hq)) (by omega) (by omega) (by omega)) ?_
              rintro _ w225 ⟨rfl, hf227⟩
              refine ⟨_, rfl, ?_⟩
              have h226 := (h223.grow hf227).put (d := some 79) (v := .bool true) (T' := [(79, .bool true), (78, .pointer (some ⟨bl, 0, none⟩)), (9, .pointer (some ⟨b111, 0, none⟩)), (8, .pointer (some ⟨b90, 0, none⟩)), (7, .pointer (some ⟨b84, 0, none⟩)), (5, .pointer (some ⟨b50, 0, none⟩)), (3, .pointer (some ⟨bs, 0, none⟩)), (16, .slice (some ⟨sb40, k041, none⟩) ops.length c), (17, .int .i64 ((ops.length : Nat) : Int)), (18, .int .i64 ((i : Nat) : Int)), (6, .pointer (some ⟨bq64, 0, none⟩)), (10, .bool true), (11, .bool false), (76, .pointer (some ⟨bq64, 0, none⟩)), (77, .pointer (some ⟨bs, 0, none⟩))]) rfl
              refine ⟨keepNil, ?_⟩
              clear h223
              refine dr_batch tabOk tabZ_ok (by repeat (first | exact PF.body | with_reducible apply PF.inB | with_reducible apply PF.next)) [(4, {}), (5, {}), (6, {k := 1, p := 1}), (7, {})] [9, 8, 7, 5, 3, 16, 17, 18, 6, 10, 11, 81, 82, 83] (T' := [(9, .pointer (some ⟨b111, 0, none⟩)), (8, .pointer (some ⟨b90, 0, none⟩)), (7, .pointer (some ⟨b84, 0, none⟩)), (5, .pointer (some ⟨b50, 0, none⟩)), (3, .pointer (some ⟨bs, 0, none⟩)), (16, .slice (some ⟨sb40, k041, none⟩) ops.length c), (17, .int .i64 ((ops.length : Nat) : Int)), (18, .int .i64 ((i : Nat) : Int)), (6, .pointer (some ⟨bq64, 0, none⟩)), (10, .bool true), (11, .bool false), (81, .bool false), (82, .agg #[.int .u64 s.m.now, .int .i8 s.m.cur, .int .u8 s.m.s0, .int .u8 s.m.s1, .int .u8 s.m.s2, .int .u8 s.m.s3, .int .u64 s.m.r0, .int .u64 s.m.r1, .int .u64 s.m.r2, .int .u64 s.m.r3, .int .u64 s.m.word]), (83, .pointer (some ⟨bs, 0, none⟩))]) (φ := (b84 = b84 ∧ Nat.ble (0 + 11) 11 = true) ∧ True) (fuel := 10) h226 (by kernel_rfl) rfl (by kernel_rfl) (by kernel_rfl) ⟨trivial, trivial, rfl, trivial, trivial⟩ ⟨⟨rfl, rfl⟩, trivial⟩ fun a228 h229 => ?_
              clear h226
              refine wpAnyK_one (i := 8) (fuel := 9) (by kernel_rfl) ?_
              refine op_call h229 rfl rfl rfl (callOk Try.func15 (by decide) rfl) (args := [.pointer (some ⟨bs, 0, none⟩)]) rfl (smach_ok bs _ s.m _ _ _ false _ (h229.inv.get (j := 0) (p := pSess bs bl d105 s) rfl).blk) ?_
              rintro _ w230 ⟨rfl, hf232⟩
              refine ⟨_, rfl, ?_⟩
              have h231 := (h229.grow hf232).put (d := some 84) (v := .agg #[.int .u64 s.m.now, .int .i8 s.m.cur, .int .u8 s.m.s0, .int .u8 s.m.s1, .int .u8 s.m.s2, .int .u8 s.m.s3, .int .u64 s.m.r0, .int .u64 s.m.r1, .int .u64 s.m.r2, .int .u64 s.m.r3, .int .u64 s.m.word]) (T' := [(84, .agg #[.int .u64 s.m.now, .int .i8 s.m.cur, .int .u8 s.m.s0, .int .u8 s.m.s1, .int .u8 s.m.s2, .int .u8 s.m.s3, .int .u64 s.m.r0, .int .u64 s.m.r1, .int .u64 s.m.r2, .int .u64 s.m.r3, .int .u64 s.m.word]), (9, .pointer (some ⟨b111, 0, none⟩)), (8, .pointer (some ⟨b90, 0, none⟩)), (7, .pointer (some ⟨b84, 0, none⟩)), (5, .pointer (some ⟨b50, 0, none⟩)), (3, .pointer (some ⟨bs, 0, none⟩)), (16, .slice (some ⟨sb40, k041, none⟩) ops.length c), (17, .int .i64 ((ops.length : Nat) : Int)), (18, .int .i64 ((i : Nat) : Int)), (6, .pointer (some ⟨bq64, 0, none⟩)), (10, .bool true), (11, .bool false), (81, .bool false), (82, .agg #[.int .u64 s.m.now, .int .i8 s.m.cur, .int .u8 s.m.s0, .int .u8 s.m.s1, .int .u8 s.m.s2, .int .u8 s.m.s3, .int .u64 s.m.r0, .int .u64 s.m.r1, .int .u64 s.m.r2, .int .u64 s.m.r3, .int .u64 s.m.word]), (83, .pointer (some ⟨bs, 0, none⟩))]) rfl
              refine ⟨(h229.keepFr hf232 (kcons (by simp) knil)), ?_⟩
              clear h229
              refine dr_batch tabOk tabZ_ok (by repeat (first | exact PF.body | with_reducible apply PF.inB | with_reducible apply PF.next)) [(9, {f := 1}), (10, {}), (11, {}), (12, {k := 2, p := 2}), (13, {}), (14, {})] [9, 8, 7, 5, 3, 16, 17, 18, 6, 10, 11, 87, 88, 89, 90] (T' := [(9, .pointer (some ⟨b111, 0, none⟩)), (8, .pointer (some ⟨b90, 0, none⟩)), (7, .pointer (some ⟨b84, 0, none⟩)), (5, .pointer (some ⟨b50, 0, none⟩)), (3, .pointer (some ⟨bs, 0, none⟩)), (16, .slice (some ⟨sb40, k041, none⟩) ops.length c), (17, .int .i64 ((ops.length : Nat) : Int)), (18, .int .i64 ((i : Nat) : Int)), (6, .pointer (some ⟨bq64, 0, none⟩)), (10, .bool true), (11, .bool false), (87, .bool false), (88, .agg #[.int .u8 0, .int .i64 s.pos, .int .i64 s.lg.base.idx, .int .i64 s.lg.fin, .bool s.live, .bool s.out.refused, .int .i8 s.out.running, .int .u64 s.out.value, .int .u64 (dig s.m), .int .i64 s.pos, .int .i64 0, .int .i64 (-1)]), (89, .pointer (some ⟨bs, 0, none⟩)), (90, .agg #[.int .u8 8, .int .i64 0, .int .i64 0, .int .u8 0, .int .u32 0, .int .u64 0])]) (φ := EqRun Try.prog 46 (.agg #[.int .u64 s.m.now, .int .i8 s.m.cur, .int .u8 s.m.s0, .int .u8 s.m.s1, .int .u8 s.m.s2, .int .u8 s.m.s3, .int .u64 s.m.r0, .int .u64 s.m.r1, .int .u64 s.m.r2, .int .u64 s.m.r3, .int .u64 s.m.word]) (.agg #[.int .u64 s.m.now, .int .i8 s.m.cur, .int .u8 s.m.s0, .int .u8 s.m.s1, .int .u8 s.m.s2, .int .u8 s.m.s3, .int .u64 s.m.r0, .int .u64 s.m.r1, .int .u64 s.m.r2, .int .u64 s.m.r3, .int .u64 s.m.word]) true ∧ (b90 = b90 ∧ Nat.ble (0 + 12) 12 = true) ∧ True) (fuel := 3) h231 (by kernel_rfl) rfl (by kernel_rfl) (by kernel_rfl) ⟨trivial, trivial, trivial, rfl, trivial, trivial, trivial⟩ ⟨(run46s s.m), ⟨rfl, rfl⟩, trivial⟩ fun a233 h234 => ?_
              clear h231
              refine wpAnyK_one (i := 15) (fuel := 2) (by kernel_rfl) ?_
              refine op_call h234 rfl rfl rfl (callOk Try.func12 (by decide) rfl) (args := [.pointer (some ⟨bs, 0, none⟩), .agg #[.int .u8 8, .int .i64 0, .int .i64 0, .int .u8 0, .int .u32 0, .int .u64 0]]) rfl ((by have hq := do_ok bs bl d105 s _ (h234.inv.get (j := 0) (p := pSess bs bl d105 s) rfl) (B := (i : Int)) (by omega) hwf ⟨8, 0, 0, ⟨0, 0, 0⟩⟩ (opk_ok (by decide) (by decide)); rw [do_where] at hq; exact hq)) ?_
              rintro _ w239 ⟨d235, rfl, hs236, hf237, hF238⟩
              refine ⟨_, rfl, ?_⟩
              have h240 := (h234.pcSet (j := 0) (p := pSess bs bl d105 s) (p' := pSess bs bl d235 s) (ps' := [pSess bs bl d235 s, pLog bq64 d65 s.lg]) rfl (pSess_ok hs236) hf237 (fun _ h => h) (sess_sub hF238) (kcons (by intro hq; cases hq) (kcons (by intro hq; cases hq) (kcons (by intro hq; cases hq) (kcons (by intro hq; cases hq) knil)))) rfl).put (d := some 91) (v := .agg #[.int .u8 0, .int .i64 s.pos, .int .i64 s.lg.base.idx, .int .i64 s.lg.fin, .bool s.live, .bool s.out.refused, .int .i8 s.out.running, .int .u64 s.out.value, .int .u64 (dig s.m), .int .i64 s.pos, .int .i64 0, .int .i64 (-1)]) (T' := [(91, .agg #[.int .u8 0, .int .i64 s.pos, .int .i64 s.lg.base.idx, .int .i64 s.lg.fin, .bool s.live, .bool s.out.refused, .int .i8 s.out.running, .int .u64 s.out.value, .int .u64 (dig s.m), .int .i64 s.pos, .int .i64 0, .int .i64 (-1)]), (9, .pointer (some ⟨b111, 0, none⟩)), (8, .pointer (some ⟨b90, 0, none⟩)), (7, .pointer (some ⟨b84, 0, none⟩)), (5, .pointer (some ⟨b50, 0, none⟩)), (3, .pointer (some ⟨bs, 0, none⟩)), (16, .slice (some ⟨sb40, k041, none⟩) ops.length c), (17, .int .i64 ((ops.length : Nat) : Int)), (18, .int .i64 ((i : Nat) : Int)), (6, .pointer (some ⟨bq64, 0, none⟩)), (10, .bool true), (11, .bool false), (87, .bool false), (88, .agg #[.int .u8 0, .int .i64 s.pos, .int .i64 s.lg.base.idx, .int .i64 s.lg.fin, .bool s.live, .bool s.out.refused, .int .i8 s.out.running, .int .u64 s.out.value, .int .u64 (dig s.m), .int .i64 s.pos, .int .i64 0, .int .i64 (-1)]), (89, .pointer (some ⟨bs, 0, none⟩)), (90, .agg #[.int .u8 8, .int .i64 0, .int .i64 0, .int .u8 0, .int .u32 0, .int .u64 0])]) rfl
              have hkh240 := h234.known
              refine ⟨(keepOf hkh240 h240.known (kcons (keepAt (q := 2) (q' := 2) rfl rfl) knil)), ?_⟩
              have hszh240 : w.heap.size ≤ _ := h234.frame.size
              clear h234
              refine dr_batch tabOk tabZ_ok (by repeat (first | exact PF.body | with_reducible apply PF.inB | with_reducible apply PF.next)) [(16, {f := 1}), (17, {})] [9, 8, 7, 5, 3, 16, 17, 18, 6, 10, 11, 93] (T' := [(9, .pointer (some ⟨b111, 0, none⟩)), (8, .pointer (some ⟨b90, 0, none⟩)), (7, .pointer (some ⟨b84, 0, none⟩)), (5, .pointer (some ⟨b50, 0, none⟩)), (3, .pointer (some ⟨bs, 0, none⟩)), (16, .slice (some ⟨sb40, k041, none⟩) ops.length c), (17, .int .i64 ((ops.length : Nat) : Int)), (18, .int .i64 ((i : Nat) : Int)), (6, .pointer (some ⟨bq64, 0, none⟩)), (10, .bool true), (11, .bool false), (93, .bool false)]) (φ := EqRun Try.prog 41 (.agg #[.int .u8 0, .int .i64 s.pos, .int .i64 s.lg.base.idx, .int .i64 s.lg.fin, .bool s.live, .bool s.out.refused, .int .i8 s.out.running, .int .u64 s.out.value, .int .u64 (dig s.m), .int .i64 s.pos, .int .i64 0, .int .i64 (-1)]) (.agg #[.int .u8 0, .int .i64 s.pos, .int .i64 s.lg.base.idx, .int .i64 s.lg.fin, .bool s.live, .bool s.out.refused, .int .i8 s.out.running, .int .u64 s.out.value, .int .u64 (dig s.m), .int .i64 s.pos, .int .i64 0, .int .i64 (-1)]) true ∧ True) (fuel := 0) h240 (by kernel_rfl) rfl (by kernel_rfl) (by kernel_rfl) ⟨trivial, trivial, trivial⟩ ⟨(run41s (s.stat 0)), trivial⟩ fun a241 h242 => ?_
              clear h240
              refine wpAnyK_done (by kernel_rfl) ?_ _
              refine hK216 _ _ ?_
              clear hK216
              refine c_false h242 rfl ?_
              refine wp_skip ?_
              refine hK45 _ _ ?_
              clear hK45
              refine nd_start (l := [0, 1]) rfl ?_
              refine nd_batch tabOk tabZ_ok [(0, {}), (1, {})] [9, 8, 7, 5, 3, 16, 17, 6, 10, 11, 18] (T' := [(9, .pointer (some ⟨b111, 0, none⟩)), (8, .pointer (some ⟨b90, 0, none⟩)), (7, .pointer (some ⟨b84, 0, none⟩)), (5, .pointer (some ⟨b50, 0, none⟩)), (3, .pointer (some ⟨bs, 0, none⟩)), (16, .slice (some ⟨sb40, k041, none⟩) ops.length c), (17, .int .i64 ((ops.length : Nat) : Int)), (6, .pointer (some ⟨bq64, 0, none⟩)), (10, .bool true), (11, .bool false), (18, .int .i64 (((i : Nat) : Int) + 1))]) (φ := inR .i64 (((i : Nat) : Int) + 1) ∧ True) (rest := []) h242 (by kernel_rfl) rfl ⟨⟨by omega, by omega⟩, trivial⟩ fun a243 h244 => ?_
              clear h242
              refine nd_done ?_
              have h245 := h244.memMono (L' := []) (List.Sublist.cons _ (List.Sublist.cons _ (List.Sublist.cons _ (List.Sublist.cons _ List.Sublist.slnil))))
              clear h244
              have h246 := h245.pcSub (ps' := [pSess bs bl d235 s]) (List.Sublist.cons_cons _ (List.Sublist.cons _ List.Sublist.slnil))
              clear h245
              exact ⟨(g - 1), by omega, (i + 1), s, d235, by omega, by omega, (hwf.mono (by omega)), (h246.slotsMono (restr_spec (keep := [3, 16, 17, 18]) rfl))⟩
            ·
              have hb213f : (doR s x).1.code ≠ 0 := by simpa using hb213
              have hcode : (doR s x).1.code ≠ 0 := hb213f
              refine nd_start (l := [0, 1, 2, 3, 4, 5, 6]) rfl ?_
              refine nd_batch tabOk tabZ_ok [(0, {}), (1, {k := 3}), (2, {f := 1}), (3, {}), (4, {}), (5, {}), (6, {})] [9, 8, 7, 5, 3, 16, 17, 18, 6, 10, 11, 75] (T' := [(9, .pointer (some ⟨b111, 0, none⟩)), (8, .pointer (some ⟨b90, 0, none⟩)), (7, .pointer (some ⟨b84, 0, none⟩)), (5, .pointer (some ⟨b50, 0, none⟩)), (3, .pointer (some ⟨bs, 0, none⟩)), (16, .slice (some ⟨sb40, k041, none⟩) ops.length c), (17, .int .i64 ((ops.length : Nat) : Int)), (18, .int .i64 ((i : Nat) : Int)), (6, .pointer (some ⟨bq64, 0, none⟩)), (10, .bool true), (11, .bool false), (75, .bool false)]) (φ := (b111 = b111 ∧ Nat.ble (0 + 1) 12 = true) ∧ (((doR s x).1.code == 0)) = false ∧ True) (rest := []) h210 (by kernel_rfl) rfl ⟨⟨rfl, rfl⟩, hb213, trivial⟩ fun a247 h248 => ?_
              clear h210
              refine nd_done ?_
              refine hK212 _ _ ?_
              clear hK212
              refine c_false h248 rfl ?_
              refine wp_skip ?_
              refine hK211 _ _ ?_
              clear hK211
              refine wp_seq_k fun K249 hK249 => ?_
              refine dr_start (KB := [b50, b84, b90, b111]) (Bi := [[0, 1, 2, 3], [0, 1, 2, 3], [], [], [0, 1, 2, 3], [0, 1, 2, 3], [0, 1, 2, 3], [0, 1, 2, 3], [1], [0, 1, 2, 3], [0, 1, 2, 3], [0, 1, 2, 3], [0, 1, 2, 3], [0, 1, 2, 3], [0, 1, 2, 3], [2], [0, 1, 2, 3], [0, 1, 2, 3]]) mixed h248 fun w250 h251 => ?_
              clear h248
              refine dr_batch tabOk tabZ_ok (by repeat (first | exact PF.body | with_reducible apply PF.inB | with_reducible apply PF.next)) [(0, {}), (1, {})] [9, 8, 7, 5, 3, 16, 17, 18, 6, 10, 11, 76, 77] (T' := [(9, .pointer (some ⟨b111, 0, none⟩)), (8, .pointer (some ⟨b90, 0, none⟩)), (7, .pointer (some ⟨b84, 0, none⟩)), (5, .pointer (some ⟨b50, 0, none⟩)), (3, .pointer (some ⟨bs, 0, none⟩)), (16, .slice (some ⟨sb40, k041, none⟩) ops.length c), (17, .int .i64 ((ops.length : Nat) : Int)), (18, .int .i64 ((i : Nat) : Int)), (6, .pointer (some ⟨bq64, 0, none⟩)), (10, .bool true), (11, .bool false), (76, .pointer (some ⟨bq64, 0, none⟩)), (77, .pointer (some ⟨bs, 0, none⟩))]) (φ := True) (fuel := 16) h251 (by kernel_rfl) rfl (by kernel_rfl) (by kernel_rfl) ⟨trivial, trivial, trivial⟩ trivial fun a253 h254 => ?_
              clear h251
              refine wpAnyK_one (i := 2) (fuel := 15) (by kernel_rfl) ?_
              have hsame : (doR s x).2 = s := do_same (.inl hcode)
              rw [hsame] at h254
              refine op_call h254 rfl rfl rfl (callOk Try.func17 (by decide) rfl) (args := [.pointer (some ⟨bs, 0, none⟩)]) rfl (slog_ok bs _ _ _ _ _ false _ (h254.inv.get (j := 0) (p := pSess bs bl d105 s) rfl).blk) ?_
              rintro _ w255 ⟨rfl, hf257⟩
              refine ⟨_, rfl, ?_⟩
              have h256 := (h254.grow hf257).put (d := some 78) (v := .pointer (some ⟨bl, 0, none⟩)) (T' := [(78, .pointer (some ⟨bl, 0, none⟩)), (9, .pointer (some ⟨b111, 0, none⟩)), (8, .pointer (some ⟨b90, 0, none⟩)), (7, .pointer (some ⟨b84, 0, none⟩)), (5, .pointer (some ⟨b50, 0, none⟩)), (3, .pointer (some ⟨bs, 0, none⟩)), (16, .slice (some ⟨sb40, k041, none⟩) ops.length c), (17, .int .i64 ((ops.length : Nat) : Int)), (18, .int .i64 ((i : Nat) : Int)), (6, .pointer (some ⟨bq64, 0, none⟩)), (10, .bool true), (11, .bool false), (76, .pointer (some ⟨bq64, 0, none⟩)), (77, .pointer (some ⟨bs, 0, none⟩))]) rfl
              refine ⟨keepNil, ?_⟩
              clear h254
              refine wpAnyK_one (i := 3) (fuel := 14) (by kernel_rfl) ?_
              refine op_call h256 rfl rfl rfl (callOk Try.func16 (by decide) rfl) (args := [.pointer (some ⟨bq64, 0, none⟩), .pointer (some ⟨bl, 0, none⟩)]) rfl (sameLog_ok bq64 bl d65 d105 s.lg _ (h256.inv.get (j := 1) (p := pLog bq64 d65 s.lg) rfl) (h256.inv.get (j := 0) (p := pSess bs bl d105 s) rfl).log (fun b hb hq => Pf_nodup h256.inv.nd (i := 1) (j := 0) (x := pLog bq64 d65 s.lg) (y := pSess bs bl d105 s) rfl rfl (by decide) b hb (List.mem_cons_of_mem _ hq)) (by omega) (by omega) (by omega)) ?_
              rintro _ w258 ⟨rfl, hf260⟩
              refine ⟨_, rfl, ?_⟩
              have h259 := (h256.grow hf260).put (d := some 79) (v := .bool true) (T' := [(79, .bool true), (78, .pointer (some ⟨bl, 0, none⟩)), (9, .pointer (some ⟨b111, 0, none⟩)), (8, .pointer (some ⟨b90, 0, none⟩)), (7, .pointer (some ⟨b84, 0, none⟩)), (5, .pointer (some ⟨b50, 0, none⟩)), (3, .pointer (some ⟨bs, 0, none⟩)), (16, .slice (some ⟨sb40, k041, none⟩) ops.length c), (17, .int .i64 ((ops.length : Nat) : Int)), (18, .int .i64 ((i : Nat) : Int)), (6, .pointer (some ⟨bq64, 0, none⟩)), (10, .bool true), (11, .bool false), (76, .pointer (some ⟨bq64, 0, none⟩)), (77, .pointer (some ⟨bs, 0, none⟩))]) rfl
              refine ⟨keepNil, ?_⟩
              clear h256
              refine dr_batch tabOk tabZ_ok (by repeat (first | exact PF.body | with_reducible apply PF.inB | with_reducible apply PF.next)) [(4, {}), (5, {}), (6, {k := 1, p := 1}), (7, {})] [9, 8, 7, 5, 3, 16, 17, 18, 6, 10, 11, 81, 82, 83] (T' := [(9, .pointer (some ⟨b111, 0, none⟩)), (8, .pointer (some ⟨b90, 0, none⟩)), (7, .pointer (some ⟨b84, 0, none⟩)), (5, .pointer (some ⟨b50, 0, none⟩)), (3, .pointer (some ⟨bs, 0, none⟩)), (16, .slice (some ⟨sb40, k041, none⟩) ops.length c), (17, .int .i64 ((ops.length : Nat) : Int)), (18, .int .i64 ((i : Nat) : Int)), (6, .pointer (some ⟨bq64, 0, none⟩)), (10, .bool true), (11, .bool false), (81, .bool false), (82, .agg #[.int .u64 s.m.now, .int .i8 s.m.cur, .int .u8 s.m.s0, .int .u8 s.m.s1, .int .u8 s.m.s2, .int .u8 s.m.s3, .int .u64 s.m.r0, .int .u64 s.m.r1, .int .u64 s.m.r2, .int .u64 s.m.r3, .int .u64 s.m.word]), (83, .pointer (some ⟨bs, 0, none⟩))]) (φ := (b84 = b84 ∧ Nat.ble (0 + 11) 11 = true) ∧ True) (fuel := 10) h259 (by kernel_rfl) rfl (by kernel_rfl) (by kernel_rfl) ⟨trivial, trivial, rfl, trivial, trivial⟩ ⟨⟨rfl, rfl⟩, trivial⟩ fun a261 h262 => ?_
              clear h259
              refine wpAnyK_one (i := 8) (fuel := 9) (by kernel_rfl) ?_
              refine op_call h262 rfl rfl rfl (callOk Try.func15 (by decide) rfl) (args := [.pointer (some ⟨bs, 0, none⟩)]) rfl (smach_ok bs _ s.m _ _ _ false _ (h262.inv.get (j := 0) (p := pSess bs bl d105 s) rfl).blk) ?_
              rintro _ w263 ⟨rfl, hf265⟩
              refine ⟨_, rfl, ?_⟩
              have h264 := (h262.grow hf265).put (d := some 84) (v := .agg #[.int .u64 s.m.now, .int .i8 s.m.cur, .int .u8 s.m.s0, .int .u8 s.m.s1, .int .u8 s.m.s2, .int .u8 s.m.s3, .int .u64 s.m.r0, .int .u64 s.m.r1, .int .u64 s.m.r2, .int .u64 s.m.r3, .int .u64 s.m.word]) (T' := [(84, .agg #[.int .u64 s.m.now, .int .i8 s.m.cur, .int .u8 s.m.s0, .int .u8 s.m.s1, .int .u8 s.m.s2, .int .u8 s.m.s3, .int .u64 s.m.r0, .int .u64 s.m.r1, .int .u64 s.m.r2, .int .u64 s.m.r3, .int .u64 s.m.word]), (9, .pointer (some ⟨b111, 0, none⟩)), (8, .pointer (some ⟨b90, 0, none⟩)), (7, .pointer (some ⟨b84, 0, none⟩)), (5, .pointer (some ⟨b50, 0, none⟩)), (3, .pointer (some ⟨bs, 0, none⟩)), (16, .slice (some ⟨sb40, k041, none⟩) ops.length c), (17, .int .i64 ((ops.length : Nat) : Int)), (18, .int .i64 ((i : Nat) : Int)), (6, .pointer (some ⟨bq64, 0, none⟩)), (10, .bool true), (11, .bool false), (81, .bool false), (82, .agg #[.int .u64 s.m.now, .int .i8 s.m.cur, .int .u8 s.m.s0, .int .u8 s.m.s1, .int .u8 s.m.s2, .int .u8 s.m.s3, .int .u64 s.m.r0, .int .u64 s.m.r1, .int .u64 s.m.r2, .int .u64 s.m.r3, .int .u64 s.m.word]), (83, .pointer (some ⟨bs, 0, none⟩))]) rfl
              refine ⟨(h262.keepFr hf265 (kcons (by simp) knil)), ?_⟩
              clear h262
              refine dr_batch tabOk tabZ_ok (by repeat (first | exact PF.body | with_reducible apply PF.inB | with_reducible apply PF.next)) [(9, {f := 1}), (10, {}), (11, {}), (12, {k := 2, p := 2}), (13, {}), (14, {})] [9, 8, 7, 5, 3, 16, 17, 18, 6, 10, 11, 87, 88, 89, 90] (T' := [(9, .pointer (some ⟨b111, 0, none⟩)), (8, .pointer (some ⟨b90, 0, none⟩)), (7, .pointer (some ⟨b84, 0, none⟩)), (5, .pointer (some ⟨b50, 0, none⟩)), (3, .pointer (some ⟨bs, 0, none⟩)), (16, .slice (some ⟨sb40, k041, none⟩) ops.length c), (17, .int .i64 ((ops.length : Nat) : Int)), (18, .int .i64 ((i : Nat) : Int)), (6, .pointer (some ⟨bq64, 0, none⟩)), (10, .bool true), (11, .bool false), (87, .bool false), (88, .agg #[.int .u8 0, .int .i64 s.pos, .int .i64 s.lg.base.idx, .int .i64 s.lg.fin, .bool s.live, .bool s.out.refused, .int .i8 s.out.running, .int .u64 s.out.value, .int .u64 (dig s.m), .int .i64 s.pos, .int .i64 0, .int .i64 (-1)]), (89, .pointer (some ⟨bs, 0, none⟩)), (90, .agg #[.int .u8 8, .int .i64 0, .int .i64 0, .int .u8 0, .int .u32 0, .int .u64 0])]) (φ := EqRun Try.prog 46 (.agg #[.int .u64 s.m.now, .int .i8 s.m.cur, .int .u8 s.m.s0, .int .u8 s.m.s1, .int .u8 s.m.s2, .int .u8 s.m.s3, .int .u64 s.m.r0, .int .u64 s.m.r1, .int .u64 s.m.r2, .int .u64 s.m.r3, .int .u64 s.m.word]) (.agg #[.int .u64 s.m.now, .int .i8 s.m.cur, .int .u8 s.m.s0, .int .u8 s.m.s1, .int .u8 s.m.s2, .int .u8 s.m.s3, .int .u64 s.m.r0, .int .u64 s.m.r1, .int .u64 s.m.r2, .int .u64 s.m.r3, .int .u64 s.m.word]) true ∧ (b90 = b90 ∧ Nat.ble (0 + 12) 12 = true) ∧ True) (fuel := 3) h264 (by kernel_rfl) rfl (by kernel_rfl) (by kernel_rfl) ⟨trivial, trivial, trivial, rfl, trivial, trivial, trivial⟩ ⟨(run46s s.m), ⟨rfl, rfl⟩, trivial⟩ fun a266 h267 => ?_
              clear h264
              refine wpAnyK_one (i := 15) (fuel := 2) (by kernel_rfl) ?_
              refine op_call h267 rfl rfl rfl (callOk Try.func12 (by decide) rfl) (args := [.pointer (some ⟨bs, 0, none⟩), .agg #[.int .u8 8, .int .i64 0, .int .i64 0, .int .u8 0, .int .u32 0, .int .u64 0]]) rfl ((by have hq := do_ok bs bl d105 s _ (h267.inv.get (j := 0) (p := pSess bs bl d105 s) rfl) (B := (i : Int)) (by omega) hwf ⟨8, 0, 0, ⟨0, 0, 0⟩⟩ (opk_ok (by decide) (by decide)); rw [do_where] at hq; exact hq)) ?_
              rintro _ w272 ⟨d268, rfl, hs269, hf270, hF271⟩
              refine ⟨_, rfl, ?_⟩
              have h273 := (h267.pcSet (j := 0) (p := pSess bs bl d105 s) (p' := pSess bs bl d268 s) (ps' := [pSess bs bl d268 s, pLog bq64 d65 s.lg]) rfl (pSess_ok hs269) hf270 (fun _ h => h) (sess_sub hF271) (kcons (by intro hq; cases hq) (kcons (by intro hq; cases hq) (kcons (by intro hq; cases hq) (kcons (by intro hq; cases hq) knil)))) rfl).put (d := some 91) (v := .agg #[.int .u8 0, .int .i64 s.pos, .int .i64 s.lg.base.idx, .int .i64 s.lg.fin, .bool s.live, .bool s.out.refused, .int .i8 s.out.running, .int .u64 s.out.value, .int .u64 (dig s.m), .int .i64 s.pos, .int .i64 0, .int .i64 (-1)]) (T' := [(91, .agg #[.int .u8 0, .int .i64 s.pos, .int .i64 s.lg.base.idx, .int .i64 s.lg.fin, .bool s.live, .bool s.out.refused, .int .i8 s.out.running, .int .u64 s.out.value, .int .u64 (dig s.m), .int .i64 s.pos, .int .i64 0, .int .i64 (-1)]), (9, .pointer (some ⟨b111, 0, none⟩)), (8, .pointer (some ⟨b90, 0, none⟩)), (7, .pointer (some ⟨b84, 0, none⟩)), (5, .pointer (some ⟨b50, 0, none⟩)), (3, .pointer (some ⟨bs, 0, none⟩)), (16, .slice (some ⟨sb40, k041, none⟩) ops.length c), (17, .int .i64 ((ops.length : Nat) : Int)), (18, .int .i64 ((i : Nat) : Int)), (6, .pointer (some ⟨bq64, 0, none⟩)), (10, .bool true), (11, .bool false), (87, .bool false), (88, .agg #[.int .u8 0, .int .i64 s.pos, .int .i64 s.lg.base.idx, .int .i64 s.lg.fin, .bool s.live, .bool s.out.refused, .int .i8 s.out.running, .int .u64 s.out.value, .int .u64 (dig s.m), .int .i64 s.pos, .int .i64 0, .int .i64 (-1)]), (89, .pointer (some ⟨bs, 0, none⟩)), (90, .agg #[.int .u8 8, .int .i64 0, .int .i64 0, .int .u8 0, .int .u32 0, .int .u64 0])]) rfl
              have hkh273 := h267.known
              refine ⟨(keepOf hkh273 h273.known (kcons (keepAt (q := 2) (q' := 2) rfl rfl) knil)), ?_⟩
              have hszh273 : w.heap.size ≤ _ := h267.frame.size
              clear h267
              refine dr_batch tabOk tabZ_ok (by repeat (first | exact PF.body | with_reducible apply PF.inB | with_reducible apply PF.next)) [(16, {f := 1}), (17, {})] [9, 8, 7, 5, 3, 16, 17, 18, 6, 10, 11, 93] (T' := [(9, .pointer (some ⟨b111, 0, none⟩)), (8, .pointer (some ⟨b90, 0, none⟩)), (7, .pointer (some ⟨b84, 0, none⟩)), (5, .pointer (some ⟨b50, 0, none⟩)), (3, .pointer (some ⟨bs, 0, none⟩)), (16, .slice (some ⟨sb40, k041, none⟩) ops.length c), (17, .int .i64 ((ops.length : Nat) : Int)), (18, .int .i64 ((i : Nat) : Int)), (6, .pointer (some ⟨bq64, 0, none⟩)), (10, .bool true), (11, .bool false), (93, .bool false)]) (φ := EqRun Try.prog 41 (.agg #[.int .u8 0, .int .i64 s.pos, .int .i64 s.lg.base.idx, .int .i64 s.lg.fin, .bool s.live, .bool s.out.refused, .int .i8 s.out.running, .int .u64 s.out.value, .int .u64 (dig s.m), .int .i64 s.pos, .int .i64 0, .int .i64 (-1)]) (.agg #[.int .u8 0, .int .i64 s.pos, .int .i64 s.lg.base.idx, .int .i64 s.lg.fin, .bool s.live, .bool s.out.refused, .int .i8 s.out.running, .int .u64 s.out.value, .int .u64 (dig s.m), .int .i64 s.pos, .int .i64 0, .int .i64 (-1)]) true ∧ True) (fuel := 0) h273 (by kernel_rfl) rfl (by kernel_rfl) (by kernel_rfl) ⟨trivial, trivial, trivial⟩ ⟨(run41s (s.stat 0)), trivial⟩ fun a274 h275 => ?_
              clear h273
              refine wpAnyK_done (by kernel_rfl) ?_ _
              refine hK249 _ _ ?_
              clear hK249
              refine c_false h275 rfl ?_
              refine wp_skip ?_
              refine hK45 _ _ ?_
              clear hK45
              refine nd_start (l := [0, 1]) rfl ?_
              refine nd_batch tabOk tabZ_ok [(0, {}), (1, {})] [9, 8, 7, 5, 3, 16, 17, 6, 10, 11, 18] (T' := [(9, .pointer (some ⟨b111, 0, none⟩)), (8, .pointer (some ⟨b90, 0, none⟩)), (7, .pointer (some ⟨b84, 0, none⟩)), (5, .pointer (some ⟨b50, 0, none⟩)), (3, .pointer (some ⟨bs, 0, none⟩)), (16, .slice (some ⟨sb40, k041, none⟩) ops.length c), (17, .int .i64 ((ops.length : Nat) : Int)), (6, .pointer (some ⟨bq64, 0, none⟩)), (10, .bool true), (11, .bool false), (18, .int .i64 (((i : Nat) : Int) + 1))]) (φ := inR .i64 (((i : Nat) : Int) + 1) ∧ True) (rest := []) h275 (by kernel_rfl) rfl ⟨⟨by omega, by omega⟩, trivial⟩ fun a276 h277 => ?_
              clear h275
              refine nd_done ?_
              have h278 := h277.memMono (L' := []) (List.Sublist.cons _ (List.Sublist.cons _ (List.Sublist.cons _ (List.Sublist.cons _ List.Sublist.slnil))))
              clear h277
              have h279 := h278.pcSub (ps' := [pSess bs bl d268 s]) (List.Sublist.cons_cons _ (List.Sublist.cons _ List.Sublist.slnil))
              clear h278
              exact ⟨(g - 1), by omega, (i + 1), s, d268, by omega, by omega, (hwf.mono (by omega)), (h279.slotsMono (restr_spec (keep := [3, 16, 17, 18]) rfl))⟩
        ·
          have hb200f : x.kind ≠ 6 := by simpa using hb200
          have hk6 : x.kind ≠ 6 := hb200f
          refine nd_start (l := [0, 1, 2, 3, 4, 5, 6, 7, 8, 9, 10, 11, 12, 13]) rfl ?_
          refine nd_batch tabOk tabZ_ok [(0, {}), (1, {k := 0}), (2, {f := 1}), (3, {}), (4, {}), (5, {k := 0}), (6, {f := 1}), (7, {}), (8, {}), (9, {}), (10, {k := 0}), (11, {}), (12, {}), (13, {})] [9, 8, 7, 5, 3, 16, 17, 18, 6, 10] (T' := [(9, .pointer (some ⟨b111, 0, none⟩)), (8, .pointer (some ⟨b90, 0, none⟩)), (7, .pointer (some ⟨b84, 0, none⟩)), (5, .pointer (some ⟨b50, 0, none⟩)), (3, .pointer (some ⟨bs, 0, none⟩)), (16, .slice (some ⟨sb40, k041, none⟩) ops.length c), (17, .int .i64 ((ops.length : Nat) : Int)), (18, .int .i64 ((i : Nat) : Int)), (6, .pointer (some ⟨bq64, 0, none⟩)), (10, .bool (x.kind == 7))]) (φ := (b50 = b50 ∧ Nat.ble (0 + 1) 6 = true) ∧ ((x.kind == 8)) = false ∧ (b50 = b50 ∧ Nat.ble (0 + 1) 6 = true) ∧ ((x.kind == 6)) = false ∧ (b50 = b50 ∧ Nat.ble (0 + 1) 6 = true) ∧ True) (rest := []) h118 (by kernel_rfl) rfl ⟨⟨rfl, rfl⟩, hb120, ⟨rfl, rfl⟩, hb200, ⟨rfl, rfl⟩, trivial⟩ fun a280 h281 => ?_
          clear h118
          refine nd_done ?_
          refine hK119 _ _ ?_
          clear hK119
          refine wp_seq_k fun K282 hK282 => ?_
          rcases Bool.eq_false_or_eq_true ((x.kind == 1)) with hb283 | hb283
          ·
            have hb283f : x.kind = 1 := by simpa using hb283
            have hk1 : x.kind = 1 := hb283f
            rcases Bool.eq_false_or_eq_true (decide (x.n < s.lg.base.idx)) with hb284 | hb284
            ·
              have hb284f : x.n < s.lg.base.idx := by simpa using hb284
              have hcode1 := seek_out hk1 (.inl hb284f)
              refine nd_start (l := [0, 1, 2, 3, 4, 5, 6, 7, 8, 9, 10, 11, 12, 13, 14, 15, 16, 17]) rfl ?_
              refine nd_batch tabOk tabZ_ok [(0, {}), (1, {k := 0}), (2, {f := 2}), (3, {}), (4, {}), (5, {k := 0}), (6, {}), (7, {k := 2}), (8, {f := 2}), (9, {}), (10, {}), (11, {}), (12, {}), (13, {}), (14, {}), (15, {}), (16, {}), (17, {})] [9, 8, 7, 5, 3, 16, 17, 18, 6, 10, 11] (T' := [(9, .pointer (some ⟨b111, 0, none⟩)), (8, .pointer (some ⟨b90, 0, none⟩)), (7, .pointer (some ⟨b84, 0, none⟩)), (5, .pointer (some ⟨b50, 0, none⟩)), (3, .pointer (some ⟨bs, 0, none⟩)), (16, .slice (some ⟨sb40, k041, none⟩) ops.length c), (17, .int .i64 ((ops.length : Nat) : Int)), (18, .int .i64 ((i : Nat) : Int)), (6, .pointer (some ⟨bq64, 0, none⟩)), (10, .bool (x.kind == 7)), (11, .bool true)]) (φ := (b50 = b50 ∧ Nat.ble (0 + 1) 6 = true) ∧ ((x.kind == 1)) = true ∧ (b50 = b50 ∧ Nat.ble (1 + 1) 6 = true) ∧ (b90 = b90 ∧ Nat.ble (2 + 1) 12 = true) ∧ (decide (x.n < s.lg.base.idx)) = true ∧ True) (rest := []) h281 (by kernel_rfl) rfl ⟨⟨rfl, rfl⟩, hb283, ⟨rfl, rfl⟩, ⟨rfl, rfl⟩, hb284, trivial⟩ fun a285 h286 => ?_
              clear h281
              refine nd_done ?_
              refine hK282 _ _ ?_
              clear hK282
              refine wp_seq_k fun K287 hK287 => ?_
              refine wp_seq_k fun K288 hK288 => ?_
              refine nd_start (l := [0, 1, 2, 3, 4, 5]) rfl ?_
              refine nd_batch tabOk tabZ_ok [(0, {}), (1, {}), (2, {}), (3, {k := 3}), (4, {f := 1}), (5, {})] [9, 8, 7, 5, 3, 16, 17, 18, 6, 10, 11, 68] (T' := [(9, .pointer (some ⟨b111, 0, none⟩)), (8, .pointer (some ⟨b90, 0, none⟩)), (7, .pointer (some ⟨b84, 0, none⟩)), (5, .pointer (some ⟨b50, 0, none⟩)), (3, .pointer (some ⟨bs, 0, none⟩)), (16, .slice (some ⟨sb40, k041, none⟩) ops.length c), (17, .int .i64 ((ops.length : Nat) : Int)), (18, .int .i64 ((i : Nat) : Int)), (6, .pointer (some ⟨bq64, 0, none⟩)), (10, .bool (x.kind == 7)), (11, .bool true), (68, .bool false)]) (φ := (b111 = b111 ∧ Nat.ble (0 + 1) 12 = true) ∧ (((doR s x).1.code != 1)) = false ∧ True) (rest := []) h286 (by kernel_rfl) rfl ⟨⟨rfl, rfl⟩, (by rw [hcode1]; rfl), trivial⟩ fun a289 h290 => ?_
              clear h286
              refine nd_done ?_
              refine hK288 _ _ ?_
              clear hK288
              refine c_false h290 rfl ?_
              refine wp_skip ?_
              refine hK287 _ _ ?_
              clear hK287
              refine wp_seq_k fun K291 hK291 => ?_
              refine wp_seq_k fun K292 hK292 => ?_
              rcases Bool.eq_false_or_eq_true (((doR s x).1.code == 0)) with hb293 | hb293
              ·
                have hb293f : (doR s x).1.code = 0 := by simpa using hb293
                have hcode : (doR s x).1.code = 0 := hb293f
                refine nd_start (l := [0, 1, 2, 3, 4, 5, 6]) rfl ?_
                refine nd_batch tabOk tabZ_ok [(0, {}), (1, {k := 3}), (2, {f := 2}), (3, {}), (4, {}), (5, {}), (6, {})] [9, 8, 7, 5, 3, 16, 17, 18, 6, 10, 11, 75] (T' := [(9, .pointer (some ⟨b111, 0, none⟩)), (8, .pointer (some ⟨b90, 0, none⟩)), (7, .pointer (some ⟨b84, 0, none⟩)), (5, .pointer (some ⟨b50, 0, none⟩)), (3, .pointer (some ⟨bs, 0, none⟩)), (16, .slice (some ⟨sb40, k041, none⟩) ops.length c), (17, .int .i64 ((ops.length : Nat) : Int)), (18, .int .i64 ((i : Nat) : Int)), (6, .pointer (some ⟨bq64, 0, none⟩)), (10, .bool (x.kind == 7)), (11, .bool true), (75, .bool (!(x.kind == 7)))]) (φ := (b111 = b111 ∧ Nat.ble (0 + 1) 12 = true) ∧ (((doR s x).1.code == 0)) = true ∧ True) (rest := []) h290 (by kernel_rfl) rfl ⟨⟨rfl, rfl⟩, hb293, trivial⟩ fun a294 h295 => ?_
                clear h290
                refine nd_done ?_
                refine hK292 _ _ ?_
                clear hK292
                refine c_split h295 (b := !(x.kind == 7)) rfl (fun hc296 => ?_) (fun hc296 => ?_)
                ·
                  refine wp_exit ?_
                  refine hK45 _ _ ?_
                  clear hK45
                  refine nd_start (l := [0, 1]) rfl ?_
                  refine nd_batch tabOk tabZ_ok [(0, {}), (1, {})] [9, 8, 7, 5, 3, 16, 17, 6, 10, 11, 18] (T' := [(9, .pointer (some ⟨b111, 0, none⟩)), (8, .pointer (some ⟨b90, 0, none⟩)), (7, .pointer (some ⟨b84, 0, none⟩)), (5, .pointer (some ⟨b50, 0, none⟩)), (3, .pointer (some ⟨bs, 0, none⟩)), (16, .slice (some ⟨sb40, k041, none⟩) ops.length c), (17, .int .i64 ((ops.length : Nat) : Int)), (6, .pointer (some ⟨bq64, 0, none⟩)), (10, .bool (x.kind == 7)), (11, .bool true), (18, .int .i64 (((i : Nat) : Int) + 1))]) (φ := inR .i64 (((i : Nat) : Int) + 1) ∧ True) (rest := []) h295 (by kernel_rfl) rfl ⟨⟨by omega, by omega⟩, trivial⟩ fun a297 h298 => ?_
                  clear h295
                  refine nd_done ?_
                  have h299 := h298.memMono (L' := []) (List.Sublist.cons _ (List.Sublist.cons _ (List.Sublist.cons _ (List.Sublist.cons _ List.Sublist.slnil))))
                  clear h298
                  have h300 := h299.pcSub (ps' := [pSess bs bl d105 ((doR s x).2)]) (List.Sublist.cons_cons _ (List.Sublist.cons _ List.Sublist.slnil))
                  clear h299
                  exact ⟨(g - 1), by omega, (i + 1), (doR s x).2, d105, by omega, by omega, hwf1, (h300.slotsMono (restr_spec (keep := [3, 16, 17, 18]) rfl))⟩
                ·
                  have hk7 : x.kind = 7 := by simpa using hc296
                  refine wp_skip ?_
                  refine hK291 _ _ ?_
                  clear hK291
                  refine wp_seq_k fun K301 hK301 => ?_
                  refine dr_start (KB := [b50, b84, b90, b111]) (Bi := [[0, 1, 2, 3], [0, 1, 2, 3], [], [], [0, 1, 2, 3], [0, 1, 2, 3], [0, 1, 2, 3], [0, 1, 2, 3], [1], [0, 1, 2, 3], [0, 1, 2, 3], [0, 1, 2, 3], [0, 1, 2, 3], [0, 1, 2, 3], [0, 1, 2, 3], [2], [0, 1, 2, 3], [0, 1, 2, 3]]) mixed h295 fun w302 h303 => ?_
                  clear h295
                  refine dr_batch tabOk tabZ_ok (by repeat (first | exact PF.body | with_reducible apply PF.inB | with_reducible apply PF.next)) [(0, {}), (1, {})] [9, 8, 7, 5, 3, 16, 17, 18, 6, 10, 11, 76, 77] (T' := [(9, .pointer (some ⟨b111, 0, none⟩)), (8, .pointer (some ⟨b90, 0, none⟩)), (7, .pointer (some ⟨b84, 0, none⟩)), (5, .pointer (some ⟨b50, 0, none⟩)), (3, .pointer (some ⟨bs, 0, none⟩)), (16, .slice (some ⟨sb40, k041, none⟩) ops.length c), (17, .int .i64 ((ops.length : Nat) : Int)), (18, .int .i64 ((i : Nat) : Int)), (6, .pointer (some ⟨bq64, 0, none⟩)), (10, .bool (x.kind == 7)), (11, .bool true), (76, .pointer (some ⟨bq64, 0, none⟩)), (77, .pointer (some ⟨bs, 0, none⟩))]) (φ := True) (fuel := 16) h303 (by kernel_rfl) rfl (by kernel_rfl) (by kernel_rfl) ⟨trivial, trivial, trivial⟩ trivial fun a305 h306 => ?_
                  clear h303
                  refine wpAnyK_one (i := 2) (fuel := 15) (by kernel_rfl) ?_
                  have hsame : (doR s x).2 = s := do_same (.inr (.inr (.inl hk7)))
                  rw [hsame] at h306
                  refine op_call h306 rfl rfl rfl (callOk Try.func17 (by decide) rfl) (args := [.pointer (some ⟨bs, 0, none⟩)]) rfl (slog_ok bs _ _ _ _ _ false _ (h306.inv.get (j := 0) (p := pSess bs bl d105 s) rfl).blk) ?_
                  rintro _ w307 ⟨rfl, hf309⟩
                  refine ⟨_, rfl, ?_⟩
                  have h308 := (h306.grow hf309).put (d := some 78) (v := .pointer (some ⟨bl, 0, none⟩)) (T' := [(78, .pointer (some ⟨bl, 0, none⟩)), (9, .pointer (some ⟨b111, 0, none⟩)), (8, .pointer (some ⟨b90, 0, none⟩)), (7, .pointer (some ⟨b84, 0, none⟩)), (5, .pointer (some ⟨b50, 0, none⟩)), (3, .pointer (some ⟨bs, 0, none⟩)), (16, .slice (some ⟨sb40, k041, none⟩) ops.length c), (17, .int .i64 ((ops.length : Nat) : Int)), (18, .int .i64 ((i : Nat) : Int)), (6, .pointer (some ⟨bq64, 0, none⟩)), (10, .bool (x.kind == 7)), (11, .bool true), (76, .pointer (some ⟨bq64, 0, none⟩)), (77, .pointer (some ⟨bs, 0, none⟩))]) rfl
                  refine ⟨keepNil, ?_⟩
                  clear h306
                  refine wpAnyK_one (i := 3) (fuel := 14) (by kernel_rfl) ?_
                  refine op_call h308 rfl rfl rfl (callOk Try.func16 (by decide) rfl) (args := [.pointer (some ⟨bq64, 0, none⟩), .pointer (some ⟨bl, 0, none⟩)]) rfl (sameLog_ok bq64 bl d65 d105 s.lg _ (h308.inv.get (j := 1) (p := pLog bq64 d65 s.lg) rfl) (h308.inv.get (j := 0) (p := pSess bs bl d105 s) rfl).log (fun b hb hq => Pf_nodup h308.inv.nd (i := 1) (j := 0) (x := pLog bq64 d65 s.lg) (y := pSess bs bl d105 s) rfl rfl (by decide) b hb (List.mem_cons_of_mem _ hq)) (by omega) (by omega) (by omega)) ?_
                  rintro _ w310 ⟨rfl, hf312⟩
                  refine ⟨_, rfl, ?_⟩
                  have h311 := (h308.grow hf312).put (d := some 79) (v := .bool true) (T' := [(79, .bool true), (78, .pointer (some ⟨bl, 0, none⟩)), (9, .pointer (some ⟨b111, 0, none⟩)), (8, .pointer (some ⟨b90, 0, none⟩)), (7, .pointer (some ⟨b84, 0, none⟩)), (5, .pointer (some ⟨b50, 0, none⟩)), (3, .pointer (some ⟨bs, 0, none⟩)), (16, .slice (some ⟨sb40, k041, none⟩) ops.length c), (17, .int .i64 ((ops.length : Nat) : Int)), (18, .int .i64 ((i : Nat) : Int)), (6, .pointer (some ⟨bq64, 0, none⟩)), (10, .bool (x.kind == 7)), (11, .bool true), (76, .pointer (some ⟨bq64, 0, none⟩)), (77, .pointer (some ⟨bs, 0, none⟩))]) rfl
                  refine ⟨keepNil, ?_⟩
                  clear h308
                  refine dr_batch tabOk tabZ_ok (by repeat (first | exact PF.body | with_reducible apply PF.inB | with_reducible apply PF.next)) [(4, {}), (5, {}), (6, {k := 1, p := 1}), (7, {})] [9, 8, 7, 5, 3, 16, 17, 18, 6, 10, 11, 81, 82, 83] (T' := [(9, .pointer (some ⟨b111, 0, none⟩)), (8, .pointer (some ⟨b90, 0, none⟩)), (7, .pointer (some ⟨b84, 0, none⟩)), (5, .pointer (some ⟨b50, 0, none⟩)), (3, .pointer (some ⟨bs, 0, none⟩)), (16, .slice (some ⟨sb40, k041, none⟩) ops.length c), (17, .int .i64 ((ops.length : Nat) : Int)), (18, .int .i64 ((i : Nat) : Int)), (6, .pointer (some ⟨bq64, 0, none⟩)), (10, .bool (x.kind == 7)), (11, .bool true), (81, .bool false), (82, .agg #[.int .u64 s.m.now, .int .i8 s.m.cur, .int .u8 s.m.s0, .int .u8 s.m.s1, .int .u8 s.m.s2, .int .u8 s.m.s3, .int .u64 s.m.r0, .int .u64 s.m.r1, .int .u64 s.m.r2, .int .u64 s.m.r3, .int .u64 s.m.word]), (83, .pointer (some ⟨bs, 0, none⟩))]) (φ := (b84 = b84 ∧ Nat.ble (0 + 11) 11 = true) ∧ True) (fuel := 10) h311 (by kernel_rfl) rfl (by kernel_rfl) (by kernel_rfl) ⟨trivial, trivial, rfl, trivial, trivial⟩ ⟨⟨rfl, rfl⟩, trivial⟩ fun a313 h314 => ?_
                  clear h311
                  refine wpAnyK_one (i := 8) (fuel := 9) (by kernel_rfl) ?_
                  refine op_call h314 rfl rfl rfl (callOk Try.func15 (by decide) rfl) (args := [.pointer (some ⟨bs, 0, none⟩)]) rfl (smach_ok bs _ s.m _ _ _ false _ (h314.inv.get (j := 0) (p := pSess bs bl d105 s) rfl).blk) ?_
                  rintro _ w315 ⟨rfl, hf317⟩
                  refine ⟨_, rfl, ?_⟩
                  have h316 := (h314.grow hf317).put (d := some 84) (v := .agg #[.int .u64 s.m.now, .int .i8 s.m.cur, .int .u8 s.m.s0, .int .u8 s.m.s1, .int .u8 s.m.s2, .int .u8 s.m.s3, .int .u64 s.m.r0, .int .u64 s.m.r1, .int .u64 s.m.r2, .int .u64 s.m.r3, .int .u64 s.m.word]) (T' := [(84, .agg #[.int .u64 s.m.now, .int .i8 s.m.cur, .int .u8 s.m.s0, .int .u8 s.m.s1, .int .u8 s.m.s2, .int .u8 s.m.s3, .int .u64 s.m.r0, .int .u64 s.m.r1, .int .u64 s.m.r2, .int .u64 s.m.r3, .int .u64 s.m.word]), (9, .pointer (some ⟨b111, 0, none⟩)), (8, .pointer (some ⟨b90, 0, none⟩)), (7, .pointer (some ⟨b84, 0, none⟩)), (5, .pointer (some ⟨b50, 0, none⟩)), (3, .pointer (some ⟨bs, 0, none⟩)), (16, .slice (some ⟨sb40, k041, none⟩) ops.length c), (17, .int .i64 ((ops.length : Nat) : Int)), (18, .int .i64 ((i : Nat) : Int)), (6, .pointer (some ⟨bq64, 0, none⟩)), (10, .bool (x.kind == 7)), (11, .bool true), (81, .bool false), (82, .agg #[.int .u64 s.m.now, .int .i8 s.m.cur, .int .u8 s.m.s0, .int .u8 s.m.s1, .int .u8 s.m.s2, .int .u8 s.m.s3, .int .u64 s.m.r0, .int .u64 s.m.r1, .int .u64 s.m.r2, .int .u64 s.m.r3, .int .u64 s.m.word]), (83, .pointer (some ⟨bs, 0, none⟩))]) rfl
                  refine ⟨(h314.keepFr hf317 (kcons (by simp) knil)), ?_⟩
                  clear h314
                  refine dr_batch tabOk tabZ_ok (by repeat (first | exact PF.body | with_reducible apply PF.inB | with_reducible apply PF.next)) [(9, {f := 1}), (10, {}), (11, {}), (12, {k := 2, p := 2}), (13, {}), (14, {})] [9, 8, 7, 5, 3, 16, 17, 18, 6, 10, 11, 87, 88, 89, 90] (T' := [(9, .pointer (some ⟨b111, 0, none⟩)), (8, .pointer (some ⟨b90, 0, none⟩)), (7, .pointer (some ⟨b84, 0, none⟩)), (5, .pointer (some ⟨b50, 0, none⟩)), (3, .pointer (some ⟨bs, 0, none⟩)), (16, .slice (some ⟨sb40, k041, none⟩) ops.length c), (17, .int .i64 ((ops.length : Nat) : Int)), (18, .int .i64 ((i : Nat) : Int)), (6, .pointer (some ⟨bq64, 0, none⟩)), (10, .bool (x.kind == 7)), (11, .bool true), (87, .bool false), (88, .agg #[.int .u8 0, .int .i64 s.pos, .int .i64 s.lg.base.idx, .int .i64 s.lg.fin, .bool s.live, .bool s.out.refused, .int .i8 s.out.running, .int .u64 s.out.value, .int .u64 (dig s.m), .int .i64 s.pos, .int .i64 0, .int .i64 (-1)]), (89, .pointer (some ⟨bs, 0, none⟩)), (90, .agg #[.int .u8 8, .int .i64 0, .int .i64 0, .int .u8 0, .int .u32 0, .int .u64 0])]) (φ := EqRun Try.prog 46 (.agg #[.int .u64 s.m.now, .int .i8 s.m.cur, .int .u8 s.m.s0, .int .u8 s.m.s1, .int .u8 s.m.s2, .int .u8 s.m.s3, .int .u64 s.m.r0, .int .u64 s.m.r1, .int .u64 s.m.r2, .int .u64 s.m.r3, .int .u64 s.m.word]) (.agg #[.int .u64 s.m.now, .int .i8 s.m.cur, .int .u8 s.m.s0, .int .u8 s.m.s1, .int .u8 s.m.s2, .int .u8 s.m.s3, .int .u64 s.m.r0, .int .u64 s.m.r1, .int .u64 s.m.r2, .int .u64 s.m.r3, .int .u64 s.m.word]) true ∧ (b90 = b90 ∧ Nat.ble (0 + 12) 12 = true) ∧ True) (fuel := 3) h316 (by kernel_rfl) rfl (by kernel_rfl) (by kernel_rfl) ⟨trivial, trivial, trivial, rfl, trivial, trivial, trivial⟩ ⟨(run46s s.m), ⟨rfl, rfl⟩, trivial⟩ fun a318 h319 => ?_
                  clear h316
                  refine wpAnyK_one (i := 15) (fuel := 2) (by kernel_rfl) ?_
                  refine op_call h319 rfl rfl rfl (callOk Try.func12 (by decide) rfl) (args := [.pointer (some ⟨bs, 0, none⟩), .agg #[.int .u8 8, .int .i64 0, .int .i64 0, .int .u8 0, .int .u32 0, .int .u64 0]]) rfl ((by have hq := do_ok bs bl d105 s _ (h319.inv.get (j := 0) (p := pSess bs bl d105 s) rfl) (B := (i : Int)) (by omega) hwf ⟨8, 0, 0, ⟨0, 0, 0⟩⟩ (opk_ok (by decide) (by decide)); rw [do_where] at hq; exact hq)) ?_
                  rintro _ w324 ⟨d320, rfl, hs321, hf322, hF323⟩
                  refine ⟨_, rfl, ?_⟩
                  have h325 := (h319.pcSet (j := 0) (p := pSess bs bl d105 s) (p' := pSess bs bl d320 s) (ps' := [pSess bs bl d320 s, pLog bq64 d65 s.lg]) rfl (pSess_ok hs321) hf322 (fun _ h => h) (sess_sub hF323) (kcons (by intro hq; cases hq) (kcons (by intro hq; cases hq) (kcons (by intro hq; cases hq) (kcons (by intro hq; cases hq) knil)))) rfl).put (d := some 91) (v := .agg #[.int .u8 0, .int .i64 s.pos, .int .i64 s.lg.base.idx, .int .i64 s.lg.fin, .bool s.live, .bool s.out.refused, .int .i8 s.out.running, .int .u64 s.out.value, .int .u64 (dig s.m), .int .i64 s.pos, .int .i64 0, .int .i64 (-1)]) (T' := [(91, .agg #[.int .u8 0, .int .i64 s.pos, .int .i64 s.lg.base.idx, .int .i64 s.lg.fin, .bool s.live, .bool s.out.refused, .int .i8 s.out.running, .int .u64 s.out.value, .int .u64 (dig s.m), .int .i64 s.pos, .int .i64 0, .int .i64 (-1)]), (9, .pointer (some ⟨b111, 0, none⟩)), (8, .pointer (some ⟨b90, 0, none⟩)), (7, .pointer (some ⟨b84, 0, none⟩)), (5, .pointer (some ⟨b50, 0, none⟩)), (3, .pointer (some ⟨bs, 0, none⟩)), (16, .slice (some ⟨sb40, k041, none⟩) ops.length c), (17, .int .i64 ((ops.length : Nat) : Int)), (18, .int .i64 ((i : Nat) : Int)), (6, .pointer (some ⟨bq64, 0, none⟩)), (10, .bool (x.kind == 7)), (11, .bool true), (87, .bool false), (88, .agg #[.int .u8 0, .int .i64 s.pos, .int .i64 s.lg.base.idx, .int .i64 s.lg.fin, .bool s.live, .bool s.out.refused, .int .i8 s.out.running, .int .u64 s.out.value, .int .u64 (dig s.m), .int .i64 s.pos, .int .i64 0, .int .i64 (-1)]), (89, .pointer (some ⟨bs, 0, none⟩)), (90, .agg #[.int .u8 8, .int .i64 0, .int .i64 0, .int .u8 0, .int .u32 0, .int .u64 0])]) rfl
                  have hkh325 := h319.known
                  refine ⟨(keepOf hkh325 h325.known (kcons (keepAt (q := 2) (q' := 2) rfl rfl) knil)), ?_⟩
                  have hszh325 : w.heap.size ≤ _ := h319.frame.size
                  clear h319
                  refine dr_batch tabOk tabZ_ok (by repeat (first | exact PF.body | with_reducible apply PF.inB | with_reducible apply PF.next)) [(16, {f := 1}), (17, {})] [9, 8, 7, 5, 3, 16, 17, 18, 6, 10, 11, 93] (T' := [(9, .pointer (some ⟨b111, 0, none⟩)), (8, .pointer (some ⟨b90, 0, none⟩)), (7, .pointer (some ⟨b84, 0, none⟩)), (5, .pointer (some ⟨b50, 0, none⟩)), (3, .pointer (some ⟨bs, 0, none⟩)), (16, .slice (some ⟨sb40, k041, none⟩) ops.length c), (17, .int .i64 ((ops.length : Nat) : Int)), (18, .int .i64 ((i : Nat) : Int)), (6, .pointer (some ⟨bq64, 0, none⟩)), (10, .bool (x.kind == 7)), (11, .bool true), (93, .bool false)]) (φ := EqRun Try.prog 41 (.agg #[.int .u8 0, .int .i64 s.pos, .int .i64 s.lg.base.idx, .int .i64 s.lg.fin, .bool s.live, .bool s.out.refused, .int .i8 s.out.running, .int .u64 s.out.value, .int .u64 (dig s.m), .int .i64 s.pos, .int .i64 0, .int .i64 (-1)]) (.agg #[.int .u8 0, .int .i64 s.pos, .int .i64 s.lg.base.idx, .int .i64 s.lg.fin, .bool s.live, .bool s.out.refused, .int .i8 s.out.running, .int .u64 s.out.value, .int .u64 (dig s.m), .int .i64 s.pos, .int .i64 0, .int .i64 (-1)]) true ∧ True) (fuel := 0) h325 (by kernel_rfl) rfl (by kernel_rfl) (by kernel_rfl) ⟨trivial, trivial, trivial⟩ ⟨(run41s (s.stat 0)), trivial⟩ fun a326 h327 => ?_
                  clear h325
                  refine wpAnyK_done (by kernel_rfl) ?_ _
                  refine hK301 _ _ ?_
                  clear hK301
                  refine c_false h327 rfl ?_
                  refine wp_skip ?_
                  refine hK45 _ _ ?_
                  clear hK45
                  refine nd_start (l := [0, 1]) rfl ?_
                  refine nd_batch tabOk tabZ_ok [(0, {}), (1, {})] [9, 8, 7, 5, 3, 16, 17, 6, 10, 11, 18] (T' := [(9, .pointer (some ⟨b111, 0, none⟩)), (8, .pointer (some ⟨b90, 0, none⟩)), (7, .pointer (some ⟨b84, 0, none⟩)), (5, .pointer (some ⟨b50, 0, none⟩)), (3, .pointer (some ⟨bs, 0, none⟩)), (16, .slice (some ⟨sb40, k041, none⟩) ops.length c), (17, .int .i64 ((ops.length : Nat) : Int)), (6, .pointer (some ⟨bq64, 0, none⟩)), (10, .bool (x.kind == 7)), (11, .bool true), (18, .int .i64 (((i : Nat) : Int) + 1))]) (φ := inR .i64 (((i : Nat) : Int) + 1) ∧ True) (rest := []) h327 (by kernel_rfl) rfl ⟨⟨by omega, by omega⟩, trivial⟩ fun a328 h329 => ?_
                  clear h327
                  refine nd_done ?_
                  have h330 := h329.memMono (L' := []) (List.Sublist.cons _ (List.Sublist.cons _ (List.Sublist.cons _ (List.Sublist.cons _ List.Sublist.slnil))))
                  clear h329
                  have h331 := h330.pcSub (ps' := [pSess bs bl d320 s]) (List.Sublist.cons_cons _ (List.Sublist.cons _ List.Sublist.slnil))
                  clear h330
                  exact ⟨(g - 1), by omega, (i + 1), s, d320, by omega, by omega, (hwf.mono (by omega)), (h331.slotsMono (restr_spec (keep := [3, 16, 17, 18]) rfl))⟩
              ·
                have hb293f : (doR s x).1.code ≠ 0 := by simpa using hb293
                have hcode : (doR s x).1.code ≠ 0 := hb293f
                refine nd_start (l := [0, 1, 2, 3, 4, 5, 6]) rfl ?_
                refine nd_batch tabOk tabZ_ok [(0, {}), (1, {k := 3}), (2, {f := 1}), (3, {}), (4, {}), (5, {}), (6, {})] [9, 8, 7, 5, 3, 16, 17, 18, 6, 10, 11, 75] (T' := [(9, .pointer (some ⟨b111, 0, none⟩)), (8, .pointer (some ⟨b90, 0, none⟩)), (7, .pointer (some ⟨b84, 0, none⟩)), (5, .pointer (some ⟨b50, 0, none⟩)), (3, .pointer (some ⟨bs, 0, none⟩)), (16, .slice (some ⟨sb40, k041, none⟩) ops.length c), (17, .int .i64 ((ops.length : Nat) : Int)), (18, .int .i64 ((i : Nat) : Int)), (6, .pointer (some ⟨bq64, 0, none⟩)), (10, .bool (x.kind == 7)), (11, .bool true), (75, .bool false)]) (φ := (b111 = b111 ∧ Nat.ble (0 + 1) 12 = true) ∧ (((doR s x).1.code == 0)) = false ∧ True) (rest := []) h290 (by kernel_rfl) rfl ⟨⟨rfl, rfl⟩, hb293, trivial⟩ fun a332 h333 => ?_
                clear h290
                refine nd_done ?_
                refine hK292 _ _ ?_
                clear hK292
                refine c_false h333 rfl ?_
                refine wp_skip ?_
                refine hK291 _ _ ?_
                clear hK291
                refine wp_seq_k fun K334 hK334 => ?_
                refine dr_start (KB := [b50, b84, b90, b111]) (Bi := [[0, 1, 2, 3], [0, 1, 2, 3], [], [], [0, 1, 2, 3], [0, 1, 2, 3], [0, 1, 2, 3], [0, 1, 2, 3], [1], [0, 1, 2, 3], [0, 1, 2, 3], [0, 1, 2, 3], [0, 1, 2, 3], [0, 1, 2, 3], [0, 1, 2, 3], [2], [0, 1, 2, 3], [0, 1, 2, 3]]) mixed h333 fun w335 h336 => ?_
                clear h333
                refine dr_batch tabOk tabZ_ok (by repeat (first | exact PF.body | with_reducible apply PF.inB | with_reducible apply PF.next)) [(0, {}), (1, {})] [9, 8, 7, 5, 3, 16, 17, 18, 6, 10, 11, 76, 77] (T' := [(9, .pointer (some ⟨b111, 0, none⟩)), (8, .pointer (some ⟨b90, 0, none⟩)), (7, .pointer (some ⟨b84, 0, none⟩)), (5, .pointer (some ⟨b50, 0, none⟩)), (3, .pointer (some ⟨bs, 0, none⟩)), (16, .slice (some ⟨sb40, k041, none⟩) ops.length c), (17, .int .i64 ((ops.length : Nat) : Int)), (18, .int .i64 ((i : Nat) : Int)), (6, .pointer (some ⟨bq64, 0, none⟩)), (10, .bool (x.kind == 7)), (11, .bool true), (76, .pointer (some ⟨bq64, 0, none⟩)), (77, .pointer (some ⟨bs, 0, none⟩))]) (φ := True) (fuel := 16) h336 (by kernel_rfl) rfl (by kernel_rfl) (by kernel_rfl) ⟨trivial, trivial, trivial⟩ trivial fun a338 h339 => ?_
                clear h336
                refine wpAnyK_one (i := 2) (fuel := 15) (by kernel_rfl) ?_
                have hsame : (doR s x).2 = s := do_same (.inl hcode)
                rw [hsame] at h339
                refine op_call h339 rfl rfl rfl (callOk Try.func17 (by decide) rfl) (args := [.pointer (some ⟨bs, 0, none⟩)]) rfl (slog_ok bs _ _ _ _ _ false _ (h339.inv.get (j := 0) (p := pSess bs bl d105 s) rfl).blk) ?_
                rintro _ w340 ⟨rfl, hf342⟩
                refine ⟨_, rfl, ?_⟩
                have h341 := (h339.grow hf342).put (d := some 78) (v := .pointer (some ⟨bl, 0, none⟩)) (T' := [(78, .pointer (some ⟨bl, 0, none⟩)), (9, .pointer (some ⟨b111, 0, none⟩)), (8, .pointer (some ⟨b90, 0, none⟩)), (7, .pointer (some ⟨b84, 0, none⟩)), (5, .pointer (some ⟨b50, 0, none⟩)), (3, .pointer (some ⟨bs, 0, none⟩)), (16, .slice (some ⟨sb40, k041, none⟩) ops.length c), (17, .int .i64 ((ops.length : Nat) : Int)), (18, .int .i64 ((i : Nat) : Int)), (6, .pointer (some ⟨bq64, 0, none⟩)), (10, .bool (x.kind == 7)), (11, .bool true), (76, .pointer (some ⟨bq64, 0, none⟩)), (77, .pointer (some ⟨bs, 0, none⟩))]) rfl
                refine ⟨keepNil, ?_⟩
                clear h339
                refine wpAnyK_one (i := 3) (fuel := 14) (by kernel_rfl) ?_
                refine op_call h341 rfl rfl rfl (callOk Try.func16 (by decide) rfl) (args := [.pointer (some ⟨bq64, 0, none⟩), .pointer (some ⟨bl, 0, none⟩)]) rfl (sameLog_ok bq64 bl d65 d105 s.lg _ (h341.inv.get (j := 1) (p := pLog bq64 d65 s.lg) rfl) (h341.inv.get (j := 0) (p := pSess bs bl d105 s) rfl).log (fun b hb hq => Pf_nodup h341.inv.nd (i := 1) (j := 0) (x := pLog bq64 d65 s.lg) (y := pSess bs bl d105 s) rfl rfl (by decide) b hb (List.mem_cons_of_mem _ hq)) (by omega) (by omega) (by omega)) ?_
                rintro _ w343 ⟨rfl, hf345⟩
                refine ⟨_, rfl, ?_⟩
                have h344 := (h341.grow hf345).put (d := some 79) (v := .bool true) (T' := [(79, .bool true), (78, .pointer (some ⟨bl, 0, none⟩)), (9, .pointer (some ⟨b111, 0, none⟩)), (8, .pointer (some ⟨b90, 0, none⟩)), (7, .pointer (some ⟨b84, 0, none⟩)), (5, .pointer (some ⟨b50, 0, none⟩)), (3, .pointer (some ⟨bs, 0, none⟩)), (16, .slice (some ⟨sb40, k041, none⟩) ops.length c), (17, .int .i64 ((ops.length : Nat) : Int)), (18, .int .i64 ((i : Nat) : Int)), (6, .pointer (some ⟨bq64, 0, none⟩)), (10, .bool (x.kind == 7)), (11, .bool true), (76, .pointer (some ⟨bq64, 0, none⟩)), (77, .pointer (some ⟨bs, 0, none⟩))]) rfl
                refine ⟨keepNil, ?_⟩
                clear h341
                refine dr_batch tabOk tabZ_ok (by repeat (first | exact PF.body | with_reducible apply PF.inB | with_reducible apply PF.next)) [(4, {}), (5, {}), (6, {k := 1, p := 1}), (7, {})] [9, 8, 7, 5, 3, 16, 17, 18, 6, 10, 11, 81, 82, 83] (T' := [(9, .pointer (some ⟨b111, 0, none⟩)), (8, .pointer (some ⟨b90, 0, none⟩)), (7, .pointer (some ⟨b84, 0, none⟩)), (5, .pointer (some ⟨b50, 0, none⟩)), (3, .pointer (some ⟨bs, 0, none⟩)), (16, .slice (some ⟨sb40, k041, none⟩) ops.length c), (17, .int .i64 ((ops.length : Nat) : Int)), (18, .int .i64 ((i : Nat) : Int)), (6, .pointer (some ⟨bq64, 0, none⟩)), (10, .bool (x.kind == 7)), (11, .bool true), (81, .bool false), (82, .agg #[.int .u64 s.m.now, .int .i8 s.m.cur, .int .u8 s.m.s0, .int .u8 s.m.s1, .int .u8 s.m.s2, .int .u8 s.m.s3, .int .u64 s.m.r0, .int .u64 s.m.r1, .int .u64 s.m.r2, .int .u64 s.m.r3, .int .u64 s.m.word]), (83, .pointer (some ⟨bs, 0, none⟩))]) (φ := (b84 = b84 ∧ Nat.ble (0 + 11) 11 = true) ∧ True) (fuel := 10) h344 (by kernel_rfl) rfl (by kernel_rfl) (by kernel_rfl) ⟨trivial, trivial, rfl, trivial, trivial⟩ ⟨⟨rfl, rfl⟩, trivial⟩ fun a346 h347 => ?_
                clear h344
                refine wpAnyK_one (i := 8) (fuel := 9) (by kernel_rfl) ?_
                refine op_call h347 rfl rfl rfl (callOk Try.func15 (by decide) rfl) (args := [.pointer (some ⟨bs, 0, none⟩)]) rfl (smach_ok bs _ s.m _ _ _ false _ (h347.inv.get (j := 0) (p := pSess bs bl d105 s) rfl).blk) ?_
                rintro _ w348 ⟨rfl, hf350⟩
                refine ⟨_, rfl, ?_⟩
                have h349 := (h347.grow hf350).put (d := some 84) (v := .agg #[.int .u64 s.m.now, .int .i8 s.m.cur, .int .u8 s.m.s0, .int .u8 s.m.s1, .int .u8 s.m.s2, .int .u8 s.m.s3, .int .u64 s.m.r0, .int .u64 s.m.r1, .int .u64 s.m.r2, .int .u64 s.m.r3, .int .u64 s.m.word]) (T' := [(84, .agg #[.int .u64 s.m.now, .int .i8 s.m.cur, .int .u8 s.m.s0, .int .u8 s.m.s1, .int .u8 s.m.s2, .int .u8 s.m.s3, .int .u64 s.m.r0, .int .u64 s.m.r1, .int .u64 s.m.r2, .int .u64 s.m.r3, .int .u64 s.m.word]), (9, .pointer (some ⟨b111, 0, none⟩)), (8, .pointer (some ⟨b90, 0, none⟩)), (7, .pointer (some ⟨b84, 0, none⟩)), (5, .pointer (some ⟨b50, 0, none⟩)), (3, .pointer (some ⟨bs, 0, none⟩)), (16, .slice (some ⟨sb40, k041, none⟩) ops.length c), (17, .int .i64 ((ops.length : Nat) : Int)), (18, .int .i64 ((i : Nat) : Int)), (6, .pointer (some ⟨bq64, 0, none⟩)), (10, .bool (x.kind == 7)), (11, .bool true), (81, .bool false), (82, .agg #[.int .u64 s.m.now, .int .i8 s.m.cur, .int .u8 s.m.s0, .int .u8 s.m.s1, .int .u8 s.m.s2, .int .u8 s.m.s3, .int .u64 s.m.r0, .int .u64 s.m.r1, .int .u64 s.m.r2, .int .u64 s.m.r3, .int .u64 s.m.word]), (83, .pointer (some ⟨bs, 0, none⟩))]) rfl
                refine ⟨(h347.keepFr hf350 (kcons (by simp) knil)), ?_⟩
                clear h347
                refine dr_batch tabOk tabZ_ok (by repeat (first | exact PF.body | with_reducible apply PF.inB | with_reducible apply PF.next)) [(9, {f := 1}), (10, {}), (11, {}), (12, {k := 2, p := 2}), (13, {}), (14, {})] [9, 8, 7, 5, 3, 16, 17, 18, 6, 10, 11, 87, 88, 89, 90] (T' := [(9, .pointer (some ⟨b111, 0, none⟩)), (8, .pointer (some ⟨b90, 0, none⟩)), (7, .pointer (some ⟨b84, 0, none⟩)), (5, .pointer (some ⟨b50, 0, none⟩)), (3, .pointer (some ⟨bs, 0, none⟩)), (16, .slice (some ⟨sb40, k041, none⟩) ops.length c), (17, .int .i64 ((ops.length : Nat) : Int)), (18, .int .i64 ((i : Nat) : Int)), (6, .pointer (some ⟨bq64, 0, none⟩)), (10, .bool (x.kind == 7)), (11, .bool true), (87, .bool false), (88, .agg #[.int .u8 0, .int .i64 s.pos, .int .i64 s.lg.base.idx, .int .i64 s.lg.fin, .bool s.live, .bool s.out.refused, .int .i8 s.out.running, .int .u64 s.out.value, .int .u64 (dig s.m), .int .i64 s.pos, .int .i64 0, .int .i64 (-1)]), (89, .pointer (some ⟨bs, 0, none⟩)), (90, .agg #[.int .u8 8, .int .i64 0, .int .i64 0, .int .u8 0, .int .u32 0, .int .u64 0])]) (φ := EqRun Try.prog 46 (.agg #[.int .u64 s.m.now, .int .i8 s.m.cur, .int .u8 s.m.s0, .int .u8 s.m.s1, .int .u8 s.m.s2, .int .u8 s.m.s3, .int .u64 s.m.r0, .int .u64 s.m.r1, .int .u64 s.m.r2, .int .u64 s.m.r3, .int .u64 s.m.word]) (.agg #[.int .u64 s.m.now, .int .i8 s.m.cur, .int .u8 s.m.s0, .int .u8 s.m.s1, .int .u8 s.m.s2, .int .u8 s.m.s3, .int .u64 s.m.r0, .int .u64 s.m.r1, .int .u64 s.m.r2, .int .u64 s.m.r3, .int .u64 s.m.word]) true ∧ (b90 = b90 ∧ Nat.ble (0 + 12) 12 = true) ∧ True) (fuel := 3) h349 (by kernel_rfl) rfl (by kernel_rfl) (by kernel_rfl) ⟨trivial, trivial, trivial, rfl, trivial, trivial, trivial⟩ ⟨(run46s s.m), ⟨rfl, rfl⟩, trivial⟩ fun a351 h352 => ?_
                clear h349
                refine wpAnyK_one (i := 15) (fuel := 2) (by kernel_rfl) ?_
                refine op_call h352 rfl rfl rfl (callOk Try.func12 (by decide) rfl) (args := [.pointer (some ⟨bs, 0, none⟩), .agg #[.int .u8 8, .int .i64 0, .int .i64 0, .int .u8 0, .int .u32 0, .int .u64 0]]) rfl ((by have hq := do_ok bs bl d105 s _ (h352.inv.get (j := 0) (p := pSess bs bl d105 s) rfl) (B := (i : Int)) (by omega) hwf ⟨8, 0, 0, ⟨0, 0, 0⟩⟩ (opk_ok (by decide) (by decide)); rw [do_where] at hq; exact hq)) ?_
                rintro _ w357 ⟨d353, rfl, hs354, hf355, hF356⟩
                refine ⟨_, rfl, ?_⟩
                have h358 := (h352.pcSet (j := 0) (p := pSess bs bl d105 s) (p' := pSess bs bl d353 s) (ps' := [pSess bs bl d353 s, pLog bq64 d65 s.lg]) rfl (pSess_ok hs354) hf355 (fun _ h => h) (sess_sub hF356) (kcons (by intro hq; cases hq) (kcons (by intro hq; cases hq) (kcons (by intro hq; cases hq) (kcons (by intro hq; cases hq) knil)))) rfl).put (d := some 91) (v := .agg #[.int .u8 0, .int .i64 s.pos, .int .i64 s.lg.base.idx, .int .i64 s.lg.fin, .bool s.live, .bool s.out.refused, .int .i8 s.out.running, .int .u64 s.out.value, .int .u64 (dig s.m), .int .i64 s.pos, .int .i64 0, .int .i64 (-1)]) (T' := [(91, .agg #[.int .u8 0, .int .i64 s.pos, .int .i64 s.lg.base.idx, .int .i64 s.lg.fin, .bool s.live, .bool s.out.refused, .int .i8 s.out.running, .int .u64 s.out.value, .int .u64 (dig s.m), .int .i64 s.pos, .int .i64 0, .int .i64 (-1)]), (9, .pointer (some ⟨b111, 0, none⟩)), (8, .pointer (some ⟨b90, 0, none⟩)), (7, .pointer (some ⟨b84, 0, none⟩)), (5, .pointer (some ⟨b50, 0, none⟩)), (3, .pointer (some ⟨bs, 0, none⟩)), (16, .slice (some ⟨sb40, k041, none⟩) ops.length c), (17, .int .i64 ((ops.length : Nat) : Int)), (18, .int .i64 ((i : Nat) : Int)), (6, .pointer (some ⟨bq64, 0, none⟩)), (10, .bool (x.kind == 7)), (11, .bool true), (87, .bool false), (88, .agg #[.int .u8 0, .int .i64 s.pos, .int .i64 s.lg.base.idx, .int .i64 s.lg.fin, .bool s.live, .bool s.out.refused, .int .i8 s.out.running, .int .u64 s.out.value, .int .u64 (dig s.m), .int .i64 s.pos, .int .i64 0, .int .i64 (-1)]), (89, .pointer (some ⟨bs, 0, none⟩)), (90, .agg #[.int .u8 8, .int .i64 0, .int .i64 0, .int .u8 0, .int .u32 0, .int .u64 0])]) rfl
                have hkh358 := h352.known
                refine ⟨(keepOf hkh358 h358.known (kcons (keepAt (q := 2) (q' := 2) rfl rfl) knil)), ?_⟩
                have hszh358 : w.heap.size ≤ _ := h352.frame.size
                clear h352
                refine dr_batch tabOk tabZ_ok (by repeat (first | exact PF.body | with_reducible apply PF.inB | with_reducible apply PF.next)) [(16, {f := 1}), (17, {})] [9, 8, 7, 5, 3, 16, 17, 18, 6, 10, 11, 93] (T' := [(9, .pointer (some ⟨b111, 0, none⟩)), (8, .pointer (some ⟨b90, 0, none⟩)), (7, .pointer (some ⟨b84, 0, none⟩)), (5, .pointer (some ⟨b50, 0, none⟩)), (3, .pointer (some ⟨bs, 0, none⟩)), (16, .slice (some ⟨sb40, k041, none⟩) ops.length c), (17, .int .i64 ((ops.length : Nat) : Int)), (18, .int .i64 ((i : Nat) : Int)), (6, .pointer (some ⟨bq64, 0, none⟩)), (10, .bool (x.kind == 7)), (11, .bool true), (93, .bool false)]) (φ := EqRun Try.prog 41 (.agg #[.int .u8 0, .int .i64 s.pos, .int .i64 s.lg.base.idx, .int .i64 s.lg.fin, .bool s.live, .bool s.out.refused, .int .i8 s.out.running, .int .u64 s.out.value, .int .u64 (dig s.m), .int .i64 s.pos, .int .i64 0, .int .i64 (-1)]) (.agg #[.int .u8 0, .int .i64 s.pos, .int .i64 s.lg.base.idx, .int .i64 s.lg.fin, .bool s.live, .bool s.out.refused, .int .i8 s.out.running, .int .u64 s.out.value, .int .u64 (dig s.m), .int .i64 s.pos, .int .i64 0, .int .i64 (-1)]) true ∧ True) (fuel := 0) h358 (by kernel_rfl) rfl (by kernel_rfl) (by kernel_rfl) ⟨trivial, trivial, trivial⟩ ⟨(run41s (s.stat 0)), trivial⟩ fun a359 h360 => ?_
                clear h358
                refine wpAnyK_done (by kernel_rfl) ?_ _
                refine hK334 _ _ ?_
                clear hK334
                refine c_false h360 rfl ?_
                refine wp_skip ?_
                refine hK45 _ _ ?_
                clear hK45
                refine nd_start (l := [0, 1]) rfl ?_
                refine nd_batch tabOk tabZ_ok [(0, {}), (1, {})] [9, 8, 7, 5, 3, 16, 17, 6, 10, 11, 18] (T' := [(9, .pointer (some ⟨b111, 0, none⟩)), (8, .pointer (some ⟨b90, 0, none⟩)), (7, .pointer (some ⟨b84, 0, none⟩)), (5, .pointer (some ⟨b50, 0, none⟩)), (3, .pointer (some ⟨bs, 0, none⟩)), (16, .slice (some ⟨sb40, k041, none⟩) ops.length c), (17, .int .i64 ((ops.length : Nat) : Int)), (6, .pointer (some ⟨bq64, 0, none⟩)), (10, .bool (x.kind == 7)), (11, .bool true), (18, .int .i64 (((i : Nat) : Int) + 1))]) (φ := inR .i64 (((i : Nat) : Int) + 1) ∧ True) (rest := []) h360 (by kernel_rfl) rfl ⟨⟨by omega, by omega⟩, trivial⟩ fun a361 h362 => ?_
                clear h360
                refine nd_done ?_
                have h363 := h362.memMono (L' := []) (List.Sublist.cons _ (List.Sublist.cons _ (List.Sublist.cons _ (List.Sublist.cons _ List.Sublist.slnil))))
                clear h362
                have h364 := h363.pcSub (ps' := [pSess bs bl d353 s]) (List.Sublist.cons_cons _ (List.Sublist.cons _ List.Sublist.slnil))
                clear h363
                exact ⟨(g - 1), by omega, (i + 1), s, d353, by omega, by omega, (hwf.mono (by omega)), (h364.slotsMono (restr_spec (keep := [3, 16, 17, 18]) rfl))⟩
            ·
              have hb284f : ¬ x.n < s.lg.base.idx := by simpa using hb284
              refine nd_start (l := [0, 1, 2, 3, 4, 5, 6, 7, 8, 9, 10, 11, 12, 13, 14, 15, 16, 17]) rfl ?_
              refine nd_batch tabOk tabZ_ok [(0, {}), (1, {k := 0}), (2, {f := 2}), (3, {}), (4, {}), (5, {k := 0}), (6, {}), (7, {k := 2}), (8, {f := 1}), (9, {}), (10, {}), (11, {k := 0}), (12, {}), (13, {k := 2}), (14, {}), (15, {}), (16, {}), (17, {})] [9, 8, 7, 5, 3, 16, 17, 18, 6, 10, 11] (T' := [(9, .pointer (some ⟨b111, 0, none⟩)), (8, .pointer (some ⟨b90, 0, none⟩)), (7, .pointer (some ⟨b84, 0, none⟩)), (5, .pointer (some ⟨b50, 0, none⟩)), (3, .pointer (some ⟨bs, 0, none⟩)), (16, .slice (some ⟨sb40, k041, none⟩) ops.length c), (17, .int .i64 ((ops.length : Nat) : Int)), (18, .int .i64 ((i : Nat) : Int)), (6, .pointer (some ⟨bq64, 0, none⟩)), (10, .bool (x.kind == 7)), (11, .bool (decide (x.n > s.lg.fin)))]) (φ := (b50 = b50 ∧ Nat.ble (0 + 1) 6 = true) ∧ ((x.kind == 1)) = true ∧ (b50 = b50 ∧ Nat.ble (1 + 1) 6 = true) ∧ (b90 = b90 ∧ Nat.ble (2 + 1) 12 = true) ∧ (decide (x.n < s.lg.base.idx)) = false ∧ (b50 = b50 ∧ Nat.ble (1 + 1) 6 = true) ∧ (b90 = b90 ∧ Nat.ble (3 + 1) 12 = true) ∧ True) (rest := []) h281 (by kernel_rfl) rfl ⟨⟨rfl, rfl⟩, hb283, ⟨rfl, rfl⟩, ⟨rfl, rfl⟩, hb284, ⟨rfl, rfl⟩, ⟨rfl, rfl⟩, trivial⟩ fun a365 h366 => ?_
              clear h281
              refine nd_done ?_
              refine hK282 _ _ ?_
              clear hK282
              refine wp_seq_k fun K367 hK367 => ?_
              refine wp_seq_k fun K368 hK368 => ?_
              rcases Bool.eq_false_or_eq_true (decide (x.n > s.lg.fin)) with hb369 | hb369
              ·
                have hb369f : x.n > s.lg.fin := by simpa using hb369
                have hb369s := h366
                rw [hb369] at hb369s
                have hcode1 := seek_out (s := s) hk1 (.inr hb369f)
                refine nd_start (l := [0, 1, 2, 3, 4, 5]) rfl ?_
                refine nd_batch tabOk tabZ_ok [(0, {}), (1, {}), (2, {}), (3, {k := 3}), (4, {f := 1}), (5, {})] [9, 8, 7, 5, 3, 16, 17, 18, 6, 10, 11, 68] (T' := [(9, .pointer (some ⟨b111, 0, none⟩)), (8, .pointer (some ⟨b90, 0, none⟩)), (7, .pointer (some ⟨b84, 0, none⟩)), (5, .pointer (some ⟨b50, 0, none⟩)), (3, .pointer (some ⟨bs, 0, none⟩)), (16, .slice (some ⟨sb40, k041, none⟩) ops.length c), (17, .int .i64 ((ops.length : Nat) : Int)), (18, .int .i64 ((i : Nat) : Int)), (6, .pointer (some ⟨bq64, 0, none⟩)), (10, .bool (x.kind == 7)), (11, .bool true), (68, .bool false)]) (φ := (b111 = b111 ∧ Nat.ble (0 + 1) 12 = true) ∧ (((doR s x).1.code != 1)) = false ∧ True) (rest := []) hb369s (by kernel_rfl) rfl ⟨⟨rfl, rfl⟩, (by rw [hcode1]; rfl), trivial⟩ fun a370 h371 => ?_
                clear hb369s
                refine nd_done ?_
                refine hK368 _ _ ?_
                clear hK368
                refine c_false h371 rfl ?_
                refine wp_skip ?_
                refine hK367 _ _ ?_
                clear hK367
                refine wp_seq_k fun K372 hK372 => ?_
                refine wp_seq_k fun K373 hK373 => ?_
                rcases Bool.eq_false_or_eq_true (((doR s x).1.code == 0)) with hb374 | hb374
                ·
                  have hb374f : (doR s x).1.code = 0 := by simpa using hb374
                  have hcode : (doR s x).1.code = 0 := hb374f
                  refine nd_start (l := [0, 1, 2, 3, 4, 5, 6]) rfl ?_
                  refine nd_batch tabOk tabZ_ok [(0, {}), (1, {k := 3}), (2, {f := 2}), (3, {}), (4, {}), (5, {}), (6, {})] [9, 8, 7, 5, 3, 16, 17, 18, 6, 10, 11, 75] (T' := [(9, .pointer (some ⟨b111, 0, none⟩)), (8, .pointer (some ⟨b90, 0, none⟩)), (7, .pointer (some ⟨b84, 0, none⟩)), (5, .pointer (some ⟨b50, 0, none⟩)), (3, .pointer (some ⟨bs, 0, none⟩)), (16, .slice (some ⟨sb40, k041, none⟩) ops.length c), (17, .int .i64 ((ops.length : Nat) : Int)), (18, .int .i64 ((i : Nat) : Int)), (6, .pointer (some ⟨bq64, 0, none⟩)), (10, .bool (x.kind == 7)), (11, .bool true), (75, .bool (!(x.kind == 7)))]) (φ := (b111 = b111 ∧ Nat.ble (0 + 1) 12 = true) ∧ (((doR s x).1.code == 0)) = true ∧ True) (rest := []) h371 (by kernel_rfl) rfl ⟨⟨rfl, rfl⟩, hb374, trivial⟩ fun a375 h376 => ?_
                  clear h371
                  refine nd_done ?_
                  refine hK373 _ _ ?_
                  clear hK373
                  refine c_split h376 (b := !(x.kind == 7)) rfl (fun hc377 => ?_) (fun hc377 => ?_)
                  ·
                    refine wp_exit ?_
                    refine hK45 _ _ ?_
                    clear hK45
                    refine nd_start (l := [0, 1]) rfl ?_
                    refine nd_batch tabOk tabZ_ok [(0, {}), (1, {})] [9, 8, 7, 5, 3, 16, 17, 6, 10, 11, 18] (T' := [(9, .pointer (some ⟨b111, 0, none⟩)), (8, .pointer (some ⟨b90, 0, none⟩)), (7, .pointer (some ⟨b84, 0, none⟩)), (5, .pointer (some ⟨b50, 0, none⟩)), (3, .pointer (some ⟨bs, 0, none⟩)), (16, .slice (some ⟨sb40, k041, none⟩) ops.length c), (17, .int .i64 ((ops.length : Nat) : Int)), (6, .pointer (some ⟨bq64, 0, none⟩)), (10, .bool (x.kind == 7)), (11, .bool true), (18, .int .i64 (((i : Nat) : Int) + 1))]) (φ := inR .i64 (((i : Nat) : Int) + 1) ∧ True) (rest := []) h376 (by kernel_rfl) rfl ⟨⟨by omega, by omega⟩, trivial⟩ fun a378 h379 => ?_
                    clear h376
                    refine nd_done ?_
                    have h380 := h379.memMono (L' := []) (List.Sublist.cons _ (List.Sublist.cons _ (List.Sublist.cons _ (List.Sublist.cons _ List.Sublist.slnil))))
                    clear h379
                    have h381 := h380.pcSub (ps' := [pSess bs bl d105 ((doR s x).2)]) (List.Sublist.cons_cons _ (List.Sublist.cons _ List.Sublist.slnil))
                    clear h380
                    exact ⟨(g - 1), by omega, (i + 1), (doR s x).2, d105, by omega, by omega, hwf1, (h381.slotsMono (restr_spec (keep := [3, 16, 17, 18]) rfl))⟩
                  ·
                    have hk7 : x.kind = 7 := by simpa using hc377
                    refine wp_skip ?_
                    refine hK372 _ _ ?_
                    clear hK372
                    refine wp_seq_k fun K382 hK382 => ?_
                    refine dr_start (KB := [b50, b84, b90, b111]) (Bi := [[0, 1, 2, 3], [0, 1, 2, 3], [], [], [0, 1, 2, 3], [0, 1, 2, 3], [0, 1, 2, 3], [0, 1, 2, 3], [1], [0, 1, 2, 3], [0, 1, 2, 3], [0, 1, 2, 3], [0, 1, 2, 3], [0, 1, 2, 3], [0, 1, 2, 3], [2], [0, 1, 2, 3], [0, 1, 2, 3]]) mixed h376 fun w383 h384 => ?_
                    clear h376
                    refine dr_batch tabOk tabZ_ok (by repeat (first | exact PF.body | with_reducible apply PF.inB | with_reducible apply PF.next)) [(0, {}), (1, {})] [9, 8, 7, 5, 3, 16, 17, 18, 6, 10, 11, 76, 77] (T' := [(9, .pointer (some ⟨b111, 0, none⟩)), (8, .pointer (some ⟨b90, 0, none⟩)), (7, .pointer (some ⟨b84, 0, none⟩)), (5, .pointer (some ⟨b50, 0, none⟩)), (3, .pointer (some ⟨bs, 0, none⟩)), (16, .slice (some ⟨sb40, k041, none⟩) ops.length c), (17, .int .i64 ((ops.length : Nat) : Int)), (18, .int .i64 ((i : Nat) : Int)), (6, .pointer (some ⟨bq64, 0, none⟩)), (10, .bool (x.kind == 7)), (11, .bool true), (76, .pointer (some ⟨bq64, 0, none⟩)), (77, .pointer (some ⟨bs, 0, none⟩))]) (φ := True) (fuel := 16) h384 (by kernel_rfl) rfl (by kernel_rfl) (by kernel_rfl) ⟨trivial, trivial, trivial⟩ trivial fun a386 h387 => ?_
                    clear h384
                    refine wpAnyK_one (i := 2) (fuel := 15) (by kernel_rfl) ?_
                    have hsame : (doR s x).2 = s := do_same (.inr (.inr (.inl hk7)))
                    rw [hsame] at h387
                    refine op_call h387 rfl rfl rfl (callOk Try.func17 (by decide) rfl) (args := [.pointer (some ⟨bs, 0, none⟩)]) rfl (slog_ok bs _ _ _ _ _ false _ (h387.inv.get (j := 0) (p := pSess bs bl d105 s) rfl).blk) ?_
                    rintro _ w388 ⟨rfl, hf390⟩
                    refine ⟨_, rfl, ?_⟩
                    have h389 := (h387.grow hf390).put (d := some 78) (v := .pointer (some ⟨bl, 0, none⟩)) (T' := [(78, .pointer (some ⟨bl, 0, none⟩)), (9, .pointer (some ⟨b111, 0, none⟩)), (8, .pointer (some ⟨b90, 0, none⟩)), (7, .pointer (some ⟨b84, 0, none⟩)), (5, .pointer (some ⟨b50, 0, none⟩)), (3, .pointer (some ⟨bs, 0, none⟩)), (16, .slice (some ⟨sb40, k041, none⟩) ops.length c), (17, .int .i64 ((ops.length : Nat) : Int)), (18, .int .i64 ((i : Nat) : Int)), (6, .pointer (some ⟨bq64, 0, none⟩)), (10, .bool (x.kind == 7)), (11, .bool true), (76, .pointer (some ⟨bq64, 0, none⟩)), (77, .pointer (some ⟨bs, 0, none⟩))]) rfl
                    refine ⟨keepNil, ?_⟩
                    clear h387
                    refine wpAnyK_one (i := 3) (fuel := 14) (by kernel_rfl) ?_
                    refine op_call h389 rfl rfl rfl (callOk Try.func16 (by decide) rfl) (args := [.pointer (some ⟨bq64, 0, none⟩), .pointer (some ⟨bl, 0, none⟩)]) rfl (sameLog_ok bq64 bl d65 d105 s.lg _ (h389.inv.get (j := 1) (p := pLog bq64 d65 s.lg) rfl) (h389.inv.get (j := 0) (p := pSess bs bl d105 s) rfl).log (fun b hb hq => Pf_nodup h389.inv.nd (i := 1) (j := 0) (x := pLog bq64 d65 s.lg) (y := pSess bs bl d105 s) rfl rfl (by decide) b hb (List.mem_cons_of_mem _ hq)) (by omega) (by omega) (by omega)) ?_
                    rintro _ w391 ⟨rfl, hf393⟩
                    refine ⟨_, rfl, ?_⟩
                    have h392 := (h389.grow hf393).put (d := some 79) (v := .bool true) (T' := [(79, .bool true), (78, .pointer (some ⟨bl, 0, none⟩)), (9, .pointer (some ⟨b111, 0, none⟩)), (8, .pointer (some ⟨b90, 0, none⟩)), (7, .pointer (some ⟨b84, 0, none⟩)), (5, .pointer (some ⟨b50, 0, none⟩)), (3, .pointer (some ⟨bs, 0, none⟩)), (16, .slice (some ⟨sb40, k041, none⟩) ops.length c), (17, .int .i64 ((ops.length : Nat) : Int)), (18, .int .i64 ((i : Nat) : Int)), (6, .pointer (some ⟨bq64, 0, none⟩)), (10, .bool (x.kind == 7)), (11, .bool true), (76, .pointer (some ⟨bq64, 0, none⟩)), (77, .pointer (some ⟨bs, 0, none⟩))]) rfl
                    refine ⟨keepNil, ?_⟩
                    clear h389
                    refine dr_batch tabOk tabZ_ok (by repeat (first | exact PF.body | with_reducible apply PF.inB | with_reducible apply PF.next)) [(4, {}), (5, {}), (6, {k := 1, p := 1}), (7, {})] [9, 8, 7, 5, 3, 16, 17, 18, 6, 10, 11, 81, 82, 83] (T' := [(9, .pointer (some ⟨b111, 0, none⟩)), (8, .pointer (some ⟨b90, 0, none⟩)), (7, .pointer (some ⟨b84, 0, none⟩)), (5, .pointer (some ⟨b50, 0, none⟩)), (3, .pointer (some ⟨bs, 0, none⟩)), (16, .slice (some ⟨sb40, k041, none⟩) ops.length c), (17, .int .i64 ((ops.length : Nat) : Int)), (18, .int .i64 ((i : Nat) : Int)), (6, .pointer (some ⟨bq64, 0, none⟩)), (10, .bool (x.kind == 7)), (11, .bool true), (81, .bool false), (82, .agg #[.int .u64 s.m.now, .int .i8 s.m.cur, .int .u8 s.m.s0, .int .u8 s.m.s1, .int .u8 s.m.s2, .int .u8 s.m.s3, .int .u64 s.m.r0, .int .u64 s.m.r1, .int .u64 s.m.r2, .int .u64 s.m.r3, .int .u64 s.m.word]), (83, .pointer (some ⟨bs, 0, none⟩))]) (φ := (b84 = b84 ∧ Nat.ble (0 + 11) 11 = true) ∧ True) (fuel := 10) h392 (by kernel_rfl) rfl (by kernel_rfl) (by kernel_rfl) ⟨trivial, trivial, rfl, trivial, trivial⟩ ⟨⟨rfl, rfl⟩, trivial⟩ fun a394 h395 => ?_
                    clear h392
                    refine wpAnyK_one (i := 8) (fuel := 9) (by kernel_rfl) ?_
                    refine op_call h395 rfl rfl rfl (callOk Try.func15 (by decide) rfl) (args := [.pointer (some ⟨bs, 0, none⟩)]) rfl (smach_ok bs _ s.m _ _ _ false _ (h395.inv.get (j := 0) (p := pSess bs bl d105 s) rfl).blk) ?_
                    rintro _ w396 ⟨rfl, hf398⟩
                    refine ⟨_, rfl, ?_⟩
                    have h397 := (h395.grow hf398).put (d := some 84) (v := .agg #[.int .u64 s.m.now, .int .i8 s.m.cur, .int .u8 s.m.s0, .int .u8 s.m.s1, .int .u8 s.m.s2, .int .u8 s.m.s3, .int .u64 s.m.r0, .int .u64 s.m.r1, .int .u64 s.m.r2, .int .u64 s.m.r3, .int .u64 s.m.word]) (T' := [(84, .agg #[.int .u64 s.m.now, .int .i8 s.m.cur, .int .u8 s.m.s0, .int .u8 s.m.s1, .int .u8 s.m.s2, .int .u8 s.m.s3, .int .u64 s.m.r0, .int .u64 s.m.r1, .int .u64 s.m.r2, .int .u64 s.m.r3, .int .u64 s.m.word]), (9, .pointer (some ⟨b111, 0, none⟩)), (8, .pointer (some ⟨b90, 0, none⟩)), (7, .pointer (some ⟨b84, 0, none⟩)), (5, .pointer (some ⟨b50, 0, none⟩)), (3, .pointer (some ⟨bs, 0, none⟩)), (16, .slice (some ⟨sb40, k041, none⟩) ops.length c), (17, .int .i64 ((ops.length : Nat) : Int)), (18, .int .i64 ((i : Nat) : Int)), (6, .pointer (some ⟨bq64, 0, none⟩)), (10, .bool (x.kind == 7)), (11, .bool true), (81, .bool false), (82, .agg #[.int .u64 s.m.now, .int .i8 s.m.cur, .int .u8 s.m.s0, .int .u8 s.m.s1, .int .u8 s.m.s2, .int .u8 s.m.s3, .int .u64 s.m.r0, .int .u64 s.m.r1, .int .u64 s.m.r2, .int .u64 s.m.r3, .int .u64 s.m.word]), (83, .pointer (some ⟨bs, 0, none⟩))]) rfl
                    refine ⟨(h395.keepFr hf398 (kcons (by simp) knil)), ?_⟩
                    clear h395
                    refine dr_batch tabOk tabZ_ok (by repeat (first | exact PF.body | with_reducible apply PF.inB | with_reducible apply PF.next)) [(9, {f := 1}), (10, {}), (11, {}), (12, {k := 2, p := 2}), (13, {}), (14, {})] [9, 8, 7, 5, 3, 16, 17, 18, 6, 10, 11, 87, 88, 89, 90] (T' := [(9, .pointer (some ⟨b111, 0, none⟩)), (8, .pointer (some ⟨b90, 0, none⟩)), (7, .pointer (some ⟨b84, 0, none⟩)), (5, .pointer (some ⟨b50, 0, none⟩)), (3, .pointer (some ⟨bs, 0, none⟩)), (16, .slice (some ⟨sb40, k041, none⟩) ops.length c), (17, .int .i64 ((ops.length : Nat) : Int)), (18, .int .i64 ((i : Nat) : Int)), (6, .pointer (some ⟨bq64, 0, none⟩)), (10, .bool (x.kind == 7)), (11, .bool true), (87, .bool false), (88, .agg #[.int .u8 0, .int .i64 s.pos, .int .i64 s.lg.base.idx, .int .i64 s.lg.fin, .bool s.live, .bool s.out.refused, .int .i8 s.out.running, .int .u64 s.out.value, .int .u64 (dig s.m), .int .i64 s.pos, .int .i64 0, .int .i64 (-1)]), (89, .pointer (some ⟨bs, 0, none⟩)), (90, .agg #[.int .u8 8, .int .i64 0, .int .i64 0, .int .u8 0, .int .u32 0, .int .u64 0])]) (φ := EqRun Try.prog 46 (.agg #[.int .u64 s.m.now, .int .i8 s.m.cur, .int .u8 s.m.s0, .int .u8 s.m.s1, .int .u8 s.m.s2, .int .u8 s.m.s3, .int .u64 s.m.r0, .int .u64 s.m.r1, .int .u64 s.m.r2, .int .u64 s.m.r3, .int .u64 s.m.word]) (.agg #[.int .u64 s.m.now, .int .i8 s.m.cur, .int .u8 s.m.s0, .int .u8 s.m.s1, .int .u8 s.m.s2, .int .u8 s.m.s3, .int .u64 s.m.r0, .int .u64 s.m.r1, .int .u64 s.m.r2, .int .u64 s.m.r3, .int .u64 s.m.word]) true ∧ (b90 = b90 ∧ Nat.ble (0 + 12) 12 = true) ∧ True) (fuel := 3) h397 (by kernel_rfl) rfl (by kernel_rfl) (by kernel_rfl) ⟨trivial, trivial, trivial, rfl, trivial, trivial, trivial⟩ ⟨(run46s s.m), ⟨rfl, rfl⟩, trivial⟩ fun a399 h400 => ?_
                    clear h397
                    refine wpAnyK_one (i := 15) (fuel := 2) (by kernel_rfl) ?_
                    refine op_call h400 rfl rfl rfl (callOk Try.func12 (by decide) rfl) (args := [.pointer (some ⟨bs, 0, none⟩), .agg #[.int .u8 8, .int .i64 0, .int .i64 0, .int .u8 0, .int .u32 0, .int .u64 0]]) rfl ((by have hq := do_ok bs bl d105 s _ (h400.inv.get (j := 0) (p := pSess bs bl d105 s) rfl) (B := (i : Int)) (by omega) hwf ⟨8, 0, 0, ⟨0, 0, 0⟩⟩ (opk_ok (by decide) (by decide)); rw [do_where] at hq; exact hq)) ?_
                    rintro _ w405 ⟨d401, rfl, hs402, hf403, hF404⟩
                    refine ⟨_, rfl, ?_⟩
                    have h406 := (h400.pcSet (j := 0) (p := pSess bs bl d105 s) (p' := pSess bs bl d401 s) (ps' := [pSess bs bl d401 s, pLog bq64 d65 s.lg]) rfl (pSess_ok hs402) hf403 (fun _ h => h) (sess_sub hF404) (kcons (by intro hq; cases hq) (kcons (by intro hq; cases hq) (kcons (by intro hq; cases hq) (kcons (by intro hq; cases hq) knil)))) rfl).put (d := some 91) (v := .agg #[.int .u8 0, .int .i64 s.pos, .int .i64 s.lg.base.idx, .int .i64 s.lg.fin, .bool s.live, .bool s.out.refused, .int .i8 s.out.running, .int .u64 s.out.value, .int .u64 (dig s.m), .int .i64 s.pos, .int .i64 0, .int .i64 (-1)]) (T' := [(91, .agg #[.int .u8 0, .int .i64 s.pos, .int .i64 s.lg.base.idx, .int .i64 s.lg.fin, .bool s.live, .bool s.out.refused, .int .i8 s.out.running, .int .u64 s.out.value, .int .u64 (dig s.m), .int .i64 s.pos, .int .i64 0, .int .i64 (-1)]), (9, .pointer (some ⟨b111, 0, none⟩)), (8, .pointer (some ⟨b90, 0, none⟩)), (7, .pointer (some ⟨b84, 0, none⟩)), (5, .pointer (some ⟨b50, 0, none⟩)), (3, .pointer (some ⟨bs, 0, none⟩)), (16, .slice (some ⟨sb40, k041, none⟩) ops.length c), (17, .int .i64 ((ops.length : Nat) : Int)), (18, .int .i64 ((i : Nat) : Int)), (6, .pointer (some ⟨bq64, 0, none⟩)), (10, .bool (x.kind == 7)), (11, .bool true), (87, .bool false), (88, .agg #[.int .u8 0, .int .i64 s.pos, .int .i64 s.lg.base.idx, .int .i64 s.lg.fin, .bool s.live, .bool s.out.refused, .int .i8 s.out.running, .int .u64 s.out.value, .int .u64 (dig s.m), .int .i64 s.pos, .int .i64 0, .int .i64 (-1)]), (89, .pointer (some ⟨bs, 0, none⟩)), (90, .agg #[.int .u8 8, .int .i64 0, .int .i64 0, .int .u8 0, .int .u32 0, .int .u64 0])]) rfl
                    have hkh406 := h400.known
                    refine ⟨(keepOf hkh406 h406.known (kcons (keepAt (q := 2) (q' := 2) rfl rfl) knil)), ?_⟩
                    have hszh406 : w.heap.size ≤ _ := h400.frame.size
                    clear h400
                    refine dr_batch tabOk tabZ_ok (by repeat (first | exact PF.body | with_reducible apply PF.inB | with_reducible apply PF.next)) [(16, {f := 1}), (17, {})] [9, 8, 7, 5, 3, 16, 17, 18, 6, 10, 11, 93] (T' := [(9, .pointer (some ⟨b111, 0, none⟩)), (8, .pointer (some ⟨b90, 0, none⟩)), (7, .pointer (some ⟨b84, 0, none⟩)), (5, .pointer (some ⟨b50, 0, none⟩)), (3, .pointer (some ⟨bs, 0, none⟩)), (16, .slice (some ⟨sb40, k041, none⟩) ops.length c), (17, .int .i64 ((ops.length : Nat) : Int)), (18, .int .i64 ((i : Nat) : Int)), (6, .pointer (some ⟨bq64, 0, none⟩)), (10, .bool (x.kind == 7)), (11, .bool true), (93, .bool false)]) (φ := EqRun Try.prog 41 (.agg #[.int .u8 0, .int .i64 s.pos, .int .i64 s.lg.base.idx, .int .i64 s.lg.fin, .bool s.live, .bool s.out.refused, .int .i8 s.out.running, .int .u64 s.out.value, .int .u64 (dig s.m), .int .i64 s.pos, .int .i64 0, .int .i64 (-1)]) (.agg #[.int .u8 0, .int .i64 s.pos, .int .i64 s.lg.base.idx, .int .i64 s.lg.fin, .bool s.live, .bool s.out.refused, .int .i8 s.out.running, .int .u64 s.out.value, .int .u64 (dig s.m), .int .i64 s.pos, .int .i64 0, .int .i64 (-1)]) true ∧ True) (fuel := 0) h406 (by kernel_rfl) rfl (by kernel_rfl) (by kernel_rfl) ⟨trivial, trivial, trivial⟩ ⟨(run41s (s.stat 0)), trivial⟩ fun a407 h408 => ?_
                    clear h406
                    refine wpAnyK_done (by kernel_rfl) ?_ _
                    refine hK382 _ _ ?_
                    clear hK382
                    refine c_false h408 rfl ?_
                    refine wp_skip ?_
                    refine hK45 _ _ ?_
                    clear hK45
                    refine nd_start (l := [0, 1]) rfl ?_
                    refine nd_batch tabOk tabZ_ok [(0, {}), (1, {})] [9, 8, 7, 5, 3, 16, 17, 6, 10, 11, 18] (T' := [(9, .pointer (some ⟨b111, 0, none⟩)), (8, .pointer (some ⟨b90, 0, none⟩)), (7, .pointer (some ⟨b84, 0, none⟩)), (5, .pointer (some ⟨b50, 0, none⟩)), (3, .pointer (some ⟨bs, 0, none⟩)), (16, .slice (some ⟨sb40, k041, none⟩) ops.length c), (17, .int .i64 ((ops.length : Nat) : Int)), (6, .pointer (some ⟨bq64, 0, none⟩)), (10, .bool (x.kind == 7)), (11, .bool true), (18, .int .i64 (((i : Nat) : Int) + 1))]) (φ := inR .i64 (((i : Nat) : Int) + 1) ∧ True) (rest := []) h408 (by kernel_rfl) rfl ⟨⟨by omega, by omega⟩, trivial⟩ fun a409 h410 => ?_
                    clear h408
                    refine nd_done ?_
                    have h411 := h410.memMono (L' := []) (List.Sublist.cons _ (List.Sublist.cons _ (List.Sublist.cons _ (List.Sublist.cons _ List.Sublist.slnil))))
                    clear h410
                    have h412 := h411.pcSub (ps' := [pSess bs bl d401 s]) (List.Sublist.cons_cons _ (List.Sublist.cons _ List.Sublist.slnil))
                    clear h411
                    exact ⟨(g - 1), by omega, (i + 1), s, d401, by omega, by omega, (hwf.mono (by omega)), (h412.slotsMono (restr_spec (keep := [3, 16, 17, 18]) rfl))⟩
                ·
                  have hb374f : (doR s x).1.code ≠ 0 := by simpa using hb374
                  have hcode : (doR s x).1.code ≠ 0 := hb374f
                  refine nd_start (l := [0, 1, 2, 3, 4, 5, 6]) rfl ?_
                  refine nd_batch tabOk tabZ_ok [(0, {}), (1, {k := 3}), (2, {f := 1}), (3, {}), (4, {}), (5, {}), (6, {})] [9, 8, 7, 5, 3, 16, 17, 18, 6, 10, 11, 75] (T' := [(9, .pointer (some ⟨b111, 0, none⟩)), (8, .pointer (some ⟨b90, 0, none⟩)), (7, .pointer (some ⟨b84, 0, none⟩)), (5, .pointer (some ⟨b50, 0, none⟩)), (3, .pointer (some ⟨bs, 0, none⟩)), (16, .slice (some ⟨sb40, k041, none⟩) ops.length c), (17, .int .i64 ((ops.length : Nat) : Int)), (18, .int .i64 ((i : Nat) : Int)), (6, .pointer (some ⟨bq64, 0, none⟩)), (10, .bool (x.kind == 7)), (11, .bool true), (75, .bool false)]) (φ := (b111 = b111 ∧ Nat.ble (0 + 1) 12 = true) ∧ (((doR s x).1.code == 0)) = false ∧ True) (rest := []) h371 (by kernel_rfl) rfl ⟨⟨rfl, rfl⟩, hb374, trivial⟩ fun a413 h414 => ?_
                  clear h371
                  refine nd_done ?_
                  refine hK373 _ _ ?_
                  clear hK373
                  refine c_false h414 rfl ?_
                  refine wp_skip ?_
                  refine hK372 _ _ ?_
                  clear hK372
                  refine wp_seq_k fun K415 hK415 => ?_
                  refine dr_start (KB := [b50, b84, b90, b111]) (Bi := [[0, 1, 2, 3], [0, 1, 2, 3], [], [], [0, 1, 2, 3], [0, 1, 2, 3], [0, 1, 2, 3], [0, 1, 2, 3], [1], [0, 1, 2, 3], [0, 1, 2, 3], [0, 1, 2, 3], [0, 1, 2, 3], [0, 1, 2, 3], [0, 1, 2, 3], [2], [0, 1, 2, 3], [0, 1, 2, 3]]) mixed h414 fun w416 h417 => ?_
                  clear h414
                  refine dr_batch tabOk tabZ_ok (by repeat (first | exact PF.body | with_reducible apply PF.inB | with_reducible apply PF.next)) [(0, {}), (1, {})] [9, 8, 7, 5, 3, 16, 17, 18, 6, 10, 11, 76, 77] (T' := [(9, .pointer (some ⟨b111, 0, none⟩)), (8, .pointer (some ⟨b90, 0, none⟩)), (7, .pointer (some ⟨b84, 0, none⟩)), (5, .pointer (some ⟨b50, 0, none⟩)), (3, .pointer (some ⟨bs, 0, none⟩)), (16, .slice (some ⟨sb40, k041, none⟩) ops.length c), (17, .int .i64 ((ops.length : Nat) : Int)), (18, .int .i64 ((i : Nat) : Int)), (6, .pointer (some ⟨bq64, 0, none⟩)), (10, .bool (x.kind == 7)), (11, .bool true), (76, .pointer (some ⟨bq64, 0, none⟩)), (77, .pointer (some ⟨bs, 0, none⟩))]) (φ := True) (fuel := 16) h417 (by kernel_rfl) rfl (by kernel_rfl) (by kernel_rfl) ⟨trivial, trivial, trivial⟩ trivial fun a419 h420 => ?_
                  clear h417
                  refine wpAnyK_one (i := 2) (fuel := 15) (by kernel_rfl) ?_
                  have hsame : (doR s x).2 = s := do_same (.inl hcode)
                  rw [hsame] at h420
                  refine op_call h420 rfl rfl rfl (callOk Try.func17 (by decide) rfl) (args := [.pointer (some ⟨bs, 0, none⟩)]) rfl (slog_ok bs _ _ _ _ _ false _ (h420.inv.get (j := 0) (p := pSess bs bl d105 s) rfl).blk) ?_
                  rintro _ w421 ⟨rfl, hf423⟩
                  refine ⟨_, rfl, ?_⟩
                  have h422 := (h420.grow hf423).put (d := some 78) (v := .pointer (some ⟨bl, 0, none⟩)) (T' := [(78, .pointer (some ⟨bl, 0, none⟩)), (9, .pointer (some ⟨b111, 0, none⟩)), (8, .pointer (some ⟨b90, 0, none⟩)), (7, .pointer (some ⟨b84, 0, none⟩)), (5, .pointer (some ⟨b50, 0, none⟩)), (3, .pointer (some ⟨bs, 0, none⟩)), (16, .slice (some ⟨sb40, k041, none⟩) ops.length c), (17, .int .i64 ((ops.length : Nat) : Int)), (18, .int .i64 ((i : Nat) : Int)), (6, .pointer (some ⟨bq64, 0, none⟩)), (10, .bool (x.kind == 7)), (11, .bool true), (76, .pointer (some ⟨bq64, 0, none⟩)), (77, .pointer (some ⟨bs, 0, none⟩))]) rfl
                  refine ⟨keepNil, ?_⟩
                  clear h420
                  refine wpAnyK_one (i := 3) (fuel := 14) (by kernel_rfl) ?_
                  refine op_call h422 rfl rfl rfl (callOk Try.func16 (by decide) rfl) (args := [.pointer (some ⟨bq64, 0, none⟩), .pointer (some ⟨bl, 0, none⟩)]) rfl (sameLog_ok bq64 bl d65 d105 s.lg _ (h422.inv.get (j := 1) (p := pLog bq64 d65 s.lg) rfl) (h422.inv.get (j := 0) (p := pSess bs bl d105 s) rfl).log (fun b hb hq => Pf_nodup h422.inv.nd (i := 1) (j := 0) (x := pLog bq64 d65 s.lg) (y := pSess bs bl d105 s) rfl rfl (by decide) b hb (List.mem_cons_of_mem _ hq)) (by omega) (by omega) (by omega)) ?_
                  rintro _ w424 ⟨rfl, hf426⟩
                  refine ⟨_, rfl, ?_⟩
                  have h425 := (h422.grow hf426).put (d := some 79) (v := .bool true) (T' := [(79, .bool true), (78, .pointer (some ⟨bl, 0, none⟩)), (9, .pointer (some ⟨b111, 0, none⟩)), (8, .pointer (some ⟨b90, 0, none⟩)), (7, .pointer (some ⟨b84, 0, none⟩)), (5, .pointer (some ⟨b50, 0, none⟩)), (3, .pointer (some ⟨bs, 0, none⟩)), (16, .slice (some ⟨sb40, k041, none⟩) ops.length c), (17, .int .i64 ((ops.length : Nat) : Int)), (18, .int .i64 ((i : Nat) : Int)), (6, .pointer (some ⟨bq64, 0, none⟩)), (10, .bool (x.kind == 7)), (11, .bool true), (76, .pointer (some ⟨bq64, 0, none⟩)), (77, .pointer (some ⟨bs, 0, none⟩))]) rfl
                  refine ⟨keepNil, ?_⟩
                  clear h422
                  refine dr_batch tabOk tabZ_ok (by repeat (first | exact PF.body | with_reducible apply PF.inB | with_reducible apply PF.next)) [(4, {}), (5, {}), (6, {k := 1, p := 1}), (7, {})] [9, 8, 7, 5, 3, 16, 17, 18, 6, 10, 11, 81, 82, 83] (T' := [(9, .pointer (some ⟨b111, 0, none⟩)), (8, .pointer (some ⟨b90, 0, none⟩)), (7, .pointer (some ⟨b84, 0, none⟩)), (5, .pointer (some ⟨b50, 0, none⟩)), (3, .pointer (some ⟨bs, 0, none⟩)), (16, .slice (some ⟨sb40, k041, none⟩) ops.length c), (17, .int .i64 ((ops.length : Nat) : Int)), (18, .int .i64 ((i : Nat) : Int)), (6, .pointer (some ⟨bq64, 0, none⟩)), (10, .bool (x.kind == 7)), (11, .bool true), (81, .bool false), (82, .agg #[.int .u64 s.m.now, .int .i8 s.m.cur, .int .u8 s.m.s0, .int .u8 s.m.s1, .int .u8 s.m.s2, .int .u8 s.m.s3, .int .u64 s.m.r0, .int .u64 s.m.r1, .int .u64 s.m.r2, .int .u64 s.m.r3, .int .u64 s.m.word]), (83, .pointer (some ⟨bs, 0, none⟩))]) (φ := (b84 = b84 ∧ Nat.ble (0 + 11) 11 = true) ∧ True) (fuel := 10) h425 (by kernel_rfl) rfl (by kernel_rfl) (by kernel_rfl) ⟨trivial, trivial, rfl, trivial, trivial⟩ ⟨⟨rfl, rfl⟩, trivial⟩ fun a427 h428 => ?_
                  clear h425
                  refine wpAnyK_one (i := 8) (fuel := 9) (by kernel_rfl) ?_
                  refine op_call h428 rfl rfl rfl (callOk Try.func15 (by decide) rfl) (args := [.pointer (some ⟨bs, 0, none⟩)]) rfl (smach_ok bs _ s.m _ _ _ false _ (h428.inv.get (j := 0) (p := pSess bs bl d105 s) rfl).blk) ?_
                  rintro _ w429 ⟨rfl, hf431⟩
                  refine ⟨_, rfl, ?_⟩
                  have h430 := (h428.grow hf431).put (d := some 84) (v := .agg #[.int .u64 s.m.now, .int .i8 s.m.cur, .int .u8 s.m.s0, .int .u8 s.m.s1, .int .u8 s.m.s2, .int .u8 s.m.s3, .int .u64 s.m.r0, .int .u64 s.m.r1, .int .u64 s.m.r2, .int .u64 s.m.r3, .int .u64 s.m.word]) (T' := [(84, .agg #[.int .u64 s.m.now, .int .i8 s.m.cur, .int .u8 s.m.s0, .int .u8 s.m.s1, .int .u8 s.m.s2, .int .u8 s.m.s3, .int .u64 s.m.r0, .int .u64 s.m.r1, .int .u64 s.m.r2, .int .u64 s.m.r3, .int .u64 s.m.word]), (9, .pointer (some ⟨b111, 0, none⟩)), (8, .pointer (some ⟨b90, 0, none⟩)), (7, .pointer (some ⟨b84, 0, none⟩)), (5, .pointer (some ⟨b50, 0, none⟩)), (3, .pointer (some ⟨bs, 0, none⟩)), (16, .slice (some ⟨sb40, k041, none⟩) ops.length c), (17, .int .i64 ((ops.length : Nat) : Int)), (18, .int .i64 ((i : Nat) : Int)), (6, .pointer (some ⟨bq64, 0, none⟩)), (10, .bool (x.kind == 7)), (11, .bool true), (81, .bool false), (82, .agg #[.int .u64 s.m.now, .int .i8 s.m.cur, .int .u8 s.m.s0, .int .u8 s.m.s1, .int .u8 s.m.s2, .int .u8 s.m.s3, .int .u64 s.m.r0, .int .u64 s.m.r1, .int .u64 s.m.r2, .int .u64 s.m.r3, .int .u64 s.m.word]), (83, .pointer (some ⟨bs, 0, none⟩))]) rfl
                  refine ⟨(h428.keepFr hf431 (kcons (by simp) knil)), ?_⟩
                  clear h428
                  refine dr_batch tabOk tabZ_ok (by repeat (first | exact PF.body | with_reducible apply PF.inB | with_reducible apply PF.next)) [(9, {f := 1}), (10, {}), (11, {}), (12, {k := 2, p := 2}), (13, {}), (14, {})] [9, 8, 7, 5, 3, 16, 17, 18, 6, 10, 11, 87, 88, 89, 90] (T' := [(9, .pointer (some ⟨b111, 0, none⟩)), (8, .pointer (some ⟨b90, 0, none⟩)), (7, .pointer (some ⟨b84, 0, none⟩)), (5, .pointer (some ⟨b50, 0, none⟩)), (3, .pointer (some ⟨bs, 0, none⟩)), (16, .slice (some ⟨sb40, k041, none⟩) ops.length c), (17, .int .i64 ((ops.length : Nat) : Int)), (18, .int .i64 ((i : Nat) : Int)), (6, .pointer (some ⟨bq64, 0, none⟩)), (10, .bool (x.kind == 7)), (11, .bool true), (87, .bool false), (88, .agg #[.int .u8 0, .int .i64 s.pos, .int .i64 s.lg.base.idx, .int .i64 s.lg.fin, .bool s.live, .bool s.out.refused, .int .i8 s.out.running, .int .u64 s.out.value, .int .u64 (dig s.m), .int .i64 s.pos, .int .i64 0, .int .i64 (-1)]), (89, .pointer (some ⟨bs, 0, none⟩)), (90, .agg #[.int .u8 8, .int .i64 0, .int .i64 0, .int .u8 0, .int .u32 0, .int .u64 0])]) (φ := EqRun Try.prog 46 (.agg #[.int .u64 s.m.now, .int .i8 s.m.cur, .int .u8 s.m.s0, .int .u8 s.m.s1, .int .u8 s.m.s2, .int .u8 s.m.s3, .int .u64 s.m.r0, .int .u64 s.m.r1, .int .u64 s.m.r2, .int .u64 s.m.r3, .int .u64 s.m.word]) (.agg #[.int .u64 s.m.now, .int .i8 s.m.cur, .int .u8 s.m.s0, .int .u8 s.m.s1, .int .u8 s.m.s2, .int .u8 s.m.s3, .int .u64 s.m.r0, .int .u64 s.m.r1, .int .u64 s.m.r2, .int .u64 s.m.r3, .int .u64 s.m.word]) true ∧ (b90 = b90 ∧ Nat.ble (0 + 12) 12 = true) ∧ True) (fuel := 3) h430 (by kernel_rfl) rfl (by kernel_rfl) (by kernel_rfl) ⟨trivial, trivial, trivial, rfl, trivial, trivial, trivial⟩ ⟨(run46s s.m), ⟨rfl, rfl⟩, trivial⟩ fun a432 h433 => ?_
                  clear h430
                  refine wpAnyK_one (i := 15) (fuel := 2) (by kernel_rfl) ?_
                  refine op_call h433 rfl rfl rfl (callOk Try.func12 (by decide) rfl) (args := [.pointer (some ⟨bs, 0, none⟩), .agg #[.int .u8 8, .int .i64 0, .int .i64 0, .int .u8 0, .int .u32 0, .int .u64 0]]) rfl ((by have hq := do_ok bs bl d105 s _ (h433.inv.get (j := 0) (p := pSess bs bl d105 s) rfl) (B := (i : Int)) (by omega) hwf ⟨8, 0, 0, ⟨0, 0, 0⟩⟩ (opk_ok (by decide) (by decide)); rw [do_where] at hq; exact hq)) ?_
                  rintro _ w438 ⟨d434, rfl, hs435, hf436, hF437⟩
                  refine ⟨_, rfl, ?_⟩
                  have h439 := (h433.pcSet (j := 0) (p := pSess bs bl d105 s) (p' := pSess bs bl d434 s) (ps' := [pSess bs bl d434 s, pLog bq64 d65 s.lg]) rfl (pSess_ok hs435) hf436 (fun _ h => h) (sess_sub hF437) (kcons (by intro hq; cases hq) (kcons (by intro hq; cases hq) (kcons (by intro hq; cases hq) (kcons (by intro hq; cases hq) knil)))) rfl).put (d := some 91) (v := .agg #[.int .u8 0, .int .i64 s.pos, .int .i64 s.lg.base.idx, .int .i64 s.lg.fin, .bool s.live, .bool s.out.refused, .int .i8 s.out.running, .int .u64 s.out.value, .int .u64 (dig s.m), .int .i64 s.pos, .int .i64 0, .int .i64 (-1)]) (T' := [(91, .agg #[.int .u8 0, .int .i64 s.pos, .int .i64 s.lg.base.idx, .int .i64 s.lg.fin, .bool s.live, .bool s.out.refused, .int .i8 s.out.running, .int .u64 s.out.value, .int .u64 (dig s.m), .int .i64 s.pos, .int .i64 0, .int .i64 (-1)]), (9, .pointer (some ⟨b111, 0, none⟩)), (8, .pointer (some ⟨b90, 0, none⟩)), (7, .pointer (some ⟨b84, 0, none⟩)), (5, .pointer (some ⟨b50, 0, none⟩)), (3, .pointer (some ⟨bs, 0, none⟩)), (16, .slice (some ⟨sb40, k041, none⟩) ops.length c), (17, .int .i64 ((ops.length : Nat) : Int)), (18, .int .i64 ((i : Nat) : Int)), (6, .pointer (some ⟨bq64, 0, none⟩)), (10, .bool (x.kind == 7)), (11, .bool true), (87, .bool false), (88, .agg #[.int .u8 0, .int .i64 s.pos, .int .i64 s.lg.base.idx, .int .i64 s.lg.fin, .bool s.live, .bool s.out.refused, .int .i8 s.out.running, .int .u64 s.out.value, .int .u64 (dig s.m), .int .i64 s.pos, .int .i64 0, .int .i64 (-1)]), (89, .pointer (some ⟨bs, 0, none⟩)), (90, .agg #[.int .u8 8, .int .i64 0, .int .i64 0, .int .u8 0, .int .u32 0, .int .u64 0])]) rfl
                  have hkh439 := h433.known
                  refine ⟨(keepOf hkh439 h439.known (kcons (keepAt (q := 2) (q' := 2) rfl rfl) knil)), ?_⟩
                  have hszh439 : w.heap.size ≤ _ := h433.frame.size
                  clear h433
                  refine dr_batch tabOk tabZ_ok (by repeat (first | exact PF.body | with_reducible apply PF.inB | with_reducible apply PF.next)) [(16, {f := 1}), (17, {})] [9, 8, 7, 5, 3, 16, 17, 18, 6, 10, 11, 93] (T' := [(9, .pointer (some ⟨b111, 0, none⟩)), (8, .pointer (some ⟨b90, 0, none⟩)), (7, .pointer (some ⟨b84, 0, none⟩)), (5, .pointer (some ⟨b50, 0, none⟩)), (3, .pointer (some ⟨bs, 0, none⟩)), (16, .slice (some ⟨sb40, k041, none⟩) ops.length c), (17, .int .i64 ((ops.length : Nat) : Int)), (18, .int .i64 ((i : Nat) : Int)), (6, .pointer (some ⟨bq64, 0, none⟩)), (10, .bool (x.kind == 7)), (11, .bool true), (93, .bool false)]) (φ := EqRun Try.prog 41 (.agg #[.int .u8 0, .int .i64 s.pos, .int .i64 s.lg.base.idx, .int .i64 s.lg.fin, .bool s.live, .bool s.out.refused, .int .i8 s.out.running, .int .u64 s.out.value, .int .u64 (dig s.m), .int .i64 s.pos, .int .i64 0, .int .i64 (-1)]) (.agg #[.int .u8 0, .int .i64 s.pos, .int .i64 s.lg.base.idx, .int .i64 s.lg.fin, .bool s.live, .bool s.out.refused, .int .i8 s.out.running, .int .u64 s.out.value, .int .u64 (dig s.m), .int .i64 s.pos, .int .i64 0, .int .i64 (-1)]) true ∧ True) (fuel := 0) h439 (by kernel_rfl) rfl (by kernel_rfl) (by kernel_rfl) ⟨trivial, trivial, trivial⟩ ⟨(run41s (s.stat 0)), trivial⟩ fun a440 h441 => ?_
                  clear h439
                  refine wpAnyK_done (by kernel_rfl) ?_ _
                  refine hK415 _ _ ?_
                  clear hK415
                  refine c_false h441 rfl ?_
                  refine wp_skip ?_
                  refine hK45 _ _ ?_
                  clear hK45
                  refine nd_start (l := [0, 1]) rfl ?_
                  refine nd_batch tabOk tabZ_ok [(0, {}), (1, {})] [9, 8, 7, 5, 3, 16, 17, 6, 10, 11, 18] (T' := [(9, .pointer (some ⟨b111, 0, none⟩)), (8, .pointer (some ⟨b90, 0, none⟩)), (7, .pointer (some ⟨b84, 0, none⟩)), (5, .pointer (some ⟨b50, 0, none⟩)), (3, .pointer (some ⟨bs, 0, none⟩)), (16, .slice (some ⟨sb40, k041, none⟩) ops.length c), (17, .int .i64 ((ops.length : Nat) : Int)), (6, .pointer (some ⟨bq64, 0, none⟩)), (10, .bool (x.kind == 7)), (11, .bool true), (18, .int .i64 (((i : Nat) : Int) + 1))]) (φ := inR .i64 (((i : Nat) : Int) + 1) ∧ True) (rest := []) h441 (by kernel_rfl) rfl ⟨⟨by omega, by omega⟩, trivial⟩ fun a442 h443 => ?_
                  clear h441
                  refine nd_done ?_
                  have h444 := h443.memMono (L' := []) (List.Sublist.cons _ (List.Sublist.cons _ (List.Sublist.cons _ (List.Sublist.cons _ List.Sublist.slnil))))
                  clear h443
                  have h445 := h444.pcSub (ps' := [pSess bs bl d434 s]) (List.Sublist.cons_cons _ (List.Sublist.cons _ List.Sublist.slnil))
                  clear h444
                  exact ⟨(g - 1), by omega, (i + 1), s, d434, by omega, by omega, (hwf.mono (by omega)), (h445.slotsMono (restr_spec (keep := [3, 16, 17, 18]) rfl))⟩
              ·
                have hb369f : ¬ x.n > s.lg.fin := by simpa using hb369
                have hb369s := h366
                rw [hb369] at hb369s
                refine nd_start (l := [0, 1, 2, 3, 4, 5]) rfl ?_
                refine nd_batch tabOk tabZ_ok [(0, {}), (1, {}), (2, {}), (3, {}), (4, {}), (5, {})] [9, 8, 7, 5, 3, 16, 17, 18, 6, 10, 11, 68] (T' := [(9, .pointer (some ⟨b111, 0, none⟩)), (8, .pointer (some ⟨b90, 0, none⟩)), (7, .pointer (some ⟨b84, 0, none⟩)), (5, .pointer (some ⟨b50, 0, none⟩)), (3, .pointer (some ⟨bs, 0, none⟩)), (16, .slice (some ⟨sb40, k041, none⟩) ops.length c), (17, .int .i64 ((ops.length : Nat) : Int)), (18, .int .i64 ((i : Nat) : Int)), (6, .pointer (some ⟨bq64, 0, none⟩)), (10, .bool (x.kind == 7)), (11, .bool false), (68, .bool false)]) (φ := True) (rest := []) hb369s (by kernel_rfl) rfl trivial fun a446 h447 => ?_
                clear hb369s
                refine nd_done ?_
                refine hK368 _ _ ?_
                clear hK368
                refine c_false h447 rfl ?_
                refine wp_skip ?_
                refine hK367 _ _ ?_
                clear hK367
                refine wp_seq_k fun K448 hK448 => ?_
                refine wp_seq_k fun K449 hK449 => ?_
                rcases Bool.eq_false_or_eq_true (((doR s x).1.code == 0)) with hb450 | hb450
                ·
                  have hb450f : (doR s x).1.code = 0 := by simpa using hb450
                  have hcode : (doR s x).1.code = 0 := hb450f
                  refine nd_start (l := [0, 1, 2, 3, 4, 5, 6]) rfl ?_
                  refine nd_batch tabOk tabZ_ok [(0, {}), (1, {k := 3}), (2, {f := 2}), (3, {}), (4, {}), (5, {}), (6, {})] [9, 8, 7, 5, 3, 16, 17, 18, 6, 10, 11, 75] (T' := [(9, .pointer (some ⟨b111, 0, none⟩)), (8, .pointer (some ⟨b90, 0, none⟩)), (7, .pointer (some ⟨b84, 0, none⟩)), (5, .pointer (some ⟨b50, 0, none⟩)), (3, .pointer (some ⟨bs, 0, none⟩)), (16, .slice (some ⟨sb40, k041, none⟩) ops.length c), (17, .int .i64 ((ops.length : Nat) : Int)), (18, .int .i64 ((i : Nat) : Int)), (6, .pointer (some ⟨bq64, 0, none⟩)), (10, .bool (x.kind == 7)), (11, .bool false), (75, .bool (!(x.kind == 7)))]) (φ := (b111 = b111 ∧ Nat.ble (0 + 1) 12 = true) ∧ (((doR s x).1.code == 0)) = true ∧ True) (rest := []) h447 (by kernel_rfl) rfl ⟨⟨rfl, rfl⟩, hb450, trivial⟩ fun a451 h452 => ?_
                  clear h447
                  refine nd_done ?_
                  refine hK449 _ _ ?_
                  clear hK449
                  refine c_split h452 (b := !(x.kind == 7)) rfl (fun hc453 => ?_) (fun hc453 => ?_)
                  ·
                    refine wp_exit ?_
                    refine hK45 _ _ ?_
                    clear hK45
                    refine nd_start (l := [0, 1]) rfl ?_
                    refine nd_batch tabOk tabZ_ok [(0, {}), (1, {})] [9, 8, 7, 5, 3, 16, 17, 6, 10, 11, 18] (T' := [(9, .pointer (some ⟨b111, 0, none⟩)), (8, .pointer (some ⟨b90, 0, none⟩)), (7, .pointer (some ⟨b84, 0, none⟩)), (5, .pointer (some ⟨b50, 0, none⟩)), (3, .pointer (some ⟨bs, 0, none⟩)), (16, .slice (some ⟨sb40, k041, none⟩) ops.length c), (17, .int .i64 ((ops.length : Nat) : Int)), (6, .pointer (some ⟨bq64, 0, none⟩)), (10, .bool (x.kind == 7)), (11, .bool false), (18, .int .i64 (((i : Nat) : Int) + 1))]) (φ := inR .i64 (((i : Nat) : Int) + 1) ∧ True) (rest := []) h452 (by kernel_rfl) rfl ⟨⟨by omega, by omega⟩, trivial⟩ fun a454 h455 => ?_
                    clear h452
                    refine nd_done ?_
                    have h456 := h455.memMono (L' := []) (List.Sublist.cons _ (List.Sublist.cons _ (List.Sublist.cons _ (List.Sublist.cons _ List.Sublist.slnil))))
                    clear h455
                    have h457 := h456.pcSub (ps' := [pSess bs bl d105 ((doR s x).2)]) (List.Sublist.cons_cons _ (List.Sublist.cons _ List.Sublist.slnil))
                    clear h456
                    exact ⟨(g - 1), by omega, (i + 1), (doR s x).2, d105, by omega, by omega, hwf1, (h457.slotsMono (restr_spec (keep := [3, 16, 17, 18]) rfl))⟩
                  ·
                    have hk7 : x.kind = 7 := by simpa using hc453
                    refine wp_skip ?_
                    refine hK448 _ _ ?_
                    clear hK448
                    refine wp_seq_k fun K458 hK458 => ?_
                    refine dr_start (KB := [b50, b84, b90, b111]) (Bi := [[0, 1, 2, 3], [0, 1, 2, 3], [], [], [0, 1, 2, 3], [0, 1, 2, 3], [0, 1, 2, 3], [0, 1, 2, 3], [1], [0, 1, 2, 3], [0, 1, 2, 3], [0, 1, 2, 3], [0, 1, 2, 3], [0, 1, 2, 3], [0, 1, 2, 3], [2], [0, 1, 2, 3], [0, 1, 2, 3]]) mixed h452 fun w459 h460 => ?_
                    clear h452
                    refine dr_batch tabOk tabZ_ok (by repeat (first | exact PF.body | with_reducible apply PF.inB | with_reducible apply PF.next)) [(0, {}), (1, {})] [9, 8, 7, 5, 3, 16, 17, 18, 6, 10, 11, 76, 77] (T' := [(9, .pointer (some ⟨b111, 0, none⟩)), (8, .pointer (some ⟨b90, 0, none⟩)), (7, .pointer (some ⟨b84, 0, none⟩)), (5, .pointer (some ⟨b50, 0, none⟩)), (3, .pointer (some ⟨bs, 0, none⟩)), (16, .slice (some ⟨sb40, k041, none⟩) ops.length c), (17, .int .i64 ((ops.length : Nat) : Int)), (18, .int .i64 ((i : Nat) : Int)), (6, .pointer (some ⟨bq64, 0, none⟩)), (10, .bool (x.kind == 7)), (11, .bool false), (76, .pointer (some ⟨bq64, 0, none⟩)), (77, .pointer (some ⟨bs, 0, none⟩))]) (φ := True) (fuel := 16) h460 (by kernel_rfl) rfl (by kernel_rfl) (by kernel_rfl) ⟨trivial, trivial, trivial⟩ trivial fun a462 h463 => ?_
                    clear h460
                    refine wpAnyK_one (i := 2) (fuel := 15) (by kernel_rfl) ?_
                    have hsame : (doR s x).2 = s := do_same (.inr (.inr (.inl hk7)))
                    rw [hsame] at h463
                    refine op_call h463 rfl rfl rfl (callOk Try.func17 (by decide) rfl) (args := [.pointer (some ⟨bs, 0, none⟩)]) rfl (slog_ok bs _ _ _ _ _ false _ (h463.inv.get (j := 0) (p := pSess bs bl d105 s) rfl).blk) ?_
                    rintro _ w464 ⟨rfl, hf466⟩
                    refine ⟨_, rfl, ?_⟩
                    have h465 := (h463.grow hf466).put (d := some 78) (v := .pointer (some ⟨bl, 0, none⟩)) (T' := [(78, .pointer (some ⟨bl, 0, none⟩)), (9, .pointer (some ⟨b111, 0, none⟩)), (8, .pointer (some ⟨b90, 0, none⟩)), (7, .pointer (some ⟨b84, 0, none⟩)), (5, .pointer (some ⟨b50, 0, none⟩)), (3, .pointer (some ⟨bs, 0, none⟩)), (16, .slice (some ⟨sb40, k041, none⟩) ops.length c), (17, .int .i64 ((ops.length : Nat) : Int)), (18, .int .i64 ((i : Nat) : Int)), (6, .pointer (some ⟨bq64, 0, none⟩)), (10, .bool (x.kind == 7)), (11, .bool false), (76, .pointer (some ⟨bq64, 0, none⟩)), (77, .pointer (some ⟨bs, 0, none⟩))]) rfl
                    refine ⟨keepNil, ?_⟩
                    clear h463
                    refine wpAnyK_one (i := 3) (fuel := 14) (by kernel_rfl) ?_
                    refine op_call h465 rfl rfl rfl (callOk Try.func16 (by decide) rfl) (args := [.pointer (some ⟨bq64, 0, none⟩), .pointer (some ⟨bl, 0, none⟩)]) rfl (sameLog_ok bq64 bl d65 d105 s.lg _ (h465.inv.get (j := 1) (p := pLog bq64 d65 s.lg) rfl) (h465.inv.get (j := 0) (p := pSess bs bl d105 s) rfl).log (fun b hb hq => Pf_nodup h465.inv.nd (i := 1) (j := 0) (x := pLog bq64 d65 s.lg) (y := pSess bs bl d105 s) rfl rfl (by decide) b hb (List.mem_cons_of_mem _ hq)) (by omega) (by omega) (by omega)) ?_
                    rintro _ w467 ⟨rfl, hf469⟩
                    refine ⟨_, rfl, ?_⟩
                    have h468 := (h465.grow hf469).put (d := some 79) (v := .bool true) (T' := [(79, .bool true), (78, .pointer (some ⟨bl, 0, none⟩)), (9, .pointer (some ⟨b111, 0, none⟩)), (8, .pointer (some ⟨b90, 0, none⟩)), (7, .pointer (some ⟨b84, 0, none⟩)), (5, .pointer (some ⟨b50, 0, none⟩)), (3, .pointer (some ⟨bs, 0, none⟩)), (16, .slice (some ⟨sb40, k041, none⟩) ops.length c), (17, .int .i64 ((ops.length : Nat) : Int)), (18, .int .i64 ((i : Nat) : Int)), (6, .pointer (some ⟨bq64, 0, none⟩)), (10, .bool (x.kind == 7)), (11, .bool false), (76, .pointer (some ⟨bq64, 0, none⟩)), (77, .pointer (some ⟨bs, 0, none⟩))]) rfl
                    refine ⟨keepNil, ?_⟩
                    clear h465
                    refine dr_batch tabOk tabZ_ok (by repeat (first | exact PF.body | with_reducible apply PF.inB | with_reducible apply PF.next)) [(4, {}), (5, {}), (6, {k := 1, p := 1}), (7, {})] [9, 8, 7, 5, 3, 16, 17, 18, 6, 10, 11, 81, 82, 83] (T' := [(9, .pointer (some ⟨b111, 0, none⟩)), (8, .pointer (some ⟨b90, 0, none⟩)), (7, .pointer (some ⟨b84, 0, none⟩)), (5, .pointer (some ⟨b50, 0, none⟩)), (3, .pointer (some ⟨bs, 0, none⟩)), (16, .slice (some ⟨sb40, k041, none⟩) ops.length c), (17, .int .i64 ((ops.length : Nat) : Int)), (18, .int .i64 ((i : Nat) : Int)), (6, .pointer (some ⟨bq64, 0, none⟩)), (10, .bool (x.kind == 7)), (11, .bool false), (81, .bool false), (82, .agg #[.int .u64 s.m.now, .int .i8 s.m.cur, .int .u8 s.m.s0, .int .u8 s.m.s1, .int .u8 s.m.s2, .int .u8 s.m.s3, .int .u64 s.m.r0, .int .u64 s.m.r1, .int .u64 s.m.r2, .int .u64 s.m.r3, .int .u64 s.m.word]), (83, .pointer (some ⟨bs, 0, none⟩))]) (φ := (b84 = b84 ∧ Nat.ble (0 + 11) 11 = true) ∧ True) (fuel := 10) h468 (by kernel_rfl) rfl (by kernel_rfl) (by kernel_rfl) ⟨trivial, trivial, rfl, trivial, trivial⟩ ⟨⟨rfl, rfl⟩, trivial⟩ fun a470 h471 => ?_
                    clear h468
                    refine wpAnyK_one (i := 8) (fuel := 9) (by kernel_rfl) ?_
                    refine op_call h471 rfl rfl rfl (callOk Try.func15 (by decide) rfl) (args := [.pointer (some ⟨bs, 0, none⟩)]) rfl (smach_ok bs _ s.m _ _ _ false _ (h471.inv.get (j := 0) (p := pSess bs bl d105 s) rfl).blk) ?_
                    rintro _ w472 ⟨rfl, hf474⟩
                    refine ⟨_, rfl, ?_⟩
                    have h473 := (h471.grow hf474).put (d := some 84) (v := .agg #[.int .u64 s.m.now, .int .i8 s.m.cur, .int .u8 s.m.s0, .int .u8 s.m.s1, .int .u8 s.m.s2, .int .u8 s.m.s3, .int .u64 s.m.r0, .int .u64 s.m.r1, .int .u64 s.m.r2, .int .u64 s.m.r3, .int .u64 s.m.word]) (T' := [(84, .agg #[.int .u64 s.m.now, .int .i8 s.m.cur, .int .u8 s.m.s0, .int .u8 s.m.s1, .int .u8 s.m.s2, .int .u8 s.m.s3, .int .u64 s.m.r0, .int .u64 s.m.r1, .int .u64 s.m.r2, .int .u64 s.m.r3, .int .u64 s.m.word]), (9, .pointer (some ⟨b111, 0, none⟩)), (8, .pointer (some ⟨b90, 0, none⟩)), (7, .pointer (some ⟨b84, 0, none⟩)), (5, .pointer (some ⟨b50, 0, none⟩)), (3, .pointer (some ⟨bs, 0, none⟩)), (16, .slice (some ⟨sb40, k041, none⟩) ops.length c), (17, .int .i64 ((ops.length : Nat) : Int)), (18, .int .i64 ((i : Nat) : Int)), (6, .pointer (some ⟨bq64, 0, none⟩)), (10, .bool (x.kind == 7)), (11, .bool false), (81, .bool false), (82, .agg #[.int .u64 s.m.now, .int .i8 s.m.cur, .int .u8 s.m.s0, .int .u8 s.m.s1, .int .u8 s.m.s2, .int .u8 s.m.s3, .int .u64 s.m.r0, .int .u64 s.m.r1, .int .u64 s.m.r2, .int .u64 s.m.r3, .int .u64 s.m.word]), (83, .pointer (some ⟨bs, 0, none⟩))]) rfl
                    refine ⟨(h471.keepFr hf474 (kcons (by simp) knil)), ?_⟩
                    clear h471
                    refine dr_batch tabOk tabZ_ok (by repeat (first | exact PF.body | with_reducible apply PF.inB | with_reducible apply PF.next)) [(9, {f := 1}), (10, {}), (11, {}), (12, {k := 2, p := 2}), (13, {}), (14, {})] [9, 8, 7, 5, 3, 16, 17, 18, 6, 10, 11, 87, 88, 89, 90] (T' := [(9, .pointer (some ⟨b111, 0, none⟩)), (8, .pointer (some ⟨b90, 0, none⟩)), (7, .pointer (some ⟨b84, 0, none⟩)), (5, .pointer (some ⟨b50, 0, none⟩)), (3, .pointer (some ⟨bs, 0, none⟩)), (16, .slice (some ⟨sb40, k041, none⟩) ops.length c), (17, .int .i64 ((ops.length : Nat) : Int)), (18, .int .i64 ((i : Nat) : Int)), (6, .pointer (some ⟨bq64, 0, none⟩)), (10, .bool (x.kind == 7)), (11, .bool false), (87, .bool false), (88, .agg #[.int .u8 0, .int .i64 s.pos, .int .i64 s.lg.base.idx, .int .i64 s.lg.fin, .bool s.live, .bool s.out.refused, .int .i8 s.out.running, .int .u64 s.out.value, .int .u64 (dig s.m), .int .i64 s.pos, .int .i64 0, .int .i64 (-1)]), (89, .pointer (some ⟨bs, 0, none⟩)), (90, .agg #[.int .u8 8, .int .i64 0, .int .i64 0, .int .u8 0, .int .u32 0, .int .u64 0])]) (φ := EqRun Try.prog 46 (.agg #[.int .u64 s.m.now, .int .i8 s.m.cur, .int .u8 s.m.s0, .int .u8 s.m.s1, .int .u8 s.m.s2, .int .u8 s.m.s3, .int .u64 s.m.r0, .int .u64 s.m.r1, .int .u64 s.m.r2, .int .u64 s.m.r3, .int .u64 s.m.word]) (.agg #[.int .u64 s.m.now, .int .i8 s.m.cur, .int .u8 s.m.s0, .int .u8 s.m.s1, .int .u8 s.m.s2, .int .u8 s.m.s3, .int .u64 s.m.r0, .int .u64 s.m.r1, .int .u64 s.m.r2, .int .u64 s.m.r3, .int .u64 s.m.word]) true ∧ (b90 = b90 ∧ Nat.ble (0 + 12) 12 = true) ∧ True) (fuel := 3) h473 (by kernel_rfl) rfl (by kernel_rfl) (by kernel_rfl) ⟨trivial, trivial, trivial, rfl, trivial, trivial, trivial⟩ ⟨(run46s s.m), ⟨rfl, rfl⟩, trivial⟩ fun a475 h476 => ?_
                    clear h473
                    refine wpAnyK_one (i := 15) (fuel := 2) (by kernel_rfl) ?_
                    refine op_call h476 rfl rfl rfl (callOk Try.func12 (by decide) rfl) (args := [.pointer (some ⟨bs, 0, none⟩), .agg #[.int .u8 8, .int .i64 0, .int .i64 0, .int .u8 0, .int .u32 0, .int .u64 0]]) rfl ((by have hq := do_ok bs bl d105 s _ (h476.inv.get (j := 0) (p := pSess bs bl d105 s) rfl) (B := (i : Int)) (by omega) hwf ⟨8, 0, 0, ⟨0, 0, 0⟩⟩ (opk_ok (by decide) (by decide)); rw [do_where] at hq; exact hq)) ?_
                    rintro _ w481 ⟨d477, rfl, hs478, hf479, hF480⟩
                    refine ⟨_, rfl, ?_⟩
                    have h482 := (h476.pcSet (j := 0) (p := pSess bs bl d105 s) (p' := pSess bs bl d477 s) (ps' := [pSess bs bl d477 s, pLog bq64 d65 s.lg]) rfl (pSess_ok hs478) hf479 (fun _ h => h) (sess_sub hF480) (kcons (by intro hq; cases hq) (kcons (by intro hq; cases hq) (kcons (by intro hq; cases hq) (kcons (by intro hq; cases hq) knil)))) rfl).put (d := some 91) (v := .agg #[.int .u8 0, .int .i64 s.pos, .int .i64 s.lg.base.idx, .int .i64 s.lg.fin, .bool s.live, .bool s.out.refused, .int .i8 s.out.running, .int .u64 s.out.value, .int .u64 (dig s.m), .int .i64 s.pos, .int .i64 0, .int .i64 (-1)]) (T' := [(91, .agg #[.int .u8 0, .int .i64 s.pos, .int .i64 s.lg.base.idx, .int .i64 s.lg.fin, .bool s.live, .bool s.out.refused, .int .i8 s.out.running, .int .u64 s.out.value, .int .u64 (dig s.m), .int .i64 s.pos, .int .i64 0, .int .i64 (-1)]), (9, .pointer (some ⟨b111, 0, none⟩)), (8, .pointer (some ⟨b90, 0, none⟩)), (7, .pointer (some ⟨b84, 0, none⟩)), (5, .pointer (some ⟨b50, 0, none⟩)), (3, .pointer (some ⟨bs, 0, none⟩)), (16, .slice (some ⟨sb40, k041, none⟩) ops.length c), (17, .int .i64 ((ops.length : Nat) : Int)), (18, .int .i64 ((i : Nat) : Int)), (6, .pointer (some ⟨bq64, 0, none⟩)), (10, .bool (x.kind == 7)), (11, .bool false), (87, .bool false), (88, .agg #[.int .u8 0, .int .i64 s.pos, .int .i64 s.lg.base.idx, .int .i64 s.lg.fin, .bool s.live, .bool s.out.refused, .int .i8 s.out.running, .int .u64 s.out.value, .int .u64 (dig s.m), .int .i64 s.pos, .int .i64 0, .int .i64 (-1)]), (89, .pointer (some ⟨bs, 0, none⟩)), (90, .agg #[.int .u8 8, .int .i64 0, .int .i64 0, .int .u8 0, .int .u32 0, .int .u64 0])]) rfl
                    have hkh482 := h476.known
                    refine ⟨(keepOf hkh482 h482.known (kcons (keepAt (q := 2) (q' := 2) rfl rfl) knil)), ?_⟩
                    have hszh482 : w.heap.size ≤ _ := h476.frame.size
                    clear h476
                    refine dr_batch tabOk tabZ_ok (by repeat (first | exact PF.body | with_reducible apply PF.inB | with_reducible apply PF.next)) [(16, {f := 1}), (17, {})] [9, 8, 7, 5, 3, 16, 17, 18, 6, 10, 11, 93] (T' := [(9, .pointer (some ⟨b111, 0, none⟩)), (8, .pointer (some ⟨b90, 0, none⟩)), (7, .pointer (some ⟨b84, 0, none⟩)), (5, .pointer (some ⟨b50, 0, none⟩)), (3, .pointer (some ⟨bs, 0, none⟩)), (16, .slice (some ⟨sb40, k041, none⟩) ops.length c), (17, .int .i64 ((ops.length : Nat) : Int)), (18, .int .i64 ((i : Nat) : Int)), (6, .pointer (some ⟨bq64, 0, none⟩)), (10, .bool (x.kind == 7)), (11, .bool false), (93, .bool false)]) (φ := EqRun Try.prog 41 (.agg #[.int .u8 0, .int .i64 s.pos, .int .i64 s.lg.base.idx, .int .i64 s.lg.fin, .bool s.live, .bool s.out.refused, .int .i8 s.out.running, .int .u64 s.out.value, .int .u64 (dig s.m), .int .i64 s.pos, .int .i64 0, .int .i64 (-1)]) (.agg #[.int .u8 0, .int .i64 s.pos, .int .i64 s.lg.base.idx, .int .i64 s.lg.fin, .bool s.live, .bool s.out.refused, .int .i8 s.out.running, .int .u64 s.out.value, .int .u64 (dig s.m), .int .i64 s.pos, .int .i64 0, .int .i64 (-1)]) true ∧ True) (fuel := 0) h482 (by kernel_rfl) rfl (by kernel_rfl) (by kernel_rfl) ⟨trivial, trivial, trivial⟩ ⟨(run41s (s.stat 0)), trivial⟩ fun a483 h484 => ?_
                    clear h482
                    refine wpAnyK_done (by kernel_rfl) ?_ _
                    refine hK458 _ _ ?_
                    clear hK458
                    refine c_false h484 rfl ?_
                    refine wp_skip ?_
                    refine hK45 _ _ ?_
                    clear hK45
                    refine nd_start (l := [0, 1]) rfl ?_
                    refine nd_batch tabOk tabZ_ok [(0, {}), (1, {})] [9, 8, 7, 5, 3, 16, 17, 6, 10, 11, 18] (T' := [(9, .pointer (some ⟨b111, 0, none⟩)), (8, .pointer (some ⟨b90, 0, none⟩)), (7, .pointer (some ⟨b84, 0, none⟩)), (5, .pointer (some ⟨b50, 0, none⟩)), (3, .pointer (some ⟨bs, 0, none⟩)), (16, .slice (some ⟨sb40, k041, none⟩) ops.length c), (17, .int .i64 ((ops.length : Nat) : Int)), (6, .pointer (some ⟨bq64, 0, none⟩)), (10, .bool (x.kind == 7)), (11, .bool false), (18, .int .i64 (((i : Nat) : Int) + 1))]) (φ := inR .i64 (((i : Nat) : Int) + 1) ∧ True) (rest := []) h484 (by kernel_rfl) rfl ⟨⟨by omega, by omega⟩, trivial⟩ fun a485 h486 => ?_
                    clear h484
                    refine nd_done ?_
                    have h487 := h486.memMono (L' := []) (List.Sublist.cons _ (List.Sublist.cons _ (List.Sublist.cons _ (List.Sublist.cons _ List.Sublist.slnil))))
                    clear h486
                    have h488 := h487.pcSub (ps' := [pSess bs bl d477 s]) (List.Sublist.cons_cons _ (List.Sublist.cons _ List.Sublist.slnil))
                    clear h487
                    exact ⟨(g - 1), by omega, (i + 1), s, d477, by omega, by omega, (hwf.mono (by omega)), (h488.slotsMono (restr_spec (keep := [3, 16, 17, 18]) rfl))⟩
                ·
                  have hb450f : (doR s x).1.code ≠ 0 := by simpa using hb450
                  have hcode : (doR s x).1.code ≠ 0 := hb450f
                  refine nd_start (l := [0, 1, 2, 3, 4, 5, 6]) rfl ?_
                  refine nd_batch tabOk tabZ_ok [(0, {}), (1, {k := 3}), (2, {f := 1}), (3, {}), (4, {}), (5, {}), (6, {})] [9, 8, 7, 5, 3, 16, 17, 18, 6, 10, 11, 75] (T' := [(9, .pointer (some ⟨b111, 0, none⟩)), (8, .pointer (some ⟨b90, 0, none⟩)), (7, .pointer (some ⟨b84, 0, none⟩)), (5, .pointer (some ⟨b50, 0, none⟩)), (3, .pointer (some ⟨bs, 0, none⟩)), (16, .slice (some ⟨sb40, k041, none⟩) ops.length c), (17, .int .i64 ((ops.length : Nat) : Int)), (18, .int .i64 ((i : Nat) : Int)), (6, .pointer (some ⟨bq64, 0, none⟩)), (10, .bool (x.kind == 7)), (11, .bool false), (75, .bool false)]) (φ := (b111 = b111 ∧ Nat.ble (0 + 1) 12 = true) ∧ (((doR s x).1.code == 0)) = false ∧ True) (rest := []) h447 (by kernel_rfl) rfl ⟨⟨rfl, rfl⟩, hb450, trivial⟩ fun a489 h490 => ?_
                  clear h447
                  refine nd_done ?_
                  refine hK449 _ _ ?_
                  clear hK449
                  refine c_false h490 rfl ?_
                  refine wp_skip ?_
                  refine hK448 _ _ ?_
                  clear hK448
                  refine wp_seq_k fun K491 hK491 => ?_
                  refine dr_start (KB := [b50, b84, b90, b111]) (Bi := [[0, 1, 2, 3], [0, 1, 2, 3], [], [], [0, 1, 2, 3], [0, 1, 2, 3], [0, 1, 2, 3], [0, 1, 2, 3], [1], [0, 1, 2, 3], [0, 1, 2, 3], [0, 1, 2, 3], [0, 1, 2, 3], [0, 1, 2, 3], [0, 1, 2, 3], [2], [0, 1, 2, 3], [0, 1, 2, 3]]) mixed h490 fun w492 h493 => ?_
                  clear h490
                  refine dr_batch tabOk tabZ_ok (by repeat (first | exact PF.body | with_reducible apply PF.inB | with_reducible apply PF.next)) [(0, {}), (1, {})] [9, 8, 7, 5, 3, 16, 17, 18, 6, 10, 11, 76, 77] (T' := [(9, .pointer (some ⟨b111, 0, none⟩)), (8, .pointer (some ⟨b90, 0, none⟩)), (7, .pointer (some ⟨b84, 0, none⟩)), (5, .pointer (some ⟨b50, 0, none⟩)), (3, .pointer (some ⟨bs, 0, none⟩)), (16, .slice (some ⟨sb40, k041, none⟩) ops.length c), (17, .int .i64 ((ops.length : Nat) : Int)), (18, .int .i64 ((i : Nat) : Int)), (6, .pointer (some ⟨bq64, 0, none⟩)), (10, .bool (x.kind == 7)), (11, .bool false), (76, .pointer (some ⟨bq64, 0, none⟩)), (77, .pointer (some ⟨bs, 0, none⟩))]) (φ := True) (fuel := 16) h493 (by kernel_rfl) rfl (by kernel_rfl) (by kernel_rfl) ⟨trivial, trivial, trivial⟩ trivial fun a495 h496 => ?_
                  clear h493
                  refine wpAnyK_one (i := 2) (fuel := 15) (by kernel_rfl) ?_
                  have hsame : (doR s x).2 = s := do_same (.inl hcode)
                  rw [hsame] at h496
                  refine op_call h496 rfl rfl rfl (callOk Try.func17 (by decide) rfl) (args := [.pointer (some ⟨bs, 0, none⟩)]) rfl (slog_ok bs _ _ _ _ _ false _ (h496.inv.get (j := 0) (p := pSess bs bl d105 s) rfl).blk) ?_
                  rintro _ w497 ⟨rfl, hf499⟩
                  refine ⟨_, rfl, ?_⟩
                  have h498 := (h496.grow hf499).put (d := some 78) (v := .pointer (some ⟨bl, 0, none⟩)) (T' := [(78, .pointer (some ⟨bl, 0, none⟩)), (9, .pointer (some ⟨b111, 0, none⟩)), (8, .pointer (some ⟨b90, 0, none⟩)), (7, .pointer (some ⟨b84, 0, none⟩)), (5, .pointer (some ⟨b50, 0, none⟩)), (3, .pointer (some ⟨bs, 0, none⟩)), (16, .slice (some ⟨sb40, k041, none⟩) ops.length c), (17, .int .i64 ((ops.length : Nat) : Int)), (18, .int .i64 ((i : Nat) : Int)), (6, .pointer (some ⟨bq64, 0, none⟩)), (10, .bool (x.kind == 7)), (11, .bool false), (76, .pointer (some ⟨bq64, 0, none⟩)), (77, .pointer (some ⟨bs, 0, none⟩))]) rfl
                  refine ⟨keepNil, ?_⟩
                  clear h496
                  refine wpAnyK_one (i := 3) (fuel := 14) (by kernel_rfl) ?_
                  refine op_call h498 rfl rfl rfl (callOk Try.func16 (by decide) rfl) (args := [.pointer (some ⟨bq64, 0, none⟩), .pointer (some ⟨bl, 0, none⟩)]) rfl (sameLog_ok bq64 bl d65 d105 s.lg _ (h498.inv.get (j := 1) (p := pLog bq64 d65 s.lg) rfl) (h498.inv.get (j := 0) (p := pSess bs bl d105 s) rfl).log (fun b hb hq => Pf_nodup h498.inv.nd (i := 1) (j := 0) (x := pLog bq64 d65 s.lg) (y := pSess bs bl d105 s) rfl rfl (by decide) b hb (List.mem_cons_of_mem _ hq)) (by omega) (by omega) (by omega)) ?_
                  rintro _ w500 ⟨rfl, hf502⟩
                  refine ⟨_, rfl, ?_⟩
                  have h501 := (h498.grow hf502).put (d := some 79) (v := .bool true) (T' := [(79, .bool true), (78, .pointer (some ⟨bl, 0, none⟩)), (9, .pointer (some ⟨b111, 0, none⟩)), (8, .pointer (some ⟨b90, 0, none⟩)), (7, .pointer (some ⟨b84, 0, none⟩)), (5, .pointer (some ⟨b50, 0, none⟩)), (3, .pointer (some ⟨bs, 0, none⟩)), (16, .slice (some ⟨sb40, k041, none⟩) ops.length c), (17, .int .i64 ((ops.length : Nat) : Int)), (18, .int .i64 ((i : Nat) : Int)), (6, .pointer (some ⟨bq64, 0, none⟩)), (10, .bool (x.kind == 7)), (11, .bool false), (76, .pointer (some ⟨bq64, 0, none⟩)), (77, .pointer (some ⟨bs, 0, none⟩))]) rfl
                  refine ⟨keepNil, ?_⟩
                  clear h498
                  refine dr_batch tabOk tabZ_ok (by repeat (first | exact PF.body | with_reducible apply PF.inB | with_reducible apply PF.next)) [(4, {}), (5, {}), (6, {k := 1, p := 1}), (7, {})] [9, 8, 7, 5, 3, 16, 17, 18, 6, 10, 11, 81, 82, 83] (T' := [(9, .pointer (some ⟨b111, 0, none⟩)), (8, .pointer (some ⟨b90, 0, none⟩)), (7, .pointer (some ⟨b84, 0, none⟩)), (5, .pointer (some ⟨b50, 0, none⟩)), (3, .pointer (some ⟨bs, 0, none⟩)), (16, .slice (some ⟨sb40, k041, none⟩) ops.length c), (17, .int .i64 ((ops.length : Nat) : Int)), (18, .int .i64 ((i : Nat) : Int)), (6, .pointer (some ⟨bq64, 0, none⟩)), (10, .bool (x.kind == 7)), (11, .bool false), (81, .bool false), (82, .agg #[.int .u64 s.m.now, .int .i8 s.m.cur, .int .u8 s.m.s0, .int .u8 s.m.s1, .int .u8 s.m.s2, .int .u8 s.m.s3, .int .u64 s.m.r0, .int .u64 s.m.r1, .int .u64 s.m.r2, .int .u64 s.m.r3, .int .u64 s.m.word]), (83, .pointer (some ⟨bs, 0, none⟩))]) (φ := (b84 = b84 ∧ Nat.ble (0 + 11) 11 = true) ∧ True) (fuel := 10) h501 (by kernel_rfl) rfl (by kernel_rfl) (by kernel_rfl) ⟨trivial, trivial, rfl, trivial, trivial⟩ ⟨⟨rfl, rfl⟩, trivial⟩ fun a503 h504 => ?_
                  clear h501
                  refine wpAnyK_one (i := 8) (fuel := 9) (by kernel_rfl) ?_
                  refine op_call h504 rfl rfl rfl (callOk Try.func15 (by decide) rfl) (args := [.pointer (some ⟨bs, 0, none⟩)]) rfl (smach_ok bs _ s.m _ _ _ false _ (h504.inv.get (j := 0) (p := pSess bs bl d105 s) rfl).blk) ?_
                  rintro _ w505 ⟨rfl, hf507⟩
                  refine ⟨_, rfl, ?_⟩
                  have h506 := (h504.grow hf507).put (d := some 84) (v := .agg #[.int .u64 s.m.now, .int .i8 s.m.cur, .int .u8 s.m.s0, .int .u8 s.m.s1, .int .u8 s.m.s2, .int .u8 s.m.s3, .int .u64 s.m.r0, .int .u64 s.m.r1, .int .u64 s.m.r2, .int .u64 s.m.r3, .int .u64 s.m.word]) (T' := [(84, .agg #[.int .u64 s.m.now, .int .i8 s.m.cur, .int .u8 s.m.s0, .int .u8 s.m.s1, .int .u8 s.m.s2, .int .u8 s.m.s3, .int .u64 s.m.r0, .int .u64 s.m.r1, .int .u64 s.m.r2, .int .u64 s.m.r3, .int .u64 s.m.word]), (9, .pointer (some ⟨b111, 0, none⟩)), (8, .pointer (some ⟨b90, 0, none⟩)), (7, .pointer (some ⟨b84, 0, none⟩)), (5, .pointer (some ⟨b50, 0, none⟩)), (3, .pointer (some ⟨bs, 0, none⟩)), (16, .slice (some ⟨sb40, k041, none⟩) ops.length c), (17, .int .i64 ((ops.length : Nat) : Int)), (18, .int .i64 ((i : Nat) : Int)), (6, .pointer (some ⟨bq64, 0, none⟩)), (10, .bool (x.kind == 7)), (11, .bool false), (81, .bool false), (82, .agg #[.int .u64 s.m.now, .int .i8 s.m.cur, .int .u8 s.m.s0, .int .u8 s.m.s1, .int .u8 s.m.s2, .int .u8 s.m.s3, .int .u64 s.m.r0, .int .u64 s.m.r1, .int .u64 s.m.r2, .int .u64 s.m.r3, .int .u64 s.m.word]), (83, .pointer (some ⟨bs, 0, none⟩))]) rfl
                  refine ⟨(h504.keepFr hf507 (kcons (by simp) knil)), ?_⟩
                  clear h504
                  refine dr_batch tabOk tabZ_ok (by repeat (first | exact PF.body | with_reducible apply PF.inB | with_reducible apply PF.next)) [(9, {f := 1}), (10, {}), (11, {}), (12, {k := 2, p := 2}), (13, {}), (14, {})] [9, 8, 7, 5, 3, 16, 17, 18, 6, 10, 11, 87, 88, 89, 90] (T' := [(9, .pointer (some ⟨b111, 0, none⟩)), (8, .pointer (some ⟨b90, 0, none⟩)), (7, .pointer (some ⟨b84, 0, none⟩)), (5, .pointer (some ⟨b50, 0, none⟩)), (3, .pointer (some ⟨bs, 0, none⟩)), (16, .slice (some ⟨sb40, k041, none⟩) ops.length c), (17, .int .i64 ((ops.length : Nat) : Int)), (18, .int .i64 ((i : Nat) : Int)), (6, .pointer (some ⟨bq64, 0, none⟩)), (10, .bool (x.kind == 7)), (11, .bool false), (87, .bool false), (88, .agg #[.int .u8 0, .int .i64 s.pos, .int .i64 s.lg.base.idx, .int .i64 s.lg.fin, .bool s.live, .bool s.out.refused, .int .i8 s.out.running, .int .u64 s.out.value, .int .u64 (dig s.m), .int .i64 s.pos, .int .i64 0, .int .i64 (-1)]), (89, .pointer (some ⟨bs, 0, none⟩)), (90, .agg #[.int .u8 8, .int .i64 0, .int .i64 0, .int .u8 0, .int .u32 0, .int .u64 0])]) (φ := EqRun Try.prog 46 (.agg #[.int .u64 s.m.now, .int .i8 s.m.cur, .int .u8 s.m.s0, .int .u8 s.m.s1, .int .u8 s.m.s2, .int .u8 s.m.s3, .int .u64 s.m.r0, .int .u64 s.m.r1, .int .u64 s.m.r2, .int .u64 s.m.r3, .int .u64 s.m.word]) (.agg #[.int .u64 s.m.now, .int .i8 s.m.cur, .int .u8 s.m.s0, .int .u8 s.m.s1, .int .u8 s.m.s2, .int .u8 s.m.s3, .int .u64 s.m.r0, .int .u64 s.m.r1, .int .u64 s.m.r2, .int .u64 s.m.r3, .int .u64 s.m.word]) true ∧ (b90 = b90 ∧ Nat.ble (0 + 12) 12 = true) ∧ True) (fuel := 3) h506 (by kernel_rfl) rfl (by kernel_rfl) (by kernel_rfl) ⟨trivial, trivial, trivial, rfl, trivial, trivial, trivial⟩ ⟨(run46s s.m), ⟨rfl, rfl⟩, trivial⟩ fun a508 h509 => ?_
                  clear h506
                  refine wpAnyK_one (i := 15) (fuel := 2) (by kernel_rfl) ?_
                  refine op_call h509 rfl rfl rfl (callOk Try.func12 (by decide) rfl) (args := [.pointer (some ⟨bs, 0, none⟩), .agg #[.int .u8 8, .int .i64 0, .int .i64 0, .int .u8 0, .int .u32 0, .int .u64 0]]) rfl ((by have hq := do_ok bs bl d105 s _ (h509.inv.get (j := 0) (p := pSess bs bl d105 s) rfl) (B := (i : Int)) (by omega) hwf ⟨8, 0, 0, ⟨0, 0, 0⟩⟩ (opk_ok (by decide) (by decide)); rw [do_where] at hq; exact hq)) ?_
                  rintro _ w514 ⟨d510, rfl, hs511, hf512, hF513⟩
                  refine ⟨_, rfl, ?_⟩
                  have h515 := (h509.pcSet (j := 0) (p := pSess bs bl d105 s) (p' := pSess bs bl d510 s) (ps' := [pSess bs bl d510 s, pLog bq64 d65 s.lg]) rfl (pSess_ok hs511) hf512 (fun _ h => h) (sess_sub hF513) (kcons (by intro hq; cases hq) (kcons (by intro hq; cases hq) (kcons (by intro hq; cases hq) (kcons (by intro hq; cases hq) knil)))) rfl).put (d := some 91) (v := .agg #[.int .u8 0, .int .i64 s.pos, .int .i64 s.lg.base.idx, .int .i64 s.lg.fin, .bool s.live, .bool s.out.refused, .int .i8 s.out.running, .int .u64 s.out.value, .int .u64 (dig s.m), .int .i64 s.pos, .int .i64 0, .int .i64 (-1)]) (T' := [(91, .agg #[.int .u8 0, .int .i64 s.pos, .int .i64 s.lg.base.idx, .int .i64 s.lg.fin, .bool s.live, .bool s.out.refused, .int .i8 s.out.running, .int .u64 s.out.value, .int .u64 (dig s.m), .int .i64 s.pos, .int .i64 0, .int .i64 (-1)]), (9, .pointer (some ⟨b111, 0, none⟩)), (8, .pointer (some ⟨b90, 0, none⟩)), (7, .pointer (some ⟨b84, 0, none⟩)), (5, .pointer (some ⟨b50, 0, none⟩)), (3, .pointer (some ⟨bs, 0, none⟩)), (16, .slice (some ⟨sb40, k041, none⟩) ops.length c), (17, .int .i64 ((ops.length : Nat) : Int)), (18, .int .i64 ((i : Nat) : Int)), (6, .pointer (some ⟨bq64, 0, none⟩)), (10, .bool (x.kind == 7)), (11, .bool false), (87, .bool false), (88, .agg #[.int .u8 0, .int .i64 s.pos, .int .i64 s.lg.base.idx, .int .i64 s.lg.fin, .bool s.live, .bool s.out.refused, .int .i8 s.out.running, .int .u64 s.out.value, .int .u64 (dig s.m), .int .i64 s.pos, .int .i64 0, .int .i64 (-1)]), (89, .pointer (some ⟨bs, 0, none⟩)), (90, .agg #[.int .u8 8, .int .i64 0, .int .i64 0, .int .u8 0, .int .u32 0, .int .u64 0])]) rfl
                  have hkh515 := h509.known
                  refine ⟨(keepOf hkh515 h515.known (kcons (keepAt (q := 2) (q' := 2) rfl rfl) knil)), ?_⟩
                  have hszh515 : w.heap.size ≤ _ := h509.frame.size
                  clear h509
                  refine dr_batch tabOk tabZ_ok (by repeat (first | exact PF.body | with_reducible apply PF.inB | with_reducible apply PF.next)) [(16, {f := 1}), (17, {})] [9, 8, 7, 5, 3, 16, 17, 18, 6, 10, 11, 93] (T' := [(9, .pointer (some ⟨b111, 0, none⟩)), (8, .pointer (some ⟨b90, 0, none⟩)), (7, .pointer (some ⟨b84, 0, none⟩)), (5, .pointer (some ⟨b50, 0, none⟩)), (3, .pointer (some ⟨bs, 0, none⟩)), (16, .slice (some ⟨sb40, k041, none⟩) ops.length c), (17, .int .i64 ((ops.length : Nat) : Int)), (18, .int .i64 ((i : Nat) : Int)), (6, .pointer (some ⟨bq64, 0, none⟩)), (10, .bool (x.kind == 7)), (11, .bool false), (93, .bool false)]) (φ := EqRun Try.prog 41 (.agg #[.int .u8 0, .int .i64 s.pos, .int .i64 s.lg.base.idx, .int .i64 s.lg.fin, .bool s.live, .bool s.out.refused, .int .i8 s.out.running, .int .u64 s.out.value, .int .u64 (dig s.m), .int .i64 s.pos, .int .i64 0, .int .i64 (-1)]) (.agg #[.int .u8 0, .int .i64 s.pos, .int .i64 s.lg.base.idx, .int .i64 s.lg.fin, .bool s.live, .bool s.out.refused, .int .i8 s.out.running, .int .u64 s.out.value, .int .u64 (dig s.m), .int .i64 s.pos, .int .i64 0, .int .i64 (-1)]) true ∧ True) (fuel := 0) h515 (by kernel_rfl) rfl (by kernel_rfl) (by kernel_rfl) ⟨trivial, trivial, trivial⟩ ⟨(run41s (s.stat 0)), trivial⟩ fun a516 h517 => ?_
                  clear h515
                  refine wpAnyK_done (by kernel_rfl) ?_ _
                  refine hK491 _ _ ?_
                  clear hK491
                  refine c_false h517 rfl ?_
                  refine wp_skip ?_
                  refine hK45 _ _ ?_
                  clear hK45
                  refine nd_start (l := [0, 1]) rfl ?_
                  refine nd_batch tabOk tabZ_ok [(0, {}), (1, {})] [9, 8, 7, 5, 3, 16, 17, 6, 10, 11, 18] (T' := [(9, .pointer (some ⟨b111, 0, none⟩)), (8, .pointer (some ⟨b90, 0, none⟩)), (7, .pointer (some ⟨b84, 0, none⟩)), (5, .pointer (some ⟨b50, 0, none⟩)), (3, .pointer (some ⟨bs, 0, none⟩)), (16, .slice (some ⟨sb40, k041, none⟩) ops.length c), (17, .int .i64 ((ops.length : Nat) : Int)), (6, .pointer (some ⟨bq64, 0, none⟩)), (10, .bool (x.kind == 7)), (11, .bool false), (18, .int .i64 (((i : Nat) : Int) + 1))]) (φ := inR .i64 (((i : Nat) : Int) + 1) ∧ True) (rest := []) h517 (by kernel_rfl) rfl ⟨⟨by omega, by omega⟩, trivial⟩ fun a518 h519 => ?_
                  clear h517
                  refine nd_done ?_
                  have h520 := h519.memMono (L' := []) (List.Sublist.cons _ (List.Sublist.cons _ (List.Sublist.cons _ (List.Sublist.cons _ List.Sublist.slnil))))
                  clear h519
                  have h521 := h520.pcSub (ps' := [pSess bs bl d510 s]) (List.Sublist.cons_cons _ (List.Sublist.cons _ List.Sublist.slnil))
                  clear h520
                  exact ⟨(g - 1), by omega, (i + 1), s, d510, by omega, by omega, (hwf.mono (by omega)), (h521.slotsMono (restr_spec (keep := [3, 16, 17, 18]) rfl))⟩
          ·
            have hb283f : x.kind ≠ 1 := by simpa using hb283
            have hk1 : x.kind ≠ 1 := hb283f
            refine nd_start (l := [0, 1, 2, 3, 4, 5, 6, 7, 8, 9, 10, 11, 12, 13, 14, 15, 16, 17]) rfl ?_
            refine nd_batch tabOk tabZ_ok [(0, {}), (1, {k := 0}), (2, {f := 1}), (3, {}), (4, {}), (5, {}), (6, {}), (7, {}), (8, {}), (9, {}), (10, {}), (11, {}), (12, {}), (13, {}), (14, {}), (15, {}), (16, {}), (17, {})] [9, 8, 7, 5, 3, 16, 17, 18, 6, 10, 11] (T' := [(9, .pointer (some ⟨b111, 0, none⟩)), (8, .pointer (some ⟨b90, 0, none⟩)), (7, .pointer (some ⟨b84, 0, none⟩)), (5, .pointer (some ⟨b50, 0, none⟩)), (3, .pointer (some ⟨bs, 0, none⟩)), (16, .slice (some ⟨sb40, k041, none⟩) ops.length c), (17, .int .i64 ((ops.length : Nat) : Int)), (18, .int .i64 ((i : Nat) : Int)), (6, .pointer (some ⟨bq64, 0, none⟩)), (10, .bool (x.kind == 7)), (11, .bool false)]) (φ := (b50 = b50 ∧ Nat.ble (0 + 1) 6 = true) ∧ ((x.kind == 1)) = false ∧ True) (rest := []) h281 (by kernel_rfl) rfl ⟨⟨rfl, rfl⟩, hb283, trivial⟩ fun a522 h523 => ?_
            clear h281
            refine nd_done ?_
            refine hK282 _ _ ?_
            clear hK282
            refine wp_seq_k fun K524 hK524 => ?_
            refine wp_seq_k fun K525 hK525 => ?_
            refine nd_start (l := [0, 1, 2, 3, 4, 5]) rfl ?_
            refine nd_batch tabOk tabZ_ok [(0, {}), (1, {}), (2, {}), (3, {}), (4, {}), (5, {})] [9, 8, 7, 5, 3, 16, 17, 18, 6, 10, 11, 68] (T' := [(9, .pointer (some ⟨b111, 0, none⟩)), (8, .pointer (some ⟨b90, 0, none⟩)), (7, .pointer (some ⟨b84, 0, none⟩)), (5, .pointer (some ⟨b50, 0, none⟩)), (3, .pointer (some ⟨bs, 0, none⟩)), (16, .slice (some ⟨sb40, k041, none⟩) ops.length c), (17, .int .i64 ((ops.length : Nat) : Int)), (18, .int .i64 ((i : Nat) : Int)), (6, .pointer (some ⟨bq64, 0, none⟩)), (10, .bool (x.kind == 7)), (11, .bool false), (68, .bool false)]) (φ := True) (rest := []) h523 (by kernel_rfl) rfl trivial fun a526 h527 => ?_
            clear h523
            refine nd_done ?_
            refine hK525 _ _ ?_
            clear hK525
            refine c_false h527 rfl ?_
            refine wp_skip ?_
            refine hK524 _ _ ?_
            clear hK524
            refine wp_seq_k fun K528 hK528 => ?_
            refine wp_seq_k fun K529 hK529 => ?_
            rcases Bool.eq_false_or_eq_true (((doR s x).1.code == 0)) with hb530 | hb530
            ·
              have hb530f : (doR s x).1.code = 0 := by simpa using hb530
              have hcode : (doR s x).1.code = 0 := hb530f
              refine nd_start (l := [0, 1, 2, 3, 4, 5, 6]) rfl ?_
              refine nd_batch tabOk tabZ_ok [(0, {}), (1, {k := 3}), (2, {f := 2}), (3, {}), (4, {}), (5, {}), (6, {})] [9, 8, 7, 5, 3, 16, 17, 18, 6, 10, 11, 75] (T' := [(9, .pointer (some ⟨b111, 0, none⟩)), (8, .pointer (some ⟨b90, 0, none⟩)), (7, .pointer (some ⟨b84, 0, none⟩)), (5, .pointer (some ⟨b50, 0, none⟩)), (3, .pointer (some ⟨bs, 0, none⟩)), (16, .slice (some ⟨sb40, k041, none⟩) ops.length c), (17, .int .i64 ((ops.length : Nat) : Int)), (18, .int .i64 ((i : Nat) : Int)), (6, .pointer (some ⟨bq64, 0, none⟩)), (10, .bool (x.kind == 7)), (11, .bool false), (75, .bool (!(x.kind == 7)))]) (φ := (b111 = b111 ∧ Nat.ble (0 + 1) 12 = true) ∧ (((doR s x).1.code == 0)) = true ∧ True) (rest := []) h527 (by kernel_rfl) rfl ⟨⟨rfl, rfl⟩, hb530, trivial⟩ fun a531 h532 => ?_
              clear h527
              refine nd_done ?_
              refine hK529 _ _ ?_
              clear hK529
              refine c_split h532 (b := !(x.kind == 7)) rfl (fun hc533 => ?_) (fun hc533 => ?_)
              ·
                refine wp_exit ?_
                refine hK45 _ _ ?_
                clear hK45
                refine nd_start (l := [0, 1]) rfl ?_
                refine nd_batch tabOk tabZ_ok [(0, {}), (1, {})] [9, 8, 7, 5, 3, 16, 17, 6, 10, 11, 18] (T' := [(9, .pointer (some ⟨b111, 0, none⟩)), (8, .pointer (some ⟨b90, 0, none⟩)), (7, .pointer (some ⟨b84, 0, none⟩)), (5, .pointer (some ⟨b50, 0, none⟩)), (3, .pointer (some ⟨bs, 0, none⟩)), (16, .slice (some ⟨sb40, k041, none⟩) ops.length c), (17, .int .i64 ((ops.length : Nat) : Int)), (6, .pointer (some ⟨bq64, 0, none⟩)), (10, .bool (x.kind == 7)), (11, .bool false), (18, .int .i64 (((i : Nat) : Int) + 1))]) (φ := inR .i64 (((i : Nat) : Int) + 1) ∧ True) (rest := []) h532 (by kernel_rfl) rfl ⟨⟨by omega, by omega⟩, trivial⟩ fun a534 h535 => ?_
                clear h532
                refine nd_done ?_
                have h536 := h535.memMono (L' := []) (List.Sublist.cons _ (List.Sublist.cons _ (List.Sublist.cons _ (List.Sublist.cons _ List.Sublist.slnil))))
                clear h535
                have h537 := h536.pcSub (ps' := [pSess bs bl d105 ((doR s x).2)]) (List.Sublist.cons_cons _ (List.Sublist.cons _ List.Sublist.slnil))
                clear h536
                exact ⟨(g - 1), by omega, (i + 1), (doR s x).2, d105, by omega, by omega, hwf1, (h537.slotsMono (restr_spec (keep := [3, 16, 17, 18]) rfl))⟩
              ·
                have hk7 : x.kind = 7 := by simpa using hc533
                refine wp_skip ?_
                refine hK528 _ _ ?_
                clear hK528
                refine wp_seq_k fun K538 hK538 => ?_
                refine dr_start (KB := [b50, b84, b90, b111]) (Bi := [[0, 1, 2, 3], [0, 1, 2, 3], [], [], [0, 1, 2, 3], [0, 1, 2, 3], [0, 1, 2, 3], [0, 1, 2, 3], [1], [0, 1, 2, 3], [0, 1, 2, 3], [0, 1, 2, 3], [0, 1, 2, 3], [0, 1, 2, 3], [0, 1, 2, 3], [2], [0, 1, 2, 3], [0, 1, 2, 3]]) mixed h532 fun w539 h540 => ?_
                clear h532
                refine dr_batch tabOk tabZ_ok (by repeat (first | exact PF.body | with_reducible apply PF.inB | with_reducible apply PF.next)) [(0, {}), (1, {})] [9, 8, 7, 5, 3, 16, 17, 18, 6, 10, 11, 76, 77] (T' := [(9, .pointer (some ⟨b111, 0, none⟩)), (8, .pointer (some ⟨b90, 0, none⟩)), (7, .pointer (some ⟨b84, 0, none⟩)), (5, .pointer (some ⟨b50, 0, none⟩)), (3, .pointer (some ⟨bs, 0, none⟩)), (16, .slice (some ⟨sb40, k041, none⟩) ops.length c), (17, .int .i64 ((ops.length : Nat) : Int)), (18, .int .i64 ((i : Nat) : Int)), (6, .pointer (some ⟨bq64, 0, none⟩)), (10, .bool (x.kind == 7)), (11, .bool false), (76, .pointer (some ⟨bq64, 0, none⟩)), (77, .pointer (some ⟨bs, 0, none⟩))]) (φ := True) (fuel := 16) h540 (by kernel_rfl) rfl (by kernel_rfl) (by kernel_rfl) ⟨trivial, trivial, trivial⟩ trivial fun a542 h543 => ?_
                clear h540
                refine wpAnyK_one (i := 2) (fuel := 15) (by kernel_rfl) ?_
                have hsame : (doR s x).2 = s := do_same (.inr (.inr (.inl hk7)))
                rw [hsame] at h543
                refine op_call h543 rfl rfl rfl (callOk Try.func17 (by decide) rfl) (args := [.pointer (some ⟨bs, 0, none⟩)]) rfl (slog_ok bs _ _ _ _ _ false _ (h543.inv.get (j := 0) (p := pSess bs bl d105 s) rfl).blk) ?_
                rintro _ w544 ⟨rfl, hf546⟩
                refine ⟨_, rfl, ?_⟩
                have h545 := (h543.grow hf546).put (d := some 78) (v := .pointer (some ⟨bl, 0, none⟩)) (T' := [(78, .pointer (some ⟨bl, 0, none⟩)), (9, .pointer (some ⟨b111, 0, none⟩)), (8, .pointer (some ⟨b90, 0, none⟩)), (7, .pointer (some ⟨b84, 0, none⟩)), (5, .pointer (some ⟨b50, 0, none⟩)), (3, .pointer (some ⟨bs, 0, none⟩)), (16, .slice (some ⟨sb40, k041, none⟩) ops.length c), (17, .int .i64 ((ops.length : Nat) : Int)), (18, .int .i64 ((i : Nat) : Int)), (6, .pointer (some ⟨bq64, 0, none⟩)), (10, .bool (x.kind == 7)), (11, .bool false), (76, .pointer (some ⟨bq64, 0, none⟩)), (77, .pointer (some ⟨bs, 0, none⟩))]) rfl
                refine ⟨keepNil, ?_⟩
                clear h543
                refine wpAnyK_one (i := 3) (fuel := 14) (by kernel_rfl) ?_
                refine op_call h545 rfl rfl rfl (callOk Try.func16 (by decide) rfl) (args := [.pointer (some ⟨bq64, 0, none⟩), .pointer (some ⟨bl, 0, none⟩)]) rfl (sameLog_ok bq64 bl d65 d105 s.lg _ (h545.inv.get (j := 1) (p := pLog bq64 d65 s.lg) rfl) (h545.inv.get (j := 0) (p := pSess bs bl d105 s) rfl).log (fun b hb hq => Pf_nodup h545.inv.nd (i := 1) (j := 0) (x := pLog bq64 d65 s.lg) (y := pSess bs bl d105 s) rfl rfl (by decide) b hb (List.mem_cons_of_mem _ hq)) (by omega) (by omega) (by omega)) ?_
                rintro _ w547 ⟨rfl, hf549⟩
                refine ⟨_, rfl, ?_⟩
                have h548 := (h545.grow hf549).put (d := some 79) (v := .bool true) (T' := [(79, .bool true), (78, .pointer (some ⟨bl, 0, none⟩)), (9, .pointer (some ⟨b111, 0, none⟩)), (8, .pointer (some ⟨b90, 0, none⟩)), (7, .pointer (some ⟨b84, 0, none⟩)), (5, .pointer (some ⟨b50, 0, none⟩)), (3, .pointer (some ⟨bs, 0, none⟩)), (16, .slice (some ⟨sb40, k041, none⟩) ops.length c), (17, .int .i64 ((ops.length : Nat) : Int)), (18, .int .i64 ((i : Nat) : Int)), (6, .pointer (some ⟨bq64, 0, none⟩)), (10, .bool (x.kind == 7)), (11, .bool false), (76, .pointer (some ⟨bq64, 0, none⟩)), (77, .pointer (some ⟨bs, 0, none⟩))]) rfl
                refine ⟨keepNil, ?_⟩
                clear h545
                refine dr_batch tabOk tabZ_ok (by repeat (first | exact PF.body | with_reducible apply PF.inB | with_reducible apply PF.next)) [(4, {}), (5, {}), (6, {k := 1, p := 1}), (7, {})] [9, 8, 7, 5, 3, 16, 17, 18, 6, 10, 11, 81, 82, 83] (T' := [(9, .pointer (some ⟨b111, 0, none⟩)), (8, .pointer (some ⟨b90, 0, none⟩)), (7, .pointer (some ⟨b84, 0, none⟩)), (5, .pointer (some ⟨b50, 0, none⟩)), (3, .pointer (some ⟨bs, 0, none⟩)), (16, .slice (some ⟨sb40, k041, none⟩) ops.length c), (17, .int .i64 ((ops.length : Nat) : Int)), (18, .int .i64 ((i : Nat) : Int)), (6, .pointer (some ⟨bq64, 0, none⟩)), (10, .bool (x.kind == 7)), (11, .bool false), (81, .bool false), (82, .agg #[.int .u64 s.m.now, .int .i8 s.m.cur, .int .u8 s.m.s0, .int .u8 s.m.s1, .int .u8 s.m.s2, .int .u8 s.m.s3, .int .u64 s.m.r0, .int .u64 s.m.r1, .int .u64 s.m.r2, .int .u64 s.m.r3, .int .u64 s.m.word]), (83, .pointer (some ⟨bs, 0, none⟩))]) (φ := (b84 = b84 ∧ Nat.ble (0 + 11) 11 = true) ∧ True) (fuel := 10) h548 (by kernel_rfl) rfl (by kernel_rfl) (by kernel_rfl) ⟨trivial, trivial, rfl, trivial, trivial⟩ ⟨⟨rfl, rfl⟩, trivial⟩ fun a550 h551 => ?_
                clear h548
                refine wpAnyK_one (i := 8) (fuel := 9) (by kernel_rfl) ?_
                refine op_call h551 rfl rfl rfl (callOk Try.func15 (by decide) rfl) (args := [.pointer (some ⟨bs, 0, none⟩)]) rfl (smach_ok bs _ s.m _ _ _ false _ (h551.inv.get (j := 0) (p := pSess bs bl d105 s) rfl).blk) ?_
                rintro _ w552 ⟨rfl, hf554⟩
                refine ⟨_, rfl, ?_⟩
                have h553 := (h551.grow hf554).put (d := some 84) (v := .agg #[.int .u64 s.m.now, .int .i8 s.m.cur, .int .u8 s.m.s0, .int .u8 s.m.s1, .int .u8 s.m.s2, .int .u8 s.m.s3, .int .u64 s.m.r0, .int .u64 s.m.r1, .int .u64 s.m.r2, .int .u64 s.m.r3, .int .u64 s.m.word]) (T' := [(84, .agg #[.int .u64 s.m.now, .int .i8 s.m.cur, .int .u8 s.m.s0, .int .u8 s.m.s1, .int .u8 s.m.s2, .int .u8 s.m.s3, .int .u64 s.m.r0, .int .u64 s.m.r1, .int .u64 s.m.r2, .int .u64 s.m.r3, .int .u64 s.m.word]), (9, .pointer (some ⟨b111, 0, none⟩)), (8, .pointer (some ⟨b90, 0, none⟩)), (7, .pointer (some ⟨b84, 0, none⟩)), (5, .pointer (some ⟨b50, 0, none⟩)), (3, .pointer (some ⟨bs, 0, none⟩)), (16, .slice (some ⟨sb40, k041, none⟩) ops.length c), (17, .int .i64 ((ops.length : Nat) : Int)), (18, .int .i64 ((i : Nat) : Int)), (6, .pointer (some ⟨bq64, 0, none⟩)), (10, .bool (x.kind == 7)), (11, .bool false), (81, .bool false), (82, .agg #[.int .u64 s.m.now, .int .i8 s.m.cur, .int .u8 s.m.s0, .int .u8 s.m.s1, .int .u8 s.m.s2, .int .u8 s.m.s3, .int .u64 s.m.r0, .int .u64 s.m.r1, .int .u64 s.m.r2, .int .u64 s.m.r3, .int .u64 s.m.word]), (83, .pointer (some ⟨bs, 0, none⟩))]) rfl
                refine ⟨(h551.keepFr hf554 (kcons (by simp) knil)), ?_⟩
                clear h551
                refine dr_batch tabOk tabZ_ok (by repeat (first | exact PF.body | with_reducible apply PF.inB | with_reducible apply PF.next)) [(9, {f := 1}), (10, {}), (11, {}), (12, {k := 2, p := 2}), (13, {}), (14, {})] [9, 8, 7, 5, 3, 16, 17, 18, 6, 10, 11, 87, 88, 89, 90] (T' := [(9, .pointer (some ⟨b111, 0, none⟩)), (8, .pointer (some ⟨b90, 0, none⟩)), (7, .pointer (some ⟨b84, 0, none⟩)), (5, .pointer (some ⟨b50, 0, none⟩)), (3, .pointer (some ⟨bs, 0, none⟩)), (16, .slice (some ⟨sb40, k041, none⟩) ops.length c), (17, .int .i64 ((ops.length : Nat) : Int)), (18, .int .i64 ((i : Nat) : Int)), (6, .pointer (some ⟨bq64, 0, none⟩)), (10, .bool (x.kind == 7)), (11, .bool false), (87, .bool false), (88, .agg #[.int .u8 0, .int .i64 s.pos, .int .i64 s.lg.base.idx, .int .i64 s.lg.fin, .bool s.live, .bool s.out.refused, .int .i8 s.out.running, .int .u64 s.out.value, .int .u64 (dig s.m), .int .i64 s.pos, .int .i64 0, .int .i64 (-1)]), (89, .pointer (some ⟨bs, 0, none⟩)), (90, .agg #[.int .u8 8, .int .i64 0, .int .i64 0, .int .u8 0, .int .u32 0, .int .u64 0])]) (φ := EqRun Try.prog 46 (.agg #[.int .u64 s.m.now, .int .i8 s.m.cur, .int .u8 s.m.s0, .int .u8 s.m.s1, .int .u8 s.m.s2, .int .u8 s.m.s3, .int .u64 s.m.r0, .int .u64 s.m.r1, .int .u64 s.m.r2, .int .u64 s.m.r3, .int .u64 s.m.word]) (.agg #[.int .u64 s.m.now, .int .i8 s.m.cur, .int .u8 s.m.s0, .int .u8 s.m.s1, .int .u8 s.m.s2, .int .u8 s.m.s3, .int .u64 s.m.r0, .int .u64 s.m.r1, .int .u64 s.m.r2, .int .u64 s.m.r3, .int .u64 s.m.word]) true ∧ (b90 = b90 ∧ Nat.ble (0 + 12) 12 = true) ∧ True) (fuel := 3) h553 (by kernel_rfl) rfl (by kernel_rfl) (by kernel_rfl) ⟨trivial, trivial, trivial, rfl, trivial, trivial, trivial⟩ ⟨(run46s s.m), ⟨rfl, rfl⟩, trivial⟩ fun a555 h556 => ?_
                clear h553
                refine wpAnyK_one (i := 15) (fuel := 2) (by kernel_rfl) ?_
                refine op_call h556 rfl rfl rfl (callOk Try.func12 (by decide) rfl) (args := [.pointer (some ⟨bs, 0, none⟩), .agg #[.int .u8 8, .int .i64 0, .int .i64 0, .int .u8 0, .int .u32 0, .int .u64 0]]) rfl ((by have hq := do_ok bs bl d105 s _ (h556.inv.get (j := 0) (p := pSess bs bl d105 s) rfl) (B := (i : Int)) (by omega) hwf ⟨8, 0, 0, ⟨0, 0, 0⟩⟩ (opk_ok (by decide) (by decide)); rw [do_where] at hq; exact hq)) ?_
                rintro _ w561 ⟨d557, rfl, hs558, hf559, hF560⟩
                refine ⟨_, rfl, ?_⟩
                have h562 := (h556.pcSet (j := 0) (p := pSess bs bl d105 s) (p' := pSess bs bl d557 s) (ps' := [pSess bs bl d557 s, pLog bq64 d65 s.lg]) rfl (pSess_ok hs558) hf559 (fun _ h => h) (sess_sub hF560) (kcons (by intro hq; cases hq) (kcons (by intro hq; cases hq) (kcons (by intro hq; cases hq) (kcons (by intro hq; cases hq) knil)))) rfl).put (d := some 91) (v := .agg #[.int .u8 0, .int .i64 s.pos, .int .i64 s.lg.base.idx, .int .i64 s.lg.fin, .bool s.live, .bool s.out.refused, .int .i8 s.out.running, .int .u64 s.out.value, .int .u64 (dig s.m), .int .i64 s.pos, .int .i64 0, .int .i64 (-1)]) (T' := [(91, .agg #[.int .u8 0, .int .i64 s.pos, .int .i64 s.lg.base.idx, .int .i64 s.lg.fin, .bool s.live, .bool s.out.refused, .int .i8 s.out.running, .int .u64 s.out.value, .int .u64 (dig s.m), .int .i64 s.pos, .int .i64 0, .int .i64 (-1)]), (9, .pointer (some ⟨b111, 0, none⟩)), (8, .pointer (some ⟨b90, 0, none⟩)), (7, .pointer (some ⟨b84, 0, none⟩)), (5, .pointer (some ⟨b50, 0, none⟩)), (3, .pointer (some ⟨bs, 0, none⟩)), (16, .slice (some ⟨sb40, k041, none⟩) ops.length c), (17, .int .i64 ((ops.length : Nat) : Int)), (18, .int .i64 ((i : Nat) : Int)), (6, .pointer (some ⟨bq64, 0, none⟩)), (10, .bool (x.kind == 7)), (11, .bool false), (87, .bool false), (88, .agg #[.int .u8 0, .int .i64 s.pos, .int .i64 s.lg.base.idx, .int .i64 s.lg.fin, .bool s.live, .bool s.out.refused, .int .i8 s.out.running, .int .u64 s.out.value, .int .u64 (dig s.m), .int .i64 s.pos, .int .i64 0, .int .i64 (-1)]), (89, .pointer (some ⟨bs, 0, none⟩)), (90, .agg #[.int .u8 8, .int .i64 0, .int .i64 0, .int .u8 0, .int .u32 0, .int .u64 0])]) rfl
                have hkh562 := h556.known
                refine ⟨(keepOf hkh562 h562.known (kcons (keepAt (q := 2) (q' := 2) rfl rfl) knil)), ?_⟩
                have hszh562 : w.heap.size ≤ _ := h556.frame.size
                clear h556
                refine dr_batch tabOk tabZ_ok (by repeat (first | exact PF.body | with_reducible apply PF.inB | with_reducible apply PF.next)) [(16, {f := 1}), (17, {})] [9, 8, 7, 5, 3, 16, 17, 18, 6, 10, 11, 93] (T' := [(9, .pointer (some ⟨b111, 0, none⟩)), (8, .pointer (some ⟨b90, 0, none⟩)), (7, .pointer (some ⟨b84, 0, none⟩)), (5, .pointer (some ⟨b50, 0, none⟩)), (3, .pointer (some ⟨bs, 0, none⟩)), (16, .slice (some ⟨sb40, k041, none⟩) ops.length c), (17, .int .i64 ((ops.length : Nat) : Int)), (18, .int .i64 ((i : Nat) : Int)), (6, .pointer (some ⟨bq64, 0, none⟩)), (10, .bool (x.kind == 7)), (11, .bool false), (93, .bool false)]) (φ := EqRun Try.prog 41 (.agg #[.int .u8 0, .int .i64 s.pos, .int .i64 s.lg.base.idx, .int .i64 s.lg.fin, .bool s.live, .bool s.out.refused, .int .i8 s.out.running, .int .u64 s.out.value, .int .u64 (dig s.m), .int .i64 s.pos, .int .i64 0, .int .i64 (-1)]) (.agg #[.int .u8 0, .int .i64 s.pos, .int .i64 s.lg.base.idx, .int .i64 s.lg.fin, .bool s.live, .bool s.out.refused, .int .i8 s.out.running, .int .u64 s.out.value, .int .u64 (dig s.m), .int .i64 s.pos, .int .i64 0, .int .i64 (-1)]) true ∧ True) (fuel := 0) h562 (by kernel_rfl) rfl (by kernel_rfl) (by kernel_rfl) ⟨trivial, trivial, trivial⟩ ⟨(run41s (s.stat 0)), trivial⟩ fun a563 h564 => ?_
                clear h562
                refine wpAnyK_done (by kernel_rfl) ?_ _
                refine hK538 _ _ ?_
                clear hK538
                refine c_false h564 rfl ?_
                refine wp_skip ?_
                refine hK45 _ _ ?_
                clear hK45
                refine nd_start (l := [0, 1]) rfl ?_
                refine nd_batch tabOk tabZ_ok [(0, {}), (1, {})] [9, 8, 7, 5, 3, 16, 17, 6, 10, 11, 18] (T' := [(9, .pointer (some ⟨b111, 0, none⟩)), (8, .pointer (some ⟨b90, 0, none⟩)), (7, .pointer (some ⟨b84, 0, none⟩)), (5, .pointer (some ⟨b50, 0, none⟩)), (3, .pointer (some ⟨bs, 0, none⟩)), (16, .slice (some ⟨sb40, k041, none⟩) ops.length c), (17, .int .i64 ((ops.length : Nat) : Int)), (6, .pointer (some ⟨bq64, 0, none⟩)), (10, .bool (x.kind == 7)), (11, .bool false), (18, .int .i64 (((i : Nat) : Int) + 1))]) (φ := inR .i64 (((i : Nat) : Int) + 1) ∧ True) (rest := []) h564 (by kernel_rfl) rfl ⟨⟨by omega, by omega⟩, trivial⟩ fun a565 h566 => ?_
                clear h564
                refine nd_done ?_
                have h567 := h566.memMono (L' := []) (List.Sublist.cons _ (List.Sublist.cons _ (List.Sublist.cons _ (List.Sublist.cons _ List.Sublist.slnil))))
                clear h566
                have h568 := h567.pcSub (ps' := [pSess bs bl d557 s]) (List.Sublist.cons_cons _ (List.Sublist.cons _ List.Sublist.slnil))
                clear h567
                exact ⟨(g - 1), by omega, (i + 1), s, d557, by omega, by omega, (hwf.mono (by omega)), (h568.slotsMono (restr_spec (keep := [3, 16, 17, 18]) rfl))⟩
            ·
              have hb530f : (doR s x).1.code ≠ 0 := by simpa using hb530
              have hcode : (doR s x).1.code ≠ 0 := hb530f
              refine nd_start (l := [0, 1, 2, 3, 4, 5, 6]) rfl ?_
              refine nd_batch tabOk tabZ_ok [(0, {}), (1, {k := 3}), (2, {f := 1}), (3, {}), (4, {}), (5, {}), (6, {})] [9, 8, 7, 5, 3, 16, 17, 18, 6, 10, 11, 75] (T' := [(9, .pointer (some ⟨b111, 0, none⟩)), (8, .pointer (some ⟨b90, 0, none⟩)), (7, .pointer (some ⟨b84, 0, none⟩)), (5, .pointer (some ⟨b50, 0, none⟩)), (3, .pointer (some ⟨bs, 0, none⟩)), (16, .slice (some ⟨sb40, k041, none⟩) ops.length c), (17, .int .i64 ((ops.length : Nat) : Int)), (18, .int .i64 ((i : Nat) : Int)), (6, .pointer (some ⟨bq64, 0, none⟩)), (10, .bool (x.kind == 7)), (11, .bool false), (75, .bool false)]) (φ := (b111 = b111 ∧ Nat.ble (0 + 1) 12 = true) ∧ (((doR s x).1.code == 0)) = false ∧ True) (rest := []) h527 (by kernel_rfl) rfl ⟨⟨rfl, rfl⟩, hb530, trivial⟩ fun a569 h570 => ?_
              clear h527
              refine nd_done ?_
              refine hK529 _ _ ?_
              clear hK529
              refine c_false h570 rfl ?_
              refine wp_skip ?_
              refine hK528 _ _ ?_
              clear hK528
              refine wp_seq_k fun K571 hK571 => ?_
              refine dr_start (KB := [b50, b84, b90, b111]) (Bi := [[0, 1, 2, 3], [0, 1, 2, 3], [], [], [0, 1, 2, 3], [0, 1, 2, 3], [0, 1, 2, 3], [0, 1, 2, 3], [1], [0, 1, 2, 3], [0, 1, 2, 3], [0, 1, 2, 3], [0, 1, 2, 3], [0, 1, 2, 3], [0, 1, 2, 3], [2], [0, 1, 2, 3], [0, 1, 2, 3]]) mixed h570 fun w572 h573 => ?_
              clear h570
              refine dr_batch tabOk tabZ_ok (by repeat (first | exact PF.body | with_reducible apply PF.inB | with_reducible apply PF.next)) [(0, {}), (1, {})] [9, 8, 7, 5, 3, 16, 17, 18, 6, 10, 11, 76, 77] (T' := [(9, .pointer (some ⟨b111, 0, none⟩)), (8, .pointer (some ⟨b90, 0, none⟩)), (7, .pointer (some ⟨b84, 0, none⟩)), (5, .pointer (some ⟨b50, 0, none⟩)), (3, .pointer (some ⟨bs, 0, none⟩)), (16, .slice (some ⟨sb40, k041, none⟩) ops.length c), (17, .int .i64 ((ops.length : Nat) : Int)), (18, .int .i64 ((i : Nat) : Int)), (6, .pointer (some ⟨bq64, 0, none⟩)), (10, .bool (x.kind == 7)), (11, .bool false), (76, .pointer (some ⟨bq64, 0, none⟩)), (77, .pointer (some ⟨bs, 0, none⟩))]) (φ := True) (fuel := 16) h573 (by kernel_rfl) rfl (by kernel_rfl) (by kernel_rfl) ⟨trivial, trivial, trivial⟩ trivial fun a575 h576 => ?_
              clear h573
              refine wpAnyK_one (i := 2) (fuel := 15) (by kernel_rfl) ?_
              have hsame : (doR s x).2 = s := do_same (.inl hcode)
              rw [hsame] at h576
              refine op_call h576 rfl rfl rfl (callOk Try.func17 (by decide) rfl) (args := [.pointer (some ⟨bs, 0, none⟩)]) rfl (slog_ok bs _ _ _ _ _ false _ (h576.inv.get (j := 0) (p := pSess bs bl d105 s) rfl).blk) ?_
              rintro _ w577 ⟨rfl, hf579⟩
              refine ⟨_, rfl, ?_⟩
              have h578 := (h576.grow hf579).put (d := some 78) (v := .pointer (some ⟨bl, 0, none⟩)) (T' := [(78, .pointer (some ⟨bl, 0, none⟩)), (9, .pointer (some ⟨b111, 0, none⟩)), (8, .pointer (some ⟨b90, 0, none⟩)), (7, .pointer (some ⟨b84, 0, none⟩)), (5, .pointer (some ⟨b50, 0, none⟩)), (3, .pointer (some ⟨bs, 0, none⟩)), (16, .slice (some ⟨sb40, k041, none⟩) ops.length c), (17, .int .i64 ((ops.length : Nat) : Int)), (18, .int .i64 ((i : Nat) : Int)), (6, .pointer (some ⟨bq64, 0, none⟩)), (10, .bool (x.kind == 7)), (11, .bool false), (76, .pointer (some ⟨bq64, 0, none⟩)), (77, .pointer (some ⟨bs, 0, none⟩))]) rfl
              refine ⟨keepNil, ?_⟩
              clear h576
              refine wpAnyK_one (i := 3) (fuel := 14) (by kernel_rfl) ?_
              refine op_call h578 rfl rfl rfl (callOk Try.func16 (by decide) rfl) (args := [.pointer (some ⟨bq64, 0, none⟩), .pointer (some ⟨bl, 0, none⟩)]) rfl (sameLog_ok bq64 bl d65 d105 s.lg _ (h578.inv.get (j := 1) (p := pLog bq64 d65 s.lg) rfl) (h578.inv.get (j := 0) (p := pSess bs bl d105 s) rfl).log (fun b hb hq => Pf_nodup h578.inv.nd (i := 1) (j := 0) (x := pLog bq64 d65 s.lg) (y := pSess bs bl d105 s) rfl rfl (by decide) b hb (List.mem_cons_of_mem _ hq)) (by omega) (by omega) (by omega)) ?_
              rintro _ w580 ⟨rfl, hf582⟩
              refine ⟨_, rfl, ?_⟩
              have h581 := (h578.grow hf582).put (d := some 79) (v := .bool true) (T' := [(79, .bool true), (78, .pointer (some ⟨bl, 0, none⟩)), (9, .pointer (some ⟨b111, 0, none⟩)), (8, .pointer (some ⟨b90, 0, none⟩)), (7, .pointer (some ⟨b84, 0, none⟩)), (5, .pointer (some ⟨b50, 0, none⟩)), (3, .pointer (some ⟨bs, 0, none⟩)), (16, .slice (some ⟨sb40, k041, none⟩) ops.length c), (17, .int .i64 ((ops.length : Nat) : Int)), (18, .int .i64 ((i : Nat) : Int)), (6, .pointer (some ⟨bq64, 0, none⟩)), (10, .bool (x.kind == 7)), (11, .bool false), (76, .pointer (some ⟨bq64, 0, none⟩)), (77, .pointer (some ⟨bs, 0, none⟩))]) rfl
              refine ⟨keepNil, ?_⟩
              clear h578
              refine dr_batch tabOk tabZ_ok (by repeat (first | exact PF.body | with_reducible apply PF.inB | with_reducible apply PF.next)) [(4, {}), (5, {}), (6, {k := 1, p := 1}), (7, {})] [9, 8, 7, 5, 3, 16, 17, 18, 6, 10, 11, 81, 82, 83] (T' := [(9, .pointer (some ⟨b111, 0, none⟩)), (8, .pointer (some ⟨b90, 0, none⟩)), (7, .pointer (some ⟨b84, 0, none⟩)), (5, .pointer (some ⟨b50, 0, none⟩)), (3, .pointer (some ⟨bs, 0, none⟩)), (16, .slice (some ⟨sb40, k041, none⟩) ops.length c), (17, .int .i64 ((ops.length : Nat) : Int)), (18, .int .i64 ((i : Nat) : Int)), (6, .pointer (some ⟨bq64, 0, none⟩)), (10, .bool (x.kind == 7)), (11, .bool false), (81, .bool false), (82, .agg #[.int .u64 s.m.now, .int .i8 s.m.cur, .int .u8 s.m.s0, .int .u8 s.m.s1, .int .u8 s.m.s2, .int .u8 s.m.s3, .int .u64 s.m.r0, .int .u64 s.m.r1, .int .u64 s.m.r2, .int .u64 s.m.r3, .int .u64 s.m.word]), (83, .pointer (some ⟨bs, 0, none⟩))]) (φ := (b84 = b84 ∧ Nat.ble (0 + 11) 11 = true) ∧ True) (fuel := 10) h581 (by kernel_rfl) rfl (by kernel_rfl) (by kernel_rfl) ⟨trivial, trivial, rfl, trivial, trivial⟩ ⟨⟨rfl, rfl⟩, trivial⟩ fun a583 h584 => ?_
              clear h581
              refine wpAnyK_one (i := 8) (fuel := 9) (by kernel_rfl) ?_
              refine op_call h584 rfl rfl rfl (callOk Try.func15 (by decide) rfl) (args := [.pointer (some ⟨bs, 0, none⟩)]) rfl (smach_ok bs _ s.m _ _ _ false _ (h584.inv.get (j := 0) (p := pSess bs bl d105 s) rfl).blk) ?_
              rintro _ w585 ⟨rfl, hf587⟩
              refine ⟨_, rfl, ?_⟩
              have h586 := (h584.grow hf587).put (d := some 84) (v := .agg #[.int .u64 s.m.now, .int .i8 s.m.cur, .int .u8 s.m.s0, .int .u8 s.m.s1, .int .u8 s.m.s2, .int .u8 s.m.s3, .int .u64 s.m.r0, .int .u64 s.m.r1, .int .u64 s.m.r2, .int .u64 s.m.r3, .int .u64 s.m.word]) (T' := [(84, .agg #[.int .u64 s.m.now, .int .i8 s.m.cur, .int .u8 s.m.s0, .int .u8 s.m.s1, .int .u8 s.m.s2, .int .u8 s.m.s3, .int .u64 s.m.r0, .int .u64 s.m.r1, .int .u64 s.m.r2, .int .u64 s.m.r3, .int .u64 s.m.word]), (9, .pointer (some ⟨b111, 0, none⟩)), (8, .pointer (some ⟨b90, 0, none⟩)), (7, .pointer (some ⟨b84, 0, none⟩)), (5, .pointer (some ⟨b50, 0, none⟩)), (3, .pointer (some ⟨bs, 0, none⟩)), (16, .slice (some ⟨sb40, k041, none⟩) ops.length c), (17, .int .i64 ((ops.length : Nat) : Int)), (18, .int .i64 ((i : Nat) : Int)), (6, .pointer (some ⟨bq64, 0, none⟩)), (10, .bool (x.kind == 7)), (11, .bool false), (81, .bool false), (82, .agg #[.int .u64 s.m.now, .int .i8 s.m.cur, .int .u8 s.m.s0, .int .u8 s.m.s1, .int .u8 s.m.s2, .int .u8 s.m.s3, .int .u64 s.m.r0, .int .u64 s.m.r1, .int .u64 s.m.r2, .int .u64 s.m.r3, .int .u64 s.m.word]), (83, .pointer (some ⟨bs, 0, none⟩))]) rfl
              refine ⟨(h584.keepFr hf587 (kcons (by simp) knil)), ?_⟩
              clear h584
              refine dr_batch tabOk tabZ_ok (by repeat (first | exact PF.body | with_reducible apply PF.inB | with_reducible apply PF.next)) [(9, {f := 1}), (10, {}), (11, {}), (12, {k := 2, p := 2}), (13, {}), (14, {})] [9, 8, 7, 5, 3, 16, 17, 18, 6, 10, 11, 87, 88, 89, 90] (T' := [(9, .pointer (some ⟨b111, 0, none⟩)), (8, .pointer (some ⟨b90, 0, none⟩)), (7, .pointer (some ⟨b84, 0, none⟩)), (5, .pointer (some ⟨b50, 0, none⟩)), (3, .pointer (some ⟨bs, 0, none⟩)), (16, .slice (some ⟨sb40, k041, none⟩) ops.length c), (17, .int .i64 ((ops.length : Nat) : Int)), (18, .int .i64 ((i : Nat) : Int)), (6, .pointer (some ⟨bq64, 0, none⟩)), (10, .bool (x.kind == 7)), (11, .bool false), (87, .bool false), (88, .agg #[.int .u8 0, .int .i64 s.pos, .int .i64 s.lg.base.idx, .int .i64 s.lg.fin, .bool s.live, .bool s.out.refused, .int .i8 s.out.running, .int .u64 s.out.value, .int .u64 (dig s.m), .int .i64 s.pos, .int .i64 0, .int .i64 (-1)]), (89, .pointer (some ⟨bs, 0, none⟩)), (90, .agg #[.int .u8 8, .int .i64 0, .int .i64 0, .int .u8 0, .int .u32 0, .int .u64 0])]) (φ := EqRun Try.prog 46 (.agg #[.int .u64 s.m.now, .int .i8 s.m.cur, .int .u8 s.m.s0, .int .u8 s.m.s1, .int .u8 s.m.s2, .int .u8 s.m.s3, .int .u64 s.m.r0, .int .u64 s.m.r1, .int .u64 s.m.r2, .int .u64 s.m.r3, .int .u64 s.m.word]) (.agg #[.int .u64 s.m.now, .int .i8 s.m.cur, .int .u8 s.m.s0, .int .u8 s.m.s1, .int .u8 s.m.s2, .int .u8 s.m.s3, .int .u64 s.m.r0, .int .u64 s.m.r1, .int .u64 s.m.r2, .int .u64 s.m.r3, .int .u64 s.m.word]) true ∧ (b90 = b90 ∧ Nat.ble (0 + 12) 12 = true) ∧ True) (fuel := 3) h586 (by kernel_rfl) rfl (by kernel_rfl) (by kernel_rfl) ⟨trivial, trivial, trivial, rfl, trivial, trivial, trivial⟩ ⟨(run46s s.m), ⟨rfl, rfl⟩, trivial⟩ fun a588 h589 => ?_
              clear h586
              refine wpAnyK_one (i := 15) (fuel := 2) (by kernel_rfl) ?_
              refine op_call h589 rfl rfl rfl (callOk Try.func12 (by decide) rfl) (args := [.pointer (some ⟨bs, 0, none⟩), .agg #[.int .u8 8, .int .i64 0, .int .i64 0, .int .u8 0, .int .u32 0, .int .u64 0]]) rfl ((by have hq := do_ok bs bl d105 s _ (h589.inv.get (j := 0) (p := pSess bs bl d105 s) rfl) (B := (i : Int)) (by omega) hwf ⟨8, 0, 0, ⟨0, 0, 0⟩⟩ (opk_ok (by decide) (by decide)); rw [do_where] at hq; exact hq)) ?_
              rintro _ w594 ⟨d590, rfl, hs591, hf592, hF593⟩
              refine ⟨_, rfl, ?_⟩
              have h595 := (h589.pcSet (j := 0) (p := pSess bs bl d105 s) (p' := pSess bs bl d590 s) (ps' := [pSess bs bl d590 s, pLog bq64 d65 s.lg]) rfl (pSess_ok hs591) hf592 (fun _ h => h) (sess_sub hF593) (kcons (by intro hq; cases hq) (kcons (by intro hq; cases hq) (kcons (by intro hq; cases hq) (kcons (by intro hq; cases hq) knil)))) rfl).put (d := some 91) (v := .agg #[.int .u8 0, .int .i64 s.pos, .int .i64 s.lg.base.idx, .int .i64 s.lg.fin, .bool s.live, .bool s.out.refused, .int .i8 s.out.running, .int .u64 s.out.value, .int .u64 (dig s.m), .int .i64 s.pos, .int .i64 0, .int .i64 (-1)]) (T' := [(91, .agg #[.int .u8 0, .int .i64 s.pos, .int .i64 s.lg.base.idx, .int .i64 s.lg.fin, .bool s.live, .bool s.out.refused, .int .i8 s.out.running, .int .u64 s.out.value, .int .u64 (dig s.m), .int .i64 s.pos, .int .i64 0, .int .i64 (-1)]), (9, .pointer (some ⟨b111, 0, none⟩)), (8, .pointer (some ⟨b90, 0, none⟩)), (7, .pointer (some ⟨b84, 0, none⟩)), (5, .pointer (some ⟨b50, 0, none⟩)), (3, .pointer (some ⟨bs, 0, none⟩)), (16, .slice (some ⟨sb40, k041, none⟩) ops.length c), (17, .int .i64 ((ops.length : Nat) : Int)), (18, .int .i64 ((i : Nat) : Int)), (6, .pointer (some ⟨bq64, 0, none⟩)), (10, .bool (x.kind == 7)), (11, .bool false), (87, .bool false), (88, .agg #[.int .u8 0, .int .i64 s.pos, .int .i64 s.lg.base.idx, .int .i64 s.lg.fin, .bool s.live, .bool s.out.refused, .int .i8 s.out.running, .int .u64 s.out.value, .int .u64 (dig s.m), .int .i64 s.pos, .int .i64 0, .int .i64 (-1)]), (89, .pointer (some ⟨bs, 0, none⟩)), (90, .agg #[.int .u8 8, .int .i64 0, .int .i64 0, .int .u8 0, .int .u32 0, .int .u64 0])]) rfl
              have hkh595 := h589.known
              refine ⟨(keepOf hkh595 h595.known (kcons (keepAt (q := 2) (q' := 2) rfl rfl) knil)), ?_⟩
              have hszh595 : w.heap.size ≤ _ := h589.frame.size
              clear h589
              refine dr_batch tabOk tabZ_ok (by repeat (first | exact PF.body | with_reducible apply PF.inB | with_reducible apply PF.next)) [(16, {f := 1}), (17, {})] [9, 8, 7, 5, 3, 16, 17, 18, 6, 10, 11, 93] (T' := [(9, .pointer (some ⟨b111, 0, none⟩)), (8, .pointer (some ⟨b90, 0, none⟩)), (7, .pointer (some ⟨b84, 0, none⟩)), (5, .pointer (some ⟨b50, 0, none⟩)), (3, .pointer (some ⟨bs, 0, none⟩)), (16, .slice (some ⟨sb40, k041, none⟩) ops.length c), (17, .int .i64 ((ops.length : Nat) : Int)), (18, .int .i64 ((i : Nat) : Int)), (6, .pointer (some ⟨bq64, 0, none⟩)), (10, .bool (x.kind == 7)), (11, .bool false), (93, .bool false)]) (φ := EqRun Try.prog 41 (.agg #[.int .u8 0, .int .i64 s.pos, .int .i64 s.lg.base.idx, .int .i64 s.lg.fin, .bool s.live, .bool s.out.refused, .int .i8 s.out.running, .int .u64 s.out.value, .int .u64 (dig s.m), .int .i64 s.pos, .int .i64 0, .int .i64 (-1)]) (.agg #[.int .u8 0, .int .i64 s.pos, .int .i64 s.lg.base.idx, .int .i64 s.lg.fin, .bool s.live, .bool s.out.refused, .int .i8 s.out.running, .int .u64 s.out.value, .int .u64 (dig s.m), .int .i64 s.pos, .int .i64 0, .int .i64 (-1)]) true ∧ True) (fuel := 0) h595 (by kernel_rfl) rfl (by kernel_rfl) (by kernel_rfl) ⟨trivial, trivial, trivial⟩ ⟨(run41s (s.stat 0)), trivial⟩ fun a596 h597 => ?_
              clear h595
              refine wpAnyK_done (by kernel_rfl) ?_ _
              refine hK571 _ _ ?_
              clear hK571
              refine c_false h597 rfl ?_
              refine wp_skip ?_
              refine hK45 _ _ ?_
              clear hK45
              refine nd_start (l := [0, 1]) rfl ?_
              refine nd_batch tabOk tabZ_ok [(0, {}), (1, {})] [9, 8, 7, 5, 3, 16, 17, 6, 10, 11, 18] (T' := [(9, .pointer (some ⟨b111, 0, none⟩)), (8, .pointer (some ⟨b90, 0, none⟩)), (7, .pointer (some ⟨b84, 0, none⟩)), (5, .pointer (some ⟨b50, 0, none⟩)), (3, .pointer (some ⟨bs, 0, none⟩)), (16, .slice (some ⟨sb40, k041, none⟩) ops.length c), (17, .int .i64 ((ops.length : Nat) : Int)), (6, .pointer (some ⟨bq64, 0, none⟩)), (10, .bool (x.kind == 7)), (11, .bool false), (18, .int .i64 (((i : Nat) : Int) + 1))]) (φ := inR .i64 (((i : Nat) : Int) + 1) ∧ True) (rest := []) h597 (by kernel_rfl) rfl ⟨⟨by omega, by omega⟩, trivial⟩ fun a598 h599 => ?_
              clear h597
              refine nd_done ?_
              have h600 := h599.memMono (L' := []) (List.Sublist.cons _ (List.Sublist.cons _ (List.Sublist.cons _ (List.Sublist.cons _ List.Sublist.slnil))))
              clear h599
              have h601 := h600.pcSub (ps' := [pSess bs bl d590 s]) (List.Sublist.cons_cons _ (List.Sublist.cons _ List.Sublist.slnil))
              clear h600
              exact ⟨(g - 1), by omega, (i + 1), s, d590, by omega, by omega, (hwf.mono (by omega)), (h601.slotsMono (restr_spec (keep := [3, 16, 17, 18]) rfl))⟩
    ·
      have hc39f : ¬ ((i : Nat) : Int) < ((ops.length : Nat) : Int) := by simpa using hc39
      refine wp_exit ?_
      refine hK25 _ _ ?_
      clear hK25
      refine wp_seq_k fun K602 hK602 => ?_
      refine nd_start (l := [0]) rfl ?_
      refine nd_batch tabOk tabZ_ok [(0, {})] [3, 16, 17, 18, 2] (T' := [(3, .pointer (some ⟨bs, 0, none⟩)), (16, .slice o ops.length c), (17, .int .i64 ((ops.length : Nat) : Int)), (18, .int .i64 ((i : Nat) : Int)), (2, .bool true)]) (φ := True) (rest := []) h37 (by kernel_rfl) rfl trivial fun a603 h604 => ?_
      clear h37
      refine nd_done ?_
      refine hK602 _ _ ?_
      clear hK602
      refine wp_ret ?_
      try simp only [Exit.then, Exit.inBlock]
      try rw [if_pos trivial]
      exact s_ret tabOk tabZ_ok h604 [(.tmp 2, {})] (vs := [.bool true]) (φ := True) rfl (by kernel_rfl) trivial ⟨rfl, h604.frame⟩

end Go.Proofs.Qxb6500919a
