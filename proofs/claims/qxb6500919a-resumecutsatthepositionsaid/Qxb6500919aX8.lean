/-
  ResumeCutsAtThePosition: the law walked. (Made by program: a symbolic walk that prints its steps.)
-/
import Derived.Test.Qxb6500919aTab
import Derived.Test.Qxb6500919aL4
import Derived.Test.Qxb6500919aXK
import Derived.Test.Qxb6500919aSxJ
import Derived.Test.Qxb6500919aEq2
import Derived.Test.Qxb6500919aW1
import Derived.Test.Qxb6500919aW2
import Derived.Test.Qxb6500919aW4
import Derived.Test.Qxb6500919aWH
import Derived.Test.Qxb6500919aWI
import Derived.Test.Qxb6500919aWJ
import Derived.Test.Qxb6500919aWK
import Derived.Test.Qxb6500919aWL
namespace Go.Proofs.Qxb6500919a
open Go.Sx Go.Rp
set_option maxRecDepth 100000
set_option maxHeartbeats 4000000
set_option linter.unusedVariables false
set_option linter.unusedSimpArgs false

theorem law8_ok (o : Option Addr) (c : Nat) (ops : List Opn) (w : World) (hok : ∀ op ∈ ops, op.ok) (hscr : Scr w o ops) : Calls Try.prog 8 #[.slice o ops.length c] w fun e w' => e = .returned (.bool true) ∧ Fr [] w w' := by
  refine enter0 (n := 153) (K := []) (T := [(0, .slice o ops.length c)]) (L := []) (args := [.slice o ops.length c]) Try.func8 rfl rfl rfl rfl knil (by simp) knil ?_
  intro a h
  refine wp_seq_k fun K1 hK1 => ?_
  refine nd_start (l := [0]) rfl ?_
  refine nd_batch tabOk tabZ_ok [(0, {})] [0, 2] (T' := [(0, .slice o ops.length c), (2, .bool false)]) (φ := True) (rest := []) h (by kernel_rfl) rfl trivial fun a2 h3 => ?_
  clear h
  refine nd_done ?_
  refine hK1 _ _ ?_
  clear hK1
  refine wp_seq_k fun K4 hK4 => ?_
  refine wp_seq_k fun K5 hK5 => ?_
  refine nd_start (l := [0, 1, 2]) rfl ?_
  refine nd_batch tabOk tabZ_ok [(0, {})] [0, 2, 15] (T' := [(0, .slice o ops.length c), (2, .bool false), (15, .slice o ops.length c)]) (φ := True) (rest := [1, 2]) h3 (by kernel_rfl) rfl trivial fun a6 h7 => ?_
  clear h3
  refine nd_op ?_
  refine op_call h7 rfl rfl rfl (callOk Try.func9 (by decide) rfl) (args := [.slice o ops.length c]) rfl (small_ok o ops.length c _) ?_
  rintro _ w8 ⟨rfl, hf10⟩
  refine ⟨_, rfl, ?_⟩
  have h9 := (h7.grow hf10).put (d := some 16) (v := .bool (decide (ops.length ≤ 65536))) (T' := [(16, .bool (decide (ops.length ≤ 65536))), (0, .slice o ops.length c), (2, .bool false), (15, .slice o ops.length c)]) rfl
  clear h7
  refine nd_batch tabOk tabZ_ok [(2, {})] [0, 2, 17] (T' := [(0, .slice o ops.length c), (2, .bool false), (17, .bool (!(decide (ops.length ≤ 65536))))]) (φ := True) (rest := []) h9 (by kernel_rfl) rfl trivial fun a11 h12 => ?_
  clear h9
  refine nd_done ?_
  refine hK5 _ _ ?_
  clear hK5
  refine c_split h12 (b := !(decide (ops.length ≤ 65536))) rfl (fun hc13 => ?_) (fun hc13 => ?_)
  ·
    refine wp_seq_k fun K14 hK14 => ?_
    refine nd_start (l := [0]) rfl ?_
    refine nd_batch tabOk tabZ_ok [(0, {})] [0, 2] (T' := [(0, .slice o ops.length c), (2, .bool true)]) (φ := True) (rest := []) h12 (by kernel_rfl) rfl trivial fun a15 h16 => ?_
    clear h12
    refine nd_done ?_
    refine hK14 _ _ ?_
    clear hK14
    refine wp_ret ?_
    try simp only [Exit.then, Exit.inBlock]
    try rw [if_pos trivial]
    exact s_ret tabOk tabZ_ok h16 [(.tmp 2, {})] (vs := [.bool true]) (φ := True) rfl (by kernel_rfl) trivial ⟨rfl, h16.frame⟩
  ·
    have hsm : ops.length ≤ 65536 := by simpa using hc13
    refine wp_skip ?_
    refine hK4 _ _ ?_
    clear hK4
    refine wp_seq_k fun K17 hK17 => ?_
    refine nd_start (l := [0, 1]) rfl ?_
    refine nd_op ?_
    have h18 := h12.slotsMono (T' := [(0, .slice o ops.length c), (2, .bool false)]) (restr_spec (keep := [0, 2]) rfl)
    clear h12
    have h19 := h18.pc0
    clear h18
    refine op_call h19 rfl rfl rfl (callOk Try.func10 (by decide) rfl) (args := []) rfl (new_ok _) ?_
    rintro _ w21 ⟨bs, bl, rfl, hs0, hf20, hn1, hn2⟩
    refine ⟨_, rfl, ?_⟩
    have h22 := (h19.pcAdd (p' := pSess bs bl hd0 ss0) (ps' := [pSess bs bl hd0 ss0]) (pSess_ok hs0) hf20 (fun b hb => by simp [Hd.F, hd0] at hb; rcases hb with rfl | rfl; exact hn1; exact hn2) rfl).put (d := some 18) (v := .pointer (some ⟨bs, 0, none⟩)) (T' := [(18, .pointer (some ⟨bs, 0, none⟩)), (0, .slice o ops.length c), (2, .bool false)]) rfl
    have hszh22 : w.heap.size ≤ _ := h19.frame.size
    clear h19
    refine nd_batch tabOk tabZ_ok [(1, {})] [0, 2, 3] (T' := [(0, .slice o ops.length c), (2, .bool false), (3, .pointer (some ⟨bs, 0, none⟩))]) (φ := True) (rest := []) h22 (by kernel_rfl) rfl trivial fun a23 h24 => ?_
    clear h22
    refine nd_done ?_
    refine hK17 _ _ ?_
    clear hK17
    refine wp_seq_k fun K25 hK25 => ?_
    refine nd_start (l := [0]) rfl ?_
    refine nd_batch tabOk tabZ_ok [(0, {})] [0, 2, 3, 4] (T' := [(0, .slice o ops.length c), (2, .bool false), (3, .pointer (some ⟨bs, 0, none⟩)), (4, .bool false)]) (φ := True) (rest := []) h24 (by kernel_rfl) rfl trivial fun a26 h27 => ?_
    clear h24
    refine nd_done ?_
    refine hK25 _ _ ?_
    clear hK25
    refine wp_seq_k fun K28 hK28 => ?_
    refine wp_seq_k fun K29 hK29 => ?_
    refine nd_start (l := [0, 1, 2]) rfl ?_
    refine nd_batch tabOk tabZ_ok [(0, {}), (1, {}), (2, {})] [0, 2, 3, 4, 19, 20, 21] (T' := [(0, .slice o ops.length c), (2, .bool false), (3, .pointer (some ⟨bs, 0, none⟩)), (4, .bool false), (19, .slice o ops.length c), (20, .int .i64 ((ops.length : Nat) : Int)), (21, .int .i64 0)]) (φ := True) (rest := []) h27 (by kernel_rfl) rfl trivial fun a30 h31 => ?_
    clear h27
    refine nd_done ?_
    refine hK29 _ _ ?_
    clear hK29
    refine wp_block ?_
    refine wp_loop_ghost (fun g ga gw => ∃ (i : Nat) (s : Ss) (d : Hd) (res : Bool), (i ≤ ops.length) ∧ (g = ops.length - i) ∧ (s.wf (i : Int)) ∧ St ⟨153, [], w, Pk w.heap.size [pSess bs bl d s], Pf [pSess bs bl d s]⟩ [(3, .pointer (some ⟨bs, 0, none⟩)), (4, .bool res), (19, .slice o ops.length c), (20, .int .i64 ((ops.length : Nat) : Int)), (21, .int .i64 ((i : Nat) : Int))] [] ga gw) ops.length ⟨0, ss0, hd0, false, Nat.zero_le _, rfl, ss0_wf, (h31.slotsMono (restr_spec (keep := [3, 4, 19, 20, 21]) rfl))⟩ ?_
    clear h31
    rintro g a32 w33 ⟨i, s, d, res, hi35, hi36, hi37, h34⟩
    have hi := hi35
    have hg := hi36
    have hwf := hi37
    have hfB := hwf.lg.fin
    have hel := hwf.lg.len
    have hml := hwf.lg.mlen
    have hsl := hwf.lg.slen
    have hb0 := hwf.lg.b0
    have hlo := hwf.lo
    have hhi := hwf.hi
    have hfq : s.lg.fin = s.lg.base.idx + (s.lg.evs.length : Int) := rfl
    refine wp_seq_k fun K38 hK38 => ?_
    refine nd_start (l := [0]) rfl ?_
    refine nd_batch tabOk tabZ_ok [(0, {})] [3, 4, 19, 20, 21, 22] (T' := [(3, .pointer (some ⟨bs, 0, none⟩)), (4, .bool res), (19, .slice o ops.length c), (20, .int .i64 ((ops.length : Nat) : Int)), (21, .int .i64 ((i : Nat) : Int)), (22, .bool (decide (((i : Nat) : Int) < ((ops.length : Nat) : Int))))]) (φ := True) (rest := []) h34 (by kernel_rfl) rfl trivial fun a39 h40 => ?_
    clear h34
    refine nd_done ?_
    refine hK38 _ _ ?_
    clear hK38
    refine wp_seq_k fun K41 hK41 => ?_
    refine c_split h40 (b := decide (((i : Nat) : Int) < ((ops.length : Nat) : Int))) rfl (fun hc42 => ?_) (fun hc42 => ?_)
    ·
      have hc42f : ((i : Nat) : Int) < ((ops.length : Nat) : Int) := by simpa using hc42
      obtain ⟨x, hx⟩ := Sx.get_some (xs := ops) (i := i) (by omega)
      have hxok := hok x (List.mem_of_getElem? hx)
      obtain ⟨sb43, k044, ho45, hb46, hc47⟩ := hscr.get hx
      subst ho45
      refine wp_skip ?_
      refine hK41 _ _ ?_
      clear hK41
      refine wp_seq_k fun K48 hK48 => ?_
      refine wp_block ?_
      refine wp_seq_k fun K49 hK49 => ?_
      refine nd_start (l := [0, 1, 2, 3]) rfl ?_
      refine nd_batch tabOk tabZ_ok [(0, {})] [3, 4, 19, 20, 21, 23] (T' := [(3, .pointer (some ⟨bs, 0, none⟩)), (4, .bool res), (19, .slice (some ⟨sb43, k044, none⟩) ops.length c), (20, .int .i64 ((ops.length : Nat) : Int)), (21, .int .i64 ((i : Nat) : Int)), (23, .pointer (some ⟨sb43, k044 + (i * 6), none⟩))]) (φ := (0 ≤ ((i : Nat) : Int) ∧ ((i : Nat) : Int) < ((ops.length : Nat) : Int)) ∧ True) (rest := [1, 2, 3]) h40 (by kernel_rfl) rfl ⟨⟨by omega, by omega⟩, trivial⟩ fun a50 h51 => ?_
      clear h40
      refine nd_op ?_
      refine op_loadx tabOk (b := sb43) (k := k044 + (i * 6)) (vs := opC x) h51 rfl rfl rfl rfl rfl rfl rfl (CellsAt.fr (hc47 _ _ hx) h51.frame hb46) ?_
      have h52 := h51.put (d := some 24) (v := .agg #[.int .u8 x.kind, .int .i64 x.n, .int .i64 x.m, .int .u8 x.ev.kind, .int .u32 x.ev.pick, .int .u64 x.ev.arg]) (T' := [(24, .agg #[.int .u8 x.kind, .int .i64 x.n, .int .i64 x.m, .int .u8 x.ev.kind, .int .u32 x.ev.pick, .int .u64 x.ev.arg]), (3, .pointer (some ⟨bs, 0, none⟩)), (4, .bool res), (19, .slice (some ⟨sb43, k044, none⟩) ops.length c), (20, .int .i64 ((ops.length : Nat) : Int)), (21, .int .i64 ((i : Nat) : Int)), (23, .pointer (some ⟨sb43, k044 + (i * 6), none⟩))]) rfl
      clear h51
      refine nd_op ?_
      refine op_new tabOk (cells := [.int .u8 0, .int .i64 0, .int .i64 0, .int .u8 0, .int .u32 0, .int .u64 0]) (ty := 35) (ln := none) (L1 := fun b53 => [(b53, ⟨[.int .u8 0, .int .i64 0, .int .i64 0, .int .u8 0, .int .u32 0, .int .u64 0], 35, false⟩)]) h52 rfl rfl rfl rfl (by kernel_rfl) (fun _ => rfl) fun b53 w54 a55 h56 hf57 hn58 => ?_
      clear h52
      refine nd_op ?_
      refine op_store tabOk {k := 0} (L' := [(b53, ⟨[.int .u8 x.kind, .int .i64 x.n, .int .i64 x.m, .int .u8 x.ev.kind, .int .u32 x.ev.pick, .int .u64 x.ev.arg], 35, false⟩)]) (φ := b53 = b53 ∧ Nat.ble (0 + 6) 6 = true) h56 rfl rfl rfl (by kernel_rfl) ⟨rfl, rfl⟩ fun w59 h60 => ?_
      clear h56
      refine nd_done ?_
      refine hK49 _ _ ?_
      clear hK49
      refine wp_seq_k fun K61 hK61 => ?_
      refine nd_start (l := [0, 1, 2, 3]) rfl ?_
      refine nd_batch tabOk tabZ_ok [(0, {})] [6, 3, 4, 19, 20, 21, 25] (T' := [(6, .pointer (some ⟨b53, 0, none⟩)), (3, .pointer (some ⟨bs, 0, none⟩)), (4, .bool res), (19, .slice (some ⟨sb43, k044, none⟩) ops.length c), (20, .int .i64 ((ops.length : Nat) : Int)), (21, .int .i64 ((i : Nat) : Int)), (25, .pointer (some ⟨bs, 0, none⟩))]) (φ := True) (rest := [1, 2, 3]) h60 (by kernel_rfl) rfl trivial fun a62 h63 => ?_
      clear h60
      refine nd_op ?_
      refine op_call h63 rfl rfl rfl (callOk Try.func17 (by decide) rfl) (args := [.pointer (some ⟨bs, 0, none⟩)]) rfl (slog_ok bs _ _ _ _ _ false _ (h63.inv.get (j := 0) (p := pSess bs bl d s) rfl).blk) ?_
      rintro _ w64 ⟨rfl, hf66⟩
      refine ⟨_, rfl, ?_⟩
      have h65 := (h63.grow hf66).put (d := some 26) (v := .pointer (some ⟨bl, 0, none⟩)) (T' := [(26, .pointer (some ⟨bl, 0, none⟩)), (6, .pointer (some ⟨b53, 0, none⟩)), (3, .pointer (some ⟨bs, 0, none⟩)), (4, .bool res), (19, .slice (some ⟨sb43, k044, none⟩) ops.length c), (20, .int .i64 ((ops.length : Nat) : Int)), (21, .int .i64 ((i : Nat) : Int)), (25, .pointer (some ⟨bs, 0, none⟩))]) rfl
      clear h63
      refine nd_op ?_
      refine op_call h65 rfl rfl rfl (callOk Try.func18 (by decide) rfl) (args := [.pointer (some ⟨bl, 0, none⟩)]) rfl (clone_ok bl _ s.lg _ (h65.inv.get (j := 0) (p := pSess bs bl d s) rfl).log (by omega) (by omega) (by omega)) ?_
      rintro _ w70 ⟨bq, ⟨eoq, ecq, eFq, moq, mcq, mFq, soq, scq, sFq⟩, rfl, hs69, hf67, hn68⟩
      refine ⟨_, rfl, ?_⟩
      have h71 := (h65.pcAdd (p' := pLog bq (⟨eoq, ecq, eFq, moq, mcq, mFq, soq, scq, sFq⟩ : Hd) s.lg) (ps' := [pSess bs bl d s, pLog bq (⟨eoq, ecq, eFq, moq, mcq, mFq, soq, scq, sFq⟩ : Hd) s.lg]) (pLog_ok hs69) hf67 hn68 rfl).put (d := some 27) (v := .pointer (some ⟨bq, 0, none⟩)) (T' := [(27, .pointer (some ⟨bq, 0, none⟩)), (26, .pointer (some ⟨bl, 0, none⟩)), (6, .pointer (some ⟨b53, 0, none⟩)), (3, .pointer (some ⟨bs, 0, none⟩)), (4, .bool res), (19, .slice (some ⟨sb43, k044, none⟩) ops.length c), (20, .int .i64 ((ops.length : Nat) : Int)), (21, .int .i64 ((i : Nat) : Int)), (25, .pointer (some ⟨bs, 0, none⟩))]) rfl
      have hszh71 : w.heap.size ≤ _ := h65.frame.size
      clear h65
      refine nd_batch tabOk tabZ_ok [(3, {})] [6, 3, 4, 19, 20, 21, 7] (T' := [(6, .pointer (some ⟨b53, 0, none⟩)), (3, .pointer (some ⟨bs, 0, none⟩)), (4, .bool res), (19, .slice (some ⟨sb43, k044, none⟩) ops.length c), (20, .int .i64 ((ops.length : Nat) : Int)), (21, .int .i64 ((i : Nat) : Int)), (7, .pointer (some ⟨bq, 0, none⟩))]) (φ := True) (rest := []) h71 (by kernel_rfl) rfl trivial fun a72 h73 => ?_
      clear h71
      refine nd_done ?_
      refine hK61 _ _ ?_
      clear hK61
      refine wp_seq_k fun K74 hK74 => ?_
      refine nd_start (l := [0, 1, 2, 3, 4]) rfl ?_
      refine nd_batch tabOk tabZ_ok [(0, {}), (1, {k := 0})] [6, 3, 4, 19, 20, 21, 7, 28, 29] (T' := [(6, .pointer (some ⟨b53, 0, none⟩)), (3, .pointer (some ⟨bs, 0, none⟩)), (4, .bool res), (19, .slice (some ⟨sb43, k044, none⟩) ops.length c), (20, .int .i64 ((ops.length : Nat) : Int)), (21, .int .i64 ((i : Nat) : Int)), (7, .pointer (some ⟨bq, 0, none⟩)), (28, .pointer (some ⟨bs, 0, none⟩)), (29, .agg #[.int .u8 x.kind, .int .i64 x.n, .int .i64 x.m, .int .u8 x.ev.kind, .int .u32 x.ev.pick, .int .u64 x.ev.arg])]) (φ := (b53 = b53 ∧ Nat.ble (0 + 6) 6 = true) ∧ True) (rest := [2, 3, 4]) h73 (by kernel_rfl) rfl ⟨⟨rfl, rfl⟩, trivial⟩ fun a75 h76 => ?_
      clear h73
      refine nd_op ?_
      refine op_call h76 rfl rfl rfl (callOk Try.func12 (by decide) rfl) (args := [.pointer (some ⟨bs, 0, none⟩), .agg #[.int .u8 x.kind, .int .i64 x.n, .int .i64 x.m, .int .u8 x.ev.kind, .int .u32 x.ev.pick, .int .u64 x.ev.arg]]) rfl (do_ok bs bl d s _ (h76.inv.get (j := 0) (p := pSess bs bl d s) rfl) (B := (i : Int)) (by omega) hwf x hxok) ?_
      rintro _ w81 ⟨d77, rfl, hs78, hf79, hF80⟩
      refine ⟨_, rfl, ?_⟩
      have h82 := (h76.pcSet (j := 0) (p := pSess bs bl d s) (p' := pSess bs bl d77 ((doR s x).2)) (ps' := [pSess bs bl d77 ((doR s x).2), pLog bq (⟨eoq, ecq, eFq, moq, mcq, mFq, soq, scq, sFq⟩ : Hd) s.lg]) rfl (pSess_ok hs78) hf79 (fun _ h => h) (sess_sub hF80) (kcons (by intro hq; cases hq) knil) rfl).put (d := some 30) (v := .agg #[.int .u8 ((doR s x).1.code), .int .i64 ((doR s x).1.pos), .int .i64 ((doR s x).1.base), .int .i64 ((doR s x).1.fin), .bool ((doR s x).1.live), .bool ((doR s x).1.out.refused), .int .i8 ((doR s x).1.out.running), .int .u64 ((doR s x).1.out.value), .int .u64 ((doR s x).1.dig), .int .i64 ((doR s x).1.from_), .int .i64 ((doR s x).1.replayed), .int .i64 ((doR s x).1.at_)]) (T' := [(30, .agg #[.int .u8 ((doR s x).1.code), .int .i64 ((doR s x).1.pos), .int .i64 ((doR s x).1.base), .int .i64 ((doR s x).1.fin), .bool ((doR s x).1.live), .bool ((doR s x).1.out.refused), .int .i8 ((doR s x).1.out.running), .int .u64 ((doR s x).1.out.value), .int .u64 ((doR s x).1.dig), .int .i64 ((doR s x).1.from_), .int .i64 ((doR s x).1.replayed), .int .i64 ((doR s x).1.at_)]), (6, .pointer (some ⟨b53, 0, none⟩)), (3, .pointer (some ⟨bs, 0, none⟩)), (4, .bool res), (19, .slice (some ⟨sb43, k044, none⟩) ops.length c), (20, .int .i64 ((ops.length : Nat) : Int)), (21, .int .i64 ((i : Nat) : Int)), (7, .pointer (some ⟨bq, 0, none⟩)), (28, .pointer (some ⟨bs, 0, none⟩)), (29, .agg #[.int .u8 x.kind, .int .i64 x.n, .int .i64 x.m, .int .u8 x.ev.kind, .int .u32 x.ev.pick, .int .u64 x.ev.arg])]) rfl
      have hszh82 : w.heap.size ≤ _ := h76.frame.size
      clear h76
      have hwf1 : (doR s x).2.wf ((i + 1 : Nat) : Int) := by have hq := do_wf hwf x hxok.2; rw [show ((i + 1 : Nat) : Int) = (i : Int) + 1 by omega]; exact hq
      refine nd_op ?_
      refine op_new tabOk (cells := [.int .u8 0, .int .i64 0, .int .i64 0, .int .i64 0, .bool false, .bool false, .int .i8 0, .int .u64 0, .int .u64 0, .int .i64 0, .int .i64 0, .int .i64 0]) (ty := 41) (ln := none) (L1 := fun b83 => [(b53, ⟨[.int .u8 x.kind, .int .i64 x.n, .int .i64 x.m, .int .u8 x.ev.kind, .int .u32 x.ev.pick, .int .u64 x.ev.arg], 35, false⟩), (b83, ⟨[.int .u8 0, .int .i64 0, .int .i64 0, .int .i64 0, .bool false, .bool false, .int .i8 0, .int .u64 0, .int .u64 0, .int .i64 0, .int .i64 0, .int .i64 0], 41, false⟩)]) h82 rfl rfl rfl rfl (by kernel_rfl) (fun _ => rfl) fun b83 w84 a85 h86 hf87 hn88 => ?_
      clear h82
      refine nd_op ?_
      refine op_store tabOk {k := 1} (L' := [(b53, ⟨[.int .u8 x.kind, .int .i64 x.n, .int .i64 x.m, .int .u8 x.ev.kind, .int .u32 x.ev.pick, .int .u64 x.ev.arg], 35, false⟩), (b83, ⟨[.int .u8 ((doR s x).1.code), .int .i64 ((doR s x).1.pos), .int .i64 ((doR s x).1.base), .int .i64 ((doR s x).1.fin), .bool ((doR s x).1.live), .bool ((doR s x).1.out.refused), .int .i8 ((doR s x).1.out.running), .int .u64 ((doR s x).1.out.value), .int .u64 ((doR s x).1.dig), .int .i64 ((doR s x).1.from_), .int .i64 ((doR s x).1.replayed), .int .i64 ((doR s x).1.at_)], 41, false⟩)]) (φ := b83 = b83 ∧ Nat.ble (0 + 12) 12 = true) h86 rfl rfl rfl (by kernel_rfl) ⟨rfl, rfl⟩ fun w89 h90 => ?_
      clear h86
      refine nd_done ?_
      refine hK74 _ _ ?_
      clear hK74
      refine wp_seq_k fun K91 hK91 => ?_
      refine nd_start (l := [0, 1, 2]) rfl ?_
      refine nd_batch tabOk tabZ_ok [(0, {})] [8, 6, 3, 4, 19, 20, 21, 7, 31] (T' := [(8, .pointer (some ⟨b83, 0, none⟩)), (6, .pointer (some ⟨b53, 0, none⟩)), (3, .pointer (some ⟨bs, 0, none⟩)), (4, .bool res), (19, .slice (some ⟨sb43, k044, none⟩) ops.length c), (20, .int .i64 ((ops.length : Nat) : Int)), (21, .int .i64 ((i : Nat) : Int)), (7, .pointer (some ⟨bq, 0, none⟩)), (31, .pointer (some ⟨bs, 0, none⟩))]) (φ := True) (rest := [1, 2]) h90 (by kernel_rfl) rfl trivial fun a92 h93 => ?_
      clear h90
      refine nd_op ?_
      refine op_call h93 rfl rfl rfl (callOk Try.func17 (by decide) rfl) (args := [.pointer (some ⟨bs, 0, none⟩)]) rfl (slog_ok bs _ _ _ _ _ false _ (h93.inv.get (j := 0) (p := pSess bs bl d77 ((doR s x).2)) rfl).blk) ?_
      rintro _ w94 ⟨rfl, hf96⟩
      refine ⟨_, rfl, ?_⟩
      have h95 := (h93.grow hf96).put (d := some 32) (v := .pointer (some ⟨bl, 0, none⟩)) (T' := [(32, .pointer (some ⟨bl, 0, none⟩)), (8, .pointer (some ⟨b83, 0, none⟩)), (6, .pointer (some ⟨b53, 0, none⟩)), (3, .pointer (some ⟨bs, 0, none⟩)), (4, .bool res), (19, .slice (some ⟨sb43, k044, none⟩) ops.length c), (20, .int .i64 ((ops.length : Nat) : Int)), (21, .int .i64 ((i : Nat) : Int)), (7, .pointer (some ⟨bq, 0, none⟩)), (31, .pointer (some ⟨bs, 0, none⟩))]) rfl
      clear h93
      refine nd_batch tabOk tabZ_ok [(2, {})] [8, 6, 3, 4, 19, 20, 21, 7, 9] (T' := [(8, .pointer (some ⟨b83, 0, none⟩)), (6, .pointer (some ⟨b53, 0, none⟩)), (3, .pointer (some ⟨bs, 0, none⟩)), (4, .bool res), (19, .slice (some ⟨sb43, k044, none⟩) ops.length c), (20, .int .i64 ((ops.length : Nat) : Int)), (21, .int .i64 ((i : Nat) : Int)), (7, .pointer (some ⟨bq, 0, none⟩)), (9, .pointer (some ⟨bl, 0, none⟩))]) (φ := True) (rest := []) h95 (by kernel_rfl) rfl trivial fun a97 h98 => ?_
      clear h95
      refine nd_done ?_
      refine hK91 _ _ ?_
      clear hK91
      refine wp_seq_k fun K99 hK99 => ?_
      refine wp_seq_k fun K100 hK100 => ?_
      refine nd_start (l := [0, 1, 2]) rfl ?_
      refine nd_batch tabOk tabZ_ok [(0, {}), (1, {k := 0}), (2, {})] [8, 6, 3, 4, 19, 20, 21, 7, 9, 35] (T' := [(8, .pointer (some ⟨b83, 0, none⟩)), (6, .pointer (some ⟨b53, 0, none⟩)), (3, .pointer (some ⟨bs, 0, none⟩)), (4, .bool res), (19, .slice (some ⟨sb43, k044, none⟩) ops.length c), (20, .int .i64 ((ops.length : Nat) : Int)), (21, .int .i64 ((i : Nat) : Int)), (7, .pointer (some ⟨bq, 0, none⟩)), (9, .pointer (some ⟨bl, 0, none⟩)), (35, .bool (x.kind == 5))]) (φ := (b53 = b53 ∧ Nat.ble (0 + 1) 6 = true) ∧ True) (rest := []) h98 (by kernel_rfl) rfl ⟨⟨rfl, rfl⟩, trivial⟩ fun a101 h102 => ?_
      clear h98
      refine nd_done ?_
      refine hK100 _ _ ?_
      clear hK100
      refine c_split h102 (b := (x.kind == 5)) rfl (fun hc103 => ?_) (fun hc103 => ?_)
      ·
        have hc103f : x.kind = 5 := by simpa using hc103
        have hk5 : x.kind = 5 := hc103f
        obtain ⟨hr1, hr2, hr3, hr4, hlg⟩ := res8 hwf hk5
        rw [hr1, hr2, hr3, hr4] at h102
        have hK : (s.lg.evs.take (s.pos - s.lg.base.idx).toNat).length = (s.pos - s.lg.base.idx).toNat := by rw [List.length_take]; omega
        have hcapq := rl_cap ((h102.inv.get (j := 1) (p := pLog bq (⟨eoq, ecq, eFq, moq, mcq, mFq, soq, scq, sFq⟩ : Hd) s.lg) rfl).rows.get (j := 0) (r := rl evC 33 3 s.lg.evs eoq ecq eFq) rfl)
        have hb105 := (h102.inv.get (j := 1) (p := pLog bq (⟨eoq, ecq, eFq, moq, mcq, mFq, soq, scq, sFq⟩ : Hd) s.lg) rfl).blk
        have h104 := h102.open_ (b := bq) (cells := logC s.lg.base (.slice eoq s.lg.evs.length ecq) (.slice moq s.lg.mks.length mcq) (.slice soq s.lg.sns.length scq)) (ty := 69) hb105 (h102.notinL (by simp [Pf]) (kcons (by intro hq; cases hq) (kcons (by intro hq; cases hq) knil)))
        clear h102
        have hap : ∀ b ∈ bq :: Hd.F (⟨eoq, ecq, eFq, moq, mcq, mFq, soq, scq, sFq⟩ : Hd), b ∉ bl :: d77.F := fun b hb hq => Pf_nodup h104.inv.nd (i := 1) (j := 0) (x := pLog bq (⟨eoq, ecq, eFq, moq, mcq, mFq, soq, scq, sFq⟩ : Hd) s.lg) (y := pSess bs bl d77 ((doR s x).2)) rfl rfl (by decide) b hb (List.mem_cons_of_mem _ hq)
        have hb107 := (h104.inv.get (j := 0) (p := pSess bs bl d77 ((doR s x).2)) rfl).log.blk
        rw [hlg] at hb107
        have hb107b : _ = some (Blk.obj ⟨logC s.lg.base (.slice d77.eo (s.lg.evs.take (s.pos - s.lg.base.idx).toNat).length d77.ec) (.slice d77.mo (keepM s.lg.base.idx s.pos s.lg.mks).length d77.mc) (.slice d77.so (keepS s.lg.base.idx s.pos s.lg.sns).length d77.sc), 69, true⟩) := hb107
        rw [hK] at hb107b
        replace hb107 := hb107b
        have h106 := h104.open_ (b := bl) (cells := logC s.lg.base (.slice d77.eo ((s.pos - s.lg.base.idx).toNat) d77.ec) (.slice d77.mo ((keepM s.lg.base.idx s.pos s.lg.mks).length) d77.mc) (.slice d77.so ((keepS s.lg.base.idx s.pos s.lg.sns).length) d77.sc)) (ty := 69) hb107 (h104.notinL (by simp [Pf]) (kcons (by intro hq; cases hq) (kcons (by intro hq; cases hq) (kcons (fun _ => (fun hq => hap bq (by simp) (by rw [show bq = bl from hq]; simp))) knil))))
        clear h104
        refine wp_seq_k fun K108 hK108 => ?_
        refine dr_start (KB := [b53, b83, bq, bl]) (Bi := [[0, 1, 2, 3], [0, 1, 2, 3], [0, 1, 2, 3], [0, 1, 2, 3], [0, 1, 2, 3], [0, 1, 2, 3], [0, 1, 2, 3], [0, 1, 2, 3], [0, 1, 2, 3]]) mixed h106 fun w109 h110 => ?_
        clear h106
        refine dr_batch tabOk tabZ_ok (by repeat (first | exact PF.body | with_reducible apply PF.inB | with_reducible apply PF.next)) [(0, {}), (1, {k := 1, p := 1}), (2, {}), (3, {}), (4, {}), (5, {}), (6, {k := 2, p := 2}), (7, {}), (8, {})] [8, 6, 3, 4, 19, 20, 21, 7, 9, 10] (T' := [(8, .pointer (some ⟨b83, 0, none⟩)), (6, .pointer (some ⟨b53, 0, none⟩)), (3, .pointer (some ⟨bs, 0, none⟩)), (4, .bool res), (19, .slice (some ⟨sb43, k044, none⟩) ops.length c), (20, .int .i64 ((ops.length : Nat) : Int)), (21, .int .i64 ((i : Nat) : Int)), (7, .pointer (some ⟨bq, 0, none⟩)), (9, .pointer (some ⟨bl, 0, none⟩)), (10, .int .i64 (s.pos - s.lg.base.idx))]) (φ := (b83 = b83 ∧ Nat.ble (1 + 1) 12 = true) ∧ (bq = bq ∧ Nat.ble (0 + 1) 18 = true) ∧ inR .i64 (s.pos - s.lg.base.idx) ∧ True) (fuel := 0) h110 (by kernel_rfl) rfl (by kernel_rfl) (by kernel_rfl) ⟨trivial, rfl, trivial, trivial, trivial, trivial, rfl, trivial, trivial, trivial⟩ ⟨⟨rfl, rfl⟩, ⟨rfl, rfl⟩, ⟨by omega, by omega⟩, trivial⟩ fun a112 h113 => ?_
        clear h110
        refine wpAnyK_done (by kernel_rfl) ?_ _
        refine hK108 _ _ ?_
        clear hK108
        refine wp_seq_k fun K114 hK114 => ?_
        refine wp_seq_k fun K115 hK115 => ?_
        refine dr_start (KB := [b53, b83, bq, bl]) (Bi := [[0, 1, 2, 3], [0, 1, 2, 3], [0, 1, 2, 3], [0, 1, 2, 3], [0, 1, 2, 3], [0, 1, 2, 3], [0, 1, 2, 3], [0, 1, 2, 3], [0, 1, 2, 3], [0, 1, 2, 3], [0, 1, 2, 3], [0, 1, 2, 3], [0, 1, 2, 3], [0, 1, 2, 3], [0, 1, 2, 3], [0, 1, 2, 3], [0, 1, 2, 3], [0, 1, 2, 3], [0, 1, 2, 3], [0, 1, 2, 3], [0, 1, 2, 3], [0, 1, 2, 3], [0, 1, 2, 3], [0, 1, 2, 3], [0, 1, 2, 3], [0, 1, 2, 3], [0, 1, 2, 3], [0, 1, 2, 3], [0, 1, 2, 3], [0, 1, 2, 3], [0, 1, 2, 3], [0, 1, 2, 3], [0, 1, 2, 3], [0, 1, 2, 3], [0, 1, 2, 3], [0, 1, 2, 3], [0, 1, 2, 3], [], [0, 1, 2, 3], [0, 1, 2, 3]]) mixed h113 fun w116 h117 => ?_
        clear h113
        refine dr_batch tabOk tabZ_ok (by repeat (first | exact PF.body | with_reducible apply PF.inB | with_reducible apply PF.next)) [(0, {}), (1, {k := 1, p := 1}), (2, {}), (3, {}), (4, {}), (5, {k := 1, p := 1}), (6, {}), (7, {}), (8, {}), (9, {}), (10, {k := 1, p := 1}), (11, {}), (12, {k := 1, p := 1}), (13, {f := 1}), (14, {}), (15, {}), (16, {}), (17, {}), (18, {}), (19, {k := 3, p := 3}), (20, {}), (21, {}), (22, {}), (23, {k := 2, p := 2}), (24, {f := 1}), (25, {}), (26, {}), (27, {}), (28, {}), (29, {}), (30, {k := 3, p := 3}), (31, {}), (32, {}), (33, {}), (34, {k := 2, p := 2}), (35, {}), (36, {})] [8, 6, 3, 4, 19, 20, 21, 7, 9, 10, 70, 74, 80] (T' := [(8, .pointer (some ⟨b83, 0, none⟩)), (6, .pointer (some ⟨b53, 0, none⟩)), (3, .pointer (some ⟨bs, 0, none⟩)), (4, .bool res), (19, .slice (some ⟨sb43, k044, none⟩) ops.length c), (20, .int .i64 ((ops.length : Nat) : Int)), (21, .int .i64 ((i : Nat) : Int)), (7, .pointer (some ⟨bq, 0, none⟩)), (9, .pointer (some ⟨bl, 0, none⟩)), (10, .int .i64 (s.pos - s.lg.base.idx)), (70, .bool false), (74, .slice d77.eo ((s.pos - s.lg.base.idx).toNat) d77.ec), (80, .slice eoq ((s.pos - s.lg.base.idx).toNat) ecq)]) (φ := (b83 = b83 ∧ Nat.ble (0 + 1) 12 = true) ∧ (b83 = b83 ∧ Nat.ble (4 + 1) 12 = true) ∧ (b83 = b83 ∧ Nat.ble (3 + 1) 12 = true) ∧ (b83 = b83 ∧ Nat.ble (1 + 1) 12 = true) ∧ ((s.pos != s.pos)) = false ∧ (bl = bl ∧ Nat.ble (0 + 15) 18 = true) ∧ (bq = bq ∧ Nat.ble (0 + 15) 18 = true) ∧ EqRun Try.prog 66 (.agg #[.int .i64 s.lg.base.idx, .int .u64 s.lg.base.st.now, .int .i8 s.lg.base.st.cur, .int .u8 s.lg.base.st.s0, .int .u8 s.lg.base.st.s1, .int .u8 s.lg.base.st.s2, .int .u8 s.lg.base.st.s3, .int .u64 s.lg.base.st.r0, .int .u64 s.lg.base.st.r1, .int .u64 s.lg.base.st.r2, .int .u64 s.lg.base.st.r3, .int .u64 s.lg.base.st.word, .bool s.lg.base.out.refused, .int .i8 s.lg.base.out.running, .int .u64 s.lg.base.out.value]) (.agg #[.int .i64 s.lg.base.idx, .int .u64 s.lg.base.st.now, .int .i8 s.lg.base.st.cur, .int .u8 s.lg.base.st.s0, .int .u8 s.lg.base.st.s1, .int .u8 s.lg.base.st.s2, .int .u8 s.lg.base.st.s3, .int .u64 s.lg.base.st.r0, .int .u64 s.lg.base.st.r1, .int .u64 s.lg.base.st.r2, .int .u64 s.lg.base.st.r3, .int .u64 s.lg.base.st.word, .bool s.lg.base.out.refused, .int .i8 s.lg.base.out.running, .int .u64 s.lg.base.out.value]) true ∧ (bl = bl ∧ Nat.ble (15 + 1) 18 = true) ∧ (bq = bq ∧ Nat.ble (15 + 1) 18 = true) ∧ (0 ≤ (s.pos - s.lg.base.idx) ∧ (s.pos - s.lg.base.idx) ≤ ((ecq : Nat) : Int)) ∧ True) (fuel := 3) h117 (by kernel_rfl) rfl (by kernel_rfl) (by kernel_rfl) ⟨trivial, rfl, trivial, trivial, trivial, rfl, trivial, trivial, trivial, trivial, rfl, trivial, rfl, trivial, trivial, trivial, trivial, trivial, trivial, rfl, trivial, trivial, trivial, rfl, trivial, trivial, trivial, trivial, trivial, trivial, rfl, trivial, trivial, trivial, rfl, trivial, trivial, trivial⟩ ⟨⟨rfl, rfl⟩, ⟨rfl, rfl⟩, ⟨rfl, rfl⟩, ⟨rfl, rfl⟩, (by simp), ⟨rfl, rfl⟩, ⟨rfl, rfl⟩, (run66s s.lg.base), ⟨rfl, rfl⟩, ⟨rfl, rfl⟩, ⟨by omega, by omega⟩, trivial⟩ fun a119 h120 => ?_
        clear h117
        refine wpAnyK_one (i := 37) (fuel := 2) (by kernel_rfl) ?_
        refine op_call h120 rfl rfl rfl (callOk Try.func26 (by decide) rfl) (args := [.slice d77.eo ((s.pos - s.lg.base.idx).toNat) d77.ec, .slice eoq ((s.pos - s.lg.base.idx).toNat) ecq]) rfl ((by have hq := equalE_ok (s.lg.evs.take (s.pos - s.lg.base.idx).toNat) d77.eo eoq d77.ec ecq d77.eF eFq _ (rws2 ((show LogAt _ bl d77 (s.lg.cutAfter s.pos) by have hq := (h120.inv.get (j := 0) (p := pSess bs bl d77 ((doR s x).2)) rfl).log; rw [hlg] at hq; exact hq).rows.get (j := 0) rfl) (rl_cut ((h120.inv.get (j := 1) (p := pLog bq (⟨eoq, ecq, eFq, moq, mcq, mFq, soq, scq, sFq⟩ : Hd) s.lg) rfl).rows.get (j := 0) (r := rl evC 33 3 s.lg.evs eoq ecq eFq) rfl) evC_len (by omega)) (fun b hb hq => hap b (by simp [Hd.F, hq]) (by simp only [List.mem_cons, Hd.F, List.mem_append]; exact .inr (.inl hb)))) (by omega); rw [hK] at hq; exact hq)) ?_
        rintro _ w121 ⟨rfl, hf123⟩
        refine ⟨_, rfl, ?_⟩
        have h122 := (h120.grow hf123).put (d := some 81) (v := .bool true) (T' := [(81, .bool true), (8, .pointer (some ⟨b83, 0, none⟩)), (6, .pointer (some ⟨b53, 0, none⟩)), (3, .pointer (some ⟨bs, 0, none⟩)), (4, .bool res), (19, .slice (some ⟨sb43, k044, none⟩) ops.length c), (20, .int .i64 ((ops.length : Nat) : Int)), (21, .int .i64 ((i : Nat) : Int)), (7, .pointer (some ⟨bq, 0, none⟩)), (9, .pointer (some ⟨bl, 0, none⟩)), (10, .int .i64 (s.pos - s.lg.base.idx)), (70, .bool false), (74, .slice d77.eo ((s.pos - s.lg.base.idx).toNat) d77.ec), (80, .slice eoq ((s.pos - s.lg.base.idx).toNat) ecq)]) rfl
        refine ⟨keepNil, ?_⟩
        clear h120
        refine dr_batch tabOk tabZ_ok (by repeat (first | exact PF.body | with_reducible apply PF.inB | with_reducible apply PF.next)) [(38, {}), (39, {})] [8, 6, 3, 4, 19, 20, 21, 7, 9, 10, 83] (T' := [(8, .pointer (some ⟨b83, 0, none⟩)), (6, .pointer (some ⟨b53, 0, none⟩)), (3, .pointer (some ⟨bs, 0, none⟩)), (4, .bool res), (19, .slice (some ⟨sb43, k044, none⟩) ops.length c), (20, .int .i64 ((ops.length : Nat) : Int)), (21, .int .i64 ((i : Nat) : Int)), (7, .pointer (some ⟨bq, 0, none⟩)), (9, .pointer (some ⟨bl, 0, none⟩)), (10, .int .i64 (s.pos - s.lg.base.idx)), (83, .bool false)]) (φ := True) (fuel := 0) h122 (by kernel_rfl) rfl (by kernel_rfl) (by kernel_rfl) ⟨trivial, trivial, trivial⟩ trivial fun a124 h125 => ?_
        clear h122
        refine wpAnyK_done (by kernel_rfl) ?_ _
        refine hK115 _ _ ?_
        clear hK115
        refine c_false h125 rfl ?_
        refine wp_skip ?_
        refine hK114 _ _ ?_
        clear hK114
        refine wp_seq_k fun K126 hK126 => ?_
        refine wp_seq_k fun K127 hK127 => ?_
        refine nd_start (l := [0, 1, 2, 3, 4, 5]) rfl ?_
        refine nd_batch tabOk tabZ_ok [(0, {}), (1, {}), (2, {}), (3, {k := 2}), (4, {}), (5, {})] [8, 6, 3, 4, 19, 20, 21, 7, 9, 10, 87, 88, 89] (T' := [(8, .pointer (some ⟨b83, 0, none⟩)), (6, .pointer (some ⟨b53, 0, none⟩)), (3, .pointer (some ⟨bs, 0, none⟩)), (4, .bool res), (19, .slice (some ⟨sb43, k044, none⟩) ops.length c), (20, .int .i64 ((ops.length : Nat) : Int)), (21, .int .i64 ((i : Nat) : Int)), (7, .pointer (some ⟨bq, 0, none⟩)), (9, .pointer (some ⟨bl, 0, none⟩)), (10, .int .i64 (s.pos - s.lg.base.idx)), (87, .slice moq s.lg.mks.length mcq), (88, .int .i64 ((s.lg.mks.length : Nat) : Int)), (89, .int .i64 0)]) (φ := (bq = bq ∧ Nat.ble (16 + 1) 18 = true) ∧ True) (rest := []) h125 (by kernel_rfl) rfl ⟨⟨rfl, rfl⟩, trivial⟩ fun a128 h129 => ?_
        clear h125
        refine nd_done ?_
        refine hK127 _ _ ?_
        clear hK127
        refine wp_block ?_
        refine wp_loop_ghost (fun gg2 ga gw => ∃ (k : Nat), (k ≤ s.lg.mks.length) ∧ (gg2 = s.lg.mks.length - k) ∧ St ⟨153, [], w, Pk w.heap.size [pSess bs bl d77 ((doR s x).2), pLog bq (⟨eoq, ecq, eFq, moq, mcq, mFq, soq, scq, sFq⟩ : Hd) s.lg], Pf [pSess bs bl d77 ((doR s x).2), pLog bq (⟨eoq, ecq, eFq, moq, mcq, mFq, soq, scq, sFq⟩ : Hd) s.lg]⟩ [(8, .pointer (some ⟨b83, 0, none⟩)), (6, .pointer (some ⟨b53, 0, none⟩)), (3, .pointer (some ⟨bs, 0, none⟩)), (4, .bool res), (19, .slice (some ⟨sb43, k044, none⟩) ops.length c), (20, .int .i64 ((ops.length : Nat) : Int)), (21, .int .i64 ((i : Nat) : Int)), (7, .pointer (some ⟨bq, 0, none⟩)), (9, .pointer (some ⟨bl, 0, none⟩)), (87, .slice moq s.lg.mks.length mcq), (88, .int .i64 ((s.lg.mks.length : Nat) : Int)), (89, .int .i64 ((k : Nat) : Int))] [(b53, ⟨[.int .u8 x.kind, .int .i64 x.n, .int .i64 x.m, .int .u8 x.ev.kind, .int .u32 x.ev.pick, .int .u64 x.ev.arg], 35, false⟩), (b83, ⟨[.int .u8 0, .int .i64 s.pos, .int .i64 ((doR s x).1.base), .int .i64 s.pos, .bool true, .bool ((doR s x).1.out.refused), .int .i8 ((doR s x).1.out.running), .int .u64 ((doR s x).1.out.value), .int .u64 ((doR s x).1.dig), .int .i64 ((doR s x).1.from_), .int .i64 ((doR s x).1.replayed), .int .i64 ((doR s x).1.at_)], 41, false⟩), (bq, ⟨logC s.lg.base (.slice eoq s.lg.evs.length ecq) (.slice moq s.lg.mks.length mcq) (.slice soq s.lg.sns.length scq), 69, true⟩), (bl, ⟨logC s.lg.base (.slice d77.eo ((s.pos - s.lg.base.idx).toNat) d77.ec) (.slice d77.mo ((keepM s.lg.base.idx s.pos s.lg.mks).length) d77.mc) (.slice d77.so ((keepS s.lg.base.idx s.pos s.lg.sns).length) d77.sc), 69, true⟩)] ga gw) s.lg.mks.length ⟨0, Nat.zero_le _, rfl, (h129.slotsMono (restr_spec (keep := [8, 6, 3, 4, 19, 20, 21, 7, 9, 87, 88, 89]) rfl))⟩ ?_
        clear h129
        rintro gg2 a130 w131 ⟨k, hi133, hi134, h132⟩
        have hk := hi133
        have hg2 := hi134
        refine wp_seq_k fun K135 hK135 => ?_
        refine nd_start (l := [0]) rfl ?_
        refine nd_batch tabOk tabZ_ok [(0, {})] [8, 6, 3, 4, 19, 20, 21, 7, 9, 87, 88, 89, 90] (T' := [(8, .pointer (some ⟨b83, 0, none⟩)), (6, .pointer (some ⟨b53, 0, none⟩)), (3, .pointer (some ⟨bs, 0, none⟩)), (4, .bool res), (19, .slice (some ⟨sb43, k044, none⟩) ops.length c), (20, .int .i64 ((ops.length : Nat) : Int)), (21, .int .i64 ((i : Nat) : Int)), (7, .pointer (some ⟨bq, 0, none⟩)), (9, .pointer (some ⟨bl, 0, none⟩)), (87, .slice moq s.lg.mks.length mcq), (88, .int .i64 ((s.lg.mks.length : Nat) : Int)), (89, .int .i64 ((k : Nat) : Int)), (90, .bool (decide (((k : Nat) : Int) < ((s.lg.mks.length : Nat) : Int))))]) (φ := True) (rest := []) h132 (by kernel_rfl) rfl trivial fun a136 h137 => ?_
        clear h132
        refine nd_done ?_
        refine hK135 _ _ ?_
        clear hK135
        refine wp_seq_k fun K138 hK138 => ?_
        refine c_split h137 (b := decide (((k : Nat) : Int) < ((s.lg.mks.length : Nat) : Int))) rfl (fun hc139 => ?_) (fun hc139 => ?_)
        ·
          have hc139f : ((k : Nat) : Int) < ((s.lg.mks.length : Nat) : Int) := by simpa using hc139
          obtain ⟨y, hy⟩ := Sx.get_some (xs := s.lg.mks) (i := k) (by omega)
          have hym := List.mem_of_getElem? hy
          obtain ⟨rb140, cs141, ho, hbr, hcr, hFr, _, _⟩ := rl_open ((h137.inv.get (j := 1) (p := pLog bq (⟨eoq, ecq, eFq, moq, mcq, mFq, soq, scq, sFq⟩ : Hd) s.lg) rfl).rows.get (j := 1) (r := rl mkC 78 2 s.lg.mks moq mcq mFq) rfl) mkC_len hy
          subst ho hFr
          have hnb : rb140 ∉ bl :: d77.F := fun hq => hap rb140 (by simp [Hd.F]) hq
          have hsq := (h137.inv.get (j := 1) (p := pLog bq (⟨eoq, ecq, eFq, (some ⟨rb140, 0, none⟩), mcq, [rb140], soq, scq, sFq⟩ : Hd) s.lg) rfl).sep
          have h142 := h137.open_ hbr (h137.notinL (by simp [Pf, Hd.F]) (kcons (by intro hq; cases hq) (kcons (by intro hq; cases hq) (kcons (fun _ hq => hsq (by rw [show bq = rb140 from hq]; simp [Hd.F])) (kcons (fun _ hq => hnb (by rw [← show bl = rb140 from hq]; simp)) knil)))))
          clear h137
          refine wp_skip ?_
          refine hK138 _ _ ?_
          clear hK138
          refine wp_seq_k fun K143 hK143 => ?_
          refine wp_block ?_
          refine wp_seq_k fun K144 hK144 => ?_
          refine nd_start (l := [0, 1, 2, 3]) rfl ?_
          refine nd_batch tabOk tabZ_ok [(0, {}), (1, {k := 4, m := 1, vs := [.int .i64 y.idx, .int .u64 y.sum]})] [8, 6, 3, 4, 19, 20, 21, 7, 9, 87, 88, 89, 92] (T' := [(8, .pointer (some ⟨b83, 0, none⟩)), (6, .pointer (some ⟨b53, 0, none⟩)), (3, .pointer (some ⟨bs, 0, none⟩)), (4, .bool res), (19, .slice (some ⟨sb43, k044, none⟩) ops.length c), (20, .int .i64 ((ops.length : Nat) : Int)), (21, .int .i64 ((i : Nat) : Int)), (7, .pointer (some ⟨bq, 0, none⟩)), (9, .pointer (some ⟨bl, 0, none⟩)), (87, .slice (some ⟨rb140, 0, none⟩) s.lg.mks.length mcq), (88, .int .i64 ((s.lg.mks.length : Nat) : Int)), (89, .int .i64 ((k : Nat) : Int)), (92, .agg #[.int .i64 y.idx, .int .u64 y.sum])]) (φ := (0 ≤ ((k : Nat) : Int) ∧ ((k : Nat) : Int) < ((s.lg.mks.length : Nat) : Int)) ∧ (rb140 = rb140 ∧ cellsAre cs141 (0 + (k * 2)) [.int .i64 y.idx, .int .u64 y.sum]) ∧ True) (rest := [2, 3]) h142 (by kernel_rfl) rfl ⟨⟨by omega, by omega⟩, ⟨rfl, (by rw [Nat.zero_add]; exact hcr)⟩, trivial⟩ fun a145 h146 => ?_
          clear h142
          refine nd_op ?_
          refine op_new tabOk (cells := [.int .i64 0, .int .u64 0]) (ty := 78) (ln := none) (L1 := fun b147 => [(b53, ⟨[.int .u8 x.kind, .int .i64 x.n, .int .i64 x.m, .int .u8 x.ev.kind, .int .u32 x.ev.pick, .int .u64 x.ev.arg], 35, false⟩), (b83, ⟨[.int .u8 0, .int .i64 s.pos, .int .i64 ((doR s x).1.base), .int .i64 s.pos, .bool true, .bool ((doR s x).1.out.refused), .int .i8 ((doR s x).1.out.running), .int .u64 ((doR s x).1.out.value), .int .u64 ((doR s x).1.dig), .int .i64 ((doR s x).1.from_), .int .i64 ((doR s x).1.replayed), .int .i64 ((doR s x).1.at_)], 41, false⟩), (bq, ⟨logC s.lg.base (.slice eoq s.lg.evs.length ecq) (.slice (some ⟨rb140, 0, none⟩) s.lg.mks.length mcq) (.slice soq s.lg.sns.length scq), 69, true⟩), (bl, ⟨logC s.lg.base (.slice d77.eo ((s.pos - s.lg.base.idx).toNat) d77.ec) (.slice d77.mo ((keepM s.lg.base.idx s.pos s.lg.mks).length) d77.mc) (.slice d77.so ((keepS s.lg.base.idx s.pos s.lg.sns).length) d77.sc), 69, true⟩), (rb140, ⟨cs141, 78, true⟩), (b147, ⟨[.int .i64 0, .int .u64 0], 78, false⟩)]) h146 rfl rfl rfl rfl (by kernel_rfl) (fun _ => rfl) fun b147 w148 a149 h150 hf151 hn152 => ?_
          clear h146
          refine nd_op ?_
          refine op_store tabOk {k := 5} (L' := [(b53, ⟨[.int .u8 x.kind, .int .i64 x.n, .int .i64 x.m, .int .u8 x.ev.kind, .int .u32 x.ev.pick, .int .u64 x.ev.arg], 35, false⟩), (b83, ⟨[.int .u8 0, .int .i64 s.pos, .int .i64 ((doR s x).1.base), .int .i64 s.pos, .bool true, .bool ((doR s x).1.out.refused), .int .i8 ((doR s x).1.out.running), .int .u64 ((doR s x).1.out.value), .int .u64 ((doR s x).1.dig), .int .i64 ((doR s x).1.from_), .int .i64 ((doR s x).1.replayed), .int .i64 ((doR s x).1.at_)], 41, false⟩), (bq, ⟨logC s.lg.base (.slice eoq s.lg.evs.length ecq) (.slice (some ⟨rb140, 0, none⟩) s.lg.mks.length mcq) (.slice soq s.lg.sns.length scq), 69, true⟩), (bl, ⟨logC s.lg.base (.slice d77.eo ((s.pos - s.lg.base.idx).toNat) d77.ec) (.slice d77.mo ((keepM s.lg.base.idx s.pos s.lg.mks).length) d77.mc) (.slice d77.so ((keepS s.lg.base.idx s.pos s.lg.sns).length) d77.sc), 69, true⟩), (rb140, ⟨cs141, 78, true⟩), (b147, ⟨[.int .i64 y.idx, .int .u64 y.sum], 78, false⟩)]) (φ := b147 = b147 ∧ Nat.ble (0 + 2) 2 = true) h150 rfl rfl rfl (by kernel_rfl) ⟨rfl, rfl⟩ fun w153 h154 => ?_
          clear h150
          refine nd_done ?_
          refine hK144 _ _ ?_
          clear hK144
          refine wp_seq_k fun K155 hK155 => ?_
          refine dr_start (KB := [b53, b83, bq, bl, rb140, b147]) (Bi := [[0, 1, 2, 3, 4, 5], [0, 1, 2, 3, 4, 5], [0, 1, 2, 3, 4, 5], [0, 1, 2, 3, 4, 5], [0, 1, 2, 3, 4, 5], [1, 5], [0, 1, 2, 3, 4, 5], [0, 1, 2, 3, 4, 5], [0, 1, 2, 3, 4, 5], [0, 1, 2, 3, 4, 5], [0, 1, 2, 3, 4, 5], [0, 1, 2, 3, 4, 5]]) mixed h154 fun w156 h157 => ?_
          clear h154
          refine dr_batch tabOk tabZ_ok (by repeat (first | exact PF.body | with_reducible apply PF.inB | with_reducible apply PF.next)) [(0, {}), (1, {}), (2, {}), (3, {k := 3, p := 3}), (4, {k := 5, p := 5}), (6, {}), (7, {k := 5, p := 5}), (8, {}), (9, {k := 1, p := 1}), (10, {})] [12, 8, 6, 3, 4, 19, 20, 21, 7, 9, 87, 88, 89, 96, 97, 103] (T' := [(12, .pointer (some ⟨b147, 0, none⟩)), (8, .pointer (some ⟨b83, 0, none⟩)), (6, .pointer (some ⟨b53, 0, none⟩)), (3, .pointer (some ⟨bs, 0, none⟩)), (4, .bool res), (19, .slice (some ⟨sb43, k044, none⟩) ops.length c), (20, .int .i64 ((ops.length : Nat) : Int)), (21, .int .i64 ((i : Nat) : Int)), (7, .pointer (some ⟨bq, 0, none⟩)), (9, .pointer (some ⟨bl, 0, none⟩)), (87, .slice (some ⟨rb140, 0, none⟩) s.lg.mks.length mcq), (88, .int .i64 ((s.lg.mks.length : Nat) : Int)), (89, .int .i64 ((k : Nat) : Int)), (96, .slice d77.mo ((keepM s.lg.base.idx s.pos s.lg.mks).length) d77.mc), (97, .agg #[.int .i64 y.idx, .int .u64 y.sum]), (103, .bool (decide (y.idx ≤ s.pos)))]) (φ := (bl = bl ∧ Nat.ble (16 + 1) 18 = true) ∧ (b147 = b147 ∧ Nat.ble (0 + 2) 2 = true) ∧ (b147 = b147 ∧ Nat.ble (0 + 1) 2 = true) ∧ (b83 = b83 ∧ Nat.ble (1 + 1) 12 = true) ∧ True) (fuel := 2) h157 (by kernel_rfl) rfl (by kernel_rfl) (by kernel_rfl) ⟨trivial, trivial, trivial, rfl, rfl, trivial, rfl, trivial, rfl, trivial, trivial⟩ ⟨⟨rfl, rfl⟩, ⟨rfl, rfl⟩, ⟨rfl, rfl⟩, ⟨rfl, rfl⟩, trivial⟩ fun a159 h160 => ?_
          clear h157
          refine wpAnyK_one (i := 5) (fuel := 1) (by kernel_rfl) ?_
          refine op_call h160 rfl rfl rfl (callOk Try.func27 (by decide) rfl) (args := [.slice d77.mo ((keepM s.lg.base.idx s.pos s.lg.mks).length) d77.mc, .agg #[.int .i64 y.idx, .int .u64 y.sum]]) rfl (containsM_ok (keepM s.lg.base.idx s.pos s.lg.mks) y d77.mo d77.mc d77.mF _ ((show LogAt _ bl d77 (s.lg.cutAfter s.pos) by have hq := (h160.inv.get (j := 0) (p := pSess bs bl d77 ((doR s x).2)) rfl).log; rw [hlg] at hq; exact hq).rows.sub (List.Sublist.cons _ (List.Sublist.cons_cons _ (List.Sublist.cons _ List.Sublist.slnil)))) (Nat.le_trans (List.length_filter_le _ _) (by omega))) ?_
          rintro _ w162 ⟨β, rfl, hβ, hfb⟩
          refine ⟨_, rfl, ?_⟩
          have hβ2 : β = decide (y.idx ≤ s.pos) := by have h1 := keep_mk hwf.lg hym s.pos; have h2 : β = true ↔ y.idx ≤ s.pos := hβ.trans h1; cases β <;> simp_all
          have h161 := (h160.grow hfb).put (d := some 98) (v := .bool β) (T' := [(98, .bool β), (12, .pointer (some ⟨b147, 0, none⟩)), (8, .pointer (some ⟨b83, 0, none⟩)), (6, .pointer (some ⟨b53, 0, none⟩)), (3, .pointer (some ⟨bs, 0, none⟩)), (4, .bool res), (19, .slice (some ⟨sb43, k044, none⟩) ops.length c), (20, .int .i64 ((ops.length : Nat) : Int)), (21, .int .i64 ((i : Nat) : Int)), (7, .pointer (some ⟨bq, 0, none⟩)), (9, .pointer (some ⟨bl, 0, none⟩)), (87, .slice (some ⟨rb140, 0, none⟩) s.lg.mks.length mcq), (88, .int .i64 ((s.lg.mks.length : Nat) : Int)), (89, .int .i64 ((k : Nat) : Int)), (96, .slice d77.mo ((keepM s.lg.base.idx s.pos s.lg.mks).length) d77.mc), (97, .agg #[.int .i64 y.idx, .int .u64 y.sum]), (103, .bool (decide (y.idx ≤ s.pos)))]) rfl
          refine ⟨(h160.keepFr hfb (kcons (by simp) (kcons (by simp) knil))), ?_⟩
          clear h160
          refine dr_batch tabOk tabZ_ok (by repeat (first | exact PF.body | with_reducible apply PF.inB | with_reducible apply PF.next)) [(11, {f := 1})] [12, 8, 6, 3, 4, 19, 20, 21, 7, 9, 87, 88, 89, 104] (T' := [(12, .pointer (some ⟨b147, 0, none⟩)), (8, .pointer (some ⟨b83, 0, none⟩)), (6, .pointer (some ⟨b53, 0, none⟩)), (3, .pointer (some ⟨bs, 0, none⟩)), (4, .bool res), (19, .slice (some ⟨sb43, k044, none⟩) ops.length c), (20, .int .i64 ((ops.length : Nat) : Int)), (21, .int .i64 ((i : Nat) : Int)), (7, .pointer (some ⟨bq, 0, none⟩)), (9, .pointer (some ⟨bl, 0, none⟩)), (87, .slice (some ⟨rb140, 0, none⟩) s.lg.mks.length mcq), (88, .int .i64 ((s.lg.mks.length : Nat) : Int)), (89, .int .i64 ((k : Nat) : Int)), (104, .bool false)]) (φ := ((β != (decide (y.idx ≤ s.pos)))) = false ∧ True) (fuel := 0) h161 (by kernel_rfl) rfl (by kernel_rfl) (by kernel_rfl) ⟨trivial, trivial⟩ ⟨(by rw [hβ2]; simp), trivial⟩ fun a163 h164 => ?_
          clear h161
          refine wpAnyK_done (by kernel_rfl) ?_ _
          refine hK155 _ _ ?_
          clear hK155
          refine c_false h164 rfl ?_
          refine wp_skip ?_
          refine hK143 _ _ ?_
          clear hK143
          refine nd_start (l := [0, 1]) rfl ?_
          refine nd_batch tabOk tabZ_ok [(0, {}), (1, {})] [12, 8, 6, 3, 4, 19, 20, 21, 7, 9, 87, 88, 89] (T' := [(12, .pointer (some ⟨b147, 0, none⟩)), (8, .pointer (some ⟨b83, 0, none⟩)), (6, .pointer (some ⟨b53, 0, none⟩)), (3, .pointer (some ⟨bs, 0, none⟩)), (4, .bool res), (19, .slice (some ⟨sb43, k044, none⟩) ops.length c), (20, .int .i64 ((ops.length : Nat) : Int)), (21, .int .i64 ((i : Nat) : Int)), (7, .pointer (some ⟨bq, 0, none⟩)), (9, .pointer (some ⟨bl, 0, none⟩)), (87, .slice (some ⟨rb140, 0, none⟩) s.lg.mks.length mcq), (88, .int .i64 ((s.lg.mks.length : Nat) : Int)), (89, .int .i64 (((k : Nat) : Int) + 1))]) (φ := inR .i64 (((k : Nat) : Int) + 1) ∧ True) (rest := []) h164 (by kernel_rfl) rfl ⟨⟨by omega, by omega⟩, trivial⟩ fun a165 h166 => ?_
          clear h164
          refine nd_done ?_
          have h167 := h166.memMono (L' := [(b53, ⟨[.int .u8 x.kind, .int .i64 x.n, .int .i64 x.m, .int .u8 x.ev.kind, .int .u32 x.ev.pick, .int .u64 x.ev.arg], 35, false⟩), (b83, ⟨[.int .u8 0, .int .i64 s.pos, .int .i64 ((doR s x).1.base), .int .i64 s.pos, .bool true, .bool ((doR s x).1.out.refused), .int .i8 ((doR s x).1.out.running), .int .u64 ((doR s x).1.out.value), .int .u64 ((doR s x).1.dig), .int .i64 ((doR s x).1.from_), .int .i64 ((doR s x).1.replayed), .int .i64 ((doR s x).1.at_)], 41, false⟩), (bq, ⟨logC s.lg.base (.slice eoq s.lg.evs.length ecq) (.slice (some ⟨rb140, 0, none⟩) s.lg.mks.length mcq) (.slice soq s.lg.sns.length scq), 69, true⟩), (bl, ⟨logC s.lg.base (.slice d77.eo ((s.pos - s.lg.base.idx).toNat) d77.ec) (.slice d77.mo ((keepM s.lg.base.idx s.pos s.lg.mks).length) d77.mc) (.slice d77.so ((keepS s.lg.base.idx s.pos s.lg.sns).length) d77.sc), 69, true⟩)]) (List.Sublist.cons_cons _ (List.Sublist.cons_cons _ (List.Sublist.cons_cons _ (List.Sublist.cons_cons _ (List.Sublist.cons _ (List.Sublist.cons _ List.Sublist.slnil))))))
          clear h166
          exact ⟨(gg2 - 1), by omega, (k + 1), by omega, by omega, (h167.slotsMono (restr_spec (keep := [8, 6, 3, 4, 19, 20, 21, 7, 9, 87, 88, 89]) rfl))⟩
        ·
          have hc139f : ¬ ((k : Nat) : Int) < ((s.lg.mks.length : Nat) : Int) := by simpa using hc139
          refine wp_exit ?_
          refine hK126 _ _ ?_
          clear hK126
          refine wp_seq_k fun K168 hK168 => ?_
          refine nd_start (l := [0, 1, 2, 3, 4, 5]) rfl ?_
          refine nd_batch tabOk tabZ_ok [(0, {}), (1, {}), (2, {}), (3, {k := 2}), (4, {}), (5, {})] [8, 6, 3, 4, 19, 20, 21, 7, 9, 87, 88, 89, 109, 110, 111] (T' := [(8, .pointer (some ⟨b83, 0, none⟩)), (6, .pointer (some ⟨b53, 0, none⟩)), (3, .pointer (some ⟨bs, 0, none⟩)), (4, .bool res), (19, .slice (some ⟨sb43, k044, none⟩) ops.length c), (20, .int .i64 ((ops.length : Nat) : Int)), (21, .int .i64 ((i : Nat) : Int)), (7, .pointer (some ⟨bq, 0, none⟩)), (9, .pointer (some ⟨bl, 0, none⟩)), (87, .slice moq s.lg.mks.length mcq), (88, .int .i64 ((s.lg.mks.length : Nat) : Int)), (89, .int .i64 ((k : Nat) : Int)), (109, .slice soq s.lg.sns.length scq), (110, .int .i64 ((s.lg.sns.length : Nat) : Int)), (111, .int .i64 0)]) (φ := (bq = bq ∧ Nat.ble (17 + 1) 18 = true) ∧ True) (rest := []) h137 (by kernel_rfl) rfl ⟨⟨rfl, rfl⟩, trivial⟩ fun a169 h170 => ?_
          clear h137
          refine nd_done ?_
          refine hK168 _ _ ?_
          clear hK168
          refine wp_block ?_
          refine wp_loop_ghost (fun gg2 ga gw => ∃ (k : Nat), (k ≤ s.lg.sns.length) ∧ (gg2 = s.lg.sns.length - k) ∧ St ⟨153, [], w, Pk w.heap.size [pSess bs bl d77 ((doR s x).2), pLog bq (⟨eoq, ecq, eFq, moq, mcq, mFq, soq, scq, sFq⟩ : Hd) s.lg], Pf [pSess bs bl d77 ((doR s x).2), pLog bq (⟨eoq, ecq, eFq, moq, mcq, mFq, soq, scq, sFq⟩ : Hd) s.lg]⟩ [(8, .pointer (some ⟨b83, 0, none⟩)), (6, .pointer (some ⟨b53, 0, none⟩)), (3, .pointer (some ⟨bs, 0, none⟩)), (4, .bool res), (19, .slice (some ⟨sb43, k044, none⟩) ops.length c), (20, .int .i64 ((ops.length : Nat) : Int)), (21, .int .i64 ((i : Nat) : Int)), (7, .pointer (some ⟨bq, 0, none⟩)), (9, .pointer (some ⟨bl, 0, none⟩)), (109, .slice soq s.lg.sns.length scq), (110, .int .i64 ((s.lg.sns.length : Nat) : Int)), (111, .int .i64 ((k : Nat) : Int))] [(b53, ⟨[.int .u8 x.kind, .int .i64 x.n, .int .i64 x.m, .int .u8 x.ev.kind, .int .u32 x.ev.pick, .int .u64 x.ev.arg], 35, false⟩), (b83, ⟨[.int .u8 0, .int .i64 s.pos, .int .i64 ((doR s x).1.base), .int .i64 s.pos, .bool true, .bool ((doR s x).1.out.refused), .int .i8 ((doR s x).1.out.running), .int .u64 ((doR s x).1.out.value), .int .u64 ((doR s x).1.dig), .int .i64 ((doR s x).1.from_), .int .i64 ((doR s x).1.replayed), .int .i64 ((doR s x).1.at_)], 41, false⟩), (bq, ⟨logC s.lg.base (.slice eoq s.lg.evs.length ecq) (.slice moq s.lg.mks.length mcq) (.slice soq s.lg.sns.length scq), 69, true⟩), (bl, ⟨logC s.lg.base (.slice d77.eo ((s.pos - s.lg.base.idx).toNat) d77.ec) (.slice d77.mo ((keepM s.lg.base.idx s.pos s.lg.mks).length) d77.mc) (.slice d77.so ((keepS s.lg.base.idx s.pos s.lg.sns).length) d77.sc), 69, true⟩)] ga gw) s.lg.sns.length ⟨0, Nat.zero_le _, rfl, (h170.slotsMono (restr_spec (keep := [8, 6, 3, 4, 19, 20, 21, 7, 9, 109, 110, 111]) rfl))⟩ ?_
          clear h170
          rintro gg2 a171 w172 ⟨k, hi174, hi175, h173⟩
          have hk := hi174
          have hg2 := hi175
          refine wp_seq_k fun K176 hK176 => ?_
          refine nd_start (l := [0]) rfl ?_
          refine nd_batch tabOk tabZ_ok [(0, {})] [8, 6, 3, 4, 19, 20, 21, 7, 9, 109, 110, 111, 112] (T' := [(8, .pointer (some ⟨b83, 0, none⟩)), (6, .pointer (some ⟨b53, 0, none⟩)), (3, .pointer (some ⟨bs, 0, none⟩)), (4, .bool res), (19, .slice (some ⟨sb43, k044, none⟩) ops.length c), (20, .int .i64 ((ops.length : Nat) : Int)), (21, .int .i64 ((i : Nat) : Int)), (7, .pointer (some ⟨bq, 0, none⟩)), (9, .pointer (some ⟨bl, 0, none⟩)), (109, .slice soq s.lg.sns.length scq), (110, .int .i64 ((s.lg.sns.length : Nat) : Int)), (111, .int .i64 ((k : Nat) : Int)), (112, .bool (decide (((k : Nat) : Int) < ((s.lg.sns.length : Nat) : Int))))]) (φ := True) (rest := []) h173 (by kernel_rfl) rfl trivial fun a177 h178 => ?_
          clear h173
          refine nd_done ?_
          refine hK176 _ _ ?_
          clear hK176
          refine wp_seq_k fun K179 hK179 => ?_
          refine c_split h178 (b := decide (((k : Nat) : Int) < ((s.lg.sns.length : Nat) : Int))) rfl (fun hc180 => ?_) (fun hc180 => ?_)
          ·
            have hc180f : ((k : Nat) : Int) < ((s.lg.sns.length : Nat) : Int) := by simpa using hc180
            obtain ⟨y, hy⟩ := Sx.get_some (xs := s.lg.sns) (i := k) (by omega)
            have hym := List.mem_of_getElem? hy
            obtain ⟨rb181, cs182, ho, hbr, hcr, hFr, _, _⟩ := rl_open ((h178.inv.get (j := 1) (p := pLog bq (⟨eoq, ecq, eFq, moq, mcq, mFq, soq, scq, sFq⟩ : Hd) s.lg) rfl).rows.get (j := 2) (r := rl ptC 66 15 s.lg.sns soq scq sFq) rfl) ptC_len hy
            subst ho hFr
            have hnb : rb181 ∉ bl :: d77.F := fun hq => hap rb181 (by simp [Hd.F]) hq
            have hsq := (h178.inv.get (j := 1) (p := pLog bq (⟨eoq, ecq, eFq, moq, mcq, mFq, (some ⟨rb181, 0, none⟩), scq, [rb181]⟩ : Hd) s.lg) rfl).sep
            have h183 := h178.open_ hbr (h178.notinL (by simp [Pf, Hd.F]) (kcons (by intro hq; cases hq) (kcons (by intro hq; cases hq) (kcons (fun _ hq => hsq (by rw [show bq = rb181 from hq]; simp [Hd.F])) (kcons (fun _ hq => hnb (by rw [← show bl = rb181 from hq]; simp)) knil)))))
            clear h178
            refine wp_skip ?_
            refine hK179 _ _ ?_
            clear hK179
            refine wp_seq_k fun K184 hK184 => ?_
            refine wp_block ?_
            refine wp_seq_k fun K185 hK185 => ?_
            refine nd_start (l := [0, 1, 2, 3]) rfl ?_
            refine nd_batch tabOk tabZ_ok [(0, {}), (1, {k := 4, m := 1, vs := [.int .i64 y.idx, .int .u64 y.st.now, .int .i8 y.st.cur, .int .u8 y.st.s0, .int .u8 y.st.s1, .int .u8 y.st.s2, .int .u8 y.st.s3, .int .u64 y.st.r0, .int .u64 y.st.r1, .int .u64 y.st.r2, .int .u64 y.st.r3, .int .u64 y.st.word, .bool y.out.refused, .int .i8 y.out.running, .int .u64 y.out.value]})] [8, 6, 3, 4, 19, 20, 21, 7, 9, 109, 110, 111, 114] (T' := [(8, .pointer (some ⟨b83, 0, none⟩)), (6, .pointer (some ⟨b53, 0, none⟩)), (3, .pointer (some ⟨bs, 0, none⟩)), (4, .bool res), (19, .slice (some ⟨sb43, k044, none⟩) ops.length c), (20, .int .i64 ((ops.length : Nat) : Int)), (21, .int .i64 ((i : Nat) : Int)), (7, .pointer (some ⟨bq, 0, none⟩)), (9, .pointer (some ⟨bl, 0, none⟩)), (109, .slice (some ⟨rb181, 0, none⟩) s.lg.sns.length scq), (110, .int .i64 ((s.lg.sns.length : Nat) : Int)), (111, .int .i64 ((k : Nat) : Int)), (114, .agg #[.int .i64 y.idx, .int .u64 y.st.now, .int .i8 y.st.cur, .int .u8 y.st.s0, .int .u8 y.st.s1, .int .u8 y.st.s2, .int .u8 y.st.s3, .int .u64 y.st.r0, .int .u64 y.st.r1, .int .u64 y.st.r2, .int .u64 y.st.r3, .int .u64 y.st.word, .bool y.out.refused, .int .i8 y.out.running, .int .u64 y.out.value])]) (φ := (0 ≤ ((k : Nat) : Int) ∧ ((k : Nat) : Int) < ((s.lg.sns.length : Nat) : Int)) ∧ (rb181 = rb181 ∧ cellsAre cs182 (0 + (k * 15)) [.int .i64 y.idx, .int .u64 y.st.now, .int .i8 y.st.cur, .int .u8 y.st.s0, .int .u8 y.st.s1, .int .u8 y.st.s2, .int .u8 y.st.s3, .int .u64 y.st.r0, .int .u64 y.st.r1, .int .u64 y.st.r2, .int .u64 y.st.r3, .int .u64 y.st.word, .bool y.out.refused, .int .i8 y.out.running, .int .u64 y.out.value]) ∧ True) (rest := [2, 3]) h183 (by kernel_rfl) rfl ⟨⟨by omega, by omega⟩, ⟨rfl, (by rw [Nat.zero_add]; exact hcr)⟩, trivial⟩ fun a186 h187 => ?_
            clear h183
            refine nd_op ?_
            refine op_new tabOk (cells := [.int .i64 0, .int .u64 0, .int .i8 0, .int .u8 0, .int .u8 0, .int .u8 0, .int .u8 0, .int .u64 0, .int .u64 0, .int .u64 0, .int .u64 0, .int .u64 0, .bool false, .int .i8 0, .int .u64 0]) (ty := 66) (ln := none) (L1 := fun b188 => [(b53, ⟨[.int .u8 x.kind, .int .i64 x.n, .int .i64 x.m, .int .u8 x.ev.kind, .int .u32 x.ev.pick, .int .u64 x.ev.arg], 35, false⟩), (b83, ⟨[.int .u8 0, .int .i64 s.pos, .int .i64 ((doR s x).1.base), .int .i64 s.pos, .bool true, .bool ((doR s x).1.out.refused), .int .i8 ((doR s x).1.out.running), .int .u64 ((doR s x).1.out.value), .int .u64 ((doR s x).1.dig), .int .i64 ((doR s x).1.from_), .int .i64 ((doR s x).1.replayed), .int .i64 ((doR s x).1.at_)], 41, false⟩), (bq, ⟨logC s.lg.base (.slice eoq s.lg.evs.length ecq) (.slice moq s.lg.mks.length mcq) (.slice (some ⟨rb181, 0, none⟩) s.lg.sns.length scq), 69, true⟩), (bl, ⟨logC s.lg.base (.slice d77.eo ((s.pos - s.lg.base.idx).toNat) d77.ec) (.slice d77.mo ((keepM s.lg.base.idx s.pos s.lg.mks).length) d77.mc) (.slice d77.so ((keepS s.lg.base.idx s.pos s.lg.sns).length) d77.sc), 69, true⟩), (rb181, ⟨cs182, 66, true⟩), (b188, ⟨[.int .i64 0, .int .u64 0, .int .i8 0, .int .u8 0, .int .u8 0, .int .u8 0, .int .u8 0, .int .u64 0, .int .u64 0, .int .u64 0, .int .u64 0, .int .u64 0, .bool false, .int .i8 0, .int .u64 0], 66, false⟩)]) h187 rfl rfl rfl rfl (by kernel_rfl) (fun _ => rfl) fun b188 w189 a190 h191 hf192 hn193 => ?_
            clear h187
            refine nd_op ?_
            refine op_store tabOk {k := 5} (L' := [(b53, ⟨[.int .u8 x.kind, .int .i64 x.n, .int .i64 x.m, .int .u8 x.ev.kind, .int .u32 x.ev.pick, .int .u64 x.ev.arg], 35, false⟩), (b83, ⟨[.int .u8 0, .int .i64 s.pos, .int .i64 ((doR s x).1.base), .int .i64 s.pos, .bool true, .bool ((doR s x).1.out.refused), .int .i8 ((doR s x).1.out.running), .int .u64 ((doR s x).1.out.value), .int .u64 ((doR s x).1.dig), .int .i64 ((doR s x).1.from_), .int .i64 ((doR s x).1.replayed), .int .i64 ((doR s x).1.at_)], 41, false⟩), (bq, ⟨logC s.lg.base (.slice eoq s.lg.evs.length ecq) (.slice moq s.lg.mks.length mcq) (.slice (some ⟨rb181, 0, none⟩) s.lg.sns.length scq), 69, true⟩), (bl, ⟨logC s.lg.base (.slice d77.eo ((s.pos - s.lg.base.idx).toNat) d77.ec) (.slice d77.mo ((keepM s.lg.base.idx s.pos s.lg.mks).length) d77.mc) (.slice d77.so ((keepS s.lg.base.idx s.pos s.lg.sns).length) d77.sc), 69, true⟩), (rb181, ⟨cs182, 66, true⟩), (b188, ⟨[.int .i64 y.idx, .int .u64 y.st.now, .int .i8 y.st.cur, .int .u8 y.st.s0, .int .u8 y.st.s1, .int .u8 y.st.s2, .int .u8 y.st.s3, .int .u64 y.st.r0, .int .u64 y.st.r1, .int .u64 y.st.r2, .int .u64 y.st.r3, .int .u64 y.st.word, .bool y.out.refused, .int .i8 y.out.running, .int .u64 y.out.value], 66, false⟩)]) (φ := b188 = b188 ∧ Nat.ble (0 + 15) 15 = true) h191 rfl rfl rfl (by kernel_rfl) ⟨rfl, rfl⟩ fun w194 h195 => ?_
            clear h191
            refine nd_done ?_
            refine hK185 _ _ ?_
            clear hK185
            refine wp_seq_k fun K196 hK196 => ?_
            refine dr_start (KB := [b53, b83, bq, bl, rb181, b188]) (Bi := [[0, 1, 2, 3, 4, 5], [0, 1, 2, 3, 4, 5], [0, 1, 2, 3, 4, 5], [0, 1, 2, 3, 4, 5], [0, 1, 2, 3, 4, 5], [1, 5], [0, 1, 2, 3, 4, 5], [0, 1, 2, 3, 4, 5], [0, 1, 2, 3, 4, 5], [0, 1, 2, 3, 4, 5], [0, 1, 2, 3, 4, 5], [0, 1, 2, 3, 4, 5]]) mixed h195 fun w197 h198 => ?_
            clear h195
            refine dr_batch tabOk tabZ_ok (by repeat (first | exact PF.body | with_reducible apply PF.inB | with_reducible apply PF.next)) [(0, {}), (1, {}), (2, {}), (3, {k := 3, p := 3}), (4, {k := 5, p := 5}), (6, {}), (7, {k := 5, p := 5}), (8, {}), (9, {k := 1, p := 1}), (10, {})] [14, 8, 6, 3, 4, 19, 20, 21, 7, 9, 109, 110, 111, 118, 119, 125] (T' := [(14, .pointer (some ⟨b188, 0, none⟩)), (8, .pointer (some ⟨b83, 0, none⟩)), (6, .pointer (some ⟨b53, 0, none⟩)), (3, .pointer (some ⟨bs, 0, none⟩)), (4, .bool res), (19, .slice (some ⟨sb43, k044, none⟩) ops.length c), (20, .int .i64 ((ops.length : Nat) : Int)), (21, .int .i64 ((i : Nat) : Int)), (7, .pointer (some ⟨bq, 0, none⟩)), (9, .pointer (some ⟨bl, 0, none⟩)), (109, .slice (some ⟨rb181, 0, none⟩) s.lg.sns.length scq), (110, .int .i64 ((s.lg.sns.length : Nat) : Int)), (111, .int .i64 ((k : Nat) : Int)), (118, .slice d77.so ((keepS s.lg.base.idx s.pos s.lg.sns).length) d77.sc), (119, .agg #[.int .i64 y.idx, .int .u64 y.st.now, .int .i8 y.st.cur, .int .u8 y.st.s0, .int .u8 y.st.s1, .int .u8 y.st.s2, .int .u8 y.st.s3, .int .u64 y.st.r0, .int .u64 y.st.r1, .int .u64 y.st.r2, .int .u64 y.st.r3, .int .u64 y.st.word, .bool y.out.refused, .int .i8 y.out.running, .int .u64 y.out.value]), (125, .bool (decide (y.idx ≤ s.pos)))]) (φ := (bl = bl ∧ Nat.ble (17 + 1) 18 = true) ∧ (b188 = b188 ∧ Nat.ble (0 + 15) 15 = true) ∧ (b188 = b188 ∧ Nat.ble (0 + 1) 15 = true) ∧ (b83 = b83 ∧ Nat.ble (1 + 1) 12 = true) ∧ True) (fuel := 2) h198 (by kernel_rfl) rfl (by kernel_rfl) (by kernel_rfl) ⟨trivial, trivial, trivial, rfl, rfl, trivial, rfl, trivial, rfl, trivial, trivial⟩ ⟨⟨rfl, rfl⟩, ⟨rfl, rfl⟩, ⟨rfl, rfl⟩, ⟨rfl, rfl⟩, trivial⟩ fun a200 h201 => ?_
            clear h198
            refine wpAnyK_one (i := 5) (fuel := 1) (by kernel_rfl) ?_
            refine op_call h201 rfl rfl rfl (callOk Try.func28 (by decide) rfl) (args := [.slice d77.so ((keepS s.lg.base.idx s.pos s.lg.sns).length) d77.sc, .agg #[.int .i64 y.idx, .int .u64 y.st.now, .int .i8 y.st.cur, .int .u8 y.st.s0, .int .u8 y.st.s1, .int .u8 y.st.s2, .int .u8 y.st.s3, .int .u64 y.st.r0, .int .u64 y.st.r1, .int .u64 y.st.r2, .int .u64 y.st.r3, .int .u64 y.st.word, .bool y.out.refused, .int .i8 y.out.running, .int .u64 y.out.value]]) rfl (containsP_ok (keepS s.lg.base.idx s.pos s.lg.sns) y d77.so d77.sc d77.sF _ ((show LogAt _ bl d77 (s.lg.cutAfter s.pos) by have hq := (h201.inv.get (j := 0) (p := pSess bs bl d77 ((doR s x).2)) rfl).log; rw [hlg] at hq; exact hq).rows.sub (List.Sublist.cons _ (List.Sublist.cons _ (List.Sublist.cons_cons _ List.Sublist.slnil)))) (Nat.le_trans (List.length_filter_le _ _) (by omega))) ?_
            rintro _ w203 ⟨β, rfl, hβ, hfb⟩
            refine ⟨_, rfl, ?_⟩
            have hβ2 : β = decide (y.idx ≤ s.pos) := by have h1 := keep_sn hwf.lg hym s.pos; have h2 : β = true ↔ y.idx ≤ s.pos := hβ.trans h1; cases β <;> simp_all
            have h202 := (h201.grow hfb).put (d := some 120) (v := .bool β) (T' := [(120, .bool β), (14, .pointer (some ⟨b188, 0, none⟩)), (8, .pointer (some ⟨b83, 0, none⟩)), (6, .pointer (some ⟨b53, 0, none⟩)), (3, .pointer (some ⟨bs, 0, none⟩)), (4, .bool res), (19, .slice (some ⟨sb43, k044, none⟩) ops.length c), (20, .int .i64 ((ops.length : Nat) : Int)), (21, .int .i64 ((i : Nat) : Int)), (7, .pointer (some ⟨bq, 0, none⟩)), (9, .pointer (some ⟨bl, 0, none⟩)), (109, .slice (some ⟨rb181, 0, none⟩) s.lg.sns.length scq), (110, .int .i64 ((s.lg.sns.length : Nat) : Int)), (111, .int .i64 ((k : Nat) : Int)), (118, .slice d77.so ((keepS s.lg.base.idx s.pos s.lg.sns).length) d77.sc), (119, .agg #[.int .i64 y.idx, .int .u64 y.st.now, .int .i8 y.st.cur, .int .u8 y.st.s0, .int .u8 y.st.s1, .int .u8 y.st.s2, .int .u8 y.st.s3, .int .u64 y.st.r0, .int .u64 y.st.r1, .int .u64 y.st.r2, .int .u64 y.st.r3, .int .u64 y.st.word, .bool y.out.refused, .int .i8 y.out.running, .int .u64 y.out.value]), (125, .bool (decide (y.idx ≤ s.pos)))]) rfl
            refine ⟨(h201.keepFr hfb (kcons (by simp) (kcons (by simp) knil))), ?_⟩
            clear h201
            refine dr_batch tabOk tabZ_ok (by repeat (first | exact PF.body | with_reducible apply PF.inB | with_reducible apply PF.next)) [(11, {f := 1})] [14, 8, 6, 3, 4, 19, 20, 21, 7, 9, 109, 110, 111, 126] (T' := [(14, .pointer (some ⟨b188, 0, none⟩)), (8, .pointer (some ⟨b83, 0, none⟩)), (6, .pointer (some ⟨b53, 0, none⟩)), (3, .pointer (some ⟨bs, 0, none⟩)), (4, .bool res), (19, .slice (some ⟨sb43, k044, none⟩) ops.length c), (20, .int .i64 ((ops.length : Nat) : Int)), (21, .int .i64 ((i : Nat) : Int)), (7, .pointer (some ⟨bq, 0, none⟩)), (9, .pointer (some ⟨bl, 0, none⟩)), (109, .slice (some ⟨rb181, 0, none⟩) s.lg.sns.length scq), (110, .int .i64 ((s.lg.sns.length : Nat) : Int)), (111, .int .i64 ((k : Nat) : Int)), (126, .bool false)]) (φ := ((β != (decide (y.idx ≤ s.pos)))) = false ∧ True) (fuel := 0) h202 (by kernel_rfl) rfl (by kernel_rfl) (by kernel_rfl) ⟨trivial, trivial⟩ ⟨(by rw [hβ2]; simp), trivial⟩ fun a204 h205 => ?_
            clear h202
            refine wpAnyK_done (by kernel_rfl) ?_ _
            refine hK196 _ _ ?_
            clear hK196
            refine c_false h205 rfl ?_
            refine wp_skip ?_
            refine hK184 _ _ ?_
            clear hK184
            refine nd_start (l := [0, 1]) rfl ?_
            refine nd_batch tabOk tabZ_ok [(0, {}), (1, {})] [14, 8, 6, 3, 4, 19, 20, 21, 7, 9, 109, 110, 111] (T' := [(14, .pointer (some ⟨b188, 0, none⟩)), (8, .pointer (some ⟨b83, 0, none⟩)), (6, .pointer (some ⟨b53, 0, none⟩)), (3, .pointer (some ⟨bs, 0, none⟩)), (4, .bool res), (19, .slice (some ⟨sb43, k044, none⟩) ops.length c), (20, .int .i64 ((ops.length : Nat) : Int)), (21, .int .i64 ((i : Nat) : Int)), (7, .pointer (some ⟨bq, 0, none⟩)), (9, .pointer (some ⟨bl, 0, none⟩)), (109, .slice (some ⟨rb181, 0, none⟩) s.lg.sns.length scq), (110, .int .i64 ((s.lg.sns.length : Nat) : Int)), (111, .int .i64 (((k : Nat) : Int) + 1))]) (φ := inR .i64 (((k : Nat) : Int) + 1) ∧ True) (rest := []) h205 (by kernel_rfl) rfl ⟨⟨by omega, by omega⟩, trivial⟩ fun a206 h207 => ?_
            clear h205
            refine nd_done ?_
            have h208 := h207.memMono (L' := [(b53, ⟨[.int .u8 x.kind, .int .i64 x.n, .int .i64 x.m, .int .u8 x.ev.kind, .int .u32 x.ev.pick, .int .u64 x.ev.arg], 35, false⟩), (b83, ⟨[.int .u8 0, .int .i64 s.pos, .int .i64 ((doR s x).1.base), .int .i64 s.pos, .bool true, .bool ((doR s x).1.out.refused), .int .i8 ((doR s x).1.out.running), .int .u64 ((doR s x).1.out.value), .int .u64 ((doR s x).1.dig), .int .i64 ((doR s x).1.from_), .int .i64 ((doR s x).1.replayed), .int .i64 ((doR s x).1.at_)], 41, false⟩), (bq, ⟨logC s.lg.base (.slice eoq s.lg.evs.length ecq) (.slice moq s.lg.mks.length mcq) (.slice (some ⟨rb181, 0, none⟩) s.lg.sns.length scq), 69, true⟩), (bl, ⟨logC s.lg.base (.slice d77.eo ((s.pos - s.lg.base.idx).toNat) d77.ec) (.slice d77.mo ((keepM s.lg.base.idx s.pos s.lg.mks).length) d77.mc) (.slice d77.so ((keepS s.lg.base.idx s.pos s.lg.sns).length) d77.sc), 69, true⟩)]) (List.Sublist.cons_cons _ (List.Sublist.cons_cons _ (List.Sublist.cons_cons _ (List.Sublist.cons_cons _ (List.Sublist.cons _ (List.Sublist.cons _ List.Sublist.slnil))))))
            clear h207
            exact ⟨(gg2 - 1), by omega, (k + 1), by omega, by omega, (h208.slotsMono (restr_spec (keep := [8, 6, 3, 4, 19, 20, 21, 7, 9, 109, 110, 111]) rfl))⟩
          ·
            have hc180f : ¬ ((k : Nat) : Int) < ((s.lg.sns.length : Nat) : Int) := by simpa using hc180
            refine wp_exit ?_
            refine hK99 _ _ ?_
            clear hK99
            refine wp_seq_k fun K209 hK209 => ?_
            refine wp_seq_k fun K210 hK210 => ?_
            rcases Bool.eq_false_or_eq_true (res) with hb211 | hb211
            ·
              have hb211s := h178
              rw [hb211] at hb211s
              rcases Bool.eq_false_or_eq_true ((x.kind == 0)) with hb212 | hb212
              ·
                have hb212f : x.kind = 0 := by simpa using hb212
                have hk0 : x.kind = 0 := hb212f
                omega
              ·
                have hb212f : x.kind ≠ 0 := by simpa using hb212
                have hk0 : x.kind ≠ 0 := hb212f
                refine dr_start (KB := [b53, b83, bq, bl]) (Bi := [[0, 1, 2, 3], [0, 1, 2, 3], [0, 1, 2, 3], [0, 1, 2, 3], [0, 1, 2, 3], [0, 1, 2, 3], [0, 1, 2, 3], [0, 1, 2, 3], [0, 1, 2, 3], [0, 1, 2, 3], [0, 1, 2, 3], [0, 1, 2, 3], [0, 1, 2, 3], [0, 1, 2, 3], [0, 1, 2, 3], [0, 1, 2, 3], [0], [0, 1, 2, 3], [0, 1, 2, 3], [0, 1, 2, 3], [0, 1, 2, 3]]) mixed hb211s fun w213 h214 => ?_
                clear hb211s
                refine dr_batch tabOk tabZ_ok (by repeat (first | exact PF.body | with_reducible apply PF.inB | with_reducible apply PF.next)) [(0, {}), (1, {}), (2, {}), (3, {k := 0, p := 0}), (4, {f := 1}), (5, {}), (6, {}), (7, {}), (8, {k := 0, p := 0}), (9, {}), (10, {}), (11, {}), (12, {}), (13, {}), (14, {k := 0, p := 0}), (15, {}), (17, {}), (18, {k := 0, p := 0})] [8, 6, 3, 4, 19, 20, 21, 7, 9, 109, 110, 111, 139, 140, 143, 146] (T' := [(8, .pointer (some ⟨b83, 0, none⟩)), (6, .pointer (some ⟨b53, 0, none⟩)), (3, .pointer (some ⟨bs, 0, none⟩)), (4, .bool true), (19, .slice (some ⟨sb43, k044, none⟩) ops.length c), (20, .int .i64 ((ops.length : Nat) : Int)), (21, .int .i64 ((i : Nat) : Int)), (7, .pointer (some ⟨bq, 0, none⟩)), (9, .pointer (some ⟨bl, 0, none⟩)), (109, .slice soq s.lg.sns.length scq), (110, .int .i64 ((s.lg.sns.length : Nat) : Int)), (111, .int .i64 ((k : Nat) : Int)), (139, .bool false), (140, .tuple #[]), (143, .tuple #[]), (146, .tuple #[])]) (φ := (b53 = b53 ∧ Nat.ble (0 + 1) 6 = true) ∧ ((x.kind == 0)) = false ∧ True) (fuel := 3) h214 (by kernel_rfl) rfl (by kernel_rfl) (by kernel_rfl) ⟨trivial, trivial, trivial, rfl, trivial, trivial, trivial, trivial, rfl, trivial, trivial, trivial, trivial, trivial, rfl, trivial, trivial, rfl, trivial⟩ ⟨⟨rfl, rfl⟩, hb212, trivial⟩ fun a216 h217 => ?_
                clear h214
                refine dr_batch tabOk tabZ_ok (by repeat (first | exact PF.body | with_reducible apply PF.inB | with_reducible apply PF.next)) [(16, {})] [8, 6, 3, 4, 19, 20, 21, 7, 9, 109, 110, 111, 139, 146, 144] (T' := [(8, .pointer (some ⟨b83, 0, none⟩)), (6, .pointer (some ⟨b53, 0, none⟩)), (3, .pointer (some ⟨bs, 0, none⟩)), (4, .bool true), (19, .slice (some ⟨sb43, k044, none⟩) ops.length c), (20, .int .i64 ((ops.length : Nat) : Int)), (21, .int .i64 ((i : Nat) : Int)), (7, .pointer (some ⟨bq, 0, none⟩)), (9, .pointer (some ⟨bl, 0, none⟩)), (109, .slice soq s.lg.sns.length scq), (110, .int .i64 ((s.lg.sns.length : Nat) : Int)), (111, .int .i64 ((k : Nat) : Int)), (139, .bool false), (146, .tuple #[]), (144, .tuple #[])]) (φ := True) (fuel := 2) h217 (by kernel_rfl) rfl (by kernel_rfl) (by kernel_rfl) ⟨trivial, trivial⟩ trivial fun a218 h219 => ?_
                clear h217
                refine dr_batch tabOk tabZ_ok (by repeat (first | exact PF.body | with_reducible apply PF.inB | with_reducible apply PF.next)) [(19, {}), (20, {})] [8, 6, 3, 4, 19, 20, 21, 7, 9, 109, 110, 111, 148] (T' := [(8, .pointer (some ⟨b83, 0, none⟩)), (6, .pointer (some ⟨b53, 0, none⟩)), (3, .pointer (some ⟨bs, 0, none⟩)), (4, .bool true), (19, .slice (some ⟨sb43, k044, none⟩) ops.length c), (20, .int .i64 ((ops.length : Nat) : Int)), (21, .int .i64 ((i : Nat) : Int)), (7, .pointer (some ⟨bq, 0, none⟩)), (9, .pointer (some ⟨bl, 0, none⟩)), (109, .slice soq s.lg.sns.length scq), (110, .int .i64 ((s.lg.sns.length : Nat) : Int)), (111, .int .i64 ((k : Nat) : Int)), (148, .bool false)]) (φ := True) (fuel := 0) h219 (by kernel_rfl) rfl (by kernel_rfl) (by kernel_rfl) ⟨trivial, trivial, trivial⟩ trivial fun a220 h221 => ?_
                clear h219
                refine wpAnyK_done (by kernel_rfl) ?_ _
                refine hK210 _ _ ?_
                clear hK210
                refine c_false h221 rfl ?_
                refine wp_skip ?_
                refine hK209 _ _ ?_
                clear hK209
                refine nd_start (l := [0, 1, 2, 3]) rfl ?_
                refine nd_batch tabOk tabZ_ok [(0, {}), (1, {k := 0}), (2, {}), (3, {})] [8, 6, 3, 19, 20, 21, 7, 9, 109, 110, 111, 4] (T' := [(8, .pointer (some ⟨b83, 0, none⟩)), (6, .pointer (some ⟨b53, 0, none⟩)), (3, .pointer (some ⟨bs, 0, none⟩)), (19, .slice (some ⟨sb43, k044, none⟩) ops.length c), (20, .int .i64 ((ops.length : Nat) : Int)), (21, .int .i64 ((i : Nat) : Int)), (7, .pointer (some ⟨bq, 0, none⟩)), (9, .pointer (some ⟨bl, 0, none⟩)), (109, .slice soq s.lg.sns.length scq), (110, .int .i64 ((s.lg.sns.length : Nat) : Int)), (111, .int .i64 ((k : Nat) : Int)), (4, .bool (x.kind == 5))]) (φ := (b53 = b53 ∧ Nat.ble (0 + 1) 6 = true) ∧ True) (rest := []) h221 (by kernel_rfl) rfl ⟨⟨rfl, rfl⟩, trivial⟩ fun a222 h223 => ?_
                clear h221
                refine nd_done ?_
                refine hK48 _ _ ?_
                clear hK48
                refine nd_start (l := [0, 1]) rfl ?_
                refine nd_batch tabOk tabZ_ok [(0, {}), (1, {})] [8, 6, 3, 19, 20, 7, 9, 109, 110, 111, 4, 21] (T' := [(8, .pointer (some ⟨b83, 0, none⟩)), (6, .pointer (some ⟨b53, 0, none⟩)), (3, .pointer (some ⟨bs, 0, none⟩)), (19, .slice (some ⟨sb43, k044, none⟩) ops.length c), (20, .int .i64 ((ops.length : Nat) : Int)), (7, .pointer (some ⟨bq, 0, none⟩)), (9, .pointer (some ⟨bl, 0, none⟩)), (109, .slice soq s.lg.sns.length scq), (110, .int .i64 ((s.lg.sns.length : Nat) : Int)), (111, .int .i64 ((k : Nat) : Int)), (4, .bool (x.kind == 5)), (21, .int .i64 (((i : Nat) : Int) + 1))]) (φ := inR .i64 (((i : Nat) : Int) + 1) ∧ True) (rest := []) h223 (by kernel_rfl) rfl ⟨⟨by omega, by omega⟩, trivial⟩ fun a224 h225 => ?_
                clear h223
                refine nd_done ?_
                have h226 := h225.memMono (L' := []) (List.Sublist.cons _ (List.Sublist.cons _ (List.Sublist.cons _ (List.Sublist.cons _ List.Sublist.slnil))))
                clear h225
                have h227 := h226.pcSub (ps' := [pSess bs bl d77 ((doR s x).2)]) (List.Sublist.cons_cons _ (List.Sublist.cons _ List.Sublist.slnil))
                clear h226
                exact ⟨(g - 1), by omega, (i + 1), (doR s x).2, d77, (x.kind == 5), by omega, by omega, hwf1, (h227.slotsMono (restr_spec (keep := [3, 4, 19, 20, 21]) rfl))⟩
            ·
              have hb211s := h178
              rw [hb211] at hb211s
              refine dr_start (KB := [b53, b83, bq, bl]) (Bi := [[0, 1, 2, 3], [0, 1, 2, 3], [0, 1, 2, 3], [0, 1, 2, 3], [0, 1, 2, 3], [0, 1, 2, 3], [0, 1, 2, 3], [0, 1, 2, 3], [0, 1, 2, 3], [0, 1, 2, 3], [0, 1, 2, 3], [0, 1, 2, 3], [0, 1, 2, 3], [0, 1, 2, 3], [0, 1, 2, 3], [0, 1, 2, 3], [0], [0, 1, 2, 3], [0, 1, 2, 3], [0, 1, 2, 3], [0, 1, 2, 3]]) mixed hb211s fun w228 h229 => ?_
              clear hb211s
              refine dr_batch tabOk tabZ_ok (by repeat (first | exact PF.body | with_reducible apply PF.inB | with_reducible apply PF.next)) [(0, {}), (1, {}), (2, {}), (3, {k := 0, p := 0}), (4, {}), (5, {}), (6, {}), (7, {}), (8, {k := 0, p := 0}), (9, {}), (10, {}), (11, {}), (12, {}), (13, {}), (14, {k := 0, p := 0}), (15, {}), (17, {}), (18, {k := 0, p := 0})] [8, 6, 3, 4, 19, 20, 21, 7, 9, 109, 110, 111, 139, 140, 143, 146] (T' := [(8, .pointer (some ⟨b83, 0, none⟩)), (6, .pointer (some ⟨b53, 0, none⟩)), (3, .pointer (some ⟨bs, 0, none⟩)), (4, .bool false), (19, .slice (some ⟨sb43, k044, none⟩) ops.length c), (20, .int .i64 ((ops.length : Nat) : Int)), (21, .int .i64 ((i : Nat) : Int)), (7, .pointer (some ⟨bq, 0, none⟩)), (9, .pointer (some ⟨bl, 0, none⟩)), (109, .slice soq s.lg.sns.length scq), (110, .int .i64 ((s.lg.sns.length : Nat) : Int)), (111, .int .i64 ((k : Nat) : Int)), (139, .bool false), (140, .tuple #[]), (143, .tuple #[]), (146, .tuple #[])]) (φ := True) (fuel := 3) h229 (by kernel_rfl) rfl (by kernel_rfl) (by kernel_rfl) ⟨trivial, trivial, trivial, rfl, trivial, trivial, trivial, trivial, rfl, trivial, trivial, trivial, trivial, trivial, rfl, trivial, trivial, rfl, trivial⟩ trivial fun a231 h232 => ?_
              clear h229
              refine dr_batch tabOk tabZ_ok (by repeat (first | exact PF.body | with_reducible apply PF.inB | with_reducible apply PF.next)) [(16, {})] [8, 6, 3, 4, 19, 20, 21, 7, 9, 109, 110, 111, 139, 146, 144] (T' := [(8, .pointer (some ⟨b83, 0, none⟩)), (6, .pointer (some ⟨b53, 0, none⟩)), (3, .pointer (some ⟨bs, 0, none⟩)), (4, .bool false), (19, .slice (some ⟨sb43, k044, none⟩) ops.length c), (20, .int .i64 ((ops.length : Nat) : Int)), (21, .int .i64 ((i : Nat) : Int)), (7, .pointer (some ⟨bq, 0, none⟩)), (9, .pointer (some ⟨bl, 0, none⟩)), (109, .slice soq s.lg.sns.length scq), (110, .int .i64 ((s.lg.sns.length : Nat) : Int)), (111, .int .i64 ((k : Nat) : Int)), (139, .bool false), (146, .tuple #[]), (144, .tuple #[])]) (φ := True) (fuel := 2) h232 (by kernel_rfl) rfl (by kernel_rfl) (by kernel_rfl) ⟨trivial, trivial⟩ trivial fun a233 h234 => ?_
              clear h232
              refine dr_batch tabOk tabZ_ok (by repeat (first | exact PF.body | with_reducible apply PF.inB | with_reducible apply PF.next)) [(19, {}), (20, {})] [8, 6, 3, 4, 19, 20, 21, 7, 9, 109, 110, 111, 148] (T' := [(8, .pointer (some ⟨b83, 0, none⟩)), (6, .pointer (some ⟨b53, 0, none⟩)), (3, .pointer (some ⟨bs, 0, none⟩)), (4, .bool false), (19, .slice (some ⟨sb43, k044, none⟩) ops.length c), (20, .int .i64 ((ops.length : Nat) : Int)), (21, .int .i64 ((i : Nat) : Int)), (7, .pointer (some ⟨bq, 0, none⟩)), (9, .pointer (some ⟨bl, 0, none⟩)), (109, .slice soq s.lg.sns.length scq), (110, .int .i64 ((s.lg.sns.length : Nat) : Int)), (111, .int .i64 ((k : Nat) : Int)), (148, .bool false)]) (φ := True) (fuel := 0) h234 (by kernel_rfl) rfl (by kernel_rfl) (by kernel_rfl) ⟨trivial, trivial, trivial⟩ trivial fun a235 h236 => ?_
              clear h234
              refine wpAnyK_done (by kernel_rfl) ?_ _
              refine hK210 _ _ ?_
              clear hK210
              refine c_false h236 rfl ?_
              refine wp_skip ?_
              refine hK209 _ _ ?_
              clear hK209
              refine nd_start (l := [0, 1, 2, 3]) rfl ?_
              refine nd_batch tabOk tabZ_ok [(0, {}), (1, {k := 0}), (2, {}), (3, {})] [8, 6, 3, 19, 20, 21, 7, 9, 109, 110, 111, 4] (T' := [(8, .pointer (some ⟨b83, 0, none⟩)), (6, .pointer (some ⟨b53, 0, none⟩)), (3, .pointer (some ⟨bs, 0, none⟩)), (19, .slice (some ⟨sb43, k044, none⟩) ops.length c), (20, .int .i64 ((ops.length : Nat) : Int)), (21, .int .i64 ((i : Nat) : Int)), (7, .pointer (some ⟨bq, 0, none⟩)), (9, .pointer (some ⟨bl, 0, none⟩)), (109, .slice soq s.lg.sns.length scq), (110, .int .i64 ((s.lg.sns.length : Nat) : Int)), (111, .int .i64 ((k : Nat) : Int)), (4, .bool (x.kind == 5))]) (φ := (b53 = b53 ∧ Nat.ble (0 + 1) 6 = true) ∧ True) (rest := []) h236 (by kernel_rfl) rfl ⟨⟨rfl, rfl⟩, trivial⟩ fun a237 h238 => ?_
              clear h236
              refine nd_done ?_
              refine hK48 _ _ ?_
              clear hK48
              refine nd_start (l := [0, 1]) rfl ?_
              refine nd_batch tabOk tabZ_ok [(0, {}), (1, {})] [8, 6, 3, 19, 20, 7, 9, 109, 110, 111, 4, 21] (T' := [(8, .pointer (some ⟨b83, 0, none⟩)), (6, .pointer (some ⟨b53, 0, none⟩)), (3, .pointer (some ⟨bs, 0, none⟩)), (19, .slice (some ⟨sb43, k044, none⟩) ops.length c), (20, .int .i64 ((ops.length : Nat) : Int)), (7, .pointer (some ⟨bq, 0, none⟩)), (9, .pointer (some ⟨bl, 0, none⟩)), (109, .slice soq s.lg.sns.length scq), (110, .int .i64 ((s.lg.sns.length : Nat) : Int)), (111, .int .i64 ((k : Nat) : Int)), (4, .bool (x.kind == 5)), (21, .int .i64 (((i : Nat) : Int) + 1))]) (φ := inR .i64 (((i : Nat) : Int) + 1) ∧ True) (rest := []) h238 (by kernel_rfl) rfl ⟨⟨by omega, by omega⟩, trivial⟩ fun a239 h240 => ?_
              clear h238
              refine nd_done ?_
              have h241 := h240.memMono (L' := []) (List.Sublist.cons _ (List.Sublist.cons _ (List.Sublist.cons _ (List.Sublist.cons _ List.Sublist.slnil))))
              clear h240
              have h242 := h241.pcSub (ps' := [pSess bs bl d77 ((doR s x).2)]) (List.Sublist.cons_cons _ (List.Sublist.cons _ List.Sublist.slnil))
              clear h241
              exact ⟨(g - 1), by omega, (i + 1), (doR s x).2, d77, (x.kind == 5), by omega, by omega, hwf1, (h242.slotsMono (restr_spec (keep := [3, 4, 19, 20, 21]) rfl))⟩
      ·
        have hc103f : x.kind ≠ 5 := by simpa using hc103
        have hk5 : x.kind ≠ 5 := hc103f
        refine wp_skip ?_
        refine hK99 _ _ ?_
        clear hK99
        refine wp_seq_k fun K243 hK243 => ?_
        refine wp_seq_k fun K244 hK244 => ?_
        rcases Bool.eq_false_or_eq_true (res) with hb245 | hb245
        ·
          have hb245s := h102
          rw [hb245] at hb245s
          rcases Bool.eq_false_or_eq_true ((x.kind == 0)) with hb246 | hb246
          ·
            have hb246f : x.kind = 0 := by simpa using hb246
            have hk0 : x.kind = 0 := hb246f
            rcases Bool.eq_false_or_eq_true (((doR s x).1.code == 0)) with hb247 | hb247
            ·
              have hb247f : (doR s x).1.code = 0 := by simpa using hb247
              obtain ⟨hp1, hp2, hp3, hp4⟩ := step8 hwf hk0 hb247f
              refine dr_start (KB := [b53, b83]) (Bi := [[0, 1], [0, 1], [0, 1], [0, 1], [0, 1], [0, 1], [0, 1], [0, 1], [0, 1], [0, 1], [0, 1], [0, 1], [0, 1], [0, 1], [0, 1], [0, 1], [0], [0, 1], [0, 1], [0, 1], [0, 1]]) mixed hb245s fun w248 h249 => ?_
              clear hb245s
              refine dr_batch tabOk tabZ_ok (by repeat (first | exact PF.body | with_reducible apply PF.inB | with_reducible apply PF.next)) [(0, {}), (1, {}), (2, {}), (3, {k := 0, p := 0}), (4, {f := 2}), (5, {}), (6, {}), (7, {}), (8, {k := 1, p := 1}), (9, {f := 2}), (10, {}), (11, {}), (12, {}), (13, {}), (14, {k := 1, p := 1}), (15, {}), (17, {}), (18, {k := 0, p := 0})] [8, 6, 3, 4, 19, 20, 21, 7, 9, 139, 140, 143, 146] (T' := [(8, .pointer (some ⟨b83, 0, none⟩)), (6, .pointer (some ⟨b53, 0, none⟩)), (3, .pointer (some ⟨bs, 0, none⟩)), (4, .bool true), (19, .slice (some ⟨sb43, k044, none⟩) ops.length c), (20, .int .i64 ((ops.length : Nat) : Int)), (21, .int .i64 ((i : Nat) : Int)), (7, .pointer (some ⟨bq, 0, none⟩)), (9, .pointer (some ⟨bl, 0, none⟩)), (139, .bool true), (140, .pointer (some ⟨bl, 0, none⟩)), (143, .int .i64 (((doR s x).1.pos) - 1)), (146, .agg #[.int .u8 x.ev.kind, .int .u32 x.ev.pick, .int .u64 x.ev.arg])]) (φ := (b53 = b53 ∧ Nat.ble (0 + 1) 6 = true) ∧ ((x.kind == 0)) = true ∧ (b83 = b83 ∧ Nat.ble (0 + 1) 12 = true) ∧ (((doR s x).1.code == 0)) = true ∧ (b83 = b83 ∧ Nat.ble (1 + 1) 12 = true) ∧ inR .i64 (((doR s x).1.pos) - 1) ∧ (b53 = b53 ∧ Nat.ble (3 + 3) 6 = true) ∧ True) (fuel := 3) h249 (by kernel_rfl) rfl (by kernel_rfl) (by kernel_rfl) ⟨trivial, trivial, trivial, rfl, trivial, trivial, trivial, trivial, rfl, trivial, trivial, trivial, trivial, trivial, rfl, trivial, trivial, rfl, trivial⟩ ⟨⟨rfl, rfl⟩, hb246, ⟨rfl, rfl⟩, hb247, ⟨rfl, rfl⟩, ⟨by rw [hp1]; omega, by rw [hp1]; omega⟩, ⟨rfl, rfl⟩, trivial⟩ fun a251 h252 => ?_
              clear h249
              refine wpAnyK_one (i := 16) (fuel := 2) (by kernel_rfl) ?_
              refine op_call h252 rfl rfl rfl (callOk Try.func29 (by decide) rfl) (args := [.pointer (some ⟨bl, 0, none⟩), .int .i64 (((doR s x).1.pos) - 1)]) rfl (event_ok bl _ (doR s x).2.lg _ (h252.inv.get (j := 0) (p := pSess bs bl d77 ((doR s x).2)) rfl).log ((doR s x).1.pos - 1) (s.pos - s.lg.base.idx).toNat x.ev (by rw [hp2]; omega) hp3 (by have := hwf1.lg.len; omega)) ?_
              rintro _ w253 ⟨rfl, hf255⟩
              refine ⟨_, rfl, ?_⟩
              have h254 := (h252.grow hf255).put (d := some 144) (v := .agg #[.int .u8 x.ev.kind, .int .u32 x.ev.pick, .int .u64 x.ev.arg]) (T' := [(144, .agg #[.int .u8 x.ev.kind, .int .u32 x.ev.pick, .int .u64 x.ev.arg]), (8, .pointer (some ⟨b83, 0, none⟩)), (6, .pointer (some ⟨b53, 0, none⟩)), (3, .pointer (some ⟨bs, 0, none⟩)), (4, .bool true), (19, .slice (some ⟨sb43, k044, none⟩) ops.length c), (20, .int .i64 ((ops.length : Nat) : Int)), (21, .int .i64 ((i : Nat) : Int)), (7, .pointer (some ⟨bq, 0, none⟩)), (9, .pointer (some ⟨bl, 0, none⟩)), (139, .bool true), (140, .pointer (some ⟨bl, 0, none⟩)), (143, .int .i64 (((doR s x).1.pos) - 1)), (146, .agg #[.int .u8 x.ev.kind, .int .u32 x.ev.pick, .int .u64 x.ev.arg])]) rfl
              refine ⟨(h252.keepFr hf255 (kcons (by simp) knil)), ?_⟩
              clear h252
              refine dr_batch tabOk tabZ_ok (by repeat (first | exact PF.body | with_reducible apply PF.inB | with_reducible apply PF.next)) [(19, {f := 1}), (20, {})] [8, 6, 3, 4, 19, 20, 21, 7, 9, 148] (T' := [(8, .pointer (some ⟨b83, 0, none⟩)), (6, .pointer (some ⟨b53, 0, none⟩)), (3, .pointer (some ⟨bs, 0, none⟩)), (4, .bool true), (19, .slice (some ⟨sb43, k044, none⟩) ops.length c), (20, .int .i64 ((ops.length : Nat) : Int)), (21, .int .i64 ((i : Nat) : Int)), (7, .pointer (some ⟨bq, 0, none⟩)), (9, .pointer (some ⟨bl, 0, none⟩)), (148, .bool false)]) (φ := EqRun Try.prog 33 (.agg #[.int .u8 x.ev.kind, .int .u32 x.ev.pick, .int .u64 x.ev.arg]) (.agg #[.int .u8 x.ev.kind, .int .u32 x.ev.pick, .int .u64 x.ev.arg]) true ∧ True) (fuel := 0) h254 (by kernel_rfl) rfl (by kernel_rfl) (by kernel_rfl) ⟨trivial, trivial, trivial⟩ ⟨(run33s x.ev), trivial⟩ fun a256 h257 => ?_
              clear h254
              refine wpAnyK_done (by kernel_rfl) ?_ _
              refine hK244 _ _ ?_
              clear hK244
              refine c_false h257 rfl ?_
              refine wp_skip ?_
              refine hK243 _ _ ?_
              clear hK243
              refine nd_start (l := [0, 1, 2, 3]) rfl ?_
              refine nd_batch tabOk tabZ_ok [(0, {}), (1, {k := 0}), (2, {}), (3, {})] [8, 6, 3, 19, 20, 21, 7, 9, 4] (T' := [(8, .pointer (some ⟨b83, 0, none⟩)), (6, .pointer (some ⟨b53, 0, none⟩)), (3, .pointer (some ⟨bs, 0, none⟩)), (19, .slice (some ⟨sb43, k044, none⟩) ops.length c), (20, .int .i64 ((ops.length : Nat) : Int)), (21, .int .i64 ((i : Nat) : Int)), (7, .pointer (some ⟨bq, 0, none⟩)), (9, .pointer (some ⟨bl, 0, none⟩)), (4, .bool (x.kind == 5))]) (φ := (b53 = b53 ∧ Nat.ble (0 + 1) 6 = true) ∧ True) (rest := []) h257 (by kernel_rfl) rfl ⟨⟨rfl, rfl⟩, trivial⟩ fun a258 h259 => ?_
              clear h257
              refine nd_done ?_
              refine hK48 _ _ ?_
              clear hK48
              refine nd_start (l := [0, 1]) rfl ?_
              refine nd_batch tabOk tabZ_ok [(0, {}), (1, {})] [8, 6, 3, 19, 20, 7, 9, 4, 21] (T' := [(8, .pointer (some ⟨b83, 0, none⟩)), (6, .pointer (some ⟨b53, 0, none⟩)), (3, .pointer (some ⟨bs, 0, none⟩)), (19, .slice (some ⟨sb43, k044, none⟩) ops.length c), (20, .int .i64 ((ops.length : Nat) : Int)), (7, .pointer (some ⟨bq, 0, none⟩)), (9, .pointer (some ⟨bl, 0, none⟩)), (4, .bool (x.kind == 5)), (21, .int .i64 (((i : Nat) : Int) + 1))]) (φ := inR .i64 (((i : Nat) : Int) + 1) ∧ True) (rest := []) h259 (by kernel_rfl) rfl ⟨⟨by omega, by omega⟩, trivial⟩ fun a260 h261 => ?_
              clear h259
              refine nd_done ?_
              have h262 := h261.memMono (L' := []) (List.Sublist.cons _ (List.Sublist.cons _ List.Sublist.slnil))
              clear h261
              have h263 := h262.pcSub (ps' := [pSess bs bl d77 ((doR s x).2)]) (List.Sublist.cons_cons _ (List.Sublist.cons _ List.Sublist.slnil))
              clear h262
              exact ⟨(g - 1), by omega, (i + 1), (doR s x).2, d77, (x.kind == 5), by omega, by omega, hwf1, (h263.slotsMono (restr_spec (keep := [3, 4, 19, 20, 21]) rfl))⟩
            ·
              have hb247f : (doR s x).1.code ≠ 0 := by simpa using hb247
              refine dr_start (KB := [b53, b83]) (Bi := [[0, 1], [0, 1], [0, 1], [0, 1], [0, 1], [0, 1], [0, 1], [0, 1], [0, 1], [0, 1], [0, 1], [0, 1], [0, 1], [0, 1], [0, 1], [0, 1], [0], [0, 1], [0, 1], [0, 1], [0, 1]]) mixed hb245s fun w264 h265 => ?_
              clear hb245s
              refine dr_batch tabOk tabZ_ok (by repeat (first | exact PF.body | with_reducible apply PF.inB | with_reducible apply PF.next)) [(0, {}), (1, {}), (2, {}), (3, {k := 0, p := 0}), (4, {f := 2}), (5, {}), (6, {}), (7, {}), (8, {k := 1, p := 1}), (9, {f := 1}), (10, {}), (11, {}), (12, {}), (13, {}), (14, {k := 0, p := 0}), (15, {}), (17, {}), (18, {k := 0, p := 0})] [8, 6, 3, 4, 19, 20, 21, 7, 9, 139, 140, 143, 146] (T' := [(8, .pointer (some ⟨b83, 0, none⟩)), (6, .pointer (some ⟨b53, 0, none⟩)), (3, .pointer (some ⟨bs, 0, none⟩)), (4, .bool true), (19, .slice (some ⟨sb43, k044, none⟩) ops.length c), (20, .int .i64 ((ops.length : Nat) : Int)), (21, .int .i64 ((i : Nat) : Int)), (7, .pointer (some ⟨bq, 0, none⟩)), (9, .pointer (some ⟨bl, 0, none⟩)), (139, .bool false), (140, .tuple #[]), (143, .tuple #[]), (146, .tuple #[])]) (φ := (b53 = b53 ∧ Nat.ble (0 + 1) 6 = true) ∧ ((x.kind == 0)) = true ∧ (b83 = b83 ∧ Nat.ble (0 + 1) 12 = true) ∧ (((doR s x).1.code == 0)) = false ∧ True) (fuel := 3) h265 (by kernel_rfl) rfl (by kernel_rfl) (by kernel_rfl) ⟨trivial, trivial, trivial, rfl, trivial, trivial, trivial, trivial, rfl, trivial, trivial, trivial, trivial, trivial, rfl, trivial, trivial, rfl, trivial⟩ ⟨⟨rfl, rfl⟩, hb246, ⟨rfl, rfl⟩, hb247, trivial⟩ fun a267 h268 => ?_
              clear h265
              refine dr_batch tabOk tabZ_ok (by repeat (first | exact PF.body | with_reducible apply PF.inB | with_reducible apply PF.next)) [(16, {})] [8, 6, 3, 4, 19, 20, 21, 7, 9, 139, 146, 144] (T' := [(8, .pointer (some ⟨b83, 0, none⟩)), (6, .pointer (some ⟨b53, 0, none⟩)), (3, .pointer (some ⟨bs, 0, none⟩)), (4, .bool true), (19, .slice (some ⟨sb43, k044, none⟩) ops.length c), (20, .int .i64 ((ops.length : Nat) : Int)), (21, .int .i64 ((i : Nat) : Int)), (7, .pointer (some ⟨bq, 0, none⟩)), (9, .pointer (some ⟨bl, 0, none⟩)), (139, .bool false), (146, .tuple #[]), (144, .tuple #[])]) (φ := True) (fuel := 2) h268 (by kernel_rfl) rfl (by kernel_rfl) (by kernel_rfl) ⟨trivial, trivial⟩ trivial fun a269 h270 => ?_
              clear h268
              refine dr_batch tabOk tabZ_ok (by repeat (first | exact PF.body | with_reducible apply PF.inB | with_reducible apply PF.next)) [(19, {}), (20, {})] [8, 6, 3, 4, 19, 20, 21, 7, 9, 148] (T' := [(8, .pointer (some ⟨b83, 0, none⟩)), (6, .pointer (some ⟨b53, 0, none⟩)), (3, .pointer (some ⟨bs, 0, none⟩)), (4, .bool true), (19, .slice (some ⟨sb43, k044, none⟩) ops.length c), (20, .int .i64 ((ops.length : Nat) : Int)), (21, .int .i64 ((i : Nat) : Int)), (7, .pointer (some ⟨bq, 0, none⟩)), (9, .pointer (some ⟨bl, 0, none⟩)), (148, .bool false)]) (φ := True) (fuel := 0) h270 (by kernel_rfl) rfl (by kernel_rfl) (by kernel_rfl) ⟨trivial, trivial, trivial⟩ trivial fun a271 h272 => ?_
              clear h270
              refine wpAnyK_done (by kernel_rfl) ?_ _
              refine hK244 _ _ ?_
              clear hK244
              refine c_false h272 rfl ?_
              refine wp_skip ?_
              refine hK243 _ _ ?_
              clear hK243
              refine nd_start (l := [0, 1, 2, 3]) rfl ?_
              refine nd_batch tabOk tabZ_ok [(0, {}), (1, {k := 0}), (2, {}), (3, {})] [8, 6, 3, 19, 20, 21, 7, 9, 4] (T' := [(8, .pointer (some ⟨b83, 0, none⟩)), (6, .pointer (some ⟨b53, 0, none⟩)), (3, .pointer (some ⟨bs, 0, none⟩)), (19, .slice (some ⟨sb43, k044, none⟩) ops.length c), (20, .int .i64 ((ops.length : Nat) : Int)), (21, .int .i64 ((i : Nat) : Int)), (7, .pointer (some ⟨bq, 0, none⟩)), (9, .pointer (some ⟨bl, 0, none⟩)), (4, .bool (x.kind == 5))]) (φ := (b53 = b53 ∧ Nat.ble (0 + 1) 6 = true) ∧ True) (rest := []) h272 (by kernel_rfl) rfl ⟨⟨rfl, rfl⟩, trivial⟩ fun a273 h274 => ?_
              clear h272
              refine nd_done ?_
              refine hK48 _ _ ?_
              clear hK48
              refine nd_start (l := [0, 1]) rfl ?_
              refine nd_batch tabOk tabZ_ok [(0, {}), (1, {})] [8, 6, 3, 19, 20, 7, 9, 4, 21] (T' := [(8, .pointer (some ⟨b83, 0, none⟩)), (6, .pointer (some ⟨b53, 0, none⟩)), (3, .pointer (some ⟨bs, 0, none⟩)), (19, .slice (some ⟨sb43, k044, none⟩) ops.length c), (20, .int .i64 ((ops.length : Nat) : Int)), (7, .pointer (some ⟨bq, 0, none⟩)), (9, .pointer (some ⟨bl, 0, none⟩)), (4, .bool (x.kind == 5)), (21, .int .i64 (((i : Nat) : Int) + 1))]) (φ := inR .i64 (((i : Nat) : Int) + 1) ∧ True) (rest := []) h274 (by kernel_rfl) rfl ⟨⟨by omega, by omega⟩, trivial⟩ fun a275 h276 => ?_
              clear h274
              refine nd_done ?_
              have h277 := h276.memMono (L' := []) (List.Sublist.cons _ (List.Sublist.cons _ List.Sublist.slnil))
              clear h276
              have h278 := h277.pcSub (ps' := [pSess bs bl d77 ((doR s x).2)]) (List.Sublist.cons_cons _ (List.Sublist.cons _ List.Sublist.slnil))
              clear h277
              exact ⟨(g - 1), by omega, (i + 1), (doR s x).2, d77, (x.kind == 5), by omega, by omega, hwf1, (h278.slotsMono (restr_spec (keep := [3, 4, 19, 20, 21]) rfl))⟩
          ·
            have hb246f : x.kind ≠ 0 := by simpa using hb246
            have hk0 : x.kind ≠ 0 := hb246f
            refine dr_start (KB := [b53, b83]) (Bi := [[0, 1], [0, 1], [0, 1], [0, 1], [0, 1], [0, 1], [0, 1], [0, 1], [0, 1], [0, 1], [0, 1], [0, 1], [0, 1], [0, 1], [0, 1], [0, 1], [0], [0, 1], [0, 1], [0, 1], [0, 1]]) mixed hb245s fun w279 h280 => ?_
            clear hb245s
            refine dr_batch tabOk tabZ_ok (by repeat (first | exact PF.body | with_reducible apply PF.inB | with_reducible apply PF.next)) [(0, {}), (1, {}), (2, {}), (3, {k := 0, p := 0}), (4, {f := 1}), (5, {}), (6, {}), (7, {}), (8, {k := 0, p := 0}), (9, {}), (10, {}), (11, {}), (12, {}), (13, {}), (14, {k := 0, p := 0}), (15, {}), (17, {}), (18, {k := 0, p := 0})] [8, 6, 3, 4, 19, 20, 21, 7, 9, 139, 140, 143, 146] (T' := [(8, .pointer (some ⟨b83, 0, none⟩)), (6, .pointer (some ⟨b53, 0, none⟩)), (3, .pointer (some ⟨bs, 0, none⟩)), (4, .bool true), (19, .slice (some ⟨sb43, k044, none⟩) ops.length c), (20, .int .i64 ((ops.length : Nat) : Int)), (21, .int .i64 ((i : Nat) : Int)), (7, .pointer (some ⟨bq, 0, none⟩)), (9, .pointer (some ⟨bl, 0, none⟩)), (139, .bool false), (140, .tuple #[]), (143, .tuple #[]), (146, .tuple #[])]) (φ := (b53 = b53 ∧ Nat.ble (0 + 1) 6 = true) ∧ ((x.kind == 0)) = false ∧ True) (fuel := 3) h280 (by kernel_rfl) rfl (by kernel_rfl) (by kernel_rfl) ⟨trivial, trivial, trivial, rfl, trivial, trivial, trivial, trivial, rfl, trivial, trivial, trivial, trivial, trivial, rfl, trivial, trivial, rfl, trivial⟩ ⟨⟨rfl, rfl⟩, hb246, trivial⟩ fun a282 h283 => ?_
            clear h280
            refine dr_batch tabOk tabZ_ok (by repeat (first | exact PF.body | with_reducible apply PF.inB | with_reducible apply PF.next)) [(16, {})] [8, 6, 3, 4, 19, 20, 21, 7, 9, 139, 146, 144] (T' := [(8, .pointer (some ⟨b83, 0, none⟩)), (6, .pointer (some ⟨b53, 0, none⟩)), (3, .pointer (some ⟨bs, 0, none⟩)), (4, .bool true), (19, .slice (some ⟨sb43, k044, none⟩) ops.length c), (20, .int .i64 ((ops.length : Nat) : Int)), (21, .int .i64 ((i : Nat) : Int)), (7, .pointer (some ⟨bq, 0, none⟩)), (9, .pointer (some ⟨bl, 0, none⟩)), (139, .bool false), (146, .tuple #[]), (144, .tuple #[])]) (φ := True) (fuel := 2) h283 (by kernel_rfl) rfl (by kernel_rfl) (by kernel_rfl) ⟨trivial, trivial⟩ trivial fun a284 h285 => ?_
            clear h283
            refine dr_batch tabOk tabZ_ok (by repeat (first | exact PF.body | with_reducible apply PF.inB | with_reducible apply PF.next)) [(19, {}), (20, {})] [8, 6, 3, 4, 19, 20, 21, 7, 9, 148] (T' := [(8, .pointer (some ⟨b83, 0, none⟩)), (6, .pointer (some ⟨b53, 0, none⟩)), (3, .pointer (some ⟨bs, 0, none⟩)), (4, .bool true), (19, .slice (some ⟨sb43, k044, none⟩) ops.length c), (20, .int .i64 ((ops.length : Nat) : Int)), (21, .int .i64 ((i : Nat) : Int)), (7, .pointer (some ⟨bq, 0, none⟩)), (9, .pointer (some ⟨bl, 0, none⟩)), (148, .bool false)]) (φ := True) (fuel := 0) h285 (by kernel_rfl) rfl (by kernel_rfl) (by kernel_rfl) ⟨trivial, trivial, trivial⟩ trivial fun a286 h287 => ?_
            clear h285
            refine wpAnyK_done (by kernel_rfl) ?_ _
            refine hK244 _ _ ?_
            clear hK244
            refine c_false h287 rfl ?_
            refine wp_skip ?_
            refine hK243 _ _ ?_
            clear hK243
            refine nd_start (l := [0, 1, 2, 3]) rfl ?_
            refine nd_batch tabOk tabZ_ok [(0, {}), (1, {k := 0}), (2, {}), (3, {})] [8, 6, 3, 19, 20, 21, 7, 9, 4] (T' := [(8, .pointer (some ⟨b83, 0, none⟩)), (6, .pointer (some ⟨b53, 0, none⟩)), (3, .pointer (some ⟨bs, 0, none⟩)), (19, .slice (some ⟨sb43, k044, none⟩) ops.length c), (20, .int .i64 ((ops.length : Nat) : Int)), (21, .int .i64 ((i : Nat) : Int)), (7, .pointer (some ⟨bq, 0, none⟩)), (9, .pointer (some ⟨bl, 0, none⟩)), (4, .bool (x.kind == 5))]) (φ := (b53 = b53 ∧ Nat.ble (0 + 1) 6 = true) ∧ True) (rest := []) h287 (by kernel_rfl) rfl ⟨⟨rfl, rfl⟩, trivial⟩ fun a288 h289 => ?_
            clear h287
            refine nd_done ?_
            refine hK48 _ _ ?_
            clear hK48
            refine nd_start (l := [0, 1]) rfl ?_
            refine nd_batch tabOk tabZ_ok [(0, {}), (1, {})] [8, 6, 3, 19, 20, 7, 9, 4, 21] (T' := [(8, .pointer (some ⟨b83, 0, none⟩)), (6, .pointer (some ⟨b53, 0, none⟩)), (3, .pointer (some ⟨bs, 0, none⟩)), (19, .slice (some ⟨sb43, k044, none⟩) ops.length c), (20, .int .i64 ((ops.length : Nat) : Int)), (7, .pointer (some ⟨bq, 0, none⟩)), (9, .pointer (some ⟨bl, 0, none⟩)), (4, .bool (x.kind == 5)), (21, .int .i64 (((i : Nat) : Int) + 1))]) (φ := inR .i64 (((i : Nat) : Int) + 1) ∧ True) (rest := []) h289 (by kernel_rfl) rfl ⟨⟨by omega, by omega⟩, trivial⟩ fun a290 h291 => ?_
            clear h289
            refine nd_done ?_
            have h292 := h291.memMono (L' := []) (List.Sublist.cons _ (List.Sublist.cons _ List.Sublist.slnil))
            clear h291
            have h293 := h292.pcSub (ps' := [pSess bs bl d77 ((doR s x).2)]) (List.Sublist.cons_cons _ (List.Sublist.cons _ List.Sublist.slnil))
            clear h292
            exact ⟨(g - 1), by omega, (i + 1), (doR s x).2, d77, (x.kind == 5), by omega, by omega, hwf1, (h293.slotsMono (restr_spec (keep := [3, 4, 19, 20, 21]) rfl))⟩
        ·
          have hb245s := h102
          rw [hb245] at hb245s
          refine dr_start (KB := [b53, b83]) (Bi := [[0, 1], [0, 1], [0, 1], [0, 1], [0, 1], [0, 1], [0, 1], [0, 1], [0, 1], [0, 1], [0, 1], [0, 1], [0, 1], [0, 1], [0, 1], [0, 1], [0], [0, 1], [0, 1], [0, 1], [0, 1]]) mixed hb245s fun w294 h295 => ?_
          clear hb245s
          refine dr_batch tabOk tabZ_ok (by repeat (first | exact PF.body | with_reducible apply PF.inB | with_reducible apply PF.next)) [(0, {}), (1, {}), (2, {}), (3, {k := 0, p := 0}), (4, {}), (5, {}), (6, {}), (7, {}), (8, {k := 0, p := 0}), (9, {}), (10, {}), (11, {}), (12, {}), (13, {}), (14, {k := 0, p := 0}), (15, {}), (17, {}), (18, {k := 0, p := 0})] [8, 6, 3, 4, 19, 20, 21, 7, 9, 139, 140, 143, 146] (T' := [(8, .pointer (some ⟨b83, 0, none⟩)), (6, .pointer (some ⟨b53, 0, none⟩)), (3, .pointer (some ⟨bs, 0, none⟩)), (4, .bool false), (19, .slice (some ⟨sb43, k044, none⟩) ops.length c), (20, .int .i64 ((ops.length : Nat) : Int)), (21, .int .i64 ((i : Nat) : Int)), (7, .pointer (some ⟨bq, 0, none⟩)), (9, .pointer (some ⟨bl, 0, none⟩)), (139, .bool false), (140, .tuple #[]), (143, .tuple #[]), (146, .tuple #[])]) (φ := True) (fuel := 3) h295 (by kernel_rfl) rfl (by kernel_rfl) (by kernel_rfl) ⟨trivial, trivial, trivial, rfl, trivial, trivial, trivial, trivial, rfl, trivial, trivial, trivial, trivial, trivial, rfl, trivial, trivial, rfl, trivial⟩ trivial fun a297 h298 => ?_
          clear h295
          refine dr_batch tabOk tabZ_ok (by repeat (first | exact PF.body | with_reducible apply PF.inB | with_reducible apply PF.next)) [(16, {})] [8, 6, 3, 4, 19, 20, 21, 7, 9, 139, 146, 144] (T' := [(8, .pointer (some ⟨b83, 0, none⟩)), (6, .pointer (some ⟨b53, 0, none⟩)), (3, .pointer (some ⟨bs, 0, none⟩)), (4, .bool false), (19, .slice (some ⟨sb43, k044, none⟩) ops.length c), (20, .int .i64 ((ops.length : Nat) : Int)), (21, .int .i64 ((i : Nat) : Int)), (7, .pointer (some ⟨bq, 0, none⟩)), (9, .pointer (some ⟨bl, 0, none⟩)), (139, .bool false), (146, .tuple #[]), (144, .tuple #[])]) (φ := True) (fuel := 2) h298 (by kernel_rfl) rfl (by kernel_rfl) (by kernel_rfl) ⟨trivial, trivial⟩ trivial fun a299 h300 => ?_
          clear h298
          refine dr_batch tabOk tabZ_ok (by repeat (first | exact PF.body | with_reducible apply PF.inB | with_reducible apply PF.next)) [(19, {}), (20, {})] [8, 6, 3, 4, 19, 20, 21, 7, 9, 148] (T' := [(8, .pointer (some ⟨b83, 0, none⟩)), (6, .pointer (some ⟨b53, 0, none⟩)), (3, .pointer (some ⟨bs, 0, none⟩)), (4, .bool false), (19, .slice (some ⟨sb43, k044, none⟩) ops.length c), (20, .int .i64 ((ops.length : Nat) : Int)), (21, .int .i64 ((i : Nat) : Int)), (7, .pointer (some ⟨bq, 0, none⟩)), (9, .pointer (some ⟨bl, 0, none⟩)), (148, .bool false)]) (φ := True) (fuel := 0) h300 (by kernel_rfl) rfl (by kernel_rfl) (by kernel_rfl) ⟨trivial, trivial, trivial⟩ trivial fun a301 h302 => ?_
          clear h300
          refine wpAnyK_done (by kernel_rfl) ?_ _
          refine hK244 _ _ ?_
          clear hK244
          refine c_false h302 rfl ?_
          refine wp_skip ?_
          refine hK243 _ _ ?_
          clear hK243
          refine nd_start (l := [0, 1, 2, 3]) rfl ?_
          refine nd_batch tabOk tabZ_ok [(0, {}), (1, {k := 0}), (2, {}), (3, {})] [8, 6, 3, 19, 20, 21, 7, 9, 4] (T' := [(8, .pointer (some ⟨b83, 0, none⟩)), (6, .pointer (some ⟨b53, 0, none⟩)), (3, .pointer (some ⟨bs, 0, none⟩)), (19, .slice (some ⟨sb43, k044, none⟩) ops.length c), (20, .int .i64 ((ops.length : Nat) : Int)), (21, .int .i64 ((i : Nat) : Int)), (7, .pointer (some ⟨bq, 0, none⟩)), (9, .pointer (some ⟨bl, 0, none⟩)), (4, .bool (x.kind == 5))]) (φ := (b53 = b53 ∧ Nat.ble (0 + 1) 6 = true) ∧ True) (rest := []) h302 (by kernel_rfl) rfl ⟨⟨rfl, rfl⟩, trivial⟩ fun a303 h304 => ?_
          clear h302
          refine nd_done ?_
          refine hK48 _ _ ?_
          clear hK48
          refine nd_start (l := [0, 1]) rfl ?_
          refine nd_batch tabOk tabZ_ok [(0, {}), (1, {})] [8, 6, 3, 19, 20, 7, 9, 4, 21] (T' := [(8, .pointer (some ⟨b83, 0, none⟩)), (6, .pointer (some ⟨b53, 0, none⟩)), (3, .pointer (some ⟨bs, 0, none⟩)), (19, .slice (some ⟨sb43, k044, none⟩) ops.length c), (20, .int .i64 ((ops.length : Nat) : Int)), (7, .pointer (some ⟨bq, 0, none⟩)), (9, .pointer (some ⟨bl, 0, none⟩)), (4, .bool (x.kind == 5)), (21, .int .i64 (((i : Nat) : Int) + 1))]) (φ := inR .i64 (((i : Nat) : Int) + 1) ∧ True) (rest := []) h304 (by kernel_rfl) rfl ⟨⟨by omega, by omega⟩, trivial⟩ fun a305 h306 => ?_
          clear h304
          refine nd_done ?_
          have h307 := h306.memMono (L' := []) (List.Sublist.cons _ (List.Sublist.cons _ List.Sublist.slnil))
          clear h306
          have h308 := h307.pcSub (ps' := [pSess bs bl d77 ((doR s x).2)]) (List.Sublist.cons_cons _ (List.Sublist.cons _ List.Sublist.slnil))
          clear h307
          exact ⟨(g - 1), by omega, (i + 1), (doR s x).2, d77, (x.kind == 5), by omega, by omega, hwf1, (h308.slotsMono (restr_spec (keep := [3, 4, 19, 20, 21]) rfl))⟩
    ·
      have hc42f : ¬ ((i : Nat) : Int) < ((ops.length : Nat) : Int) := by simpa using hc42
      refine wp_exit ?_
      refine hK28 _ _ ?_
      clear hK28
      refine wp_seq_k fun K309 hK309 => ?_
      refine nd_start (l := [0]) rfl ?_
      refine nd_batch tabOk tabZ_ok [(0, {})] [3, 4, 19, 20, 21, 2] (T' := [(3, .pointer (some ⟨bs, 0, none⟩)), (4, .bool res), (19, .slice o ops.length c), (20, .int .i64 ((ops.length : Nat) : Int)), (21, .int .i64 ((i : Nat) : Int)), (2, .bool true)]) (φ := True) (rest := []) h40 (by kernel_rfl) rfl trivial fun a310 h311 => ?_
      clear h40
      refine nd_done ?_
      refine hK309 _ _ ?_
      clear hK309
      refine wp_ret ?_
      try simp only [Exit.then, Exit.inBlock]
      try rw [if_pos trivial]
      exact s_ret tabOk tabZ_ok h311 [(.tmp 2, {})] (vs := [.bool true]) (φ := True) rfl (by kernel_rfl) trivial ⟨rfl, h311.frame⟩

end Go.Proofs.Qxb6500919a
