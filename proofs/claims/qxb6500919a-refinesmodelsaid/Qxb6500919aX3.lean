/-
  RefinesModel: the law walked. (Made by program: a symbolic walk that prints its steps.)
-/
import Derived.Test.Qxb6500919aTab
import Derived.Test.Qxb6500919aMq
import Derived.Test.Qxb6500919aXK
import Derived.Test.Qxb6500919aSxJ
import Derived.Test.Qxb6500919aEq2
import Derived.Test.Qxb6500919aW1
import Derived.Test.Qxb6500919aW2
import Derived.Test.Qxb6500919aW4
import Derived.Test.Qxb6500919aWH
import Derived.Test.Qxb6500919aWI
import Derived.Test.Qxb6500919aWJ
import Derived.Test.Qxb6500919aWK
import Derived.Test.Qxb6500919aWO
import Derived.Test.Qxb6500919aWP
namespace Go.Proofs.Qxb6500919a
open Go.Sx Go.Rp
set_option maxRecDepth 100000
set_option maxHeartbeats 4000000
set_option linter.unusedVariables false
set_option linter.unusedSimpArgs false

theorem nextAll_ok {s : Ss} {all : List Ev} {op : Opn} (h : ∀ e ∈ all, e.ok) (he : op.ev.ok) : ∀ e ∈ nextAll s all op, e.ok := by
  unfold nextAll
  repeat' split
  · intro e h1
    rcases List.mem_append.1 h1 with h2 | h2
    · exact h e h2
    · simp at h2; subst h2; exact he
  · exact h
  · exact fun e h1 => h e (List.mem_of_mem_take h1)
  · exact h


theorem law3_ok (o : Option Addr) (c : Nat) (ops : List Opn) (w : World) (hok : ∀ op ∈ ops, op.ok) (hscr : Scr w o ops) (hrg : ∀ op ∈ ops, op.n ≤ 9223372036854775807) : Calls Try.prog 3 #[.slice o ops.length c] w fun e w' => e = .returned (.bool true) ∧ Fr [] w w' := by
  refine enter0 (n := 55) (K := []) (T := [(0, .slice o ops.length c)]) (L := []) (args := [.slice o ops.length c]) Try.func3 rfl rfl rfl rfl knil (by simp) knil ?_
  intro a h
  refine wp_seq_k fun K1 hK1 => ?_
  refine nd_start (l := [0]) rfl ?_
  refine nd_batch tabOk tabZ_ok [(0, {})] [0, 2] (T' := [(0, .slice o ops.length c), (2, .bool false)]) (φ := True) (rest := []) h (by kernel_rfl) rfl trivial fun a2 h3 => ?_
  clear h
  refine nd_done ?_
  refine hK1 _ _ ?_
  clear hK1
  refine wp_seq_k fun K4 hK4 => ?_
  refine wp_seq_k fun K5 hK5 => ?_
  refine nd_start (l := [0, 1, 2]) rfl ?_
  refine nd_batch tabOk tabZ_ok [(0, {})] [0, 2, 9] (T' := [(0, .slice o ops.length c), (2, .bool false), (9, .slice o ops.length c)]) (φ := True) (rest := [1, 2]) h3 (by kernel_rfl) rfl trivial fun a6 h7 => ?_
  clear h3
  refine nd_op ?_
  refine op_call h7 rfl rfl rfl (callOk Try.func9 (by decide) rfl) (args := [.slice o ops.length c]) rfl (small_ok o ops.length c _) ?_
  rintro _ w8 ⟨rfl, hf10⟩
  refine ⟨_, rfl, ?_⟩
  have h9 := (h7.grow hf10).put (d := some 10) (v := .bool (decide (ops.length ≤ 65536))) (T' := [(10, .bool (decide (ops.length ≤ 65536))), (0, .slice o ops.length c), (2, .bool false), (9, .slice o ops.length c)]) rfl
  clear h7
  refine nd_batch tabOk tabZ_ok [(2, {})] [0, 2, 11] (T' := [(0, .slice o ops.length c), (2, .bool false), (11, .bool (!(decide (ops.length ≤ 65536))))]) (φ := True) (rest := []) h9 (by kernel_rfl) rfl trivial fun a11 h12 => ?_
  clear h9
  refine nd_done ?_
  refine hK5 _ _ ?_
  clear hK5
  refine c_split h12 (b := !(decide (ops.length ≤ 65536))) rfl (fun hc13 => ?_) (fun hc13 => ?_)
  ·
    refine wp_seq_k fun K14 hK14 => ?_
    refine nd_start (l := [0]) rfl ?_
    refine nd_batch tabOk tabZ_ok [(0, {})] [0, 2] (T' := [(0, .slice o ops.length c), (2, .bool true)]) (φ := True) (rest := []) h12 (by kernel_rfl) rfl trivial fun a15 h16 => ?_
    clear h12
    refine nd_done ?_
    refine hK14 _ _ ?_
    clear hK14
    refine wp_ret ?_
    try simp only [Exit.then, Exit.inBlock]
    try rw [if_pos trivial]
    exact s_ret tabOk tabZ_ok h16 [(.tmp 2, {})] (vs := [.bool true]) (φ := True) rfl (by kernel_rfl) trivial ⟨rfl, h16.frame⟩
  ·
    have hsm : ops.length ≤ 65536 := by simpa using hc13
    refine wp_skip ?_
    refine hK4 _ _ ?_
    clear hK4
    refine wp_seq_k fun K17 hK17 => ?_
    refine nd_start (l := [0, 1, 2, 3]) rfl ?_
    refine nd_op ?_
    have h18 := h12.slotsMono (T' := [(0, .slice o ops.length c), (2, .bool false)]) (restr_spec (keep := [0, 2]) rfl)
    clear h12
    have h19 := h18.pc0
    clear h18
    refine op_call h19 rfl rfl rfl (callOk Try.func10 (by decide) rfl) (args := []) rfl (new_ok _) ?_
    rintro _ w21 ⟨bs, bl, rfl, hs0, hf20, hn1, hn2⟩
    refine ⟨_, rfl, ?_⟩
    have h22 := (h19.pcAdd (p' := pSess bs bl hd0 ss0) (ps' := [pSess bs bl hd0 ss0]) (pSess_ok hs0) hf20 (fun b hb => by simp [Hd.F, hd0] at hb; rcases hb with rfl | rfl; exact hn1; exact hn2) rfl).put (d := some 12) (v := .pointer (some ⟨bs, 0, none⟩)) (T' := [(12, .pointer (some ⟨bs, 0, none⟩)), (0, .slice o ops.length c), (2, .bool false)]) rfl
    have hszh22 : w.heap.size ≤ _ := h19.frame.size
    clear h19
    refine nd_op ?_
    refine op_call h22 rfl rfl rfl (callOk Try.func11 (by decide) rfl) (args := []) rfl (mnew_ok _) ?_
    rintro _ w24 ⟨bm, bl2, rfl, hm0, hf23, hn3, hn4⟩
    refine ⟨_, rfl, ?_⟩
    have h25 := (h22.pcAdd (p' := pMod bm bl2 hd0 (⟨none, 0, []⟩ : Ah) (mdOf [] ss0)) (ps' := [pSess bs bl hd0 ss0, pMod bm bl2 hd0 (⟨none, 0, []⟩ : Ah) (mdOf [] ss0)]) (pMod_ok hm0) hf23 (fun b hb => by simp [MF, Hd.F, hd0] at hb; rcases hb with rfl | rfl; exact hn3; exact hn4) rfl).put (d := some 13) (v := .pointer (some ⟨bm, 0, none⟩)) (T' := [(13, .pointer (some ⟨bm, 0, none⟩)), (12, .pointer (some ⟨bs, 0, none⟩)), (0, .slice o ops.length c), (2, .bool false)]) rfl
    have hszh25 : w.heap.size ≤ _ := h22.frame.size
    clear h22
    refine nd_batch tabOk tabZ_ok [(2, {}), (3, {})] [0, 2, 3, 4] (T' := [(0, .slice o ops.length c), (2, .bool false), (3, .pointer (some ⟨bs, 0, none⟩)), (4, .pointer (some ⟨bm, 0, none⟩))]) (φ := True) (rest := []) h25 (by kernel_rfl) rfl trivial fun a26 h27 => ?_
    clear h25
    refine nd_done ?_
    refine hK17 _ _ ?_
    clear hK17
    refine wp_seq_k fun K28 hK28 => ?_
    refine wp_seq_k fun K29 hK29 => ?_
    refine nd_start (l := [0, 1, 2]) rfl ?_
    refine nd_batch tabOk tabZ_ok [(0, {}), (1, {}), (2, {})] [0, 2, 3, 4, 14, 15, 16] (T' := [(0, .slice o ops.length c), (2, .bool false), (3, .pointer (some ⟨bs, 0, none⟩)), (4, .pointer (some ⟨bm, 0, none⟩)), (14, .slice o ops.length c), (15, .int .i64 ((ops.length : Nat) : Int)), (16, .int .i64 0)]) (φ := True) (rest := []) h27 (by kernel_rfl) rfl trivial fun a30 h31 => ?_
    clear h27
    refine nd_done ?_
    refine hK29 _ _ ?_
    clear hK29
    refine wp_block ?_
    refine wp_loop_ghost (fun g ga gw => ∃ (i : Nat) (s : Ss) (d : Hd) (all : List Ev) (bl2 : Nat) (d2 : Hd) (a2 : Ah), (i ≤ ops.length) ∧ (g = ops.length - i) ∧ (s.wf (i : Int)) ∧ (Hon all s) ∧ (∀ e ∈ all, e.ok) ∧ St ⟨55, [], w, Pk w.heap.size [pSess bs bl d s, pMod bm bl2 d2 a2 (mdOf all s)], Pf [pSess bs bl d s, pMod bm bl2 d2 a2 (mdOf all s)]⟩ [(3, .pointer (some ⟨bs, 0, none⟩)), (4, .pointer (some ⟨bm, 0, none⟩)), (14, .slice o ops.length c), (15, .int .i64 ((ops.length : Nat) : Int)), (16, .int .i64 ((i : Nat) : Int))] [] ga gw) ops.length ⟨0, ss0, hd0, [], bl2, hd0, (⟨none, 0, []⟩ : Ah), Nat.zero_le _, rfl, ss0_wf, ss0_hon, (fun e he => by cases he), (h31.slotsMono (restr_spec (keep := [3, 4, 14, 15, 16]) rfl))⟩ ?_
    clear h31
    rintro g a32 w33 ⟨i, s, d, all, bl2, d2, a2, hi35, hi36, hi37, hi38, hi39, h34⟩
    have hi := hi35
    have hg := hi36
    have hwf := hi37
    have hon := hi38
    have hev := hi39
    refine wp_seq_k fun K40 hK40 => ?_
    refine nd_start (l := [0]) rfl ?_
    refine nd_batch tabOk tabZ_ok [(0, {})] [3, 4, 14, 15, 16, 17] (T' := [(3, .pointer (some ⟨bs, 0, none⟩)), (4, .pointer (some ⟨bm, 0, none⟩)), (14, .slice o ops.length c), (15, .int .i64 ((ops.length : Nat) : Int)), (16, .int .i64 ((i : Nat) : Int)), (17, .bool (decide (((i : Nat) : Int) < ((ops.length : Nat) : Int))))]) (φ := True) (rest := []) h34 (by kernel_rfl) rfl trivial fun a41 h42 => ?_
    clear h34
    refine nd_done ?_
    refine hK40 _ _ ?_
    clear hK40
    refine wp_seq_k fun K43 hK43 => ?_
    refine c_split h42 (b := decide (((i : Nat) : Int) < ((ops.length : Nat) : Int))) rfl (fun hc44 => ?_) (fun hc44 => ?_)
    ·
      have hc44f : ((i : Nat) : Int) < ((ops.length : Nat) : Int) := by simpa using hc44
      obtain ⟨x, hx⟩ := Sx.get_some (xs := ops) (i := i) (by omega)
      have hxok := hok x (List.mem_of_getElem? hx)
      obtain ⟨sb45, k046, ho47, hb48, hc49⟩ := hscr.get hx
      subst ho47
      have hxn := hrg x (List.mem_of_getElem? hx)
      refine wp_skip ?_
      refine hK43 _ _ ?_
      clear hK43
      refine wp_seq_k fun K50 hK50 => ?_
      refine wp_block ?_
      refine wp_seq_k fun K51 hK51 => ?_
      refine nd_start (l := [0, 1, 2, 3]) rfl ?_
      refine nd_batch tabOk tabZ_ok [(0, {})] [3, 4, 14, 15, 16, 18] (T' := [(3, .pointer (some ⟨bs, 0, none⟩)), (4, .pointer (some ⟨bm, 0, none⟩)), (14, .slice (some ⟨sb45, k046, none⟩) ops.length c), (15, .int .i64 ((ops.length : Nat) : Int)), (16, .int .i64 ((i : Nat) : Int)), (18, .pointer (some ⟨sb45, k046 + (i * 6), none⟩))]) (φ := (0 ≤ ((i : Nat) : Int) ∧ ((i : Nat) : Int) < ((ops.length : Nat) : Int)) ∧ True) (rest := [1, 2, 3]) h42 (by kernel_rfl) rfl ⟨⟨by omega, by omega⟩, trivial⟩ fun a52 h53 => ?_
      clear h42
      refine nd_op ?_
      refine op_loadx tabOk (b := sb45) (k := k046 + (i * 6)) (vs := opC x) h53 rfl rfl rfl rfl rfl rfl rfl (CellsAt.fr (hc49 _ _ hx) h53.frame hb48) ?_
      have h54 := h53.put (d := some 19) (v := .agg #[.int .u8 x.kind, .int .i64 x.n, .int .i64 x.m, .int .u8 x.ev.kind, .int .u32 x.ev.pick, .int .u64 x.ev.arg]) (T' := [(19, .agg #[.int .u8 x.kind, .int .i64 x.n, .int .i64 x.m, .int .u8 x.ev.kind, .int .u32 x.ev.pick, .int .u64 x.ev.arg]), (3, .pointer (some ⟨bs, 0, none⟩)), (4, .pointer (some ⟨bm, 0, none⟩)), (14, .slice (some ⟨sb45, k046, none⟩) ops.length c), (15, .int .i64 ((ops.length : Nat) : Int)), (16, .int .i64 ((i : Nat) : Int)), (18, .pointer (some ⟨sb45, k046 + (i * 6), none⟩))]) rfl
      clear h53
      refine nd_op ?_
      refine op_new tabOk (cells := [.int .u8 0, .int .i64 0, .int .i64 0, .int .u8 0, .int .u32 0, .int .u64 0]) (ty := 35) (ln := none) (L1 := fun b55 => [(b55, ⟨[.int .u8 0, .int .i64 0, .int .i64 0, .int .u8 0, .int .u32 0, .int .u64 0], 35, false⟩)]) h54 rfl rfl rfl rfl (by kernel_rfl) (fun _ => rfl) fun b55 w56 a57 h58 hf59 hn60 => ?_
      clear h54
      refine nd_op ?_
      refine op_store tabOk {k := 0} (L' := [(b55, ⟨[.int .u8 x.kind, .int .i64 x.n, .int .i64 x.m, .int .u8 x.ev.kind, .int .u32 x.ev.pick, .int .u64 x.ev.arg], 35, false⟩)]) (φ := b55 = b55 ∧ Nat.ble (0 + 6) 6 = true) h58 rfl rfl rfl (by kernel_rfl) ⟨rfl, rfl⟩ fun w61 h62 => ?_
      clear h58
      refine nd_done ?_
      refine hK51 _ _ ?_
      clear hK51
      refine wp_seq_k fun K63 hK63 => ?_
      refine wp_seq_k fun K64 hK64 => ?_
      refine dr_start (KB := [b55]) (Bi := [[0], [0], [0], [0], [0], [], [0]]) mixed h62 fun w65 h66 => ?_
      clear h62
      refine dr_batch tabOk tabZ_ok (by repeat (first | with_reducible exact PF.body | with_reducible apply PF.inB | with_reducible apply PF.next)) [(0, {}), (1, {k := 0, p := 0}), (3, {}), (4, {k := 0, p := 0})] [6, 3, 4, 14, 15, 16, 20, 21, 23, 24] (T' := [(6, .pointer (some ⟨b55, 0, none⟩)), (3, .pointer (some ⟨bs, 0, none⟩)), (4, .pointer (some ⟨bm, 0, none⟩)), (14, .slice (some ⟨sb45, k046, none⟩) ops.length c), (15, .int .i64 ((ops.length : Nat) : Int)), (16, .int .i64 ((i : Nat) : Int)), (20, .pointer (some ⟨bs, 0, none⟩)), (21, .agg #[.int .u8 x.kind, .int .i64 x.n, .int .i64 x.m, .int .u8 x.ev.kind, .int .u32 x.ev.pick, .int .u64 x.ev.arg]), (23, .pointer (some ⟨bm, 0, none⟩)), (24, .agg #[.int .u8 x.kind, .int .i64 x.n, .int .i64 x.m, .int .u8 x.ev.kind, .int .u32 x.ev.pick, .int .u64 x.ev.arg])]) (φ := (b55 = b55 ∧ Nat.ble (0 + 6) 6 = true) ∧ (b55 = b55 ∧ Nat.ble (0 + 6) 6 = true) ∧ True) (fuel := 3) h66 (by kernel_rfl) rfl (by kernel_rfl) (by kernel_rfl) ⟨trivial, rfl, trivial, rfl, trivial⟩ ⟨⟨rfl, rfl⟩, ⟨rfl, rfl⟩, trivial⟩ fun a68 h69 => ?_
      clear h66
      refine wpAnyK_one (i := 2) (fuel := 2) (by kernel_rfl) ?_
      refine op_call h69 rfl rfl rfl (callOk Try.func12 (by decide) rfl) (args := [.pointer (some ⟨bs, 0, none⟩), .agg #[.int .u8 x.kind, .int .i64 x.n, .int .i64 x.m, .int .u8 x.ev.kind, .int .u32 x.ev.pick, .int .u64 x.ev.arg]]) rfl (do_ok bs bl d s _ (h69.inv.get (j := 0) (p := pSess bs bl d s) rfl) (B := (i : Int)) (by omega) hwf x hxok) ?_
      rintro _ w74 ⟨d70, rfl, hs71, hf72, hF73⟩
      refine ⟨_, rfl, ?_⟩
      have h75 := (h69.pcSet (j := 0) (p := pSess bs bl d s) (p' := pSess bs bl d70 ((doR s x).2)) (ps' := [pSess bs bl d70 ((doR s x).2), pMod bm bl2 d2 a2 (mdOf all s)]) rfl (pSess_ok hs71) hf72 (fun _ h => h) (sess_sub hF73) (kcons (by intro hq; cases hq) knil) rfl).put (d := some 22) (v := .agg #[.int .u8 ((doR s x).1.code), .int .i64 ((doR s x).1.pos), .int .i64 ((doR s x).1.base), .int .i64 ((doR s x).1.fin), .bool ((doR s x).1.live), .bool ((doR s x).1.out.refused), .int .i8 ((doR s x).1.out.running), .int .u64 ((doR s x).1.out.value), .int .u64 ((doR s x).1.dig), .int .i64 ((doR s x).1.from_), .int .i64 ((doR s x).1.replayed), .int .i64 ((doR s x).1.at_)]) (T' := [(22, .agg #[.int .u8 ((doR s x).1.code), .int .i64 ((doR s x).1.pos), .int .i64 ((doR s x).1.base), .int .i64 ((doR s x).1.fin), .bool ((doR s x).1.live), .bool ((doR s x).1.out.refused), .int .i8 ((doR s x).1.out.running), .int .u64 ((doR s x).1.out.value), .int .u64 ((doR s x).1.dig), .int .i64 ((doR s x).1.from_), .int .i64 ((doR s x).1.replayed), .int .i64 ((doR s x).1.at_)]), (6, .pointer (some ⟨b55, 0, none⟩)), (3, .pointer (some ⟨bs, 0, none⟩)), (4, .pointer (some ⟨bm, 0, none⟩)), (14, .slice (some ⟨sb45, k046, none⟩) ops.length c), (15, .int .i64 ((ops.length : Nat) : Int)), (16, .int .i64 ((i : Nat) : Int)), (20, .pointer (some ⟨bs, 0, none⟩)), (21, .agg #[.int .u8 x.kind, .int .i64 x.n, .int .i64 x.m, .int .u8 x.ev.kind, .int .u32 x.ev.pick, .int .u64 x.ev.arg]), (23, .pointer (some ⟨bm, 0, none⟩)), (24, .agg #[.int .u8 x.kind, .int .i64 x.n, .int .i64 x.m, .int .u8 x.ev.kind, .int .u32 x.ev.pick, .int .u64 x.ev.arg])]) rfl
      have hkh75 := h69.known
      refine ⟨(keepOf hkh75 h75.known (kcons (keepAt (q := 0) (q' := 0) rfl rfl) knil)), ?_⟩
      have hszh75 : w.heap.size ≤ _ := h69.frame.size
      clear h69
      have hwf1 : (doR s x).2.wf ((i + 1 : Nat) : Int) := by have hq := do_wf hwf x hxok.2; rw [show ((i + 1 : Nat) : Int) = (i : Int) + 1 by omega]; exact hq
      have hon1 := do_hon' hwf hon x
      have hev1 : ∀ e ∈ (nextAll s all x), e.ok := nextAll_ok hev hxok.2
      have hfin1 := hon_fin hon1.lg hwf1.lg.b0
      have hfB1 := hwf1.lg.fin
      have hb01 := hwf1.lg.b0
      have hlo1 := hwf1.lo
      have hhi1 := hwf1.hi
      have hl1 := hwf1.lg.len
      have hl2 := hwf1.lg.mlen
      have hl3 := hwf1.lg.slen
      have hcur1 : runF ((nextAll s all x).take (doR s x).2.pos.toNat) (mach0, out0) = ((doR s x).2.m, (doR s x).2.out) := hon1.cur.symm
      have hle1 : (doR s x).2.pos.toNat ≤ (nextAll s all x).length := by omega
      have hlt1 : ((nextAll s all x).take (doR s x).2.pos.toNat).length = (doR s x).2.pos.toNat := by rw [List.length_take]; omega
      refine wpAnyK_one (i := 5) (fuel := 1) (by kernel_rfl) ?_
      refine op_call h75 rfl rfl rfl (callOk Try.func13 (by decide) rfl) (args := [.pointer (some ⟨bm, 0, none⟩), .agg #[.int .u8 x.kind, .int .i64 x.n, .int .i64 x.m, .int .u8 x.ev.kind, .int .u32 x.ev.pick, .int .u64 x.ev.arg]]) rfl (mdo_ok bm bl2 d2 a2 s all _ (h75.inv.get (j := 1) (p := pMod bm bl2 d2 a2 (mdOf all s)) rfl) (B := (i : Int)) (by omega) hwf hon hev x hxok hxn) ?_
      rintro _ w79 ⟨bl3, d3, a3, rfl, hm76, hf77, hF78⟩
      refine ⟨_, rfl, ?_⟩
      have hcap3 : (nextAll s all x).length ≤ a3.c := rl_cap hm76.row
      have h80 := (h75.pcSet (j := 1) (p := pMod bm bl2 d2 a2 (mdOf all s)) (p' := pMod bm bl3 d3 a3 (mdOf (nextAll s all x) (doR s x).2)) (ps' := [pSess bs bl d70 ((doR s x).2), pMod bm bl3 d3 a3 (mdOf (nextAll s all x) (doR s x).2)]) rfl (pMod_ok hm76) hf77 (fun _ h => h) hF78 (kcons (by intro hq; cases hq) knil) rfl).put (d := some 25) (v := .agg #[.int .u8 ((doR s x).1.code), .int .i64 ((doR s x).1.pos), .int .i64 ((doR s x).1.base), .int .i64 ((doR s x).1.fin), .bool ((doR s x).1.live), .bool ((doR s x).1.out.refused), .int .i8 ((doR s x).1.out.running), .int .u64 ((doR s x).1.out.value), .int .u64 ((doR s x).1.dig), .int .i64 ((doR s x).1.from_), .int .i64 ((doR s x).1.replayed), .int .i64 ((doR s x).1.at_)]) (T' := [(25, .agg #[.int .u8 ((doR s x).1.code), .int .i64 ((doR s x).1.pos), .int .i64 ((doR s x).1.base), .int .i64 ((doR s x).1.fin), .bool ((doR s x).1.live), .bool ((doR s x).1.out.refused), .int .i8 ((doR s x).1.out.running), .int .u64 ((doR s x).1.out.value), .int .u64 ((doR s x).1.dig), .int .i64 ((doR s x).1.from_), .int .i64 ((doR s x).1.replayed), .int .i64 ((doR s x).1.at_)]), (22, .agg #[.int .u8 ((doR s x).1.code), .int .i64 ((doR s x).1.pos), .int .i64 ((doR s x).1.base), .int .i64 ((doR s x).1.fin), .bool ((doR s x).1.live), .bool ((doR s x).1.out.refused), .int .i8 ((doR s x).1.out.running), .int .u64 ((doR s x).1.out.value), .int .u64 ((doR s x).1.dig), .int .i64 ((doR s x).1.from_), .int .i64 ((doR s x).1.replayed), .int .i64 ((doR s x).1.at_)]), (6, .pointer (some ⟨b55, 0, none⟩)), (3, .pointer (some ⟨bs, 0, none⟩)), (4, .pointer (some ⟨bm, 0, none⟩)), (14, .slice (some ⟨sb45, k046, none⟩) ops.length c), (15, .int .i64 ((ops.length : Nat) : Int)), (16, .int .i64 ((i : Nat) : Int)), (20, .pointer (some ⟨bs, 0, none⟩)), (21, .agg #[.int .u8 x.kind, .int .i64 x.n, .int .i64 x.m, .int .u8 x.ev.kind, .int .u32 x.ev.pick, .int .u64 x.ev.arg]), (23, .pointer (some ⟨bm, 0, none⟩)), (24, .agg #[.int .u8 x.kind, .int .i64 x.n, .int .i64 x.m, .int .u8 x.ev.kind, .int .u32 x.ev.pick, .int .u64 x.ev.arg])]) rfl
      have hkh80 := h75.known
      refine ⟨keepNil, ?_⟩
      have hszh80 : w.heap.size ≤ _ := h75.frame.size
      clear h75
      refine dr_batch tabOk tabZ_ok (by repeat (first | with_reducible exact PF.body | with_reducible apply PF.inB | with_reducible apply PF.next)) [(6, {f := 1})] [6, 3, 4, 14, 15, 16, 26] (T' := [(6, .pointer (some ⟨b55, 0, none⟩)), (3, .pointer (some ⟨bs, 0, none⟩)), (4, .pointer (some ⟨bm, 0, none⟩)), (14, .slice (some ⟨sb45, k046, none⟩) ops.length c), (15, .int .i64 ((ops.length : Nat) : Int)), (16, .int .i64 ((i : Nat) : Int)), (26, .bool false)]) (φ := EqRun Try.prog 41 (.agg #[.int .u8 ((doR s x).1.code), .int .i64 ((doR s x).1.pos), .int .i64 ((doR s x).1.base), .int .i64 ((doR s x).1.fin), .bool ((doR s x).1.live), .bool ((doR s x).1.out.refused), .int .i8 ((doR s x).1.out.running), .int .u64 ((doR s x).1.out.value), .int .u64 ((doR s x).1.dig), .int .i64 ((doR s x).1.from_), .int .i64 ((doR s x).1.replayed), .int .i64 ((doR s x).1.at_)]) (.agg #[.int .u8 ((doR s x).1.code), .int .i64 ((doR s x).1.pos), .int .i64 ((doR s x).1.base), .int .i64 ((doR s x).1.fin), .bool ((doR s x).1.live), .bool ((doR s x).1.out.refused), .int .i8 ((doR s x).1.out.running), .int .u64 ((doR s x).1.out.value), .int .u64 ((doR s x).1.dig), .int .i64 ((doR s x).1.from_), .int .i64 ((doR s x).1.replayed), .int .i64 ((doR s x).1.at_)]) true ∧ True) (fuel := 0) h80 (by kernel_rfl) rfl (by kernel_rfl) (by kernel_rfl) ⟨trivial, trivial⟩ ⟨(run41s (doR s x).1), trivial⟩ fun a81 h82 => ?_
      clear h80
      refine wpAnyK_done (by kernel_rfl) ?_ _
      refine hK64 _ _ ?_
      clear hK64
      refine c_false h82 rfl ?_
      refine wp_skip ?_
      refine hK63 _ _ ?_
      clear hK63
      refine wp_seq_k fun K83 hK83 => ?_
      have h84 := h82.open_ (b := bm) (cells := modC (.slice a3.o ((nextAll s all x).length) a3.c) (.pointer (some ⟨bl3, 0, none⟩)) (doR s x).2.pos (doR s x).2.live) (ty := 52) (h82.inv.get (j := 1) (p := pMod bm bl3 d3 a3 (mdOf (nextAll s all x) (doR s x).2)) rfl).blk (h82.notinL (by simp [Pf]) (kcons (by intro hq; cases hq) knil))
      clear h82
      refine dr_start (KB := [b55, bm]) (Bi := [[0, 1], [0, 1], [0, 1], [0, 1], [0, 1], [0, 1], [0, 1], [0, 1], [0, 1], [], [0, 1], [0, 1], [0, 1], [0, 1], [0, 1], [], []]) mixed h84 fun w86 h87 => ?_
      clear h84
      refine dr_batch tabOk tabZ_ok (by repeat (first | with_reducible exact PF.body | with_reducible apply PF.inB | with_reducible apply PF.next)) [(0, {}), (1, {}), (2, {}), (3, {k := 1, p := 1}), (4, {}), (5, {}), (6, {}), (7, {k := 1, p := 1}), (8, {})] [6, 3, 4, 14, 15, 16, 36] (T' := [(6, .pointer (some ⟨b55, 0, none⟩)), (3, .pointer (some ⟨bs, 0, none⟩)), (4, .pointer (some ⟨bm, 0, none⟩)), (14, .slice (some ⟨sb45, k046, none⟩) ops.length c), (15, .int .i64 ((ops.length : Nat) : Int)), (16, .int .i64 ((i : Nat) : Int)), (36, .slice a3.o (((doR s x).2.pos).toNat) a3.c)]) (φ := (bm = bm ∧ Nat.ble (0 + 1) 4 = true) ∧ (bm = bm ∧ Nat.ble (2 + 1) 4 = true) ∧ (0 ≤ ((doR s x).2.pos) ∧ ((doR s x).2.pos) ≤ ((a3.c : Nat) : Int)) ∧ True) (fuel := 8) h87 (by kernel_rfl) rfl (by kernel_rfl) (by kernel_rfl) ⟨trivial, trivial, trivial, rfl, trivial, trivial, trivial, rfl, trivial, trivial⟩ ⟨⟨rfl, rfl⟩, ⟨rfl, rfl⟩, ⟨by omega, by omega⟩, trivial⟩ fun a89 h90 => ?_
      clear h87
      refine wpAnyK_three (i := 9) (j := 13) (k := 14) (fuel := 7) (by kernel_rfl) ?_ ?_ ?_
      ·
        refine op_call h90 rfl rfl rfl (callOk Try.func14 (by decide) rfl) (args := [.slice a3.o (((doR s x).2.pos).toNat) a3.c]) rfl ((by have hq := fold_ok ((nextAll s all x).take (doR s x).2.pos.toNat) a3.o a3.c a3.F _ (rws1 (rl_cut (h90.inv.get (j := 1) (p := pMod bm bl3 d3 a3 (mdOf (nextAll s all x) (doR s x).2)) rfl).row evC_len hle1)) (fun e he => hev1 e (List.mem_of_mem_take he)) (by rw [hlt1]; omega); rw [hcur1, hlt1] at hq; exact hq)) ?_
        rintro _ w91 ⟨rfl, hf93⟩
        refine ⟨_, rfl, ?_⟩
        have h92 := (h90.grow hf93).put (d := some 37) (v := .tuple #[.agg #[.int .u64 ((doR s x).2.m.now), .int .i8 ((doR s x).2.m.cur), .int .u8 ((doR s x).2.m.s0), .int .u8 ((doR s x).2.m.s1), .int .u8 ((doR s x).2.m.s2), .int .u8 ((doR s x).2.m.s3), .int .u64 ((doR s x).2.m.r0), .int .u64 ((doR s x).2.m.r1), .int .u64 ((doR s x).2.m.r2), .int .u64 ((doR s x).2.m.r3), .int .u64 ((doR s x).2.m.word)], .agg #[.bool ((doR s x).2.out.refused), .int .i8 ((doR s x).2.out.running), .int .u64 ((doR s x).2.out.value)]]) (T' := [(37, .tuple #[.agg #[.int .u64 ((doR s x).2.m.now), .int .i8 ((doR s x).2.m.cur), .int .u8 ((doR s x).2.m.s0), .int .u8 ((doR s x).2.m.s1), .int .u8 ((doR s x).2.m.s2), .int .u8 ((doR s x).2.m.s3), .int .u64 ((doR s x).2.m.r0), .int .u64 ((doR s x).2.m.r1), .int .u64 ((doR s x).2.m.r2), .int .u64 ((doR s x).2.m.r3), .int .u64 ((doR s x).2.m.word)], .agg #[.bool ((doR s x).2.out.refused), .int .i8 ((doR s x).2.out.running), .int .u64 ((doR s x).2.out.value)]]), (6, .pointer (some ⟨b55, 0, none⟩)), (3, .pointer (some ⟨bs, 0, none⟩)), (4, .pointer (some ⟨bm, 0, none⟩)), (14, .slice (some ⟨sb45, k046, none⟩) ops.length c), (15, .int .i64 ((ops.length : Nat) : Int)), (16, .int .i64 ((i : Nat) : Int)), (36, .slice a3.o (((doR s x).2.pos).toNat) a3.c)]) rfl
        refine ⟨keepNil, ?_⟩
        clear h90
        refine dr_batch tabOk tabZ_ok (by repeat (first | with_reducible exact PF.body | with_reducible apply PF.inB | with_reducible apply PF.next)) [(10, {}), (11, {}), (12, {})] [6, 3, 4, 14, 15, 16, 38, 39] (T' := [(6, .pointer (some ⟨b55, 0, none⟩)), (3, .pointer (some ⟨bs, 0, none⟩)), (4, .pointer (some ⟨bm, 0, none⟩)), (14, .slice (some ⟨sb45, k046, none⟩) ops.length c), (15, .int .i64 ((ops.length : Nat) : Int)), (16, .int .i64 ((i : Nat) : Int)), (38, .agg #[.int .u64 ((doR s x).2.m.now), .int .i8 ((doR s x).2.m.cur), .int .u8 ((doR s x).2.m.s0), .int .u8 ((doR s x).2.m.s1), .int .u8 ((doR s x).2.m.s2), .int .u8 ((doR s x).2.m.s3), .int .u64 ((doR s x).2.m.r0), .int .u64 ((doR s x).2.m.r1), .int .u64 ((doR s x).2.m.r2), .int .u64 ((doR s x).2.m.r3), .int .u64 ((doR s x).2.m.word)]), (39, .agg #[.bool ((doR s x).2.out.refused), .int .i8 ((doR s x).2.out.running), .int .u64 ((doR s x).2.out.value)])]) (φ := True) (fuel := 4) h92 (by kernel_rfl) rfl (by kernel_rfl) (by kernel_rfl) ⟨trivial, trivial, trivial, trivial⟩ trivial fun a94 h95 => ?_
        clear h92
        refine wpAnyK_two (i := 13) (j := 14) (fuel := 3) (by kernel_rfl) ?_ ?_
        ·
          refine op_new tabOk (cells := [.int .u64 0, .int .i8 0, .int .u8 0, .int .u8 0, .int .u8 0, .int .u8 0, .int .u64 0, .int .u64 0, .int .u64 0, .int .u64 0, .int .u64 0]) (ty := 46) (ln := none) (L1 := fun b96 => [(b55, ⟨[.int .u8 x.kind, .int .i64 x.n, .int .i64 x.m, .int .u8 x.ev.kind, .int .u32 x.ev.pick, .int .u64 x.ev.arg], 35, false⟩), (bm, ⟨modC (.slice a3.o ((nextAll s all x).length) a3.c) (.pointer (some ⟨bl3, 0, none⟩)) (doR s x).2.pos (doR s x).2.live, 52, true⟩), (b96, ⟨[.int .u64 0, .int .i8 0, .int .u8 0, .int .u8 0, .int .u8 0, .int .u8 0, .int .u64 0, .int .u64 0, .int .u64 0, .int .u64 0, .int .u64 0], 46, false⟩)]) h95 rfl rfl rfl rfl (by kernel_rfl) (fun _ => rfl) fun b96 w97 a98 h99 hf100 hn101 => ?_
          refine ⟨(h95.keepFr hf100 (kcons (by simp) (kcons (by simp) knil))), ?_⟩
          clear h95
          refine wpAnyK_one (i := 14) (fuel := 2) (by kernel_rfl) ?_
          refine op_new tabOk (cells := [.bool false, .int .i8 0, .int .u64 0]) (ty := 39) (ln := none) (L1 := fun b102 => [(b55, ⟨[.int .u8 x.kind, .int .i64 x.n, .int .i64 x.m, .int .u8 x.ev.kind, .int .u32 x.ev.pick, .int .u64 x.ev.arg], 35, false⟩), (bm, ⟨modC (.slice a3.o ((nextAll s all x).length) a3.c) (.pointer (some ⟨bl3, 0, none⟩)) (doR s x).2.pos (doR s x).2.live, 52, true⟩), (b96, ⟨[.int .u64 0, .int .i8 0, .int .u8 0, .int .u8 0, .int .u8 0, .int .u8 0, .int .u64 0, .int .u64 0, .int .u64 0, .int .u64 0, .int .u64 0], 46, false⟩), (b102, ⟨[.bool false, .int .i8 0, .int .u64 0], 39, false⟩)]) h99 rfl rfl rfl rfl (by kernel_rfl) (fun _ => rfl) fun b102 w103 a104 h105 hf106 hn107 => ?_
          refine ⟨(h99.keepFr hf106 (kcons (by simp) (kcons (by simp) knil))), ?_⟩
          clear h99
          refine wpAnyK_one (i := 15) (fuel := 1) (by kernel_rfl) ?_
          refine op_store tabOk {k := 2} (L' := [(b55, ⟨[.int .u8 x.kind, .int .i64 x.n, .int .i64 x.m, .int .u8 x.ev.kind, .int .u32 x.ev.pick, .int .u64 x.ev.arg], 35, false⟩), (bm, ⟨modC (.slice a3.o ((nextAll s all x).length) a3.c) (.pointer (some ⟨bl3, 0, none⟩)) (doR s x).2.pos (doR s x).2.live, 52, true⟩), (b96, ⟨[.int .u64 ((doR s x).2.m.now), .int .i8 ((doR s x).2.m.cur), .int .u8 ((doR s x).2.m.s0), .int .u8 ((doR s x).2.m.s1), .int .u8 ((doR s x).2.m.s2), .int .u8 ((doR s x).2.m.s3), .int .u64 ((doR s x).2.m.r0), .int .u64 ((doR s x).2.m.r1), .int .u64 ((doR s x).2.m.r2), .int .u64 ((doR s x).2.m.r3), .int .u64 ((doR s x).2.m.word)], 46, false⟩), (b102, ⟨[.bool false, .int .i8 0, .int .u64 0], 39, false⟩)]) (φ := b96 = b96 ∧ Nat.ble (0 + 11) 11 = true) h105 rfl rfl rfl (by kernel_rfl) ⟨rfl, rfl⟩ fun w108 h109 => ?_
          have hkh109 := h105.known
          refine ⟨keepNil, ?_⟩
          clear h105
          refine wpAnyK_one (i := 16) (fuel := 0) (by kernel_rfl) ?_
          refine op_store tabOk {k := 3} (L' := [(b55, ⟨[.int .u8 x.kind, .int .i64 x.n, .int .i64 x.m, .int .u8 x.ev.kind, .int .u32 x.ev.pick, .int .u64 x.ev.arg], 35, false⟩), (bm, ⟨modC (.slice a3.o ((nextAll s all x).length) a3.c) (.pointer (some ⟨bl3, 0, none⟩)) (doR s x).2.pos (doR s x).2.live, 52, true⟩), (b96, ⟨[.int .u64 ((doR s x).2.m.now), .int .i8 ((doR s x).2.m.cur), .int .u8 ((doR s x).2.m.s0), .int .u8 ((doR s x).2.m.s1), .int .u8 ((doR s x).2.m.s2), .int .u8 ((doR s x).2.m.s3), .int .u64 ((doR s x).2.m.r0), .int .u64 ((doR s x).2.m.r1), .int .u64 ((doR s x).2.m.r2), .int .u64 ((doR s x).2.m.r3), .int .u64 ((doR s x).2.m.word)], 46, false⟩), (b102, ⟨[.bool ((doR s x).2.out.refused), .int .i8 ((doR s x).2.out.running), .int .u64 ((doR s x).2.out.value)], 39, false⟩)]) (φ := b102 = b102 ∧ Nat.ble (0 + 3) 3 = true) h109 rfl rfl rfl (by kernel_rfl) ⟨rfl, rfl⟩ fun w110 h111 => ?_
          have hkh111 := h109.known
          refine ⟨keepNil, ?_⟩
          clear h109
          refine wpAnyK_done (by kernel_rfl) ?_ _
          refine hK83 _ _ ?_
          clear hK83
          refine wp_seq_k fun K112 hK112 => ?_
          refine dr_start (KB := [b55, bm, b96, b102]) (Bi := [[0, 1, 2, 3], [2], [0, 1, 2, 3], [0, 1, 2, 3], [0, 1, 2, 3], [0, 1, 2, 3], [1], [0, 1, 2, 3], [0, 1, 2, 3], [0, 1, 2, 3], [0, 1, 2, 3], [], [0, 1, 2, 3], [0, 1, 2, 3]]) mixed h111 fun w113 h114 => ?_
          clear h111
          refine dr_batch tabOk tabZ_ok (by repeat (first | with_reducible exact PF.body | with_reducible apply PF.inB | with_reducible apply PF.next)) [(0, {}), (2, {k := 2, p := 2})] [7, 6, 3, 4, 14, 15, 16, 40, 42] (T' := [(7, .pointer (some ⟨b96, 0, none⟩)), (6, .pointer (some ⟨b55, 0, none⟩)), (3, .pointer (some ⟨bs, 0, none⟩)), (4, .pointer (some ⟨bm, 0, none⟩)), (14, .slice (some ⟨sb45, k046, none⟩) ops.length c), (15, .int .i64 ((ops.length : Nat) : Int)), (16, .int .i64 ((i : Nat) : Int)), (40, .pointer (some ⟨bs, 0, none⟩)), (42, .agg #[.int .u64 ((doR s x).2.m.now), .int .i8 ((doR s x).2.m.cur), .int .u8 ((doR s x).2.m.s0), .int .u8 ((doR s x).2.m.s1), .int .u8 ((doR s x).2.m.s2), .int .u8 ((doR s x).2.m.s3), .int .u64 ((doR s x).2.m.r0), .int .u64 ((doR s x).2.m.r1), .int .u64 ((doR s x).2.m.r2), .int .u64 ((doR s x).2.m.r3), .int .u64 ((doR s x).2.m.word)])]) (φ := (b96 = b96 ∧ Nat.ble (0 + 11) 11 = true) ∧ True) (fuel := 12) h114 (by kernel_rfl) rfl (by kernel_rfl) (by kernel_rfl) ⟨trivial, rfl, trivial⟩ ⟨⟨rfl, rfl⟩, trivial⟩ fun a116 h117 => ?_
          clear h114
          refine wpAnyK_one (i := 1) (fuel := 11) (by kernel_rfl) ?_
          refine op_call h117 rfl rfl rfl (callOk Try.func15 (by decide) rfl) (args := [.pointer (some ⟨bs, 0, none⟩)]) rfl (smach_ok bs _ (doR s x).2.m _ _ _ false _ (h117.inv.get (j := 0) (p := pSess bs bl d70 ((doR s x).2)) rfl).blk) ?_
          rintro _ w118 ⟨rfl, hf120⟩
          refine ⟨_, rfl, ?_⟩
          have h119 := (h117.grow hf120).put (d := some 41) (v := .agg #[.int .u64 ((doR s x).2.m.now), .int .i8 ((doR s x).2.m.cur), .int .u8 ((doR s x).2.m.s0), .int .u8 ((doR s x).2.m.s1), .int .u8 ((doR s x).2.m.s2), .int .u8 ((doR s x).2.m.s3), .int .u64 ((doR s x).2.m.r0), .int .u64 ((doR s x).2.m.r1), .int .u64 ((doR s x).2.m.r2), .int .u64 ((doR s x).2.m.r3), .int .u64 ((doR s x).2.m.word)]) (T' := [(41, .agg #[.int .u64 ((doR s x).2.m.now), .int .i8 ((doR s x).2.m.cur), .int .u8 ((doR s x).2.m.s0), .int .u8 ((doR s x).2.m.s1), .int .u8 ((doR s x).2.m.s2), .int .u8 ((doR s x).2.m.s3), .int .u64 ((doR s x).2.m.r0), .int .u64 ((doR s x).2.m.r1), .int .u64 ((doR s x).2.m.r2), .int .u64 ((doR s x).2.m.r3), .int .u64 ((doR s x).2.m.word)]), (7, .pointer (some ⟨b96, 0, none⟩)), (6, .pointer (some ⟨b55, 0, none⟩)), (3, .pointer (some ⟨bs, 0, none⟩)), (4, .pointer (some ⟨bm, 0, none⟩)), (14, .slice (some ⟨sb45, k046, none⟩) ops.length c), (15, .int .i64 ((ops.length : Nat) : Int)), (16, .int .i64 ((i : Nat) : Int)), (40, .pointer (some ⟨bs, 0, none⟩)), (42, .agg #[.int .u64 ((doR s x).2.m.now), .int .i8 ((doR s x).2.m.cur), .int .u8 ((doR s x).2.m.s0), .int .u8 ((doR s x).2.m.s1), .int .u8 ((doR s x).2.m.s2), .int .u8 ((doR s x).2.m.s3), .int .u64 ((doR s x).2.m.r0), .int .u64 ((doR s x).2.m.r1), .int .u64 ((doR s x).2.m.r2), .int .u64 ((doR s x).2.m.r3), .int .u64 ((doR s x).2.m.word)])]) rfl
          refine ⟨(h117.keepFr hf120 (kcons (by simp) knil)), ?_⟩
          clear h117
          refine dr_batch tabOk tabZ_ok (by repeat (first | with_reducible exact PF.body | with_reducible apply PF.inB | with_reducible apply PF.next)) [(3, {f := 1}), (4, {}), (5, {}), (7, {}), (8, {}), (9, {}), (10, {k := 1, p := 1})] [7, 6, 3, 4, 14, 15, 16, 44, 45, 50] (T' := [(7, .pointer (some ⟨b96, 0, none⟩)), (6, .pointer (some ⟨b55, 0, none⟩)), (3, .pointer (some ⟨bs, 0, none⟩)), (4, .pointer (some ⟨bm, 0, none⟩)), (14, .slice (some ⟨sb45, k046, none⟩) ops.length c), (15, .int .i64 ((ops.length : Nat) : Int)), (16, .int .i64 ((i : Nat) : Int)), (44, .bool false), (45, .pointer (some ⟨bs, 0, none⟩)), (50, .pointer (some ⟨bl3, 0, none⟩))]) (φ := EqRun Try.prog 46 (.agg #[.int .u64 ((doR s x).2.m.now), .int .i8 ((doR s x).2.m.cur), .int .u8 ((doR s x).2.m.s0), .int .u8 ((doR s x).2.m.s1), .int .u8 ((doR s x).2.m.s2), .int .u8 ((doR s x).2.m.s3), .int .u64 ((doR s x).2.m.r0), .int .u64 ((doR s x).2.m.r1), .int .u64 ((doR s x).2.m.r2), .int .u64 ((doR s x).2.m.r3), .int .u64 ((doR s x).2.m.word)]) (.agg #[.int .u64 ((doR s x).2.m.now), .int .i8 ((doR s x).2.m.cur), .int .u8 ((doR s x).2.m.s0), .int .u8 ((doR s x).2.m.s1), .int .u8 ((doR s x).2.m.s2), .int .u8 ((doR s x).2.m.s3), .int .u64 ((doR s x).2.m.r0), .int .u64 ((doR s x).2.m.r1), .int .u64 ((doR s x).2.m.r2), .int .u64 ((doR s x).2.m.r3), .int .u64 ((doR s x).2.m.word)]) true ∧ (bm = bm ∧ Nat.ble (1 + 1) 4 = true) ∧ True) (fuel := 4) h119 (by kernel_rfl) rfl (by kernel_rfl) (by kernel_rfl) ⟨trivial, trivial, trivial, trivial, trivial, trivial, rfl, trivial⟩ ⟨(run46s (doR s x).2.m), ⟨rfl, rfl⟩, trivial⟩ fun a121 h122 => ?_
          clear h119
          refine wpAnyK_one (i := 6) (fuel := 3) (by kernel_rfl) ?_
          refine op_call h122 rfl rfl rfl (callOk Try.func17 (by decide) rfl) (args := [.pointer (some ⟨bs, 0, none⟩)]) rfl (slog_ok bs _ _ _ _ _ false _ (h122.inv.get (j := 0) (p := pSess bs bl d70 ((doR s x).2)) rfl).blk) ?_
          rintro _ w123 ⟨rfl, hf125⟩
          refine ⟨_, rfl, ?_⟩
          have h124 := (h122.grow hf125).put (d := some 46) (v := .pointer (some ⟨bl, 0, none⟩)) (T' := [(46, .pointer (some ⟨bl, 0, none⟩)), (7, .pointer (some ⟨b96, 0, none⟩)), (6, .pointer (some ⟨b55, 0, none⟩)), (3, .pointer (some ⟨bs, 0, none⟩)), (4, .pointer (some ⟨bm, 0, none⟩)), (14, .slice (some ⟨sb45, k046, none⟩) ops.length c), (15, .int .i64 ((ops.length : Nat) : Int)), (16, .int .i64 ((i : Nat) : Int)), (44, .bool false), (45, .pointer (some ⟨bs, 0, none⟩)), (50, .pointer (some ⟨bl3, 0, none⟩))]) rfl
          refine ⟨(h122.keepFr hf125 (kcons (by simp) knil)), ?_⟩
          clear h122
          refine wpAnyK_one (i := 11) (fuel := 2) (by kernel_rfl) ?_
          refine op_call h124 rfl rfl rfl (callOk Try.func16 (by decide) rfl) (args := [.pointer (some ⟨bl, 0, none⟩), .pointer (some ⟨bl3, 0, none⟩)]) rfl (sameLog_ok bl bl3 d70 d3 (doR s x).2.lg _ (h124.inv.get (j := 0) (p := pSess bs bl d70 ((doR s x).2)) rfl).log (h124.inv.get (j := 1) (p := pMod bm bl3 d3 a3 (mdOf (nextAll s all x) (doR s x).2)) rfl).log (fun b hb hq => Pf_nodup h124.inv.nd (i := 0) (j := 1) (x := pSess bs bl d70 ((doR s x).2)) (y := pMod bm bl3 d3 a3 (mdOf (nextAll s all x) (doR s x).2)) rfl rfl (by decide) b (List.mem_cons_of_mem _ hb) (List.mem_cons_of_mem _ (List.mem_append.2 (.inr hq)))) (by omega) (by omega) (by omega)) ?_
          rintro _ w126 ⟨rfl, hf128⟩
          refine ⟨_, rfl, ?_⟩
          have h127 := (h124.grow hf128).put (d := some 51) (v := .bool true) (T' := [(51, .bool true), (46, .pointer (some ⟨bl, 0, none⟩)), (7, .pointer (some ⟨b96, 0, none⟩)), (6, .pointer (some ⟨b55, 0, none⟩)), (3, .pointer (some ⟨bs, 0, none⟩)), (4, .pointer (some ⟨bm, 0, none⟩)), (14, .slice (some ⟨sb45, k046, none⟩) ops.length c), (15, .int .i64 ((ops.length : Nat) : Int)), (16, .int .i64 ((i : Nat) : Int)), (44, .bool false), (45, .pointer (some ⟨bs, 0, none⟩)), (50, .pointer (some ⟨bl3, 0, none⟩))]) rfl
          refine ⟨keepNil, ?_⟩
          clear h124
          refine dr_batch tabOk tabZ_ok (by repeat (first | with_reducible exact PF.body | with_reducible apply PF.inB | with_reducible apply PF.next)) [(12, {}), (13, {})] [7, 6, 3, 4, 14, 15, 16, 53] (T' := [(7, .pointer (some ⟨b96, 0, none⟩)), (6, .pointer (some ⟨b55, 0, none⟩)), (3, .pointer (some ⟨bs, 0, none⟩)), (4, .pointer (some ⟨bm, 0, none⟩)), (14, .slice (some ⟨sb45, k046, none⟩) ops.length c), (15, .int .i64 ((ops.length : Nat) : Int)), (16, .int .i64 ((i : Nat) : Int)), (53, .bool false)]) (φ := True) (fuel := 0) h127 (by kernel_rfl) rfl (by kernel_rfl) (by kernel_rfl) ⟨trivial, trivial, trivial⟩ trivial fun a129 h130 => ?_
          clear h127
          refine wpAnyK_done (by kernel_rfl) ?_ _
          refine hK112 _ _ ?_
          clear hK112
          refine c_false h130 rfl ?_
          refine wp_skip ?_
          refine hK50 _ _ ?_
          clear hK50
          refine nd_start (l := [0, 1]) rfl ?_
          refine nd_batch tabOk tabZ_ok [(0, {}), (1, {})] [7, 6, 3, 4, 14, 15, 16] (T' := [(7, .pointer (some ⟨b96, 0, none⟩)), (6, .pointer (some ⟨b55, 0, none⟩)), (3, .pointer (some ⟨bs, 0, none⟩)), (4, .pointer (some ⟨bm, 0, none⟩)), (14, .slice (some ⟨sb45, k046, none⟩) ops.length c), (15, .int .i64 ((ops.length : Nat) : Int)), (16, .int .i64 (((i : Nat) : Int) + 1))]) (φ := inR .i64 (((i : Nat) : Int) + 1) ∧ True) (rest := []) h130 (by kernel_rfl) rfl ⟨⟨by omega, by omega⟩, trivial⟩ fun a131 h132 => ?_
          clear h130
          refine nd_done ?_
          have h133 := h132.memMono (L' := []) (List.Sublist.cons _ (List.Sublist.cons _ (List.Sublist.cons _ (List.Sublist.cons _ List.Sublist.slnil))))
          clear h132
          exact ⟨(g - 1), by omega, (i + 1), (doR s x).2, d70, (nextAll s all x), bl3, d3, a3, by omega, by omega, hwf1, hon1, hev1, (h133.slotsMono (restr_spec (keep := [3, 4, 14, 15, 16]) rfl))⟩
        ·
          refine op_new tabOk (cells := [.bool false, .int .i8 0, .int .u64 0]) (ty := 39) (ln := none) (L1 := fun b134 => [(b55, ⟨[.int .u8 x.kind, .int .i64 x.n, .int .i64 x.m, .int .u8 x.ev.kind, .int .u32 x.ev.pick, .int .u64 x.ev.arg], 35, false⟩), (bm, ⟨modC (.slice a3.o ((nextAll s all x).length) a3.c) (.pointer (some ⟨bl3, 0, none⟩)) (doR s x).2.pos (doR s x).2.live, 52, true⟩), (b134, ⟨[.bool false, .int .i8 0, .int .u64 0], 39, false⟩)]) h95 rfl rfl rfl rfl (by kernel_rfl) (fun _ => rfl) fun b134 w135 a136 h137 hf138 hn139 => ?_
          refine ⟨(h95.keepFr hf138 (kcons (by simp) (kcons (by simp) knil))), ?_⟩
          clear h95
          refine wpAnyK_one (i := 13) (fuel := 2) (by kernel_rfl) ?_
          refine op_new tabOk (cells := [.int .u64 0, .int .i8 0, .int .u8 0, .int .u8 0, .int .u8 0, .int .u8 0, .int .u64 0, .int .u64 0, .int .u64 0, .int .u64 0, .int .u64 0]) (ty := 46) (ln := none) (L1 := fun b140 => [(b55, ⟨[.int .u8 x.kind, .int .i64 x.n, .int .i64 x.m, .int .u8 x.ev.kind, .int .u32 x.ev.pick, .int .u64 x.ev.arg], 35, false⟩), (bm, ⟨modC (.slice a3.o ((nextAll s all x).length) a3.c) (.pointer (some ⟨bl3, 0, none⟩)) (doR s x).2.pos (doR s x).2.live, 52, true⟩), (b134, ⟨[.bool false, .int .i8 0, .int .u64 0], 39, false⟩), (b140, ⟨[.int .u64 0, .int .i8 0, .int .u8 0, .int .u8 0, .int .u8 0, .int .u8 0, .int .u64 0, .int .u64 0, .int .u64 0, .int .u64 0, .int .u64 0], 46, false⟩)]) h137 rfl rfl rfl rfl (by kernel_rfl) (fun _ => rfl) fun b140 w141 a142 h143 hf144 hn145 => ?_
          refine ⟨(h137.keepFr hf144 (kcons (by simp) (kcons (by simp) knil))), ?_⟩
          clear h137
          refine wpAnyK_one (i := 15) (fuel := 1) (by kernel_rfl) ?_
          refine op_store tabOk {k := 3} (L' := [(b55, ⟨[.int .u8 x.kind, .int .i64 x.n, .int .i64 x.m, .int .u8 x.ev.kind, .int .u32 x.ev.pick, .int .u64 x.ev.arg], 35, false⟩), (bm, ⟨modC (.slice a3.o ((nextAll s all x).length) a3.c) (.pointer (some ⟨bl3, 0, none⟩)) (doR s x).2.pos (doR s x).2.live, 52, true⟩), (b134, ⟨[.bool false, .int .i8 0, .int .u64 0], 39, false⟩), (b140, ⟨[.int .u64 ((doR s x).2.m.now), .int .i8 ((doR s x).2.m.cur), .int .u8 ((doR s x).2.m.s0), .int .u8 ((doR s x).2.m.s1), .int .u8 ((doR s x).2.m.s2), .int .u8 ((doR s x).2.m.s3), .int .u64 ((doR s x).2.m.r0), .int .u64 ((doR s x).2.m.r1), .int .u64 ((doR s x).2.m.r2), .int .u64 ((doR s x).2.m.r3), .int .u64 ((doR s x).2.m.word)], 46, false⟩)]) (φ := b140 = b140 ∧ Nat.ble (0 + 11) 11 = true) h143 rfl rfl rfl (by kernel_rfl) ⟨rfl, rfl⟩ fun w146 h147 => ?_
          have hkh147 := h143.known
          refine ⟨keepNil, ?_⟩
          clear h143
          refine wpAnyK_one (i := 16) (fuel := 0) (by kernel_rfl) ?_
          refine op_store tabOk {k := 2} (L' := [(b55, ⟨[.int .u8 x.kind, .int .i64 x.n, .int .i64 x.m, .int .u8 x.ev.kind, .int .u32 x.ev.pick, .int .u64 x.ev.arg], 35, false⟩), (bm, ⟨modC (.slice a3.o ((nextAll s all x).length) a3.c) (.pointer (some ⟨bl3, 0, none⟩)) (doR s x).2.pos (doR s x).2.live, 52, true⟩), (b134, ⟨[.bool ((doR s x).2.out.refused), .int .i8 ((doR s x).2.out.running), .int .u64 ((doR s x).2.out.value)], 39, false⟩), (b140, ⟨[.int .u64 ((doR s x).2.m.now), .int .i8 ((doR s x).2.m.cur), .int .u8 ((doR s x).2.m.s0), .int .u8 ((doR s x).2.m.s1), .int .u8 ((doR s x).2.m.s2), .int .u8 ((doR s x).2.m.s3), .int .u64 ((doR s x).2.m.r0), .int .u64 ((doR s x).2.m.r1), .int .u64 ((doR s x).2.m.r2), .int .u64 ((doR s x).2.m.r3), .int .u64 ((doR s x).2.m.word)], 46, false⟩)]) (φ := b134 = b134 ∧ Nat.ble (0 + 3) 3 = true) h147 rfl rfl rfl (by kernel_rfl) ⟨rfl, rfl⟩ fun w148 h149 => ?_
          have hkh149 := h147.known
          refine ⟨keepNil, ?_⟩
          clear h147
          refine wpAnyK_done (by kernel_rfl) ?_ _
          refine hK83 _ _ ?_
          clear hK83
          refine wp_seq_k fun K150 hK150 => ?_
          refine dr_start (KB := [b55, bm, b134, b140]) (Bi := [[0, 1, 2, 3], [3], [0, 1, 2, 3], [0, 1, 2, 3], [0, 1, 2, 3], [0, 1, 2, 3], [1], [0, 1, 2, 3], [0, 1, 2, 3], [0, 1, 2, 3], [0, 1, 2, 3], [], [0, 1, 2, 3], [0, 1, 2, 3]]) mixed h149 fun w151 h152 => ?_
          clear h149
          refine dr_batch tabOk tabZ_ok (by repeat (first | with_reducible exact PF.body | with_reducible apply PF.inB | with_reducible apply PF.next)) [(0, {}), (2, {k := 3, p := 3})] [7, 6, 3, 4, 14, 15, 16, 40, 42] (T' := [(7, .pointer (some ⟨b140, 0, none⟩)), (6, .pointer (some ⟨b55, 0, none⟩)), (3, .pointer (some ⟨bs, 0, none⟩)), (4, .pointer (some ⟨bm, 0, none⟩)), (14, .slice (some ⟨sb45, k046, none⟩) ops.length c), (15, .int .i64 ((ops.length : Nat) : Int)), (16, .int .i64 ((i : Nat) : Int)), (40, .pointer (some ⟨bs, 0, none⟩)), (42, .agg #[.int .u64 ((doR s x).2.m.now), .int .i8 ((doR s x).2.m.cur), .int .u8 ((doR s x).2.m.s0), .int .u8 ((doR s x).2.m.s1), .int .u8 ((doR s x).2.m.s2), .int .u8 ((doR s x).2.m.s3), .int .u64 ((doR s x).2.m.r0), .int .u64 ((doR s x).2.m.r1), .int .u64 ((doR s x).2.m.r2), .int .u64 ((doR s x).2.m.r3), .int .u64 ((doR s x).2.m.word)])]) (φ := (b140 = b140 ∧ Nat.ble (0 + 11) 11 = true) ∧ True) (fuel := 12) h152 (by kernel_rfl) rfl (by kernel_rfl) (by kernel_rfl) ⟨trivial, rfl, trivial⟩ ⟨⟨rfl, rfl⟩, trivial⟩ fun a154 h155 => ?_
          clear h152
          refine wpAnyK_one (i := 1) (fuel := 11) (by kernel_rfl) ?_
          refine op_call h155 rfl rfl rfl (callOk Try.func15 (by decide) rfl) (args := [.pointer (some ⟨bs, 0, none⟩)]) rfl (smach_ok bs _ (doR s x).2.m _ _ _ false _ (h155.inv.get (j := 0) (p := pSess bs bl d70 ((doR s x).2)) rfl).blk) ?_
          rintro _ w156 ⟨rfl, hf158⟩
          refine ⟨_, rfl, ?_⟩
          have h157 := (h155.grow hf158).put (d := some 41) (v := .agg #[.int .u64 ((doR s x).2.m.now), .int .i8 ((doR s x).2.m.cur), .int .u8 ((doR s x).2.m.s0), .int .u8 ((doR s x).2.m.s1), .int .u8 ((doR s x).2.m.s2), .int .u8 ((doR s x).2.m.s3), .int .u64 ((doR s x).2.m.r0), .int .u64 ((doR s x).2.m.r1), .int .u64 ((doR s x).2.m.r2), .int .u64 ((doR s x).2.m.r3), .int .u64 ((doR s x).2.m.word)]) (T' := [(41, .agg #[.int .u64 ((doR s x).2.m.now), .int .i8 ((doR s x).2.m.cur), .int .u8 ((doR s x).2.m.s0), .int .u8 ((doR s x).2.m.s1), .int .u8 ((doR s x).2.m.s2), .int .u8 ((doR s x).2.m.s3), .int .u64 ((doR s x).2.m.r0), .int .u64 ((doR s x).2.m.r1), .int .u64 ((doR s x).2.m.r2), .int .u64 ((doR s x).2.m.r3), .int .u64 ((doR s x).2.m.word)]), (7, .pointer (some ⟨b140, 0, none⟩)), (6, .pointer (some ⟨b55, 0, none⟩)), (3, .pointer (some ⟨bs, 0, none⟩)), (4, .pointer (some ⟨bm, 0, none⟩)), (14, .slice (some ⟨sb45, k046, none⟩) ops.length c), (15, .int .i64 ((ops.length : Nat) : Int)), (16, .int .i64 ((i : Nat) : Int)), (40, .pointer (some ⟨bs, 0, none⟩)), (42, .agg #[.int .u64 ((doR s x).2.m.now), .int .i8 ((doR s x).2.m.cur), .int .u8 ((doR s x).2.m.s0), .int .u8 ((doR s x).2.m.s1), .int .u8 ((doR s x).2.m.s2), .int .u8 ((doR s x).2.m.s3), .int .u64 ((doR s x).2.m.r0), .int .u64 ((doR s x).2.m.r1), .int .u64 ((doR s x).2.m.r2), .int .u64 ((doR s x).2.m.r3), .int .u64 ((doR s x).2.m.word)])]) rfl
          refine ⟨(h155.keepFr hf158 (kcons (by simp) knil)), ?_⟩
          clear h155
          refine dr_batch tabOk tabZ_ok (by repeat (first | with_reducible exact PF.body | with_reducible apply PF.inB | with_reducible apply PF.next)) [(3, {f := 1}), (4, {}), (5, {}), (7, {}), (8, {}), (9, {}), (10, {k := 1, p := 1})] [7, 6, 3, 4, 14, 15, 16, 44, 45, 50] (T' := [(7, .pointer (some ⟨b140, 0, none⟩)), (6, .pointer (some ⟨b55, 0, none⟩)), (3, .pointer (some ⟨bs, 0, none⟩)), (4, .pointer (some ⟨bm, 0, none⟩)), (14, .slice (some ⟨sb45, k046, none⟩) ops.length c), (15, .int .i64 ((ops.length : Nat) : Int)), (16, .int .i64 ((i : Nat) : Int)), (44, .bool false), (45, .pointer (some ⟨bs, 0, none⟩)), (50, .pointer (some ⟨bl3, 0, none⟩))]) (φ := EqRun Try.prog 46 (.agg #[.int .u64 ((doR s x).2.m.now), .int .i8 ((doR s x).2.m.cur), .int .u8 ((doR s x).2.m.s0), .int .u8 ((doR s x).2.m.s1), .int .u8 ((doR s x).2.m.s2), .int .u8 ((doR s x).2.m.s3), .int .u64 ((doR s x).2.m.r0), .int .u64 ((doR s x).2.m.r1), .int .u64 ((doR s x).2.m.r2), .int .u64 ((doR s x).2.m.r3), .int .u64 ((doR s x).2.m.word)]) (.agg #[.int .u64 ((doR s x).2.m.now), .int .i8 ((doR s x).2.m.cur), .int .u8 ((doR s x).2.m.s0), .int .u8 ((doR s x).2.m.s1), .int .u8 ((doR s x).2.m.s2), .int .u8 ((doR s x).2.m.s3), .int .u64 ((doR s x).2.m.r0), .int .u64 ((doR s x).2.m.r1), .int .u64 ((doR s x).2.m.r2), .int .u64 ((doR s x).2.m.r3), .int .u64 ((doR s x).2.m.word)]) true ∧ (bm = bm ∧ Nat.ble (1 + 1) 4 = true) ∧ True) (fuel := 4) h157 (by kernel_rfl) rfl (by kernel_rfl) (by kernel_rfl) ⟨trivial, trivial, trivial, trivial, trivial, trivial, rfl, trivial⟩ ⟨(run46s (doR s x).2.m), ⟨rfl, rfl⟩, trivial⟩ fun a159 h160 => ?_
          clear h157
          refine wpAnyK_one (i := 6) (fuel := 3) (by kernel_rfl) ?_
          refine op_call h160 rfl rfl rfl (callOk Try.func17 (by decide) rfl) (args := [.pointer (some ⟨bs, 0, none⟩)]) rfl (slog_ok bs _ _ _ _ _ false _ (h160.inv.get (j := 0) (p := pSess bs bl d70 ((doR s x).2)) rfl).blk) ?_
          rintro _ w161 ⟨rfl, hf163⟩
          refine ⟨_, rfl, ?_⟩
          have h162 := (h160.grow hf163).put (d := some 46) (v := .pointer (some ⟨bl, 0, none⟩)) (T' := [(46, .pointer (some ⟨bl, 0, none⟩)), (7, .pointer (some ⟨b140, 0, none⟩)), (6, .pointer (some ⟨b55, 0, none⟩)), (3, .pointer (some ⟨bs, 0, none⟩)), (4, .pointer (some ⟨bm, 0, none⟩)), (14, .slice (some ⟨sb45, k046, none⟩) ops.length c), (15, .int .i64 ((ops.length : Nat) : Int)), (16, .int .i64 ((i : Nat) : Int)), (44, .bool false), (45, .pointer (some ⟨bs, 0, none⟩)), (50, .pointer (some ⟨bl3, 0, none⟩))]) rfl
          refine ⟨(h160.keepFr hf163 (kcons (by simp) knil)), ?_⟩
          clear h160
          refine wpAnyK_one (i := 11) (fuel := 2) (by kernel_rfl) ?_
          refine op_call h162 rfl rfl rfl (callOk Try.func16 (by decide) rfl) (args := [.pointer (some ⟨bl, 0, none⟩), .pointer (some ⟨bl3, 0, none⟩)]) rfl (sameLog_ok bl bl3 d70 d3 (doR s x).2.lg _ (h162.inv.get (j := 0) (p := pSess bs bl d70 ((doR s x).2)) rfl).log (h162.inv.get (j := 1) (p := pMod bm bl3 d3 a3 (mdOf (nextAll s all x) (doR s x).2)) rfl).log (fun b hb hq => Pf_nodup h162.inv.nd (i := 0) (j := 1) (x := pSess bs bl d70 ((doR s x).2)) (y := pMod bm bl3 d3 a3 (mdOf (nextAll s all x) (doR s x).2)) rfl rfl (by decide) b (List.mem_cons_of_mem _ hb) (List.mem_cons_of_mem _ (List.mem_append.2 (.inr hq)))) (by omega) (by omega) (by omega)) ?_
          rintro _ w164 ⟨rfl, hf166⟩
          refine ⟨_, rfl, ?_⟩
          have h165 := (h162.grow hf166).put (d := some 51) (v := .bool true) (T' := [(51, .bool true), (46, .pointer (some ⟨bl, 0, none⟩)), (7, .pointer (some ⟨b140, 0, none⟩)), (6, .pointer (some ⟨b55, 0, none⟩)), (3, .pointer (some ⟨bs, 0, none⟩)), (4, .pointer (some ⟨bm, 0, none⟩)), (14, .slice (some ⟨sb45, k046, none⟩) ops.length c), (15, .int .i64 ((ops.length : Nat) : Int)), (16, .int .i64 ((i : Nat) : Int)), (44, .bool false), (45, .pointer (some ⟨bs, 0, none⟩)), (50, .pointer (some ⟨bl3, 0, none⟩))]) rfl
          refine ⟨keepNil, ?_⟩
          clear h162
          refine dr_batch tabOk tabZ_ok (by repeat (first | with_reducible exact PF.body | with_reducible apply PF.inB | with_reducible apply PF.next)) [(12, {}), (13, {})] [7, 6, 3, 4, 14, 15, 16, 53] (T' := [(7, .pointer (some ⟨b140, 0, none⟩)), (6, .pointer (some ⟨b55, 0, none⟩)), (3, .pointer (some ⟨bs, 0, none⟩)), (4, .pointer (some ⟨bm, 0, none⟩)), (14, .slice (some ⟨sb45, k046, none⟩) ops.length c), (15, .int .i64 ((ops.length : Nat) : Int)), (16, .int .i64 ((i : Nat) : Int)), (53, .bool false)]) (φ := True) (fuel := 0) h165 (by kernel_rfl) rfl (by kernel_rfl) (by kernel_rfl) ⟨trivial, trivial, trivial⟩ trivial fun a167 h168 => ?_
          clear h165
          refine wpAnyK_done (by kernel_rfl) ?_ _
          refine hK150 _ _ ?_
          clear hK150
          refine c_false h168 rfl ?_
          refine wp_skip ?_
          refine hK50 _ _ ?_
          clear hK50
          refine nd_start (l := [0, 1]) rfl ?_
          refine nd_batch tabOk tabZ_ok [(0, {}), (1, {})] [7, 6, 3, 4, 14, 15, 16] (T' := [(7, .pointer (some ⟨b140, 0, none⟩)), (6, .pointer (some ⟨b55, 0, none⟩)), (3, .pointer (some ⟨bs, 0, none⟩)), (4, .pointer (some ⟨bm, 0, none⟩)), (14, .slice (some ⟨sb45, k046, none⟩) ops.length c), (15, .int .i64 ((ops.length : Nat) : Int)), (16, .int .i64 (((i : Nat) : Int) + 1))]) (φ := inR .i64 (((i : Nat) : Int) + 1) ∧ True) (rest := []) h168 (by kernel_rfl) rfl ⟨⟨by omega, by omega⟩, trivial⟩ fun a169 h170 => ?_
          clear h168
          refine nd_done ?_
          have h171 := h170.memMono (L' := []) (List.Sublist.cons _ (List.Sublist.cons _ (List.Sublist.cons _ (List.Sublist.cons _ List.Sublist.slnil))))
          clear h170
          exact ⟨(g - 1), by omega, (i + 1), (doR s x).2, d70, (nextAll s all x), bl3, d3, a3, by omega, by omega, hwf1, hon1, hev1, (h171.slotsMono (restr_spec (keep := [3, 4, 14, 15, 16]) rfl))⟩
      ·
        refine op_new tabOk (cells := [.int .u64 0, .int .i8 0, .int .u8 0, .int .u8 0, .int .u8 0, .int .u8 0, .int .u64 0, .int .u64 0, .int .u64 0, .int .u64 0, .int .u64 0]) (ty := 46) (ln := none) (L1 := fun b172 => [(b55, ⟨[.int .u8 x.kind, .int .i64 x.n, .int .i64 x.m, .int .u8 x.ev.kind, .int .u32 x.ev.pick, .int .u64 x.ev.arg], 35, false⟩), (bm, ⟨modC (.slice a3.o ((nextAll s all x).length) a3.c) (.pointer (some ⟨bl3, 0, none⟩)) (doR s x).2.pos (doR s x).2.live, 52, true⟩), (b172, ⟨[.int .u64 0, .int .i8 0, .int .u8 0, .int .u8 0, .int .u8 0, .int .u8 0, .int .u64 0, .int .u64 0, .int .u64 0, .int .u64 0, .int .u64 0], 46, false⟩)]) h90 rfl rfl rfl rfl (by kernel_rfl) (fun _ => rfl) fun b172 w173 a174 h175 hf176 hn177 => ?_
        refine ⟨(h90.keepFr hf176 (kcons (by simp) (kcons (by simp) knil))), ?_⟩
        clear h90
        refine wpAnyK_two (i := 9) (j := 14) (fuel := 6) (by kernel_rfl) ?_ ?_
        ·
          refine op_call h175 rfl rfl rfl (callOk Try.func14 (by decide) rfl) (args := [.slice a3.o (((doR s x).2.pos).toNat) a3.c]) rfl ((by have hq := fold_ok ((nextAll s all x).take (doR s x).2.pos.toNat) a3.o a3.c a3.F _ (rws1 (rl_cut (h175.inv.get (j := 1) (p := pMod bm bl3 d3 a3 (mdOf (nextAll s all x) (doR s x).2)) rfl).row evC_len hle1)) (fun e he => hev1 e (List.mem_of_mem_take he)) (by rw [hlt1]; omega); rw [hcur1, hlt1] at hq; exact hq)) ?_
          rintro _ w178 ⟨rfl, hf180⟩
          refine ⟨_, rfl, ?_⟩
          have h179 := (h175.grow hf180).put (d := some 37) (v := .tuple #[.agg #[.int .u64 ((doR s x).2.m.now), .int .i8 ((doR s x).2.m.cur), .int .u8 ((doR s x).2.m.s0), .int .u8 ((doR s x).2.m.s1), .int .u8 ((doR s x).2.m.s2), .int .u8 ((doR s x).2.m.s3), .int .u64 ((doR s x).2.m.r0), .int .u64 ((doR s x).2.m.r1), .int .u64 ((doR s x).2.m.r2), .int .u64 ((doR s x).2.m.r3), .int .u64 ((doR s x).2.m.word)], .agg #[.bool ((doR s x).2.out.refused), .int .i8 ((doR s x).2.out.running), .int .u64 ((doR s x).2.out.value)]]) (T' := [(37, .tuple #[.agg #[.int .u64 ((doR s x).2.m.now), .int .i8 ((doR s x).2.m.cur), .int .u8 ((doR s x).2.m.s0), .int .u8 ((doR s x).2.m.s1), .int .u8 ((doR s x).2.m.s2), .int .u8 ((doR s x).2.m.s3), .int .u64 ((doR s x).2.m.r0), .int .u64 ((doR s x).2.m.r1), .int .u64 ((doR s x).2.m.r2), .int .u64 ((doR s x).2.m.r3), .int .u64 ((doR s x).2.m.word)], .agg #[.bool ((doR s x).2.out.refused), .int .i8 ((doR s x).2.out.running), .int .u64 ((doR s x).2.out.value)]]), (7, .pointer (some ⟨b172, 0, none⟩)), (6, .pointer (some ⟨b55, 0, none⟩)), (3, .pointer (some ⟨bs, 0, none⟩)), (4, .pointer (some ⟨bm, 0, none⟩)), (14, .slice (some ⟨sb45, k046, none⟩) ops.length c), (15, .int .i64 ((ops.length : Nat) : Int)), (16, .int .i64 ((i : Nat) : Int)), (36, .slice a3.o (((doR s x).2.pos).toNat) a3.c)]) rfl
          refine ⟨keepNil, ?_⟩
          clear h175
          refine dr_batch tabOk tabZ_ok (by repeat (first | with_reducible exact PF.body | with_reducible apply PF.inB | with_reducible apply PF.next)) [(10, {}), (11, {}), (12, {})] [7, 6, 3, 4, 14, 15, 16, 38, 39] (T' := [(7, .pointer (some ⟨b172, 0, none⟩)), (6, .pointer (some ⟨b55, 0, none⟩)), (3, .pointer (some ⟨bs, 0, none⟩)), (4, .pointer (some ⟨bm, 0, none⟩)), (14, .slice (some ⟨sb45, k046, none⟩) ops.length c), (15, .int .i64 ((ops.length : Nat) : Int)), (16, .int .i64 ((i : Nat) : Int)), (38, .agg #[.int .u64 ((doR s x).2.m.now), .int .i8 ((doR s x).2.m.cur), .int .u8 ((doR s x).2.m.s0), .int .u8 ((doR s x).2.m.s1), .int .u8 ((doR s x).2.m.s2), .int .u8 ((doR s x).2.m.s3), .int .u64 ((doR s x).2.m.r0), .int .u64 ((doR s x).2.m.r1), .int .u64 ((doR s x).2.m.r2), .int .u64 ((doR s x).2.m.r3), .int .u64 ((doR s x).2.m.word)]), (39, .agg #[.bool ((doR s x).2.out.refused), .int .i8 ((doR s x).2.out.running), .int .u64 ((doR s x).2.out.value)])]) (φ := True) (fuel := 3) h179 (by kernel_rfl) rfl (by kernel_rfl) (by kernel_rfl) ⟨trivial, trivial, trivial, trivial⟩ trivial fun a181 h182 => ?_
          clear h179
          refine wpAnyK_one (i := 14) (fuel := 2) (by kernel_rfl) ?_
          refine op_new tabOk (cells := [.bool false, .int .i8 0, .int .u64 0]) (ty := 39) (ln := none) (L1 := fun b183 => [(b55, ⟨[.int .u8 x.kind, .int .i64 x.n, .int .i64 x.m, .int .u8 x.ev.kind, .int .u32 x.ev.pick, .int .u64 x.ev.arg], 35, false⟩), (bm, ⟨modC (.slice a3.o ((nextAll s all x).length) a3.c) (.pointer (some ⟨bl3, 0, none⟩)) (doR s x).2.pos (doR s x).2.live, 52, true⟩), (b172, ⟨[.int .u64 0, .int .i8 0, .int .u8 0, .int .u8 0, .int .u8 0, .int .u8 0, .int .u64 0, .int .u64 0, .int .u64 0, .int .u64 0, .int .u64 0], 46, false⟩), (b183, ⟨[.bool false, .int .i8 0, .int .u64 0], 39, false⟩)]) h182 rfl rfl rfl rfl (by kernel_rfl) (fun _ => rfl) fun b183 w184 a185 h186 hf187 hn188 => ?_
          refine ⟨(h182.keepFr hf187 (kcons (by simp) (kcons (by simp) knil))), ?_⟩
          clear h182
          refine wpAnyK_one (i := 15) (fuel := 1) (by kernel_rfl) ?_
          refine op_store tabOk {k := 2} (L' := [(b55, ⟨[.int .u8 x.kind, .int .i64 x.n, .int .i64 x.m, .int .u8 x.ev.kind, .int .u32 x.ev.pick, .int .u64 x.ev.arg], 35, false⟩), (bm, ⟨modC (.slice a3.o ((nextAll s all x).length) a3.c) (.pointer (some ⟨bl3, 0, none⟩)) (doR s x).2.pos (doR s x).2.live, 52, true⟩), (b172, ⟨[.int .u64 ((doR s x).2.m.now), .int .i8 ((doR s x).2.m.cur), .int .u8 ((doR s x).2.m.s0), .int .u8 ((doR s x).2.m.s1), .int .u8 ((doR s x).2.m.s2), .int .u8 ((doR s x).2.m.s3), .int .u64 ((doR s x).2.m.r0), .int .u64 ((doR s x).2.m.r1), .int .u64 ((doR s x).2.m.r2), .int .u64 ((doR s x).2.m.r3), .int .u64 ((doR s x).2.m.word)], 46, false⟩), (b183, ⟨[.bool false, .int .i8 0, .int .u64 0], 39, false⟩)]) (φ := b172 = b172 ∧ Nat.ble (0 + 11) 11 = true) h186 rfl rfl rfl (by kernel_rfl) ⟨rfl, rfl⟩ fun w189 h190 => ?_
          have hkh190 := h186.known
          refine ⟨keepNil, ?_⟩
          clear h186
          refine wpAnyK_one (i := 16) (fuel := 0) (by kernel_rfl) ?_
          refine op_store tabOk {k := 3} (L' := [(b55, ⟨[.int .u8 x.kind, .int .i64 x.n, .int .i64 x.m, .int .u8 x.ev.kind, .int .u32 x.ev.pick, .int .u64 x.ev.arg], 35, false⟩), (bm, ⟨modC (.slice a3.o ((nextAll s all x).length) a3.c) (.pointer (some ⟨bl3, 0, none⟩)) (doR s x).2.pos (doR s x).2.live, 52, true⟩), (b172, ⟨[.int .u64 ((doR s x).2.m.now), .int .i8 ((doR s x).2.m.cur), .int .u8 ((doR s x).2.m.s0), .int .u8 ((doR s x).2.m.s1), .int .u8 ((doR s x).2.m.s2), .int .u8 ((doR s x).2.m.s3), .int .u64 ((doR s x).2.m.r0), .int .u64 ((doR s x).2.m.r1), .int .u64 ((doR s x).2.m.r2), .int .u64 ((doR s x).2.m.r3), .int .u64 ((doR s x).2.m.word)], 46, false⟩), (b183, ⟨[.bool ((doR s x).2.out.refused), .int .i8 ((doR s x).2.out.running), .int .u64 ((doR s x).2.out.value)], 39, false⟩)]) (φ := b183 = b183 ∧ Nat.ble (0 + 3) 3 = true) h190 rfl rfl rfl (by kernel_rfl) ⟨rfl, rfl⟩ fun w191 h192 => ?_
          have hkh192 := h190.known
          refine ⟨keepNil, ?_⟩
          clear h190
          refine wpAnyK_done (by kernel_rfl) ?_ _
          refine hK83 _ _ ?_
          clear hK83
          refine wp_seq_k fun K193 hK193 => ?_
          refine dr_start (KB := [b55, bm, b172, b183]) (Bi := [[0, 1, 2, 3], [2], [0, 1, 2, 3], [0, 1, 2, 3], [0, 1, 2, 3], [0, 1, 2, 3], [1], [0, 1, 2, 3], [0, 1, 2, 3], [0, 1, 2, 3], [0, 1, 2, 3], [], [0, 1, 2, 3], [0, 1, 2, 3]]) mixed h192 fun w194 h195 => ?_
          clear h192
          refine dr_batch tabOk tabZ_ok (by repeat (first | with_reducible exact PF.body | with_reducible apply PF.inB | with_reducible apply PF.next)) [(0, {}), (2, {k := 2, p := 2})] [7, 6, 3, 4, 14, 15, 16, 40, 42] (T' := [(7, .pointer (some ⟨b172, 0, none⟩)), (6, .pointer (some ⟨b55, 0, none⟩)), (3, .pointer (some ⟨bs, 0, none⟩)), (4, .pointer (some ⟨bm, 0, none⟩)), (14, .slice (some ⟨sb45, k046, none⟩) ops.length c), (15, .int .i64 ((ops.length : Nat) : Int)), (16, .int .i64 ((i : Nat) : Int)), (40, .pointer (some ⟨bs, 0, none⟩)), (42, .agg #[.int .u64 ((doR s x).2.m.now), .int .i8 ((doR s x).2.m.cur), .int .u8 ((doR s x).2.m.s0), .int .u8 ((doR s x).2.m.s1), .int .u8 ((doR s x).2.m.s2), .int .u8 ((doR s x).2.m.s3), .int .u64 ((doR s x).2.m.r0), .int .u64 ((doR s x).2.m.r1), .int .u64 ((doR s x).2.m.r2), .int .u64 ((doR s x).2.m.r3), .int .u64 ((doR s x).2.m.word)])]) (φ := (b172 = b172 ∧ Nat.ble (0 + 11) 11 = true) ∧ True) (fuel := 12) h195 (by kernel_rfl) rfl (by kernel_rfl) (by kernel_rfl) ⟨trivial, rfl, trivial⟩ ⟨⟨rfl, rfl⟩, trivial⟩ fun a197 h198 => ?_
          clear h195
          refine wpAnyK_one (i := 1) (fuel := 11) (by kernel_rfl) ?_
          refine op_call h198 rfl rfl rfl (callOk Try.func15 (by decide) rfl) (args := [.pointer (some ⟨bs, 0, none⟩)]) rfl (smach_ok bs _ (doR s x).2.m _ _ _ false _ (h198.inv.get (j := 0) (p := pSess bs bl d70 ((doR s x).2)) rfl).blk) ?_
          rintro _ w199 ⟨rfl, hf201⟩
          refine ⟨_, rfl, ?_⟩
          have h200 := (h198.grow hf201).put (d := some 41) (v := .agg #[.int .u64 ((doR s x).2.m.now), .int .i8 ((doR s x).2.m.cur), .int .u8 ((doR s x).2.m.s0), .int .u8 ((doR s x).2.m.s1), .int .u8 ((doR s x).2.m.s2), .int .u8 ((doR s x).2.m.s3), .int .u64 ((doR s x).2.m.r0), .int .u64 ((doR s x).2.m.r1), .int .u64 ((doR s x).2.m.r2), .int .u64 ((doR s x).2.m.r3), .int .u64 ((doR s x).2.m.word)]) (T' := [(41, .agg #[.int .u64 ((doR s x).2.m.now), .int .i8 ((doR s x).2.m.cur), .int .u8 ((doR s x).2.m.s0), .int .u8 ((doR s x).2.m.s1), .int .u8 ((doR s x).2.m.s2), .int .u8 ((doR s x).2.m.s3), .int .u64 ((doR s x).2.m.r0), .int .u64 ((doR s x).2.m.r1), .int .u64 ((doR s x).2.m.r2), .int .u64 ((doR s x).2.m.r3), .int .u64 ((doR s x).2.m.word)]), (7, .pointer (some ⟨b172, 0, none⟩)), (6, .pointer (some ⟨b55, 0, none⟩)), (3, .pointer (some ⟨bs, 0, none⟩)), (4, .pointer (some ⟨bm, 0, none⟩)), (14, .slice (some ⟨sb45, k046, none⟩) ops.length c), (15, .int .i64 ((ops.length : Nat) : Int)), (16, .int .i64 ((i : Nat) : Int)), (40, .pointer (some ⟨bs, 0, none⟩)), (42, .agg #[.int .u64 ((doR s x).2.m.now), .int .i8 ((doR s x).2.m.cur), .int .u8 ((doR s x).2.m.s0), .int .u8 ((doR s x).2.m.s1), .int .u8 ((doR s x).2.m.s2), .int .u8 ((doR s x).2.m.s3), .int .u64 ((doR s x).2.m.r0), .int .u64 ((doR s x).2.m.r1), .int .u64 ((doR s x).2.m.r2), .int .u64 ((doR s x).2.m.r3), .int .u64 ((doR s x).2.m.word)])]) rfl
          refine ⟨(h198.keepFr hf201 (kcons (by simp) knil)), ?_⟩
          clear h198
          refine dr_batch tabOk tabZ_ok (by repeat (first | with_reducible exact PF.body | with_reducible apply PF.inB | with_reducible apply PF.next)) [(3, {f := 1}), (4, {}), (5, {}), (7, {}), (8, {}), (9, {}), (10, {k := 1, p := 1})] [7, 6, 3, 4, 14, 15, 16, 44, 45, 50] (T' := [(7, .pointer (some ⟨b172, 0, none⟩)), (6, .pointer (some ⟨b55, 0, none⟩)), (3, .pointer (some ⟨bs, 0, none⟩)), (4, .pointer (some ⟨bm, 0, none⟩)), (14, .slice (some ⟨sb45, k046, none⟩) ops.length c), (15, .int .i64 ((ops.length : Nat) : Int)), (16, .int .i64 ((i : Nat) : Int)), (44, .bool false), (45, .pointer (some ⟨bs, 0, none⟩)), (50, .pointer (some ⟨bl3, 0, none⟩))]) (φ := EqRun Try.prog 46 (.agg #[.int .u64 ((doR s x).2.m.now), .int .i8 ((doR s x).2.m.cur), .int .u8 ((doR s x).2.m.s0), .int .u8 ((doR s x).2.m.s1), .int .u8 ((doR s x).2.m.s2), .int .u8 ((doR s x).2.m.s3), .int .u64 ((doR s x).2.m.r0), .int .u64 ((doR s x).2.m.r1), .int .u64 ((doR s x).2.m.r2), .int .u64 ((doR s x).2.m.r3), .int .u64 ((doR s x).2.m.word)]) (.agg #[.int .u64 ((doR s x).2.m.now), .int .i8 ((doR s x).2.m.cur), .int .u8 ((doR s x).2.m.s0), .int .u8 ((doR s x).2.m.s1), .int .u8 ((doR s x).2.m.s2), .int .u8 ((doR s x).2.m.s3), .int .u64 ((doR s x).2.m.r0), .int .u64 ((doR s x).2.m.r1), .int .u64 ((doR s x).2.m.r2), .int .u64 ((doR s x).2.m.r3), .int .u64 ((doR s x).2.m.word)]) true ∧ (bm = bm ∧ Nat.ble (1 + 1) 4 = true) ∧ True) (fuel := 4) h200 (by kernel_rfl) rfl (by kernel_rfl) (by kernel_rfl) ⟨trivial, trivial, trivial, trivial, trivial, trivial, rfl, trivial⟩ ⟨(run46s (doR s x).2.m), ⟨rfl, rfl⟩, trivial⟩ fun a202 h203 => ?_
          clear h200
          refine wpAnyK_one (i := 6) (fuel := 3) (by kernel_rfl) ?_
          refine op_call h203 rfl rfl rfl (callOk Try.func17 (by decide) rfl) (args := [.pointer (some ⟨bs, 0, none⟩)]) rfl (slog_ok bs _ _ _ _ _ false _ (h203.inv.get (j := 0) (p := pSess bs bl d70 ((doR s x).2)) rfl).blk) ?_
          rintro _ w204 ⟨rfl, hf206⟩
          refine ⟨_, rfl, ?_⟩
          have h205 := (h203.grow hf206).put (d := some 46) (v := .pointer (some ⟨bl, 0, none⟩)) (T' := [(46, .pointer (some ⟨bl, 0, none⟩)), (7, .pointer (some ⟨b172, 0, none⟩)), (6, .pointer (some ⟨b55, 0, none⟩)), (3, .pointer (some ⟨bs, 0, none⟩)), (4, .pointer (some ⟨bm, 0, none⟩)), (14, .slice (some ⟨sb45, k046, none⟩) ops.length c), (15, .int .i64 ((ops.length : Nat) : Int)), (16, .int .i64 ((i : Nat) : Int)), (44, .bool false), (45, .pointer (some ⟨bs, 0, none⟩)), (50, .pointer (some ⟨bl3, 0, none⟩))]) rfl
          refine ⟨(h203.keepFr hf206 (kcons (by simp) knil)), ?_⟩
          clear h203
          refine wpAnyK_one (i := 11) (fuel := 2) (by kernel_rfl) ?_
          refine op_call h205 rfl rfl rfl (callOk Try.func16 (by decide) rfl) (args := [.pointer (some ⟨bl, 0, none⟩), .pointer (some ⟨bl3, 0, none⟩)]) rfl (sameLog_ok bl bl3 d70 d3 (doR s x).2.lg _ (h205.inv.get (j := 0) (p := pSess bs bl d70 ((doR s x).2)) rfl).log (h205.inv.get (j := 1) (p := pMod bm bl3 d3 a3 (mdOf (nextAll s all x) (doR s x).2)) rfl).log (fun b hb hq => Pf_nodup h205.inv.nd (i := 0) (j := 1) (x := pSess bs bl d70 ((doR s x).2)) (y := pMod bm bl3 d3 a3 (mdOf (nextAll s all x) (doR s x).2)) rfl rfl (by decide) b (List.mem_cons_of_mem _ hb) (List.mem_cons_of_mem _ (List.mem_append.2 (.inr hq)))) (by omega) (by omega) (by omega)) ?_
          rintro _ w207 ⟨rfl, hf209⟩
          refine ⟨_, rfl, ?_⟩
          have h208 := (h205.grow hf209).put (d := some 51) (v := .bool true) (T' := [(51, .bool true), (46, .pointer (some ⟨bl, 0, none⟩)), (7, .pointer (some ⟨b172, 0, none⟩)), (6, .pointer (some ⟨b55, 0, none⟩)), (3, .pointer (some ⟨bs, 0, none⟩)), (4, .pointer (some ⟨bm, 0, none⟩)), (14, .slice (some ⟨sb45, k046, none⟩) ops.length c), (15, .int .i64 ((ops.length : Nat) : Int)), (16, .int .i64 ((i : Nat) : Int)), (44, .bool false), (45, .pointer (some ⟨bs, 0, none⟩)), (50, .pointer (some ⟨bl3, 0, none⟩))]) rfl
          refine ⟨keepNil, ?_⟩
          clear h205
          refine dr_batch tabOk tabZ_ok (by repeat (first | with_reducible exact PF.body | with_reducible apply PF.inB | with_reducible apply PF.next)) [(12, {}), (13, {})] [7, 6, 3, 4, 14, 15, 16, 53] (T' := [(7, .pointer (some ⟨b172, 0, none⟩)), (6, .pointer (some ⟨b55, 0, none⟩)), (3, .pointer (some ⟨bs, 0, none⟩)), (4, .pointer (some ⟨bm, 0, none⟩)), (14, .slice (some ⟨sb45, k046, none⟩) ops.length c), (15, .int .i64 ((ops.length : Nat) : Int)), (16, .int .i64 ((i : Nat) : Int)), (53, .bool false)]) (φ := True) (fuel := 0) h208 (by kernel_rfl) rfl (by kernel_rfl) (by kernel_rfl) ⟨trivial, trivial, trivial⟩ trivial fun a210 h211 => ?_
          clear h208
          refine wpAnyK_done (by kernel_rfl) ?_ _
          refine hK193 _ _ ?_
          clear hK193
          refine c_false h211 rfl ?_
          refine wp_skip ?_
          refine hK50 _ _ ?_
          clear hK50
          refine nd_start (l := [0, 1]) rfl ?_
          refine nd_batch tabOk tabZ_ok [(0, {}), (1, {})] [7, 6, 3, 4, 14, 15, 16] (T' := [(7, .pointer (some ⟨b172, 0, none⟩)), (6, .pointer (some ⟨b55, 0, none⟩)), (3, .pointer (some ⟨bs, 0, none⟩)), (4, .pointer (some ⟨bm, 0, none⟩)), (14, .slice (some ⟨sb45, k046, none⟩) ops.length c), (15, .int .i64 ((ops.length : Nat) : Int)), (16, .int .i64 (((i : Nat) : Int) + 1))]) (φ := inR .i64 (((i : Nat) : Int) + 1) ∧ True) (rest := []) h211 (by kernel_rfl) rfl ⟨⟨by omega, by omega⟩, trivial⟩ fun a212 h213 => ?_
          clear h211
          refine nd_done ?_
          have h214 := h213.memMono (L' := []) (List.Sublist.cons _ (List.Sublist.cons _ (List.Sublist.cons _ (List.Sublist.cons _ List.Sublist.slnil))))
          clear h213
          exact ⟨(g - 1), by omega, (i + 1), (doR s x).2, d70, (nextAll s all x), bl3, d3, a3, by omega, by omega, hwf1, hon1, hev1, (h214.slotsMono (restr_spec (keep := [3, 4, 14, 15, 16]) rfl))⟩
        ·
          refine op_new tabOk (cells := [.bool false, .int .i8 0, .int .u64 0]) (ty := 39) (ln := none) (L1 := fun b215 => [(b55, ⟨[.int .u8 x.kind, .int .i64 x.n, .int .i64 x.m, .int .u8 x.ev.kind, .int .u32 x.ev.pick, .int .u64 x.ev.arg], 35, false⟩), (bm, ⟨modC (.slice a3.o ((nextAll s all x).length) a3.c) (.pointer (some ⟨bl3, 0, none⟩)) (doR s x).2.pos (doR s x).2.live, 52, true⟩), (b172, ⟨[.int .u64 0, .int .i8 0, .int .u8 0, .int .u8 0, .int .u8 0, .int .u8 0, .int .u64 0, .int .u64 0, .int .u64 0, .int .u64 0, .int .u64 0], 46, false⟩), (b215, ⟨[.bool false, .int .i8 0, .int .u64 0], 39, false⟩)]) h175 rfl rfl rfl rfl (by kernel_rfl) (fun _ => rfl) fun b215 w216 a217 h218 hf219 hn220 => ?_
          refine ⟨(h175.keepFr hf219 (kcons (by simp) (kcons (by simp) knil))), ?_⟩
          clear h175
          refine wpAnyK_one (i := 9) (fuel := 5) (by kernel_rfl) ?_
          refine op_call h218 rfl rfl rfl (callOk Try.func14 (by decide) rfl) (args := [.slice a3.o (((doR s x).2.pos).toNat) a3.c]) rfl ((by have hq := fold_ok ((nextAll s all x).take (doR s x).2.pos.toNat) a3.o a3.c a3.F _ (rws1 (rl_cut (h218.inv.get (j := 1) (p := pMod bm bl3 d3 a3 (mdOf (nextAll s all x) (doR s x).2)) rfl).row evC_len hle1)) (fun e he => hev1 e (List.mem_of_mem_take he)) (by rw [hlt1]; omega); rw [hcur1, hlt1] at hq; exact hq)) ?_
          rintro _ w221 ⟨rfl, hf223⟩
          refine ⟨_, rfl, ?_⟩
          have h222 := (h218.grow hf223).put (d := some 37) (v := .tuple #[.agg #[.int .u64 ((doR s x).2.m.now), .int .i8 ((doR s x).2.m.cur), .int .u8 ((doR s x).2.m.s0), .int .u8 ((doR s x).2.m.s1), .int .u8 ((doR s x).2.m.s2), .int .u8 ((doR s x).2.m.s3), .int .u64 ((doR s x).2.m.r0), .int .u64 ((doR s x).2.m.r1), .int .u64 ((doR s x).2.m.r2), .int .u64 ((doR s x).2.m.r3), .int .u64 ((doR s x).2.m.word)], .agg #[.bool ((doR s x).2.out.refused), .int .i8 ((doR s x).2.out.running), .int .u64 ((doR s x).2.out.value)]]) (T' := [(37, .tuple #[.agg #[.int .u64 ((doR s x).2.m.now), .int .i8 ((doR s x).2.m.cur), .int .u8 ((doR s x).2.m.s0), .int .u8 ((doR s x).2.m.s1), .int .u8 ((doR s x).2.m.s2), .int .u8 ((doR s x).2.m.s3), .int .u64 ((doR s x).2.m.r0), .int .u64 ((doR s x).2.m.r1), .int .u64 ((doR s x).2.m.r2), .int .u64 ((doR s x).2.m.r3), .int .u64 ((doR s x).2.m.word)], .agg #[.bool ((doR s x).2.out.refused), .int .i8 ((doR s x).2.out.running), .int .u64 ((doR s x).2.out.value)]]), (8, .pointer (some ⟨b215, 0, none⟩)), (7, .pointer (some ⟨b172, 0, none⟩)), (6, .pointer (some ⟨b55, 0, none⟩)), (3, .pointer (some ⟨bs, 0, none⟩)), (4, .pointer (some ⟨bm, 0, none⟩)), (14, .slice (some ⟨sb45, k046, none⟩) ops.length c), (15, .int .i64 ((ops.length : Nat) : Int)), (16, .int .i64 ((i : Nat) : Int)), (36, .slice a3.o (((doR s x).2.pos).toNat) a3.c)]) rfl
          refine ⟨keepNil, ?_⟩
          clear h218
          refine dr_batch tabOk tabZ_ok (by repeat (first | with_reducible exact PF.body | with_reducible apply PF.inB | with_reducible apply PF.next)) [(10, {}), (11, {}), (12, {})] [8, 7, 6, 3, 4, 14, 15, 16, 38, 39] (T' := [(8, .pointer (some ⟨b215, 0, none⟩)), (7, .pointer (some ⟨b172, 0, none⟩)), (6, .pointer (some ⟨b55, 0, none⟩)), (3, .pointer (some ⟨bs, 0, none⟩)), (4, .pointer (some ⟨bm, 0, none⟩)), (14, .slice (some ⟨sb45, k046, none⟩) ops.length c), (15, .int .i64 ((ops.length : Nat) : Int)), (16, .int .i64 ((i : Nat) : Int)), (38, .agg #[.int .u64 ((doR s x).2.m.now), .int .i8 ((doR s x).2.m.cur), .int .u8 ((doR s x).2.m.s0), .int .u8 ((doR s x).2.m.s1), .int .u8 ((doR s x).2.m.s2), .int .u8 ((doR s x).2.m.s3), .int .u64 ((doR s x).2.m.r0), .int .u64 ((doR s x).2.m.r1), .int .u64 ((doR s x).2.m.r2), .int .u64 ((doR s x).2.m.r3), .int .u64 ((doR s x).2.m.word)]), (39, .agg #[.bool ((doR s x).2.out.refused), .int .i8 ((doR s x).2.out.running), .int .u64 ((doR s x).2.out.value)])]) (φ := True) (fuel := 2) h222 (by kernel_rfl) rfl (by kernel_rfl) (by kernel_rfl) ⟨trivial, trivial, trivial, trivial⟩ trivial fun a224 h225 => ?_
          clear h222
          refine wpAnyK_one (i := 15) (fuel := 1) (by kernel_rfl) ?_
          refine op_store tabOk {k := 2} (L' := [(b55, ⟨[.int .u8 x.kind, .int .i64 x.n, .int .i64 x.m, .int .u8 x.ev.kind, .int .u32 x.ev.pick, .int .u64 x.ev.arg], 35, false⟩), (bm, ⟨modC (.slice a3.o ((nextAll s all x).length) a3.c) (.pointer (some ⟨bl3, 0, none⟩)) (doR s x).2.pos (doR s x).2.live, 52, true⟩), (b172, ⟨[.int .u64 ((doR s x).2.m.now), .int .i8 ((doR s x).2.m.cur), .int .u8 ((doR s x).2.m.s0), .int .u8 ((doR s x).2.m.s1), .int .u8 ((doR s x).2.m.s2), .int .u8 ((doR s x).2.m.s3), .int .u64 ((doR s x).2.m.r0), .int .u64 ((doR s x).2.m.r1), .int .u64 ((doR s x).2.m.r2), .int .u64 ((doR s x).2.m.r3), .int .u64 ((doR s x).2.m.word)], 46, false⟩), (b215, ⟨[.bool false, .int .i8 0, .int .u64 0], 39, false⟩)]) (φ := b172 = b172 ∧ Nat.ble (0 + 11) 11 = true) h225 rfl rfl rfl (by kernel_rfl) ⟨rfl, rfl⟩ fun w226 h227 => ?_
          have hkh227 := h225.known
          refine ⟨keepNil, ?_⟩
          clear h225
          refine wpAnyK_one (i := 16) (fuel := 0) (by kernel_rfl) ?_
          refine op_store tabOk {k := 3} (L' := [(b55, ⟨[.int .u8 x.kind, .int .i64 x.n, .int .i64 x.m, .int .u8 x.ev.kind, .int .u32 x.ev.pick, .int .u64 x.ev.arg], 35, false⟩), (bm, ⟨modC (.slice a3.o ((nextAll s all x).length) a3.c) (.pointer (some ⟨bl3, 0, none⟩)) (doR s x).2.pos (doR s x).2.live, 52, true⟩), (b172, ⟨[.int .u64 ((doR s x).2.m.now), .int .i8 ((doR s x).2.m.cur), .int .u8 ((doR s x).2.m.s0), .int .u8 ((doR s x).2.m.s1), .int .u8 ((doR s x).2.m.s2), .int .u8 ((doR s x).2.m.s3), .int .u64 ((doR s x).2.m.r0), .int .u64 ((doR s x).2.m.r1), .int .u64 ((doR s x).2.m.r2), .int .u64 ((doR s x).2.m.r3), .int .u64 ((doR s x).2.m.word)], 46, false⟩), (b215, ⟨[.bool ((doR s x).2.out.refused), .int .i8 ((doR s x).2.out.running), .int .u64 ((doR s x).2.out.value)], 39, false⟩)]) (φ := b215 = b215 ∧ Nat.ble (0 + 3) 3 = true) h227 rfl rfl rfl (by kernel_rfl) ⟨rfl, rfl⟩ fun w228 h229 => ?_
          have hkh229 := h227.known
          refine ⟨keepNil, ?_⟩
          clear h227
          refine wpAnyK_done (by kernel_rfl) ?_ _
          refine hK83 _ _ ?_
          clear hK83
          refine wp_seq_k fun K230 hK230 => ?_
          refine dr_start (KB := [b55, bm, b172, b215]) (Bi := [[0, 1, 2, 3], [2], [0, 1, 2, 3], [0, 1, 2, 3], [0, 1, 2, 3], [0, 1, 2, 3], [1], [0, 1, 2, 3], [0, 1, 2, 3], [0, 1, 2, 3], [0, 1, 2, 3], [], [0, 1, 2, 3], [0, 1, 2, 3]]) mixed h229 fun w231 h232 => ?_
          clear h229
          refine dr_batch tabOk tabZ_ok (by repeat (first | with_reducible exact PF.body | with_reducible apply PF.inB | with_reducible apply PF.next)) [(0, {}), (2, {k := 2, p := 2})] [7, 6, 3, 4, 14, 15, 16, 40, 42] (T' := [(7, .pointer (some ⟨b172, 0, none⟩)), (6, .pointer (some ⟨b55, 0, none⟩)), (3, .pointer (some ⟨bs, 0, none⟩)), (4, .pointer (some ⟨bm, 0, none⟩)), (14, .slice (some ⟨sb45, k046, none⟩) ops.length c), (15, .int .i64 ((ops.length : Nat) : Int)), (16, .int .i64 ((i : Nat) : Int)), (40, .pointer (some ⟨bs, 0, none⟩)), (42, .agg #[.int .u64 ((doR s x).2.m.now), .int .i8 ((doR s x).2.m.cur), .int .u8 ((doR s x).2.m.s0), .int .u8 ((doR s x).2.m.s1), .int .u8 ((doR s x).2.m.s2), .int .u8 ((doR s x).2.m.s3), .int .u64 ((doR s x).2.m.r0), .int .u64 ((doR s x).2.m.r1), .int .u64 ((doR s x).2.m.r2), .int .u64 ((doR s x).2.m.r3), .int .u64 ((doR s x).2.m.word)])]) (φ := (b172 = b172 ∧ Nat.ble (0 + 11) 11 = true) ∧ True) (fuel := 12) h232 (by kernel_rfl) rfl (by kernel_rfl) (by kernel_rfl) ⟨trivial, rfl, trivial⟩ ⟨⟨rfl, rfl⟩, trivial⟩ fun a234 h235 => ?_
          clear h232
          refine wpAnyK_one (i := 1) (fuel := 11) (by kernel_rfl) ?_
          refine op_call h235 rfl rfl rfl (callOk Try.func15 (by decide) rfl) (args := [.pointer (some ⟨bs, 0, none⟩)]) rfl (smach_ok bs _ (doR s x).2.m _ _ _ false _ (h235.inv.get (j := 0) (p := pSess bs bl d70 ((doR s x).2)) rfl).blk) ?_
          rintro _ w236 ⟨rfl, hf238⟩
          refine ⟨_, rfl, ?_⟩
          have h237 := (h235.grow hf238).put (d := some 41) (v := .agg #[.int .u64 ((doR s x).2.m.now), .int .i8 ((doR s x).2.m.cur), .int .u8 ((doR s x).2.m.s0), .int .u8 ((doR s x).2.m.s1), .int .u8 ((doR s x).2.m.s2), .int .u8 ((doR s x).2.m.s3), .int .u64 ((doR s x).2.m.r0), .int .u64 ((doR s x).2.m.r1), .int .u64 ((doR s x).2.m.r2), .int .u64 ((doR s x).2.m.r3), .int .u64 ((doR s x).2.m.word)]) (T' := [(41, .agg #[.int .u64 ((doR s x).2.m.now), .int .i8 ((doR s x).2.m.cur), .int .u8 ((doR s x).2.m.s0), .int .u8 ((doR s x).2.m.s1), .int .u8 ((doR s x).2.m.s2), .int .u8 ((doR s x).2.m.s3), .int .u64 ((doR s x).2.m.r0), .int .u64 ((doR s x).2.m.r1), .int .u64 ((doR s x).2.m.r2), .int .u64 ((doR s x).2.m.r3), .int .u64 ((doR s x).2.m.word)]), (7, .pointer (some ⟨b172, 0, none⟩)), (6, .pointer (some ⟨b55, 0, none⟩)), (3, .pointer (some ⟨bs, 0, none⟩)), (4, .pointer (some ⟨bm, 0, none⟩)), (14, .slice (some ⟨sb45, k046, none⟩) ops.length c), (15, .int .i64 ((ops.length : Nat) : Int)), (16, .int .i64 ((i : Nat) : Int)), (40, .pointer (some ⟨bs, 0, none⟩)), (42, .agg #[.int .u64 ((doR s x).2.m.now), .int .i8 ((doR s x).2.m.cur), .int .u8 ((doR s x).2.m.s0), .int .u8 ((doR s x).2.m.s1), .int .u8 ((doR s x).2.m.s2), .int .u8 ((doR s x).2.m.s3), .int .u64 ((doR s x).2.m.r0), .int .u64 ((doR s x).2.m.r1), .int .u64 ((doR s x).2.m.r2), .int .u64 ((doR s x).2.m.r3), .int .u64 ((doR s x).2.m.word)])]) rfl
          refine ⟨(h235.keepFr hf238 (kcons (by simp) knil)), ?_⟩
          clear h235
          refine dr_batch tabOk tabZ_ok (by repeat (first | with_reducible exact PF.body | with_reducible apply PF.inB | with_reducible apply PF.next)) [(3, {f := 1}), (4, {}), (5, {}), (7, {}), (8, {}), (9, {}), (10, {k := 1, p := 1})] [7, 6, 3, 4, 14, 15, 16, 44, 45, 50] (T' := [(7, .pointer (some ⟨b172, 0, none⟩)), (6, .pointer (some ⟨b55, 0, none⟩)), (3, .pointer (some ⟨bs, 0, none⟩)), (4, .pointer (some ⟨bm, 0, none⟩)), (14, .slice (some ⟨sb45, k046, none⟩) ops.length c), (15, .int .i64 ((ops.length : Nat) : Int)), (16, .int .i64 ((i : Nat) : Int)), (44, .bool false), (45, .pointer (some ⟨bs, 0, none⟩)), (50, .pointer (some ⟨bl3, 0, none⟩))]) (φ := EqRun Try.prog 46 (.agg #[.int .u64 ((doR s x).2.m.now), .int .i8 ((doR s x).2.m.cur), .int .u8 ((doR s x).2.m.s0), .int .u8 ((doR s x).2.m.s1), .int .u8 ((doR s x).2.m.s2), .int .u8 ((doR s x).2.m.s3), .int .u64 ((doR s x).2.m.r0), .int .u64 ((doR s x).2.m.r1), .int .u64 ((doR s x).2.m.r2), .int .u64 ((doR s x).2.m.r3), .int .u64 ((doR s x).2.m.word)]) (.agg #[.int .u64 ((doR s x).2.m.now), .int .i8 ((doR s x).2.m.cur), .int .u8 ((doR s x).2.m.s0), .int .u8 ((doR s x).2.m.s1), .int .u8 ((doR s x).2.m.s2), .int .u8 ((doR s x).2.m.s3), .int .u64 ((doR s x).2.m.r0), .int .u64 ((doR s x).2.m.r1), .int .u64 ((doR s x).2.m.r2), .int .u64 ((doR s x).2.m.r3), .int .u64 ((doR s x).2.m.word)]) true ∧ (bm = bm ∧ Nat.ble (1 + 1) 4 = true) ∧ True) (fuel := 4) h237 (by kernel_rfl) rfl (by kernel_rfl) (by kernel_rfl) ⟨trivial, trivial, trivial, trivial, trivial, trivial, rfl, trivial⟩ ⟨(run46s (doR s x).2.m), ⟨rfl, rfl⟩, trivial⟩ fun a239 h240 => ?_
          clear h237
          refine wpAnyK_one (i := 6) (fuel := 3) (by kernel_rfl) ?_
          refine op_call h240 rfl rfl rfl (callOk Try.func17 (by decide) rfl) (args := [.pointer (some ⟨bs, 0, none⟩)]) rfl (slog_ok bs _ _ _ _ _ false _ (h240.inv.get (j := 0) (p := pSess bs bl d70 ((doR s x).2)) rfl).blk) ?_
          rintro _ w241 ⟨rfl, hf243⟩
          refine ⟨_, rfl, ?_⟩
          have h242 := (h240.grow hf243).put (d := some 46) (v := .pointer (some ⟨bl, 0, none⟩)) (T' := [(46, .pointer (some ⟨bl, 0, none⟩)), (7, .pointer (some ⟨b172, 0, none⟩)), (6, .pointer (some ⟨b55, 0, none⟩)), (3, .pointer (some ⟨bs, 0, none⟩)), (4, .pointer (some ⟨bm, 0, none⟩)), (14, .slice (some ⟨sb45, k046, none⟩) ops.length c), (15, .int .i64 ((ops.length : Nat) : Int)), (16, .int .i64 ((i : Nat) : Int)), (44, .bool false), (45, .pointer (some ⟨bs, 0, none⟩)), (50, .pointer (some ⟨bl3, 0, none⟩))]) rfl
          refine ⟨(h240.keepFr hf243 (kcons (by simp) knil)), ?_⟩
          clear h240
          refine wpAnyK_one (i := 11) (fuel := 2) (by kernel_rfl) ?_
          refine op_call h242 rfl rfl rfl (callOk Try.func16 (by decide) rfl) (args := [.pointer (some ⟨bl, 0, none⟩), .pointer (some ⟨bl3, 0, none⟩)]) rfl (sameLog_ok bl bl3 d70 d3 (doR s x).2.lg _ (h242.inv.get (j := 0) (p := pSess bs bl d70 ((doR s x).2)) rfl).log (h242.inv.get (j := 1) (p := pMod bm bl3 d3 a3 (mdOf (nextAll s all x) (doR s x).2)) rfl).log (fun b hb hq => Pf_nodup h242.inv.nd (i := 0) (j := 1) (x := pSess bs bl d70 ((doR s x).2)) (y := pMod bm bl3 d3 a3 (mdOf (nextAll s all x) (doR s x).2)) rfl rfl (by decide) b (List.mem_cons_of_mem _ hb) (List.mem_cons_of_mem _ (List.mem_append.2 (.inr hq)))) (by omega) (by omega) (by omega)) ?_
          rintro _ w244 ⟨rfl, hf246⟩
          refine ⟨_, rfl, ?_⟩
          have h245 := (h242.grow hf246).put (d := some 51) (v := .bool true) (T' := [(51, .bool true), (46, .pointer (some ⟨bl, 0, none⟩)), (7, .pointer (some ⟨b172, 0, none⟩)), (6, .pointer (some ⟨b55, 0, none⟩)), (3, .pointer (some ⟨bs, 0, none⟩)), (4, .pointer (some ⟨bm, 0, none⟩)), (14, .slice (some ⟨sb45, k046, none⟩) ops.length c), (15, .int .i64 ((ops.length : Nat) : Int)), (16, .int .i64 ((i : Nat) : Int)), (44, .bool false), (45, .pointer (some ⟨bs, 0, none⟩)), (50, .pointer (some ⟨bl3, 0, none⟩))]) rfl
          refine ⟨keepNil, ?_⟩
          clear h242
          refine dr_batch tabOk tabZ_ok (by repeat (first | with_reducible exact PF.body | with_reducible apply PF.inB | with_reducible apply PF.next)) [(12, {}), (13, {})] [7, 6, 3, 4, 14, 15, 16, 53] (T' := [(7, .pointer (some ⟨b172, 0, none⟩)), (6, .pointer (some ⟨b55, 0, none⟩)), (3, .pointer (some ⟨bs, 0, none⟩)), (4, .pointer (some ⟨bm, 0, none⟩)), (14, .slice (some ⟨sb45, k046, none⟩) ops.length c), (15, .int .i64 ((ops.length : Nat) : Int)), (16, .int .i64 ((i : Nat) : Int)), (53, .bool false)]) (φ := True) (fuel := 0) h245 (by kernel_rfl) rfl (by kernel_rfl) (by kernel_rfl) ⟨trivial, trivial, trivial⟩ trivial fun a247 h248 => ?_
          clear h245
          refine wpAnyK_done (by kernel_rfl) ?_ _
          refine hK230 _ _ ?_
          clear hK230
          refine c_false h248 rfl ?_
          refine wp_skip ?_
          refine hK50 _ _ ?_
          clear hK50
          refine nd_start (l := [0, 1]) rfl ?_
          refine nd_batch tabOk tabZ_ok [(0, {}), (1, {})] [7, 6, 3, 4, 14, 15, 16] (T' := [(7, .pointer (some ⟨b172, 0, none⟩)), (6, .pointer (some ⟨b55, 0, none⟩)), (3, .pointer (some ⟨bs, 0, none⟩)), (4, .pointer (some ⟨bm, 0, none⟩)), (14, .slice (some ⟨sb45, k046, none⟩) ops.length c), (15, .int .i64 ((ops.length : Nat) : Int)), (16, .int .i64 (((i : Nat) : Int) + 1))]) (φ := inR .i64 (((i : Nat) : Int) + 1) ∧ True) (rest := []) h248 (by kernel_rfl) rfl ⟨⟨by omega, by omega⟩, trivial⟩ fun a249 h250 => ?_
          clear h248
          refine nd_done ?_
          have h251 := h250.memMono (L' := []) (List.Sublist.cons _ (List.Sublist.cons _ (List.Sublist.cons _ (List.Sublist.cons _ List.Sublist.slnil))))
          clear h250
          exact ⟨(g - 1), by omega, (i + 1), (doR s x).2, d70, (nextAll s all x), bl3, d3, a3, by omega, by omega, hwf1, hon1, hev1, (h251.slotsMono (restr_spec (keep := [3, 4, 14, 15, 16]) rfl))⟩
      ·
        refine op_new tabOk (cells := [.bool false, .int .i8 0, .int .u64 0]) (ty := 39) (ln := none) (L1 := fun b252 => [(b55, ⟨[.int .u8 x.kind, .int .i64 x.n, .int .i64 x.m, .int .u8 x.ev.kind, .int .u32 x.ev.pick, .int .u64 x.ev.arg], 35, false⟩), (bm, ⟨modC (.slice a3.o ((nextAll s all x).length) a3.c) (.pointer (some ⟨bl3, 0, none⟩)) (doR s x).2.pos (doR s x).2.live, 52, true⟩), (b252, ⟨[.bool false, .int .i8 0, .int .u64 0], 39, false⟩)]) h90 rfl rfl rfl rfl (by kernel_rfl) (fun _ => rfl) fun b252 w253 a254 h255 hf256 hn257 => ?_
        refine ⟨(h90.keepFr hf256 (kcons (by simp) (kcons (by simp) knil))), ?_⟩
        clear h90
        refine wpAnyK_two (i := 9) (j := 13) (fuel := 6) (by kernel_rfl) ?_ ?_
        ·
          refine op_call h255 rfl rfl rfl (callOk Try.func14 (by decide) rfl) (args := [.slice a3.o (((doR s x).2.pos).toNat) a3.c]) rfl ((by have hq := fold_ok ((nextAll s all x).take (doR s x).2.pos.toNat) a3.o a3.c a3.F _ (rws1 (rl_cut (h255.inv.get (j := 1) (p := pMod bm bl3 d3 a3 (mdOf (nextAll s all x) (doR s x).2)) rfl).row evC_len hle1)) (fun e he => hev1 e (List.mem_of_mem_take he)) (by rw [hlt1]; omega); rw [hcur1, hlt1] at hq; exact hq)) ?_
          rintro _ w258 ⟨rfl, hf260⟩
          refine ⟨_, rfl, ?_⟩
          have h259 := (h255.grow hf260).put (d := some 37) (v := .tuple #[.agg #[.int .u64 ((doR s x).2.m.now), .int .i8 ((doR s x).2.m.cur), .int .u8 ((doR s x).2.m.s0), .int .u8 ((doR s x).2.m.s1), .int .u8 ((doR s x).2.m.s2), .int .u8 ((doR s x).2.m.s3), .int .u64 ((doR s x).2.m.r0), .int .u64 ((doR s x).2.m.r1), .int .u64 ((doR s x).2.m.r2), .int .u64 ((doR s x).2.m.r3), .int .u64 ((doR s x).2.m.word)], .agg #[.bool ((doR s x).2.out.refused), .int .i8 ((doR s x).2.out.running), .int .u64 ((doR s x).2.out.value)]]) (T' := [(37, .tuple #[.agg #[.int .u64 ((doR s x).2.m.now), .int .i8 ((doR s x).2.m.cur), .int .u8 ((doR s x).2.m.s0), .int .u8 ((doR s x).2.m.s1), .int .u8 ((doR s x).2.m.s2), .int .u8 ((doR s x).2.m.s3), .int .u64 ((doR s x).2.m.r0), .int .u64 ((doR s x).2.m.r1), .int .u64 ((doR s x).2.m.r2), .int .u64 ((doR s x).2.m.r3), .int .u64 ((doR s x).2.m.word)], .agg #[.bool ((doR s x).2.out.refused), .int .i8 ((doR s x).2.out.running), .int .u64 ((doR s x).2.out.value)]]), (8, .pointer (some ⟨b252, 0, none⟩)), (6, .pointer (some ⟨b55, 0, none⟩)), (3, .pointer (some ⟨bs, 0, none⟩)), (4, .pointer (some ⟨bm, 0, none⟩)), (14, .slice (some ⟨sb45, k046, none⟩) ops.length c), (15, .int .i64 ((ops.length : Nat) : Int)), (16, .int .i64 ((i : Nat) : Int)), (36, .slice a3.o (((doR s x).2.pos).toNat) a3.c)]) rfl
          refine ⟨keepNil, ?_⟩
          clear h255
          refine dr_batch tabOk tabZ_ok (by repeat (first | with_reducible exact PF.body | with_reducible apply PF.inB | with_reducible apply PF.next)) [(10, {}), (11, {}), (12, {})] [8, 6, 3, 4, 14, 15, 16, 38, 39] (T' := [(8, .pointer (some ⟨b252, 0, none⟩)), (6, .pointer (some ⟨b55, 0, none⟩)), (3, .pointer (some ⟨bs, 0, none⟩)), (4, .pointer (some ⟨bm, 0, none⟩)), (14, .slice (some ⟨sb45, k046, none⟩) ops.length c), (15, .int .i64 ((ops.length : Nat) : Int)), (16, .int .i64 ((i : Nat) : Int)), (38, .agg #[.int .u64 ((doR s x).2.m.now), .int .i8 ((doR s x).2.m.cur), .int .u8 ((doR s x).2.m.s0), .int .u8 ((doR s x).2.m.s1), .int .u8 ((doR s x).2.m.s2), .int .u8 ((doR s x).2.m.s3), .int .u64 ((doR s x).2.m.r0), .int .u64 ((doR s x).2.m.r1), .int .u64 ((doR s x).2.m.r2), .int .u64 ((doR s x).2.m.r3), .int .u64 ((doR s x).2.m.word)]), (39, .agg #[.bool ((doR s x).2.out.refused), .int .i8 ((doR s x).2.out.running), .int .u64 ((doR s x).2.out.value)])]) (φ := True) (fuel := 3) h259 (by kernel_rfl) rfl (by kernel_rfl) (by kernel_rfl) ⟨trivial, trivial, trivial, trivial⟩ trivial fun a261 h262 => ?_
          clear h259
          refine wpAnyK_one (i := 13) (fuel := 2) (by kernel_rfl) ?_
          refine op_new tabOk (cells := [.int .u64 0, .int .i8 0, .int .u8 0, .int .u8 0, .int .u8 0, .int .u8 0, .int .u64 0, .int .u64 0, .int .u64 0, .int .u64 0, .int .u64 0]) (ty := 46) (ln := none) (L1 := fun b263 => [(b55, ⟨[.int .u8 x.kind, .int .i64 x.n, .int .i64 x.m, .int .u8 x.ev.kind, .int .u32 x.ev.pick, .int .u64 x.ev.arg], 35, false⟩), (bm, ⟨modC (.slice a3.o ((nextAll s all x).length) a3.c) (.pointer (some ⟨bl3, 0, none⟩)) (doR s x).2.pos (doR s x).2.live, 52, true⟩), (b252, ⟨[.bool false, .int .i8 0, .int .u64 0], 39, false⟩), (b263, ⟨[.int .u64 0, .int .i8 0, .int .u8 0, .int .u8 0, .int .u8 0, .int .u8 0, .int .u64 0, .int .u64 0, .int .u64 0, .int .u64 0, .int .u64 0], 46, false⟩)]) h262 rfl rfl rfl rfl (by kernel_rfl) (fun _ => rfl) fun b263 w264 a265 h266 hf267 hn268 => ?_
          refine ⟨(h262.keepFr hf267 (kcons (by simp) (kcons (by simp) knil))), ?_⟩
          clear h262
          refine wpAnyK_one (i := 15) (fuel := 1) (by kernel_rfl) ?_
          refine op_store tabOk {k := 3} (L' := [(b55, ⟨[.int .u8 x.kind, .int .i64 x.n, .int .i64 x.m, .int .u8 x.ev.kind, .int .u32 x.ev.pick, .int .u64 x.ev.arg], 35, false⟩), (bm, ⟨modC (.slice a3.o ((nextAll s all x).length) a3.c) (.pointer (some ⟨bl3, 0, none⟩)) (doR s x).2.pos (doR s x).2.live, 52, true⟩), (b252, ⟨[.bool false, .int .i8 0, .int .u64 0], 39, false⟩), (b263, ⟨[.int .u64 ((doR s x).2.m.now), .int .i8 ((doR s x).2.m.cur), .int .u8 ((doR s x).2.m.s0), .int .u8 ((doR s x).2.m.s1), .int .u8 ((doR s x).2.m.s2), .int .u8 ((doR s x).2.m.s3), .int .u64 ((doR s x).2.m.r0), .int .u64 ((doR s x).2.m.r1), .int .u64 ((doR s x).2.m.r2), .int .u64 ((doR s x).2.m.r3), .int .u64 ((doR s x).2.m.word)], 46, false⟩)]) (φ := b263 = b263 ∧ Nat.ble (0 + 11) 11 = true) h266 rfl rfl rfl (by kernel_rfl) ⟨rfl, rfl⟩ fun w269 h270 => ?_
          have hkh270 := h266.known
          refine ⟨keepNil, ?_⟩
          clear h266
          refine wpAnyK_one (i := 16) (fuel := 0) (by kernel_rfl) ?_
          refine op_store tabOk {k := 2} (L' := [(b55, ⟨[.int .u8 x.kind, .int .i64 x.n, .int .i64 x.m, .int .u8 x.ev.kind, .int .u32 x.ev.pick, .int .u64 x.ev.arg], 35, false⟩), (bm, ⟨modC (.slice a3.o ((nextAll s all x).length) a3.c) (.pointer (some ⟨bl3, 0, none⟩)) (doR s x).2.pos (doR s x).2.live, 52, true⟩), (b252, ⟨[.bool ((doR s x).2.out.refused), .int .i8 ((doR s x).2.out.running), .int .u64 ((doR s x).2.out.value)], 39, false⟩), (b263, ⟨[.int .u64 ((doR s x).2.m.now), .int .i8 ((doR s x).2.m.cur), .int .u8 ((doR s x).2.m.s0), .int .u8 ((doR s x).2.m.s1), .int .u8 ((doR s x).2.m.s2), .int .u8 ((doR s x).2.m.s3), .int .u64 ((doR s x).2.m.r0), .int .u64 ((doR s x).2.m.r1), .int .u64 ((doR s x).2.m.r2), .int .u64 ((doR s x).2.m.r3), .int .u64 ((doR s x).2.m.word)], 46, false⟩)]) (φ := b252 = b252 ∧ Nat.ble (0 + 3) 3 = true) h270 rfl rfl rfl (by kernel_rfl) ⟨rfl, rfl⟩ fun w271 h272 => ?_
          have hkh272 := h270.known
          refine ⟨keepNil, ?_⟩
          clear h270
          refine wpAnyK_done (by kernel_rfl) ?_ _
          refine hK83 _ _ ?_
          clear hK83
          refine wp_seq_k fun K273 hK273 => ?_
          refine dr_start (KB := [b55, bm, b252, b263]) (Bi := [[0, 1, 2, 3], [3], [0, 1, 2, 3], [0, 1, 2, 3], [0, 1, 2, 3], [0, 1, 2, 3], [1], [0, 1, 2, 3], [0, 1, 2, 3], [0, 1, 2, 3], [0, 1, 2, 3], [], [0, 1, 2, 3], [0, 1, 2, 3]]) mixed h272 fun w274 h275 => ?_
          clear h272
          refine dr_batch tabOk tabZ_ok (by repeat (first | with_reducible exact PF.body | with_reducible apply PF.inB | with_reducible apply PF.next)) [(0, {}), (2, {k := 3, p := 3})] [7, 6, 3, 4, 14, 15, 16, 40, 42] (T' := [(7, .pointer (some ⟨b263, 0, none⟩)), (6, .pointer (some ⟨b55, 0, none⟩)), (3, .pointer (some ⟨bs, 0, none⟩)), (4, .pointer (some ⟨bm, 0, none⟩)), (14, .slice (some ⟨sb45, k046, none⟩) ops.length c), (15, .int .i64 ((ops.length : Nat) : Int)), (16, .int .i64 ((i : Nat) : Int)), (40, .pointer (some ⟨bs, 0, none⟩)), (42, .agg #[.int .u64 ((doR s x).2.m.now), .int .i8 ((doR s x).2.m.cur), .int .u8 ((doR s x).2.m.s0), .int .u8 ((doR s x).2.m.s1), .int .u8 ((doR s x).2.m.s2), .int .u8 ((doR s x).2.m.s3), .int .u64 ((doR s x).2.m.r0), .int .u64 ((doR s x).2.m.r1), .int .u64 ((doR s x).2.m.r2), .int .u64 ((doR s x).2.m.r3), .int .u64 ((doR s x).2.m.word)])]) (φ := (b263 = b263 ∧ Nat.ble (0 + 11) 11 = true) ∧ True) (fuel := 12) h275 (by kernel_rfl) rfl (by kernel_rfl) (by kernel_rfl) ⟨trivial, rfl, trivial⟩ ⟨⟨rfl, rfl⟩, trivial⟩ fun a277 h278 => ?_
          clear h275
          refine wpAnyK_one (i := 1) (fuel := 11) (by kernel_rfl) ?_
          refine op_call h278 rfl rfl rfl (callOk Try.func15 (by decide) rfl) (args := [.pointer (some ⟨bs, 0, none⟩)]) rfl (smach_ok bs _ (doR s x).2.m _ _ _ false _ (h278.inv.get (j := 0) (p := pSess bs bl d70 ((doR s x).2)) rfl).blk) ?_
          rintro _ w279 ⟨rfl, hf281⟩
          refine ⟨_, rfl, ?_⟩
          have h280 := (h278.grow hf281).put (d := some 41) (v := .agg #[.int .u64 ((doR s x).2.m.now), .int .i8 ((doR s x).2.m.cur), .int .u8 ((doR s x).2.m.s0), .int .u8 ((doR s x).2.m.s1), .int .u8 ((doR s x).2.m.s2), .int .u8 ((doR s x).2.m.s3), .int .u64 ((doR s x).2.m.r0), .int .u64 ((doR s x).2.m.r1), .int .u64 ((doR s x).2.m.r2), .int .u64 ((doR s x).2.m.r3), .int .u64 ((doR s x).2.m.word)]) (T' := [(41, .agg #[.int .u64 ((doR s x).2.m.now), .int .i8 ((doR s x).2.m.cur), .int .u8 ((doR s x).2.m.s0), .int .u8 ((doR s x).2.m.s1), .int .u8 ((doR s x).2.m.s2), .int .u8 ((doR s x).2.m.s3), .int .u64 ((doR s x).2.m.r0), .int .u64 ((doR s x).2.m.r1), .int .u64 ((doR s x).2.m.r2), .int .u64 ((doR s x).2.m.r3), .int .u64 ((doR s x).2.m.word)]), (7, .pointer (some ⟨b263, 0, none⟩)), (6, .pointer (some ⟨b55, 0, none⟩)), (3, .pointer (some ⟨bs, 0, none⟩)), (4, .pointer (some ⟨bm, 0, none⟩)), (14, .slice (some ⟨sb45, k046, none⟩) ops.length c), (15, .int .i64 ((ops.length : Nat) : Int)), (16, .int .i64 ((i : Nat) : Int)), (40, .pointer (some ⟨bs, 0, none⟩)), (42, .agg #[.int .u64 ((doR s x).2.m.now), .int .i8 ((doR s x).2.m.cur), .int .u8 ((doR s x).2.m.s0), .int .u8 ((doR s x).2.m.s1), .int .u8 ((doR s x).2.m.s2), .int .u8 ((doR s x).2.m.s3), .int .u64 ((doR s x).2.m.r0), .int .u64 ((doR s x).2.m.r1), .int .u64 ((doR s x).2.m.r2), .int .u64 ((doR s x).2.m.r3), .int .u64 ((doR s x).2.m.word)])]) rfl
          refine ⟨(h278.keepFr hf281 (kcons (by simp) knil)), ?_⟩
          clear h278
          refine dr_batch tabOk tabZ_ok (by repeat (first | with_reducible exact PF.body | with_reducible apply PF.inB | with_reducible apply PF.next)) [(3, {f := 1}), (4, {}), (5, {}), (7, {}), (8, {}), (9, {}), (10, {k := 1, p := 1})] [7, 6, 3, 4, 14, 15, 16, 44, 45, 50] (T' := [(7, .pointer (some ⟨b263, 0, none⟩)), (6, .pointer (some ⟨b55, 0, none⟩)), (3, .pointer (some ⟨bs, 0, none⟩)), (4, .pointer (some ⟨bm, 0, none⟩)), (14, .slice (some ⟨sb45, k046, none⟩) ops.length c), (15, .int .i64 ((ops.length : Nat) : Int)), (16, .int .i64 ((i : Nat) : Int)), (44, .bool false), (45, .pointer (some ⟨bs, 0, none⟩)), (50, .pointer (some ⟨bl3, 0, none⟩))]) (φ := EqRun Try.prog 46 (.agg #[.int .u64 ((doR s x).2.m.now), .int .i8 ((doR s x).2.m.cur), .int .u8 ((doR s x).2.m.s0), .int .u8 ((doR s x).2.m.s1), .int .u8 ((doR s x).2.m.s2), .int .u8 ((doR s x).2.m.s3), .int .u64 ((doR s x).2.m.r0), .int .u64 ((doR s x).2.m.r1), .int .u64 ((doR s x).2.m.r2), .int .u64 ((doR s x).2.m.r3), .int .u64 ((doR s x).2.m.word)]) (.agg #[.int .u64 ((doR s x).2.m.now), .int .i8 ((doR s x).2.m.cur), .int .u8 ((doR s x).2.m.s0), .int .u8 ((doR s x).2.m.s1), .int .u8 ((doR s x).2.m.s2), .int .u8 ((doR s x).2.m.s3), .int .u64 ((doR s x).2.m.r0), .int .u64 ((doR s x).2.m.r1), .int .u64 ((doR s x).2.m.r2), .int .u64 ((doR s x).2.m.r3), .int .u64 ((doR s x).2.m.word)]) true ∧ (bm = bm ∧ Nat.ble (1 + 1) 4 = true) ∧ True) (fuel := 4) h280 (by kernel_rfl) rfl (by kernel_rfl) (by kernel_rfl) ⟨trivial, trivial, trivial, trivial, trivial, trivial, rfl, trivial⟩ ⟨(run46s (doR s x).2.m), ⟨rfl, rfl⟩, trivial⟩ fun a282 h283 => ?_
          clear h280
          refine wpAnyK_one (i := 6) (fuel := 3) (by kernel_rfl) ?_
          refine op_call h283 rfl rfl rfl (callOk Try.func17 (by decide) rfl) (args := [.pointer (some ⟨bs, 0, none⟩)]) rfl (slog_ok bs _ _ _ _ _ false _ (h283.inv.get (j := 0) (p := pSess bs bl d70 ((doR s x).2)) rfl).blk) ?_
          rintro _ w284 ⟨rfl, hf286⟩
          refine ⟨_, rfl, ?_⟩
          have h285 := (h283.grow hf286).put (d := some 46) (v := .pointer (some ⟨bl, 0, none⟩)) (T' := [(46, .pointer (some ⟨bl, 0, none⟩)), (7, .pointer (some ⟨b263, 0, none⟩)), (6, .pointer (some ⟨b55, 0, none⟩)), (3, .pointer (some ⟨bs, 0, none⟩)), (4, .pointer (some ⟨bm, 0, none⟩)), (14, .slice (some ⟨sb45, k046, none⟩) ops.length c), (15, .int .i64 ((ops.length : Nat) : Int)), (16, .int .i64 ((i : Nat) : Int)), (44, .bool false), (45, .pointer (some ⟨bs, 0, none⟩)), (50, .pointer (some ⟨bl3, 0, none⟩))]) rfl
          refine ⟨(h283.keepFr hf286 (kcons (by simp) knil)), ?_⟩
          clear h283
          refine wpAnyK_one (i := 11) (fuel := 2) (by kernel_rfl) ?_
          refine op_call h285 rfl rfl rfl (callOk Try.func16 (by decide) rfl) (args := [.pointer (some ⟨bl, 0, none⟩), .pointer (some ⟨bl3, 0, none⟩)]) rfl (sameLog_ok bl bl3 d70 d3 (doR s x).2.lg _ (h285.inv.get (j := 0) (p := pSess bs bl d70 ((doR s x).2)) rfl).log (h285.inv.get (j := 1) (p := pMod bm bl3 d3 a3 (mdOf (nextAll s all x) (doR s x).2)) rfl).log (fun b hb hq => Pf_nodup h285.inv.nd (i := 0) (j := 1) (x := pSess bs bl d70 ((doR s x).2)) (y := pMod bm bl3 d3 a3 (mdOf (nextAll s all x) (doR s x).2)) rfl rfl (by decide) b (List.mem_cons_of_mem _ hb) (List.mem_cons_of_mem _ (List.mem_append.2 (.inr hq)))) (by omega) (by omega) (by omega)) ?_
          rintro _ w287 ⟨rfl, hf289⟩
          refine ⟨_, rfl, ?_⟩
          have h288 := (h285.grow hf289).put (d := some 51) (v := .bool true) (T' := [(51, .bool true), (46, .pointer (some ⟨bl, 0, none⟩)), (7, .pointer (some ⟨b263, 0, none⟩)), (6, .pointer (some ⟨b55, 0, none⟩)), (3, .pointer (some ⟨bs, 0, none⟩)), (4, .pointer (some ⟨bm, 0, none⟩)), (14, .slice (some ⟨sb45, k046, none⟩) ops.length c), (15, .int .i64 ((ops.length : Nat) : Int)), (16, .int .i64 ((i : Nat) : Int)), (44, .bool false), (45, .pointer (some ⟨bs, 0, none⟩)), (50, .pointer (some ⟨bl3, 0, none⟩))]) rfl
          refine ⟨keepNil, ?_⟩
          clear h285
          refine dr_batch tabOk tabZ_ok (by repeat (first | with_reducible exact PF.body | with_reducible apply PF.inB | with_reducible apply PF.next)) [(12, {}), (13, {})] [7, 6, 3, 4, 14, 15, 16, 53] (T' := [(7, .pointer (some ⟨b263, 0, none⟩)), (6, .pointer (some ⟨b55, 0, none⟩)), (3, .pointer (some ⟨bs, 0, none⟩)), (4, .pointer (some ⟨bm, 0, none⟩)), (14, .slice (some ⟨sb45, k046, none⟩) ops.length c), (15, .int .i64 ((ops.length : Nat) : Int)), (16, .int .i64 ((i : Nat) : Int)), (53, .bool false)]) (φ := True) (fuel := 0) h288 (by kernel_rfl) rfl (by kernel_rfl) (by kernel_rfl) ⟨trivial, trivial, trivial⟩ trivial fun a290 h291 => ?_
          clear h288
          refine wpAnyK_done (by kernel_rfl) ?_ _
          refine hK273 _ _ ?_
          clear hK273
          refine c_false h291 rfl ?_
          refine wp_skip ?_
          refine hK50 _ _ ?_
          clear hK50
          refine nd_start (l := [0, 1]) rfl ?_
          refine nd_batch tabOk tabZ_ok [(0, {}), (1, {})] [7, 6, 3, 4, 14, 15, 16] (T' := [(7, .pointer (some ⟨b263, 0, none⟩)), (6, .pointer (some ⟨b55, 0, none⟩)), (3, .pointer (some ⟨bs, 0, none⟩)), (4, .pointer (some ⟨bm, 0, none⟩)), (14, .slice (some ⟨sb45, k046, none⟩) ops.length c), (15, .int .i64 ((ops.length : Nat) : Int)), (16, .int .i64 (((i : Nat) : Int) + 1))]) (φ := inR .i64 (((i : Nat) : Int) + 1) ∧ True) (rest := []) h291 (by kernel_rfl) rfl ⟨⟨by omega, by omega⟩, trivial⟩ fun a292 h293 => ?_
          clear h291
          refine nd_done ?_
          have h294 := h293.memMono (L' := []) (List.Sublist.cons _ (List.Sublist.cons _ (List.Sublist.cons _ (List.Sublist.cons _ List.Sublist.slnil))))
          clear h293
          exact ⟨(g - 1), by omega, (i + 1), (doR s x).2, d70, (nextAll s all x), bl3, d3, a3, by omega, by omega, hwf1, hon1, hev1, (h294.slotsMono (restr_spec (keep := [3, 4, 14, 15, 16]) rfl))⟩
        ·
          refine op_new tabOk (cells := [.int .u64 0, .int .i8 0, .int .u8 0, .int .u8 0, .int .u8 0, .int .u8 0, .int .u64 0, .int .u64 0, .int .u64 0, .int .u64 0, .int .u64 0]) (ty := 46) (ln := none) (L1 := fun b295 => [(b55, ⟨[.int .u8 x.kind, .int .i64 x.n, .int .i64 x.m, .int .u8 x.ev.kind, .int .u32 x.ev.pick, .int .u64 x.ev.arg], 35, false⟩), (bm, ⟨modC (.slice a3.o ((nextAll s all x).length) a3.c) (.pointer (some ⟨bl3, 0, none⟩)) (doR s x).2.pos (doR s x).2.live, 52, true⟩), (b252, ⟨[.bool false, .int .i8 0, .int .u64 0], 39, false⟩), (b295, ⟨[.int .u64 0, .int .i8 0, .int .u8 0, .int .u8 0, .int .u8 0, .int .u8 0, .int .u64 0, .int .u64 0, .int .u64 0, .int .u64 0, .int .u64 0], 46, false⟩)]) h255 rfl rfl rfl rfl (by kernel_rfl) (fun _ => rfl) fun b295 w296 a297 h298 hf299 hn300 => ?_
          refine ⟨(h255.keepFr hf299 (kcons (by simp) (kcons (by simp) knil))), ?_⟩
          clear h255
          refine wpAnyK_one (i := 9) (fuel := 5) (by kernel_rfl) ?_
          refine op_call h298 rfl rfl rfl (callOk Try.func14 (by decide) rfl) (args := [.slice a3.o (((doR s x).2.pos).toNat) a3.c]) rfl ((by have hq := fold_ok ((nextAll s all x).take (doR s x).2.pos.toNat) a3.o a3.c a3.F _ (rws1 (rl_cut (h298.inv.get (j := 1) (p := pMod bm bl3 d3 a3 (mdOf (nextAll s all x) (doR s x).2)) rfl).row evC_len hle1)) (fun e he => hev1 e (List.mem_of_mem_take he)) (by rw [hlt1]; omega); rw [hcur1, hlt1] at hq; exact hq)) ?_
          rintro _ w301 ⟨rfl, hf303⟩
          refine ⟨_, rfl, ?_⟩
          have h302 := (h298.grow hf303).put (d := some 37) (v := .tuple #[.agg #[.int .u64 ((doR s x).2.m.now), .int .i8 ((doR s x).2.m.cur), .int .u8 ((doR s x).2.m.s0), .int .u8 ((doR s x).2.m.s1), .int .u8 ((doR s x).2.m.s2), .int .u8 ((doR s x).2.m.s3), .int .u64 ((doR s x).2.m.r0), .int .u64 ((doR s x).2.m.r1), .int .u64 ((doR s x).2.m.r2), .int .u64 ((doR s x).2.m.r3), .int .u64 ((doR s x).2.m.word)], .agg #[.bool ((doR s x).2.out.refused), .int .i8 ((doR s x).2.out.running), .int .u64 ((doR s x).2.out.value)]]) (T' := [(37, .tuple #[.agg #[.int .u64 ((doR s x).2.m.now), .int .i8 ((doR s x).2.m.cur), .int .u8 ((doR s x).2.m.s0), .int .u8 ((doR s x).2.m.s1), .int .u8 ((doR s x).2.m.s2), .int .u8 ((doR s x).2.m.s3), .int .u64 ((doR s x).2.m.r0), .int .u64 ((doR s x).2.m.r1), .int .u64 ((doR s x).2.m.r2), .int .u64 ((doR s x).2.m.r3), .int .u64 ((doR s x).2.m.word)], .agg #[.bool ((doR s x).2.out.refused), .int .i8 ((doR s x).2.out.running), .int .u64 ((doR s x).2.out.value)]]), (7, .pointer (some ⟨b295, 0, none⟩)), (8, .pointer (some ⟨b252, 0, none⟩)), (6, .pointer (some ⟨b55, 0, none⟩)), (3, .pointer (some ⟨bs, 0, none⟩)), (4, .pointer (some ⟨bm, 0, none⟩)), (14, .slice (some ⟨sb45, k046, none⟩) ops.length c), (15, .int .i64 ((ops.length : Nat) : Int)), (16, .int .i64 ((i : Nat) : Int)), (36, .slice a3.o (((doR s x).2.pos).toNat) a3.c)]) rfl
          refine ⟨keepNil, ?_⟩
          clear h298
          refine dr_batch tabOk tabZ_ok (by repeat (first | with_reducible exact PF.body | with_reducible apply PF.inB | with_reducible apply PF.next)) [(10, {}), (11, {}), (12, {})] [7, 8, 6, 3, 4, 14, 15, 16, 38, 39] (T' := [(7, .pointer (some ⟨b295, 0, none⟩)), (8, .pointer (some ⟨b252, 0, none⟩)), (6, .pointer (some ⟨b55, 0, none⟩)), (3, .pointer (some ⟨bs, 0, none⟩)), (4, .pointer (some ⟨bm, 0, none⟩)), (14, .slice (some ⟨sb45, k046, none⟩) ops.length c), (15, .int .i64 ((ops.length : Nat) : Int)), (16, .int .i64 ((i : Nat) : Int)), (38, .agg #[.int .u64 ((doR s x).2.m.now), .int .i8 ((doR s x).2.m.cur), .int .u8 ((doR s x).2.m.s0), .int .u8 ((doR s x).2.m.s1), .int .u8 ((doR s x).2.m.s2), .int .u8 ((doR s x).2.m.s3), .int .u64 ((doR s x).2.m.r0), .int .u64 ((doR s x).2.m.r1), .int .u64 ((doR s x).2.m.r2), .int .u64 ((doR s x).2.m.r3), .int .u64 ((doR s x).2.m.word)]), (39, .agg #[.bool ((doR s x).2.out.refused), .int .i8 ((doR s x).2.out.running), .int .u64 ((doR s x).2.out.value)])]) (φ := True) (fuel := 2) h302 (by kernel_rfl) rfl (by kernel_rfl) (by kernel_rfl) ⟨trivial, trivial, trivial, trivial⟩ trivial fun a304 h305 => ?_
          clear h302
          refine wpAnyK_one (i := 15) (fuel := 1) (by kernel_rfl) ?_
          refine op_store tabOk {k := 3} (L' := [(b55, ⟨[.int .u8 x.kind, .int .i64 x.n, .int .i64 x.m, .int .u8 x.ev.kind, .int .u32 x.ev.pick, .int .u64 x.ev.arg], 35, false⟩), (bm, ⟨modC (.slice a3.o ((nextAll s all x).length) a3.c) (.pointer (some ⟨bl3, 0, none⟩)) (doR s x).2.pos (doR s x).2.live, 52, true⟩), (b252, ⟨[.bool false, .int .i8 0, .int .u64 0], 39, false⟩), (b295, ⟨[.int .u64 ((doR s x).2.m.now), .int .i8 ((doR s x).2.m.cur), .int .u8 ((doR s x).2.m.s0), .int .u8 ((doR s x).2.m.s1), .int .u8 ((doR s x).2.m.s2), .int .u8 ((doR s x).2.m.s3), .int .u64 ((doR s x).2.m.r0), .int .u64 ((doR s x).2.m.r1), .int .u64 ((doR s x).2.m.r2), .int .u64 ((doR s x).2.m.r3), .int .u64 ((doR s x).2.m.word)], 46, false⟩)]) (φ := b295 = b295 ∧ Nat.ble (0 + 11) 11 = true) h305 rfl rfl rfl (by kernel_rfl) ⟨rfl, rfl⟩ fun w306 h307 => ?_
          have hkh307 := h305.known
          refine ⟨keepNil, ?_⟩
          clear h305
          refine wpAnyK_one (i := 16) (fuel := 0) (by kernel_rfl) ?_
          refine op_store tabOk {k := 2} (L' := [(b55, ⟨[.int .u8 x.kind, .int .i64 x.n, .int .i64 x.m, .int .u8 x.ev.kind, .int .u32 x.ev.pick, .int .u64 x.ev.arg], 35, false⟩), (bm, ⟨modC (.slice a3.o ((nextAll s all x).length) a3.c) (.pointer (some ⟨bl3, 0, none⟩)) (doR s x).2.pos (doR s x).2.live, 52, true⟩), (b252, ⟨[.bool ((doR s x).2.out.refused), .int .i8 ((doR s x).2.out.running), .int .u64 ((doR s x).2.out.value)], 39, false⟩), (b295, ⟨[.int .u64 ((doR s x).2.m.now), .int .i8 ((doR s x).2.m.cur), .int .u8 ((doR s x).2.m.s0), .int .u8 ((doR s x).2.m.s1), .int .u8 ((doR s x).2.m.s2), .int .u8 ((doR s x).2.m.s3), .int .u64 ((doR s x).2.m.r0), .int .u64 ((doR s x).2.m.r1), .int .u64 ((doR s x).2.m.r2), .int .u64 ((doR s x).2.m.r3), .int .u64 ((doR s x).2.m.word)], 46, false⟩)]) (φ := b252 = b252 ∧ Nat.ble (0 + 3) 3 = true) h307 rfl rfl rfl (by kernel_rfl) ⟨rfl, rfl⟩ fun w308 h309 => ?_
          have hkh309 := h307.known
          refine ⟨keepNil, ?_⟩
          clear h307
          refine wpAnyK_done (by kernel_rfl) ?_ _
          refine hK83 _ _ ?_
          clear hK83
          refine wp_seq_k fun K310 hK310 => ?_
          refine dr_start (KB := [b55, bm, b252, b295]) (Bi := [[0, 1, 2, 3], [3], [0, 1, 2, 3], [0, 1, 2, 3], [0, 1, 2, 3], [0, 1, 2, 3], [1], [0, 1, 2, 3], [0, 1, 2, 3], [0, 1, 2, 3], [0, 1, 2, 3], [], [0, 1, 2, 3], [0, 1, 2, 3]]) mixed h309 fun w311 h312 => ?_
          clear h309
          refine dr_batch tabOk tabZ_ok (by repeat (first | with_reducible exact PF.body | with_reducible apply PF.inB | with_reducible apply PF.next)) [(0, {}), (2, {k := 3, p := 3})] [7, 6, 3, 4, 14, 15, 16, 40, 42] (T' := [(7, .pointer (some ⟨b295, 0, none⟩)), (6, .pointer (some ⟨b55, 0, none⟩)), (3, .pointer (some ⟨bs, 0, none⟩)), (4, .pointer (some ⟨bm, 0, none⟩)), (14, .slice (some ⟨sb45, k046, none⟩) ops.length c), (15, .int .i64 ((ops.length : Nat) : Int)), (16, .int .i64 ((i : Nat) : Int)), (40, .pointer (some ⟨bs, 0, none⟩)), (42, .agg #[.int .u64 ((doR s x).2.m.now), .int .i8 ((doR s x).2.m.cur), .int .u8 ((doR s x).2.m.s0), .int .u8 ((doR s x).2.m.s1), .int .u8 ((doR s x).2.m.s2), .int .u8 ((doR s x).2.m.s3), .int .u64 ((doR s x).2.m.r0), .int .u64 ((doR s x).2.m.r1), .int .u64 ((doR s x).2.m.r2), .int .u64 ((doR s x).2.m.r3), .int .u64 ((doR s x).2.m.word)])]) (φ := (b295 = b295 ∧ Nat.ble (0 + 11) 11 = true) ∧ True) (fuel := 12) h312 (by kernel_rfl) rfl (by kernel_rfl) (by kernel_rfl) ⟨trivial, rfl, trivial⟩ ⟨⟨rfl, rfl⟩, trivial⟩ fun a314 h315 => ?_
          clear h312
          refine wpAnyK_one (i := 1) (fuel := 11) (by kernel_rfl) ?_
          refine op_call h315 rfl rfl rfl (callOk Try.func15 (by decide) rfl) (args := [.pointer (some ⟨bs, 0, none⟩)]) rfl (smach_ok bs _ (doR s x).2.m _ _ _ false _ (h315.inv.get (j := 0) (p := pSess bs bl d70 ((doR s x).2)) rfl).blk) ?_
          rintro _ w316 ⟨rfl, hf318⟩
          refine ⟨_, rfl, ?_⟩
          have h317 := (h315.grow hf318).put (d := some 41) (v := .agg #[.int .u64 ((doR s x).2.m.now), .int .i8 ((doR s x).2.m.cur), .int .u8 ((doR s x).2.m.s0), .int .u8 ((doR s x).2.m.s1), .int .u8 ((doR s x).2.m.s2), .int .u8 ((doR s x).2.m.s3), .int .u64 ((doR s x).2.m.r0), .int .u64 ((doR s x).2.m.r1), .int .u64 ((doR s x).2.m.r2), .int .u64 ((doR s x).2.m.r3), .int .u64 ((doR s x).2.m.word)]) (T' := [(41, .agg #[.int .u64 ((doR s x).2.m.now), .int .i8 ((doR s x).2.m.cur), .int .u8 ((doR s x).2.m.s0), .int .u8 ((doR s x).2.m.s1), .int .u8 ((doR s x).2.m.s2), .int .u8 ((doR s x).2.m.s3), .int .u64 ((doR s x).2.m.r0), .int .u64 ((doR s x).2.m.r1), .int .u64 ((doR s x).2.m.r2), .int .u64 ((doR s x).2.m.r3), .int .u64 ((doR s x).2.m.word)]), (7, .pointer (some ⟨b295, 0, none⟩)), (6, .pointer (some ⟨b55, 0, none⟩)), (3, .pointer (some ⟨bs, 0, none⟩)), (4, .pointer (some ⟨bm, 0, none⟩)), (14, .slice (some ⟨sb45, k046, none⟩) ops.length c), (15, .int .i64 ((ops.length : Nat) : Int)), (16, .int .i64 ((i : Nat) : Int)), (40, .pointer (some ⟨bs, 0, none⟩)), (42, .agg #[.int .u64 ((doR s x).2.m.now), .int .i8 ((doR s x).2.m.cur), .int .u8 ((doR s x).2.m.s0), .int .u8 ((doR s x).2.m.s1), .int .u8 ((doR s x).2.m.s2), .int .u8 ((doR s x).2.m.s3), .int .u64 ((doR s x).2.m.r0), .int .u64 ((doR s x).2.m.r1), .int .u64 ((doR s x).2.m.r2), .int .u64 ((doR s x).2.m.r3), .int .u64 ((doR s x).2.m.word)])]) rfl
          refine ⟨(h315.keepFr hf318 (kcons (by simp) knil)), ?_⟩
          clear h315
          refine dr_batch tabOk tabZ_ok (by repeat (first | with_reducible exact PF.body | with_reducible apply PF.inB | with_reducible apply PF.next)) [(3, {f := 1}), (4, {}), (5, {}), (7, {}), (8, {}), (9, {}), (10, {k := 1, p := 1})] [7, 6, 3, 4, 14, 15, 16, 44, 45, 50] (T' := [(7, .pointer (some ⟨b295, 0, none⟩)), (6, .pointer (some ⟨b55, 0, none⟩)), (3, .pointer (some ⟨bs, 0, none⟩)), (4, .pointer (some ⟨bm, 0, none⟩)), (14, .slice (some ⟨sb45, k046, none⟩) ops.length c), (15, .int .i64 ((ops.length : Nat) : Int)), (16, .int .i64 ((i : Nat) : Int)), (44, .bool false), (45, .pointer (some ⟨bs, 0, none⟩)), (50, .pointer (some ⟨bl3, 0, none⟩))]) (φ := EqRun Try.prog 46 (.agg #[.int .u64 ((doR s x).2.m.now), .int .i8 ((doR s x).2.m.cur), .int .u8 ((doR s x).2.m.s0), .int .u8 ((doR s x).2.m.s1), .int .u8 ((doR s x).2.m.s2), .int .u8 ((doR s x).2.m.s3), .int .u64 ((doR s x).2.m.r0), .int .u64 ((doR s x).2.m.r1), .int .u64 ((doR s x).2.m.r2), .int .u64 ((doR s x).2.m.r3), .int .u64 ((doR s x).2.m.word)]) (.agg #[.int .u64 ((doR s x).2.m.now), .int .i8 ((doR s x).2.m.cur), .int .u8 ((doR s x).2.m.s0), .int .u8 ((doR s x).2.m.s1), .int .u8 ((doR s x).2.m.s2), .int .u8 ((doR s x).2.m.s3), .int .u64 ((doR s x).2.m.r0), .int .u64 ((doR s x).2.m.r1), .int .u64 ((doR s x).2.m.r2), .int .u64 ((doR s x).2.m.r3), .int .u64 ((doR s x).2.m.word)]) true ∧ (bm = bm ∧ Nat.ble (1 + 1) 4 = true) ∧ True) (fuel := 4) h317 (by kernel_rfl) rfl (by kernel_rfl) (by kernel_rfl) ⟨trivial, trivial, trivial, trivial, trivial, trivial, rfl, trivial⟩ ⟨(run46s (doR s x).2.m), ⟨rfl, rfl⟩, trivial⟩ fun a319 h320 => ?_
          clear h317
          refine wpAnyK_one (i := 6) (fuel := 3) (by kernel_rfl) ?_
          refine op_call h320 rfl rfl rfl (callOk Try.func17 (by decide) rfl) (args := [.pointer (some ⟨bs, 0, none⟩)]) rfl (slog_ok bs _ _ _ _ _ false _ (h320.inv.get (j := 0) (p := pSess bs bl d70 ((doR s x).2)) rfl).blk) ?_
          rintro _ w321 ⟨rfl, hf323⟩
          refine ⟨_, rfl, ?_⟩
          have h322 := (h320.grow hf323).put (d := some 46) (v := .pointer (some ⟨bl, 0, none⟩)) (T' := [(46, .pointer (some ⟨bl, 0, none⟩)), (7, .pointer (some ⟨b295, 0, none⟩)), (6, .pointer (some ⟨b55, 0, none⟩)), (3, .pointer (some ⟨bs, 0, none⟩)), (4, .pointer (some ⟨bm, 0, none⟩)), (14, .slice (some ⟨sb45, k046, none⟩) ops.length c), (15, .int .i64 ((ops.length : Nat) : Int)), (16, .int .i64 ((i : Nat) : Int)), (44, .bool false), (45, .pointer (some ⟨bs, 0, none⟩)), (50, .pointer (some ⟨bl3, 0, none⟩))]) rfl
          refine ⟨(h320.keepFr hf323 (kcons (by simp) knil)), ?_⟩
          clear h320
          refine wpAnyK_one (i := 11) (fuel := 2) (by kernel_rfl) ?_
          refine op_call h322 rfl rfl rfl (callOk Try.func16 (by decide) rfl) (args := [.pointer (some ⟨bl, 0, none⟩), .pointer (some ⟨bl3, 0, none⟩)]) rfl (sameLog_ok bl bl3 d70 d3 (doR s x).2.lg _ (h322.inv.get (j := 0) (p := pSess bs bl d70 ((doR s x).2)) rfl).log (h322.inv.get (j := 1) (p := pMod bm bl3 d3 a3 (mdOf (nextAll s all x) (doR s x).2)) rfl).log (fun b hb hq => Pf_nodup h322.inv.nd (i := 0) (j := 1) (x := pSess bs bl d70 ((doR s x).2)) (y := pMod bm bl3 d3 a3 (mdOf (nextAll s all x) (doR s x).2)) rfl rfl (by decide) b (List.mem_cons_of_mem _ hb) (List.mem_cons_of_mem _ (List.mem_append.2 (.inr hq)))) (by omega) (by omega) (by omega)) ?_
          rintro _ w324 ⟨rfl, hf326⟩
          refine ⟨_, rfl, ?_⟩
          have h325 := (h322.grow hf326).put (d := some 51) (v := .bool true) (T' := [(51, .bool true), (46, .pointer (some ⟨bl, 0, none⟩)), (7, .pointer (some ⟨b295, 0, none⟩)), (6, .pointer (some ⟨b55, 0, none⟩)), (3, .pointer (some ⟨bs, 0, none⟩)), (4, .pointer (some ⟨bm, 0, none⟩)), (14, .slice (some ⟨sb45, k046, none⟩) ops.length c), (15, .int .i64 ((ops.length : Nat) : Int)), (16, .int .i64 ((i : Nat) : Int)), (44, .bool false), (45, .pointer (some ⟨bs, 0, none⟩)), (50, .pointer (some ⟨bl3, 0, none⟩))]) rfl
          refine ⟨keepNil, ?_⟩
          clear h322
          refine dr_batch tabOk tabZ_ok (by repeat (first | with_reducible exact PF.body | with_reducible apply PF.inB | with_reducible apply PF.next)) [(12, {}), (13, {})] [7, 6, 3, 4, 14, 15, 16, 53] (T' := [(7, .pointer (some ⟨b295, 0, none⟩)), (6, .pointer (some ⟨b55, 0, none⟩)), (3, .pointer (some ⟨bs, 0, none⟩)), (4, .pointer (some ⟨bm, 0, none⟩)), (14, .slice (some ⟨sb45, k046, none⟩) ops.length c), (15, .int .i64 ((ops.length : Nat) : Int)), (16, .int .i64 ((i : Nat) : Int)), (53, .bool false)]) (φ := True) (fuel := 0) h325 (by kernel_rfl) rfl (by kernel_rfl) (by kernel_rfl) ⟨trivial, trivial, trivial⟩ trivial fun a327 h328 => ?_
          clear h325
          refine wpAnyK_done (by kernel_rfl) ?_ _
          refine hK310 _ _ ?_
          clear hK310
          refine c_false h328 rfl ?_
          refine wp_skip ?_
          refine hK50 _ _ ?_
          clear hK50
          refine nd_start (l := [0, 1]) rfl ?_
          refine nd_batch tabOk tabZ_ok [(0, {}), (1, {})] [7, 6, 3, 4, 14, 15, 16] (T' := [(7, .pointer (some ⟨b295, 0, none⟩)), (6, .pointer (some ⟨b55, 0, none⟩)), (3, .pointer (some ⟨bs, 0, none⟩)), (4, .pointer (some ⟨bm, 0, none⟩)), (14, .slice (some ⟨sb45, k046, none⟩) ops.length c), (15, .int .i64 ((ops.length : Nat) : Int)), (16, .int .i64 (((i : Nat) : Int) + 1))]) (φ := inR .i64 (((i : Nat) : Int) + 1) ∧ True) (rest := []) h328 (by kernel_rfl) rfl ⟨⟨by omega, by omega⟩, trivial⟩ fun a329 h330 => ?_
          clear h328
          refine nd_done ?_
          have h331 := h330.memMono (L' := []) (List.Sublist.cons _ (List.Sublist.cons _ (List.Sublist.cons _ (List.Sublist.cons _ List.Sublist.slnil))))
          clear h330
          exact ⟨(g - 1), by omega, (i + 1), (doR s x).2, d70, (nextAll s all x), bl3, d3, a3, by omega, by omega, hwf1, hon1, hev1, (h331.slotsMono (restr_spec (keep := [3, 4, 14, 15, 16]) rfl))⟩
    ·
      have hc44f : ¬ ((i : Nat) : Int) < ((ops.length : Nat) : Int) := by simpa using hc44
      refine wp_exit ?_
      refine hK28 _ _ ?_
      clear hK28
      refine wp_seq_k fun K332 hK332 => ?_
      refine nd_start (l := [0]) rfl ?_
      refine nd_batch tabOk tabZ_ok [(0, {})] [3, 4, 14, 15, 16, 2] (T' := [(3, .pointer (some ⟨bs, 0, none⟩)), (4, .pointer (some ⟨bm, 0, none⟩)), (14, .slice o ops.length c), (15, .int .i64 ((ops.length : Nat) : Int)), (16, .int .i64 ((i : Nat) : Int)), (2, .bool true)]) (φ := True) (rest := []) h42 (by kernel_rfl) rfl trivial fun a333 h334 => ?_
      clear h42
      refine nd_done ?_
      refine hK332 _ _ ?_
      clear hK332
      refine wp_ret ?_
      try simp only [Exit.then, Exit.inBlock]
      try rw [if_pos trivial]
      exact s_ret tabOk tabZ_ok h334 [(.tmp 2, {})] (vs := [.bool true]) (φ := True) rfl (by kernel_rfl) trivial ⟨rfl, h334.frame⟩

end Go.Proofs.Qxb6500919a
