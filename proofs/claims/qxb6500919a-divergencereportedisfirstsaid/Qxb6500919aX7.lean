/-
  DivergenceReportedIsFirst: the law walked. (Made by program: a symbolic walk that prints its steps.)
-/
import Derived.Test.Qxb6500919aTab
import Derived.Test.Qxb6500919aLc
import Derived.Test.Qxb6500919aXK
import Derived.Test.Qxb6500919aSxJ
import Derived.Test.Qxb6500919aEq2
import Derived.Test.Qxb6500919aW1
import Derived.Test.Qxb6500919aW2
import Derived.Test.Qxb6500919aW4
import Derived.Test.Qxb6500919aWH
import Derived.Test.Qxb6500919aWI
import Derived.Test.Qxb6500919aWJ
import Derived.Test.Qxb6500919aWV
import Derived.Test.Qxb6500919aWM
import Derived.Test.Qxb6500919aWN
namespace Go.Proofs.Qxb6500919a
open Go.Sx Go.Rp
set_option maxRecDepth 100000
set_option maxHeartbeats 4000000
set_option linter.unusedVariables false
set_option linter.unusedSimpArgs false

theorem law7_ok (o : Option Addr) (c : Nat) (ops : List Opn) (w : World) (hok : ∀ op ∈ ops, op.ok) (hscr : Scr w o ops) : Calls Try.prog 7 #[.slice o ops.length c] w fun e w' => e = .returned (.bool true) ∧ Fr [] w w' := by
  refine enter0 (n := 136) (K := []) (T := [(0, .slice o ops.length c)]) (L := []) (args := [.slice o ops.length c]) Try.func7 rfl rfl rfl rfl knil (by simp) knil ?_
  intro a h
  refine wp_seq_k fun K1 hK1 => ?_
  refine nd_start (l := [0]) rfl ?_
  refine nd_batch tabOk tabZ_ok [(0, {})] [0, 2] (T' := [(0, .slice o ops.length c), (2, .bool false)]) (φ := True) (rest := []) h (by kernel_rfl) rfl trivial fun a2 h3 => ?_
  clear h
  refine nd_done ?_
  refine hK1 _ _ ?_
  clear hK1
  refine wp_seq_k fun K4 hK4 => ?_
  refine wp_seq_k fun K5 hK5 => ?_
  refine nd_start (l := [0, 1, 2]) rfl ?_
  refine nd_batch tabOk tabZ_ok [(0, {})] [0, 2, 18] (T' := [(0, .slice o ops.length c), (2, .bool false), (18, .slice o ops.length c)]) (φ := True) (rest := [1, 2]) h3 (by kernel_rfl) rfl trivial fun a6 h7 => ?_
  clear h3
  refine nd_op ?_
  refine op_call h7 rfl rfl rfl (callOk Try.func9 (by decide) rfl) (args := [.slice o ops.length c]) rfl (small_ok o ops.length c _) ?_
  rintro _ w8 ⟨rfl, hf10⟩
  refine ⟨_, rfl, ?_⟩
  have h9 := (h7.grow hf10).put (d := some 19) (v := .bool (decide (ops.length ≤ 65536))) (T' := [(19, .bool (decide (ops.length ≤ 65536))), (0, .slice o ops.length c), (2, .bool false), (18, .slice o ops.length c)]) rfl
  clear h7
  refine nd_batch tabOk tabZ_ok [(2, {})] [0, 2, 20] (T' := [(0, .slice o ops.length c), (2, .bool false), (20, .bool (!(decide (ops.length ≤ 65536))))]) (φ := True) (rest := []) h9 (by kernel_rfl) rfl trivial fun a11 h12 => ?_
  clear h9
  refine nd_done ?_
  refine hK5 _ _ ?_
  clear hK5
  refine c_split h12 (b := !(decide (ops.length ≤ 65536))) rfl (fun hc13 => ?_) (fun hc13 => ?_)
  ·
    refine wp_seq_k fun K14 hK14 => ?_
    refine nd_start (l := [0]) rfl ?_
    refine nd_batch tabOk tabZ_ok [(0, {})] [0, 2] (T' := [(0, .slice o ops.length c), (2, .bool true)]) (φ := True) (rest := []) h12 (by kernel_rfl) rfl trivial fun a15 h16 => ?_
    clear h12
    refine nd_done ?_
    refine hK14 _ _ ?_
    clear hK14
    refine wp_ret ?_
    try simp only [Exit.then, Exit.inBlock]
    try rw [if_pos trivial]
    exact s_ret tabOk tabZ_ok h16 [(.tmp 2, {})] (vs := [.bool true]) (φ := True) rfl (by kernel_rfl) trivial ⟨rfl, h16.frame⟩
  ·
    have hsm : ops.length ≤ 65536 := by simpa using hc13
    refine wp_skip ?_
    refine hK4 _ _ ?_
    clear hK4
    refine wp_seq_k fun K17 hK17 => ?_
    refine nd_start (l := [0, 1]) rfl ?_
    refine nd_op ?_
    have h18 := h12.slotsMono (T' := [(0, .slice o ops.length c), (2, .bool false)]) (restr_spec (keep := [0, 2]) rfl)
    clear h12
    have h19 := h18.pc0
    clear h18
    refine op_call h19 rfl rfl rfl (callOk Try.func10 (by decide) rfl) (args := []) rfl (new_ok _) ?_
    rintro _ w21 ⟨bs, bl, rfl, hs0, hf20, hn1, hn2⟩
    refine ⟨_, rfl, ?_⟩
    have h22 := (h19.pcAdd (p' := pSess bs bl hd0 ss0) (ps' := [pSess bs bl hd0 ss0]) (pSess_ok hs0) hf20 (fun b hb => by simp [Hd.F, hd0] at hb; rcases hb with rfl | rfl; exact hn1; exact hn2) rfl).put (d := some 21) (v := .pointer (some ⟨bs, 0, none⟩)) (T' := [(21, .pointer (some ⟨bs, 0, none⟩)), (0, .slice o ops.length c), (2, .bool false)]) rfl
    have hszh22 : w.heap.size ≤ _ := h19.frame.size
    clear h19
    refine nd_batch tabOk tabZ_ok [(1, {})] [0, 2, 3] (T' := [(0, .slice o ops.length c), (2, .bool false), (3, .pointer (some ⟨bs, 0, none⟩))]) (φ := True) (rest := []) h22 (by kernel_rfl) rfl trivial fun a23 h24 => ?_
    clear h22
    refine nd_done ?_
    refine hK17 _ _ ?_
    clear hK17
    refine wp_seq_k fun K25 hK25 => ?_
    refine nd_start (l := [0]) rfl ?_
    refine nd_batch tabOk tabZ_ok [(0, {})] [0, 2, 3, 4] (T' := [(0, .slice o ops.length c), (2, .bool false), (3, .pointer (some ⟨bs, 0, none⟩)), (4, .slice none 0 0)]) (φ := True) (rest := []) h24 (by kernel_rfl) rfl trivial fun a26 h27 => ?_
    clear h24
    refine nd_done ?_
    refine hK25 _ _ ?_
    clear hK25
    refine wp_seq_k fun K28 hK28 => ?_
    refine wp_seq_k fun K29 hK29 => ?_
    refine nd_start (l := [0, 1, 2]) rfl ?_
    refine nd_batch tabOk tabZ_ok [(0, {}), (1, {}), (2, {})] [0, 2, 3, 4, 22, 23, 24] (T' := [(0, .slice o ops.length c), (2, .bool false), (3, .pointer (some ⟨bs, 0, none⟩)), (4, .slice none 0 0), (22, .slice o ops.length c), (23, .int .i64 ((ops.length : Nat) : Int)), (24, .int .i64 0)]) (φ := True) (rest := []) h27 (by kernel_rfl) rfl trivial fun a30 h31 => ?_
    clear h27
    refine nd_done ?_
    refine hK29 _ _ ?_
    clear hK29
    refine wp_block ?_
    have h32 := h31.pcAdd (p' := pRow (rl opC 35 6 ([] : List Opn) none 0 [])) (ps' := [pSess bs bl hd0 ss0, pRow (rl opC 35 6 ([] : List Opn) none 0 ([]))]) (pRow_ok (rl_nil opC _ 35 6)) (Fr.refl _ _) (fun b hb => by cases hb) rfl
    clear h31
    refine wp_loop_ghost (fun g ga gw => ∃ (i : Nat) (s : Ss) (d : Hd) (es : List Opn) (ro : Option Addr) (rc : Nat) (rF : List Nat), (i ≤ ops.length) ∧ (g = ops.length - i) ∧ (s.wf (i : Int)) ∧ (es.length ≤ i) ∧ (∀ e ∈ es, e.ok) ∧ St ⟨136, [], w, Pk w.heap.size [pSess bs bl d s, pRow (rl opC 35 6 es ro rc rF)], Pf [pSess bs bl d s, pRow (rl opC 35 6 es ro rc rF)]⟩ [(3, .pointer (some ⟨bs, 0, none⟩)), (4, .slice ro es.length rc), (22, .slice o ops.length c), (23, .int .i64 ((ops.length : Nat) : Int)), (24, .int .i64 ((i : Nat) : Int))] [] ga gw) ops.length ⟨0, ss0, hd0, [], none, 0, [], Nat.zero_le _, rfl, ss0_wf, Nat.le_refl _, (fun e he => by cases he), (h32.slotsMono (restr_spec (keep := [3, 4, 22, 23, 24]) rfl))⟩ ?_
    clear h32
    rintro g a33 w34 ⟨i, s, d, es, ro, rc, rF, hi36, hi37, hi38, hi39, hi40, h35⟩
    have hi := hi36
    have hg := hi37
    have hwf := hi38
    have hel := hi39
    have heo := hi40
    have hfB := hwf.lg.fin
    have hlen := hwf.lg.len
    have hml := hwf.lg.mlen
    have hsl := hwf.lg.slen
    have hb0 := hwf.lg.b0
    refine wp_seq_k fun K41 hK41 => ?_
    refine nd_start (l := [0]) rfl ?_
    refine nd_batch tabOk tabZ_ok [(0, {})] [3, 4, 22, 23, 24, 25] (T' := [(3, .pointer (some ⟨bs, 0, none⟩)), (4, .slice ro es.length rc), (22, .slice o ops.length c), (23, .int .i64 ((ops.length : Nat) : Int)), (24, .int .i64 ((i : Nat) : Int)), (25, .bool (decide (((i : Nat) : Int) < ((ops.length : Nat) : Int))))]) (φ := True) (rest := []) h35 (by kernel_rfl) rfl trivial fun a42 h43 => ?_
    clear h35
    refine nd_done ?_
    refine hK41 _ _ ?_
    clear hK41
    refine wp_seq_k fun K44 hK44 => ?_
    refine c_split h43 (b := decide (((i : Nat) : Int) < ((ops.length : Nat) : Int))) rfl (fun hc45 => ?_) (fun hc45 => ?_)
    ·
      have hc45f : ((i : Nat) : Int) < ((ops.length : Nat) : Int) := by simpa using hc45
      obtain ⟨x, hx⟩ := Sx.get_some (xs := ops) (i := i) (by omega)
      have hxok := hok x (List.mem_of_getElem? hx)
      obtain ⟨sb46, k047, ho48, hb49, hc50⟩ := hscr.get hx
      subst ho48
      refine wp_skip ?_
      refine hK44 _ _ ?_
      clear hK44
      refine wp_seq_k fun K51 hK51 => ?_
      refine wp_block ?_
      refine wp_seq_k fun K52 hK52 => ?_
      refine nd_start (l := [0, 1, 2, 3]) rfl ?_
      refine nd_batch tabOk tabZ_ok [(0, {})] [3, 4, 22, 23, 24, 26] (T' := [(3, .pointer (some ⟨bs, 0, none⟩)), (4, .slice ro es.length rc), (22, .slice (some ⟨sb46, k047, none⟩) ops.length c), (23, .int .i64 ((ops.length : Nat) : Int)), (24, .int .i64 ((i : Nat) : Int)), (26, .pointer (some ⟨sb46, k047 + (i * 6), none⟩))]) (φ := (0 ≤ ((i : Nat) : Int) ∧ ((i : Nat) : Int) < ((ops.length : Nat) : Int)) ∧ True) (rest := [1, 2, 3]) h43 (by kernel_rfl) rfl ⟨⟨by omega, by omega⟩, trivial⟩ fun a53 h54 => ?_
      clear h43
      refine nd_op ?_
      refine op_loadx tabOk (b := sb46) (k := k047 + (i * 6)) (vs := opC x) h54 rfl rfl rfl rfl rfl rfl rfl (CellsAt.fr (hc50 _ _ hx) h54.frame hb49) ?_
      have h55 := h54.put (d := some 27) (v := .agg #[.int .u8 x.kind, .int .i64 x.n, .int .i64 x.m, .int .u8 x.ev.kind, .int .u32 x.ev.pick, .int .u64 x.ev.arg]) (T' := [(27, .agg #[.int .u8 x.kind, .int .i64 x.n, .int .i64 x.m, .int .u8 x.ev.kind, .int .u32 x.ev.pick, .int .u64 x.ev.arg]), (3, .pointer (some ⟨bs, 0, none⟩)), (4, .slice ro es.length rc), (22, .slice (some ⟨sb46, k047, none⟩) ops.length c), (23, .int .i64 ((ops.length : Nat) : Int)), (24, .int .i64 ((i : Nat) : Int)), (26, .pointer (some ⟨sb46, k047 + (i * 6), none⟩))]) rfl
      clear h54
      refine nd_op ?_
      refine op_new tabOk (cells := [.int .u8 0, .int .i64 0, .int .i64 0, .int .u8 0, .int .u32 0, .int .u64 0]) (ty := 35) (ln := none) (L1 := fun b56 => [(b56, ⟨[.int .u8 0, .int .i64 0, .int .i64 0, .int .u8 0, .int .u32 0, .int .u64 0], 35, false⟩)]) h55 rfl rfl rfl rfl (by kernel_rfl) (fun _ => rfl) fun b56 w57 a58 h59 hf60 hn61 => ?_
      clear h55
      refine nd_op ?_
      refine op_store tabOk {k := 0} (L' := [(b56, ⟨[.int .u8 x.kind, .int .i64 x.n, .int .i64 x.m, .int .u8 x.ev.kind, .int .u32 x.ev.pick, .int .u64 x.ev.arg], 35, false⟩)]) (φ := b56 = b56 ∧ Nat.ble (0 + 6) 6 = true) h59 rfl rfl rfl (by kernel_rfl) ⟨rfl, rfl⟩ fun w62 h63 => ?_
      clear h59
      refine nd_done ?_
      refine hK52 _ _ ?_
      clear hK52
      refine wp_seq_k fun K64 hK64 => ?_
      refine wp_seq_k fun K65 hK65 => ?_
      refine nd_start (l := [0, 1, 2]) rfl ?_
      refine nd_batch tabOk tabZ_ok [(0, {}), (1, {k := 0}), (2, {})] [6, 3, 4, 22, 23, 24, 30] (T' := [(6, .pointer (some ⟨b56, 0, none⟩)), (3, .pointer (some ⟨bs, 0, none⟩)), (4, .slice ro es.length rc), (22, .slice (some ⟨sb46, k047, none⟩) ops.length c), (23, .int .i64 ((ops.length : Nat) : Int)), (24, .int .i64 ((i : Nat) : Int)), (30, .bool (decide (x.kind < 9)))]) (φ := (b56 = b56 ∧ Nat.ble (0 + 1) 6 = true) ∧ True) (rest := []) h63 (by kernel_rfl) rfl ⟨⟨rfl, rfl⟩, trivial⟩ fun a66 h67 => ?_
      clear h63
      refine nd_done ?_
      refine hK65 _ _ ?_
      clear hK65
      refine c_split h67 (b := decide (x.kind < 9)) rfl (fun hc68 => ?_) (fun hc68 => ?_)
      ·
        have hc68f : x.kind < 9 := by simpa using hc68
        refine wp_seq_k fun K69 hK69 => ?_
        refine nd_start (l := [0, 1, 2]) rfl ?_
        refine nd_batch tabOk tabZ_ok [(0, {}), (1, {k := 0})] [6, 3, 4, 22, 23, 24, 31, 32] (T' := [(6, .pointer (some ⟨b56, 0, none⟩)), (3, .pointer (some ⟨bs, 0, none⟩)), (4, .slice ro es.length rc), (22, .slice (some ⟨sb46, k047, none⟩) ops.length c), (23, .int .i64 ((ops.length : Nat) : Int)), (24, .int .i64 ((i : Nat) : Int)), (31, .pointer (some ⟨bs, 0, none⟩)), (32, .agg #[.int .u8 x.kind, .int .i64 x.n, .int .i64 x.m, .int .u8 x.ev.kind, .int .u32 x.ev.pick, .int .u64 x.ev.arg])]) (φ := (b56 = b56 ∧ Nat.ble (0 + 6) 6 = true) ∧ True) (rest := [2]) h67 (by kernel_rfl) rfl ⟨⟨rfl, rfl⟩, trivial⟩ fun a70 h71 => ?_
        clear h67
        refine nd_op ?_
        refine op_call h71 rfl rfl rfl (callOk Try.func12 (by decide) rfl) (args := [.pointer (some ⟨bs, 0, none⟩), .agg #[.int .u8 x.kind, .int .i64 x.n, .int .i64 x.m, .int .u8 x.ev.kind, .int .u32 x.ev.pick, .int .u64 x.ev.arg]]) rfl (do_ok bs bl d s _ (h71.inv.get (j := 0) (p := pSess bs bl d s) rfl) (B := (i : Int)) (by omega) hwf x hxok) ?_
        rintro _ w76 ⟨d72, rfl, hs73, hf74, hF75⟩
        refine ⟨_, rfl, ?_⟩
        have h77 := (h71.pcSet (j := 0) (p := pSess bs bl d s) (p' := pSess bs bl d72 ((doR s x).2)) (ps' := [pSess bs bl d72 ((doR s x).2), pRow (rl opC 35 6 es ro rc rF)]) rfl (pSess_ok hs73) hf74 (fun _ h => h) (sess_sub hF75) (kcons (by intro hq; cases hq) knil) rfl).put (d := some 33) (v := .agg #[.int .u8 ((doR s x).1.code), .int .i64 ((doR s x).1.pos), .int .i64 ((doR s x).1.base), .int .i64 ((doR s x).1.fin), .bool ((doR s x).1.live), .bool ((doR s x).1.out.refused), .int .i8 ((doR s x).1.out.running), .int .u64 ((doR s x).1.out.value), .int .u64 ((doR s x).1.dig), .int .i64 ((doR s x).1.from_), .int .i64 ((doR s x).1.replayed), .int .i64 ((doR s x).1.at_)]) (T' := [(33, .agg #[.int .u8 ((doR s x).1.code), .int .i64 ((doR s x).1.pos), .int .i64 ((doR s x).1.base), .int .i64 ((doR s x).1.fin), .bool ((doR s x).1.live), .bool ((doR s x).1.out.refused), .int .i8 ((doR s x).1.out.running), .int .u64 ((doR s x).1.out.value), .int .u64 ((doR s x).1.dig), .int .i64 ((doR s x).1.from_), .int .i64 ((doR s x).1.replayed), .int .i64 ((doR s x).1.at_)]), (6, .pointer (some ⟨b56, 0, none⟩)), (3, .pointer (some ⟨bs, 0, none⟩)), (4, .slice ro es.length rc), (22, .slice (some ⟨sb46, k047, none⟩) ops.length c), (23, .int .i64 ((ops.length : Nat) : Int)), (24, .int .i64 ((i : Nat) : Int)), (31, .pointer (some ⟨bs, 0, none⟩)), (32, .agg #[.int .u8 x.kind, .int .i64 x.n, .int .i64 x.m, .int .u8 x.ev.kind, .int .u32 x.ev.pick, .int .u64 x.ev.arg])]) rfl
        have hszh77 : w.heap.size ≤ _ := h71.frame.size
        clear h71
        have hwf1 : (doR s x).2.wf ((i + 1 : Nat) : Int) := by have hq := do_wf hwf x hxok.2; rw [show ((i + 1 : Nat) : Int) = (i : Int) + 1 by omega]; exact hq
        refine nd_done ?_
        refine hK69 _ _ ?_
        clear hK69
        refine wp_seq_k fun K78 hK78 => ?_
        refine nd_start (l := [0]) rfl ?_
        refine nd_batch tabOk tabZ_ok [(0, {})] [6, 3, 22, 23, 24, 4] (T' := [(6, .pointer (some ⟨b56, 0, none⟩)), (3, .pointer (some ⟨bs, 0, none⟩)), (22, .slice (some ⟨sb46, k047, none⟩) ops.length c), (23, .int .i64 ((ops.length : Nat) : Int)), (24, .int .i64 ((i : Nat) : Int)), (4, .slice none 0 0)]) (φ := True) (rest := []) h77 (by kernel_rfl) rfl trivial fun a79 h80 => ?_
        clear h77
        refine nd_done ?_
        refine hK78 _ _ ?_
        clear hK78
        refine wp_exit ?_
        refine hK51 _ _ ?_
        clear hK51
        refine nd_start (l := [0, 1]) rfl ?_
        refine nd_batch tabOk tabZ_ok [(0, {}), (1, {})] [6, 3, 22, 23, 4, 24] (T' := [(6, .pointer (some ⟨b56, 0, none⟩)), (3, .pointer (some ⟨bs, 0, none⟩)), (22, .slice (some ⟨sb46, k047, none⟩) ops.length c), (23, .int .i64 ((ops.length : Nat) : Int)), (4, .slice none 0 0), (24, .int .i64 (((i : Nat) : Int) + 1))]) (φ := inR .i64 (((i : Nat) : Int) + 1) ∧ True) (rest := []) h80 (by kernel_rfl) rfl ⟨⟨by omega, by omega⟩, trivial⟩ fun a81 h82 => ?_
        clear h80
        refine nd_done ?_
        have h83 := h82.memMono (L' := []) (List.Sublist.cons _ List.Sublist.slnil)
        clear h82
        have h84 := h83.pcSub (ps' := [pSess bs bl d72 ((doR s x).2)]) (List.Sublist.cons_cons _ (List.Sublist.cons _ List.Sublist.slnil))
        clear h83
        have h85 := h84.pcAdd (p' := pRow (rl opC 35 6 ([] : List Opn) none 0 [])) (ps' := [pSess bs bl d72 ((doR s x).2), pRow (rl opC 35 6 ([] : List Opn) none 0 ([]))]) (pRow_ok (rl_nil opC _ 35 6)) (Fr.refl _ _) (fun b hb => by cases hb) rfl
        clear h84
        exact ⟨(g - 1), by omega, (i + 1), (doR s x).2, d72, [], none, 0, [], by omega, by omega, hwf1, Nat.zero_le _, (fun e he => by cases he), (h85.slotsMono (restr_spec (keep := [3, 4, 22, 23, 24]) rfl))⟩
      ·
        have hc68f : ¬ x.kind < 9 := by simpa using hc68
        refine wp_skip ?_
        refine hK64 _ _ ?_
        clear hK64
        refine wp_seq_k fun K86 hK86 => ?_
        refine nd_start (l := [0, 1, 2, 3, 4]) rfl ?_
        refine nd_batch tabOk tabZ_ok [(0, {}), (1, {k := 0})] [6, 3, 4, 22, 23, 24, 34, 35] (T' := [(6, .pointer (some ⟨b56, 0, none⟩)), (3, .pointer (some ⟨bs, 0, none⟩)), (4, .slice ro es.length rc), (22, .slice (some ⟨sb46, k047, none⟩) ops.length c), (23, .int .i64 ((ops.length : Nat) : Int)), (24, .int .i64 ((i : Nat) : Int)), (34, .slice ro es.length rc), (35, .agg #[.int .u8 x.kind, .int .i64 x.n, .int .i64 x.m, .int .u8 x.ev.kind, .int .u32 x.ev.pick, .int .u64 x.ev.arg])]) (φ := (b56 = b56 ∧ Nat.ble (0 + 6) 6 = true) ∧ True) (rest := [2, 3, 4]) h67 (by kernel_rfl) rfl ⟨⟨rfl, rfl⟩, trivial⟩ fun a87 h88 => ?_
        clear h67
        refine nd_op ?_
        refine op_new tabOk (cells := [.int .u8 x.kind, .int .i64 x.n, .int .i64 x.m, .int .u8 x.ev.kind, .int .u32 x.ev.pick, .int .u64 x.ev.arg]) (ty := 35) (ln := (some 1)) (L1 := fun b89 => [(b56, ⟨[.int .u8 x.kind, .int .i64 x.n, .int .i64 x.m, .int .u8 x.ev.kind, .int .u32 x.ev.pick, .int .u64 x.ev.arg], 35, false⟩), (b89, ⟨[.int .u8 x.kind, .int .i64 x.n, .int .i64 x.m, .int .u8 x.ev.kind, .int .u32 x.ev.pick, .int .u64 x.ev.arg], 35, false⟩)]) h88 rfl rfl rfl rfl (by kernel_rfl) (fun _ => rfl) fun b89 w90 a91 h92 hf93 hn94 => ?_
        clear h88
        refine nd_op ?_
        refine op_append tabOk (e := 35) (so := ro) (n := es.length) (c := rc) (xo := some ⟨b89, 0, none⟩) (m := 1) (cx := 1) (vals := es.flatMap opC) (vs := [.int .u8 x.kind, .int .i64 x.n, .int .i64 x.m, .int .u8 x.ev.kind, .int .u32 x.ev.pick, .int .u64 x.ev.arg]) (F := rF) h92 rfl rfl rfl rfl rfl rfl rfl rfl rfl rfl rfl rfl (h92.inv.get (j := 1) (p := pRow (rl opC 35 6 es ro rc rF)) rfl) (src_one (h92.kn (k := 1) rfl) rfl ⟨rfl, rfl, rfl, rfl, rfl, rfl, trivial⟩) (by omega) rfl ?_
        intro o95 c96 F97 w98 hr99 hf100 hF101
        have hr992 := rl_app1 (enc := opC) (xs := es) (y := x) hr99
        rw [show es.length + 1 = (es ++ [x]).length by simp]
        have h102 := (h92.pcSet (j := 1) (p := pRow (rl opC 35 6 es ro rc rF)) (p' := pRow (rl opC 35 6 (es ++ [x]) o95 c96 F97)) (ps' := [pSess bs bl d s, pRow (rl opC 35 6 (es ++ [x]) o95 c96 F97)]) rfl (pRow_ok hr992) hf100 (fun _ h => h) hF101 (kcons (by intro hq; cases hq) (kcons (by intro hq; cases hq) knil)) rfl).put (d := some 37) (v := .slice o95 ((es ++ [x]).length) c96) (T' := [(37, .slice o95 ((es ++ [x]).length) c96), (36, .slice (some ⟨b89, 0, none⟩) 1 1), (6, .pointer (some ⟨b56, 0, none⟩)), (3, .pointer (some ⟨bs, 0, none⟩)), (4, .slice ro es.length rc), (22, .slice (some ⟨sb46, k047, none⟩) ops.length c), (23, .int .i64 ((ops.length : Nat) : Int)), (24, .int .i64 ((i : Nat) : Int)), (34, .slice ro es.length rc), (35, .agg #[.int .u8 x.kind, .int .i64 x.n, .int .i64 x.m, .int .u8 x.ev.kind, .int .u32 x.ev.pick, .int .u64 x.ev.arg])]) rfl
        have hszh102 : w.heap.size ≤ _ := h92.frame.size
        clear h92
        refine nd_batch tabOk tabZ_ok [(4, {})] [6, 3, 22, 23, 24, 4] (T' := [(6, .pointer (some ⟨b56, 0, none⟩)), (3, .pointer (some ⟨bs, 0, none⟩)), (22, .slice (some ⟨sb46, k047, none⟩) ops.length c), (23, .int .i64 ((ops.length : Nat) : Int)), (24, .int .i64 ((i : Nat) : Int)), (4, .slice o95 ((es ++ [x]).length) c96)]) (φ := True) (rest := []) h102 (by kernel_rfl) rfl trivial fun a103 h104 => ?_
        clear h102
        refine nd_done ?_
        refine hK86 _ _ ?_
        clear hK86
        refine wp_seq_k fun K105 hK105 => ?_
        refine nd_start (l := [0, 1, 2, 3]) rfl ?_
        refine nd_batch tabOk tabZ_ok [(0, {})] [6, 3, 22, 23, 24, 4, 38] (T' := [(6, .pointer (some ⟨b56, 0, none⟩)), (3, .pointer (some ⟨bs, 0, none⟩)), (22, .slice (some ⟨sb46, k047, none⟩) ops.length c), (23, .int .i64 ((ops.length : Nat) : Int)), (24, .int .i64 ((i : Nat) : Int)), (4, .slice o95 ((es ++ [x]).length) c96), (38, .pointer (some ⟨bs, 0, none⟩))]) (φ := True) (rest := [1, 2, 3]) h104 (by kernel_rfl) rfl trivial fun a106 h107 => ?_
        clear h104
        refine nd_op ?_
        refine op_call h107 rfl rfl rfl (callOk Try.func17 (by decide) rfl) (args := [.pointer (some ⟨bs, 0, none⟩)]) rfl (slog_ok bs _ _ _ _ _ false _ (h107.inv.get (j := 0) (p := pSess bs bl d s) rfl).blk) ?_
        rintro _ w108 ⟨rfl, hf110⟩
        refine ⟨_, rfl, ?_⟩
        have h109 := (h107.grow hf110).put (d := some 39) (v := .pointer (some ⟨bl, 0, none⟩)) (T' := [(39, .pointer (some ⟨bl, 0, none⟩)), (6, .pointer (some ⟨b56, 0, none⟩)), (3, .pointer (some ⟨bs, 0, none⟩)), (22, .slice (some ⟨sb46, k047, none⟩) ops.length c), (23, .int .i64 ((ops.length : Nat) : Int)), (24, .int .i64 ((i : Nat) : Int)), (4, .slice o95 ((es ++ [x]).length) c96), (38, .pointer (some ⟨bs, 0, none⟩))]) rfl
        clear h107
        refine nd_op ?_
        refine op_call h109 rfl rfl rfl (callOk Try.func18 (by decide) rfl) (args := [.pointer (some ⟨bl, 0, none⟩)]) rfl (clone_ok bl _ s.lg _ (h109.inv.get (j := 0) (p := pSess bs bl d s) rfl).log (by omega) (by omega) (by omega)) ?_
        rintro _ w115 ⟨bq, d111, rfl, hs112, hf113, hn114⟩
        refine ⟨_, rfl, ?_⟩
        have h116 := (h109.pcAdd (p' := pLog bq d111 s.lg) (ps' := [pSess bs bl d s, pRow (rl opC 35 6 (es ++ [x]) o95 c96 F97), pLog bq d111 s.lg]) (pLog_ok hs112) hf113 hn114 rfl).put (d := some 40) (v := .pointer (some ⟨bq, 0, none⟩)) (T' := [(40, .pointer (some ⟨bq, 0, none⟩)), (39, .pointer (some ⟨bl, 0, none⟩)), (6, .pointer (some ⟨b56, 0, none⟩)), (3, .pointer (some ⟨bs, 0, none⟩)), (22, .slice (some ⟨sb46, k047, none⟩) ops.length c), (23, .int .i64 ((ops.length : Nat) : Int)), (24, .int .i64 ((i : Nat) : Int)), (4, .slice o95 ((es ++ [x]).length) c96), (38, .pointer (some ⟨bs, 0, none⟩))]) rfl
        have hszh116 : w.heap.size ≤ _ := h109.frame.size
        clear h109
        refine nd_batch tabOk tabZ_ok [(3, {})] [6, 3, 22, 23, 24, 4, 7] (T' := [(6, .pointer (some ⟨b56, 0, none⟩)), (3, .pointer (some ⟨bs, 0, none⟩)), (22, .slice (some ⟨sb46, k047, none⟩) ops.length c), (23, .int .i64 ((ops.length : Nat) : Int)), (24, .int .i64 ((i : Nat) : Int)), (4, .slice o95 ((es ++ [x]).length) c96), (7, .pointer (some ⟨bq, 0, none⟩))]) (φ := True) (rest := []) h116 (by kernel_rfl) rfl trivial fun a117 h118 => ?_
        clear h116
        refine nd_done ?_
        refine hK105 _ _ ?_
        clear hK105
        refine wp_seq_k fun K119 hK119 => ?_
        refine wp_seq_k fun K120 hK120 => ?_
        refine nd_start (l := [0, 1, 2]) rfl ?_
        refine nd_batch tabOk tabZ_ok [(0, {}), (1, {}), (2, {})] [6, 3, 22, 23, 24, 4, 7, 41, 42, 43] (T' := [(6, .pointer (some ⟨b56, 0, none⟩)), (3, .pointer (some ⟨bs, 0, none⟩)), (22, .slice (some ⟨sb46, k047, none⟩) ops.length c), (23, .int .i64 ((ops.length : Nat) : Int)), (24, .int .i64 ((i : Nat) : Int)), (4, .slice o95 ((es ++ [x]).length) c96), (7, .pointer (some ⟨bq, 0, none⟩)), (41, .slice o95 ((es ++ [x]).length) c96), (42, .int .i64 (((es ++ [x]).length : Nat) : Int)), (43, .int .i64 0)]) (φ := True) (rest := []) h118 (by kernel_rfl) rfl trivial fun a121 h122 => ?_
        clear h118
        refine nd_done ?_
        refine hK120 _ _ ?_
        clear hK120
        refine wp_block ?_
        have h123 := h122.memMono (L' := []) (List.Sublist.cons _ (List.Sublist.cons _ List.Sublist.slnil))
        clear h122
        have heo2 : ∀ e ∈ (es ++ [x]), e.ok := by intro e he; rcases List.mem_append.1 he with h1 | h1; exact heo e h1; simp at h1; subst h1; exact hxok
        have hesl : (es ++ [x]).length = es.length + 1 := by simp
        refine wp_loop_ghost (fun gg2 ga gw => ∃ (j : Nat), (j ≤ (es ++ [x]).length) ∧ (gg2 = (es ++ [x]).length - j) ∧ St ⟨136, [], w, Pk w.heap.size [pSess bs bl d s, pRow (rl opC 35 6 (es ++ [x]) o95 c96 F97), pLog bq d111 (((es ++ [x]).take j).foldl tampR s.lg)], Pf [pSess bs bl d s, pRow (rl opC 35 6 (es ++ [x]) o95 c96 F97), pLog bq d111 (((es ++ [x]).take j).foldl tampR s.lg)]⟩ [(3, .pointer (some ⟨bs, 0, none⟩)), (4, .slice o95 ((es ++ [x]).length) c96), (7, .pointer (some ⟨bq, 0, none⟩)), (22, .slice (some ⟨sb46, k047, none⟩) ops.length c), (23, .int .i64 ((ops.length : Nat) : Int)), (24, .int .i64 ((i : Nat) : Int)), (41, .slice o95 ((es ++ [x]).length) c96), (42, .int .i64 (((es ++ [x]).length : Nat) : Int)), (43, .int .i64 ((j : Nat) : Int))] [] ga gw) (es ++ [x]).length ⟨0, Nat.zero_le _, rfl, (h123.slotsMono (restr_spec (keep := [3, 4, 7, 22, 23, 24, 41, 42, 43]) rfl))⟩ ?_
        clear h123
        rintro gg2 a124 w125 ⟨j, hi127, hi128, h126⟩
        have hj := hi127
        have hg2 := hi128
        have hjw := tamps_wf (l := (es ++ [x]).take j) hwf.lg (fun e he => (heo2 e (List.mem_of_mem_take he)).2)
        refine wp_seq_k fun K129 hK129 => ?_
        refine nd_start (l := [0]) rfl ?_
        refine nd_batch tabOk tabZ_ok [(0, {})] [3, 4, 7, 22, 23, 24, 41, 42, 43, 44] (T' := [(3, .pointer (some ⟨bs, 0, none⟩)), (4, .slice o95 ((es ++ [x]).length) c96), (7, .pointer (some ⟨bq, 0, none⟩)), (22, .slice (some ⟨sb46, k047, none⟩) ops.length c), (23, .int .i64 ((ops.length : Nat) : Int)), (24, .int .i64 ((i : Nat) : Int)), (41, .slice o95 ((es ++ [x]).length) c96), (42, .int .i64 (((es ++ [x]).length : Nat) : Int)), (43, .int .i64 ((j : Nat) : Int)), (44, .bool (decide (((j : Nat) : Int) < (((es ++ [x]).length : Nat) : Int))))]) (φ := True) (rest := []) h126 (by kernel_rfl) rfl trivial fun a130 h131 => ?_
        clear h126
        refine nd_done ?_
        refine hK129 _ _ ?_
        clear hK129
        refine wp_seq_k fun K132 hK132 => ?_
        refine c_split h131 (b := decide (((j : Nat) : Int) < (((es ++ [x]).length : Nat) : Int))) rfl (fun hc133 => ?_) (fun hc133 => ?_)
        ·
          have hc133f : ((j : Nat) : Int) < (((es ++ [x]).length : Nat) : Int) := by simpa using hc133
          obtain ⟨y, hy⟩ := Sx.get_some (xs := (es ++ [x])) (i := j) (by omega)
          obtain ⟨rb134, cs135, ho, hbr, hcr, hFr, _, _⟩ := rl_open (h131.inv.get (j := 1) (p := pRow (rl opC 35 6 (es ++ [x]) o95 c96 F97)) rfl) opC_len hy
          subst ho hFr
          have h136 := h131.open_ hbr (h131.notinL (by simp [Pf]) knil)
          clear h131
          refine wp_skip ?_
          refine hK132 _ _ ?_
          clear hK132
          refine wp_seq_k fun K137 hK137 => ?_
          refine wp_block ?_
          refine wp_seq_k fun K138 hK138 => ?_
          refine nd_start (l := [0, 1, 2, 3]) rfl ?_
          refine nd_batch tabOk tabZ_ok [(0, {}), (1, {k := 0, m := 1, vs := [.int .u8 y.kind, .int .i64 y.n, .int .i64 y.m, .int .u8 y.ev.kind, .int .u32 y.ev.pick, .int .u64 y.ev.arg]})] [3, 4, 7, 22, 23, 24, 41, 42, 43, 46] (T' := [(3, .pointer (some ⟨bs, 0, none⟩)), (4, .slice (some ⟨rb134, 0, none⟩) ((es ++ [x]).length) c96), (7, .pointer (some ⟨bq, 0, none⟩)), (22, .slice (some ⟨sb46, k047, none⟩) ops.length c), (23, .int .i64 ((ops.length : Nat) : Int)), (24, .int .i64 ((i : Nat) : Int)), (41, .slice (some ⟨rb134, 0, none⟩) ((es ++ [x]).length) c96), (42, .int .i64 (((es ++ [x]).length : Nat) : Int)), (43, .int .i64 ((j : Nat) : Int)), (46, .agg #[.int .u8 y.kind, .int .i64 y.n, .int .i64 y.m, .int .u8 y.ev.kind, .int .u32 y.ev.pick, .int .u64 y.ev.arg])]) (φ := (0 ≤ ((j : Nat) : Int) ∧ ((j : Nat) : Int) < (((es ++ [x]).length : Nat) : Int)) ∧ (rb134 = rb134 ∧ cellsAre cs135 (0 + (j * 6)) [.int .u8 y.kind, .int .i64 y.n, .int .i64 y.m, .int .u8 y.ev.kind, .int .u32 y.ev.pick, .int .u64 y.ev.arg]) ∧ True) (rest := [2, 3]) h136 (by kernel_rfl) rfl ⟨⟨by omega, by omega⟩, ⟨rfl, (by rw [Nat.zero_add]; exact hcr)⟩, trivial⟩ fun a139 h140 => ?_
          clear h136
          refine nd_op ?_
          refine op_new tabOk (cells := [.int .u8 0, .int .i64 0, .int .i64 0, .int .u8 0, .int .u32 0, .int .u64 0]) (ty := 35) (ln := none) (L1 := fun b141 => [(rb134, ⟨cs135, 35, true⟩), (b141, ⟨[.int .u8 0, .int .i64 0, .int .i64 0, .int .u8 0, .int .u32 0, .int .u64 0], 35, false⟩)]) h140 rfl rfl rfl rfl (by kernel_rfl) (fun _ => rfl) fun b141 w142 a143 h144 hf145 hn146 => ?_
          clear h140
          refine nd_op ?_
          refine op_store tabOk {k := 1} (L' := [(rb134, ⟨cs135, 35, true⟩), (b141, ⟨[.int .u8 y.kind, .int .i64 y.n, .int .i64 y.m, .int .u8 y.ev.kind, .int .u32 y.ev.pick, .int .u64 y.ev.arg], 35, false⟩)]) (φ := b141 = b141 ∧ Nat.ble (0 + 6) 6 = true) h144 rfl rfl rfl (by kernel_rfl) ⟨rfl, rfl⟩ fun w147 h148 => ?_
          clear h144
          refine nd_done ?_
          refine hK138 _ _ ?_
          clear hK138
          refine nd_start (l := [0, 1, 2]) rfl ?_
          refine nd_batch tabOk tabZ_ok [(0, {}), (1, {k := 1})] [9, 3, 4, 7, 22, 23, 24, 41, 42, 43, 47, 48] (T' := [(9, .pointer (some ⟨b141, 0, none⟩)), (3, .pointer (some ⟨bs, 0, none⟩)), (4, .slice (some ⟨rb134, 0, none⟩) ((es ++ [x]).length) c96), (7, .pointer (some ⟨bq, 0, none⟩)), (22, .slice (some ⟨sb46, k047, none⟩) ops.length c), (23, .int .i64 ((ops.length : Nat) : Int)), (24, .int .i64 ((i : Nat) : Int)), (41, .slice (some ⟨rb134, 0, none⟩) ((es ++ [x]).length) c96), (42, .int .i64 (((es ++ [x]).length : Nat) : Int)), (43, .int .i64 ((j : Nat) : Int)), (47, .pointer (some ⟨bq, 0, none⟩)), (48, .agg #[.int .u8 y.kind, .int .i64 y.n, .int .i64 y.m, .int .u8 y.ev.kind, .int .u32 y.ev.pick, .int .u64 y.ev.arg])]) (φ := (b141 = b141 ∧ Nat.ble (0 + 6) 6 = true) ∧ True) (rest := [2]) h148 (by kernel_rfl) rfl ⟨⟨rfl, rfl⟩, trivial⟩ fun a149 h150 => ?_
          clear h148
          refine nd_op ?_
          have h151 := h150.memMono (L' := [(b141, ⟨[.int .u8 y.kind, .int .i64 y.n, .int .i64 y.m, .int .u8 y.ev.kind, .int .u32 y.ev.pick, .int .u64 y.ev.arg], 35, false⟩)]) (List.Sublist.cons _ (List.Sublist.cons_cons _ List.Sublist.slnil))
          clear h150
          refine op_call h151 rfl rfl rfl (callOk Try.func22 (by decide) rfl) (args := [.pointer (some ⟨bq, 0, none⟩), .agg #[.int .u8 y.kind, .int .i64 y.n, .int .i64 y.m, .int .u8 y.ev.kind, .int .u32 y.ev.pick, .int .u64 y.ev.arg]]) rfl (tamper_ok bq d111 (((es ++ [x]).take j).foldl tampR s.lg) _ (h151.inv.get (j := 2) (p := pLog bq d111 (((es ++ [x]).take j).foldl tampR s.lg)) rfl) y hjw.b0 (by have := hjw.fin; unfold Lg.fin at this; omega) hjw.len hjw.mlen (by have := hjw.slen; omega)) ?_
          rintro _ w154 ⟨rfl, hs152, hf153⟩
          refine ⟨_, rfl, ?_⟩
          rw [show tampR (((es ++ [x]).take j).foldl tampR s.lg) y = (((es ++ [x]).take (j + 1)).foldl tampR s.lg) by rw [Sx.take_snoc hy, List.foldl_append]; rfl] at hs152
          have h155 := (h151.pcSet (j := 2) (p := pLog bq d111 (((es ++ [x]).take j).foldl tampR s.lg)) (p' := pLog bq d111 (((es ++ [x]).take (j + 1)).foldl tampR s.lg)) (ps' := [pSess bs bl d s, pRow (rl opC 35 6 (es ++ [x]) (some ⟨rb134, 0, none⟩) c96 ([rb134])), pLog bq d111 (((es ++ [x]).take (j + 1)).foldl tampR s.lg)]) rfl (pLog_ok hs152) hf153 (fun _ h => h) (fun b hb => .inl hb) (kcons (by intro hq; cases hq) knil) rfl).put (d := some 49) (v := .tuple #[]) (T' := [(49, .tuple #[]), (9, .pointer (some ⟨b141, 0, none⟩)), (3, .pointer (some ⟨bs, 0, none⟩)), (4, .slice (some ⟨rb134, 0, none⟩) ((es ++ [x]).length) c96), (7, .pointer (some ⟨bq, 0, none⟩)), (22, .slice (some ⟨sb46, k047, none⟩) ops.length c), (23, .int .i64 ((ops.length : Nat) : Int)), (24, .int .i64 ((i : Nat) : Int)), (41, .slice (some ⟨rb134, 0, none⟩) ((es ++ [x]).length) c96), (42, .int .i64 (((es ++ [x]).length : Nat) : Int)), (43, .int .i64 ((j : Nat) : Int)), (47, .pointer (some ⟨bq, 0, none⟩)), (48, .agg #[.int .u8 y.kind, .int .i64 y.n, .int .i64 y.m, .int .u8 y.ev.kind, .int .u32 y.ev.pick, .int .u64 y.ev.arg])]) rfl
          have hszh155 : w.heap.size ≤ _ := h151.frame.size
          clear h151
          refine nd_done ?_
          refine hK137 _ _ ?_
          clear hK137
          refine nd_start (l := [0, 1]) rfl ?_
          refine nd_batch tabOk tabZ_ok [(0, {}), (1, {})] [9, 3, 4, 7, 22, 23, 24, 41, 42, 43] (T' := [(9, .pointer (some ⟨b141, 0, none⟩)), (3, .pointer (some ⟨bs, 0, none⟩)), (4, .slice (some ⟨rb134, 0, none⟩) ((es ++ [x]).length) c96), (7, .pointer (some ⟨bq, 0, none⟩)), (22, .slice (some ⟨sb46, k047, none⟩) ops.length c), (23, .int .i64 ((ops.length : Nat) : Int)), (24, .int .i64 ((i : Nat) : Int)), (41, .slice (some ⟨rb134, 0, none⟩) ((es ++ [x]).length) c96), (42, .int .i64 (((es ++ [x]).length : Nat) : Int)), (43, .int .i64 (((j : Nat) : Int) + 1))]) (φ := inR .i64 (((j : Nat) : Int) + 1) ∧ True) (rest := []) h155 (by kernel_rfl) rfl ⟨⟨by omega, by omega⟩, trivial⟩ fun a156 h157 => ?_
          clear h155
          refine nd_done ?_
          have h158 := h157.memMono (L' := []) (List.Sublist.cons _ List.Sublist.slnil)
          clear h157
          exact ⟨(gg2 - 1), by omega, (j + 1), by omega, by omega, (h158.slotsMono (restr_spec (keep := [3, 4, 7, 22, 23, 24, 41, 42, 43]) rfl))⟩
        ·
          have hc133f : ¬ ((j : Nat) : Int) < (((es ++ [x]).length : Nat) : Int) := by simpa using hc133
          have h159 := h131.slotsMono (T' := [(3, .pointer (some ⟨bs, 0, none⟩)), (4, .slice o95 ((es ++ [x]).length) c96), (7, .pointer (some ⟨bq, 0, none⟩)), (22, .slice (some ⟨sb46, k047, none⟩) ops.length c), (23, .int .i64 ((ops.length : Nat) : Int)), (24, .int .i64 ((i : Nat) : Int))]) (restr_spec (keep := [3, 4, 7, 22, 23, 24]) rfl)
          clear h131
          have hjj : j = (es ++ [x]).length := by omega
          subst hjj
          rw [List.take_length] at h159 hjw
          generalize hbad : (es ++ [x]).foldl tampR s.lg = bad at h159 hjw
          have hbwf := hjw
          have hbfin := hbwf.fin
          have hblen := hbwf.len
          have hbmlen := hbwf.mlen
          have hbslen := hbwf.slen
          have hbb0 := hbwf.b0
          have hbfq : bad.fin = (bad.base.idx + (bad.evs.length : Int)) := rfl
          refine wp_exit ?_
          refine hK119 _ _ ?_
          clear hK119
          refine wp_seq_k fun K160 hK160 => ?_
          refine nd_start (l := [0, 1, 2]) rfl ?_
          refine nd_batch tabOk tabZ_ok [(0, {})] [3, 4, 7, 22, 23, 24, 51] (T' := [(3, .pointer (some ⟨bs, 0, none⟩)), (4, .slice o95 ((es ++ [x]).length) c96), (7, .pointer (some ⟨bq, 0, none⟩)), (22, .slice (some ⟨sb46, k047, none⟩) ops.length c), (23, .int .i64 ((ops.length : Nat) : Int)), (24, .int .i64 ((i : Nat) : Int)), (51, .pointer (some ⟨bq, 0, none⟩))]) (φ := True) (rest := [1, 2]) h159 (by kernel_rfl) rfl trivial fun a161 h162 => ?_
          clear h159
          refine nd_op ?_
          refine op_call h162 rfl rfl rfl (callOk Try.func21 (by decide) rfl) (args := [.pointer (some ⟨bq, 0, none⟩)]) rfl (openS_ok bq d111 bad _ (h162.inv.get (j := 2) (p := pLog bq d111 bad) rfl)) ?_
          rintro _ w167 ⟨bt163, rfl, hs164, hf165, hn166⟩
          refine ⟨_, rfl, ?_⟩
          have h168 := (h162.pcSet (j := 2) (p := pLog bq d111 bad) (p' := pSess bt163 bq d111 (ssOf bad)) (ps' := [pSess bs bl d s, pRow (rl opC 35 6 (es ++ [x]) o95 c96 F97), pSess bt163 bq d111 (ssOf bad)]) rfl (pSess_ok hs164) hf165 (fun _ h => by cases h) (fun b hb => by rcases List.mem_cons.1 hb with rfl | hb; exact .inr hn166; exact .inl hb) knil rfl).put (d := some 52) (v := .pointer (some ⟨bt163, 0, none⟩)) (T' := [(52, .pointer (some ⟨bt163, 0, none⟩)), (3, .pointer (some ⟨bs, 0, none⟩)), (4, .slice o95 ((es ++ [x]).length) c96), (7, .pointer (some ⟨bq, 0, none⟩)), (22, .slice (some ⟨sb46, k047, none⟩) ops.length c), (23, .int .i64 ((ops.length : Nat) : Int)), (24, .int .i64 ((i : Nat) : Int)), (51, .pointer (some ⟨bq, 0, none⟩))]) rfl
          have hszh168 : w.heap.size ≤ _ := h162.frame.size
          clear h162
          have hb170 := (h168.inv.get (j := 2) (p := pSess bt163 bq d111 (ssOf bad)) rfl).log.blk
          have h169 := h168.open_ (b := bq) (cells := logC bad.base (.slice d111.eo bad.evs.length d111.ec) (.slice d111.mo bad.mks.length d111.mc) (.slice d111.so bad.sns.length d111.sc)) (ty := 69) hb170 (h168.notinL (by simp [Pf]) knil)
          clear h168
          refine nd_batch tabOk tabZ_ok [(2, {})] [3, 4, 7, 22, 23, 24, 10] (T' := [(3, .pointer (some ⟨bs, 0, none⟩)), (4, .slice o95 ((es ++ [x]).length) c96), (7, .pointer (some ⟨bq, 0, none⟩)), (22, .slice (some ⟨sb46, k047, none⟩) ops.length c), (23, .int .i64 ((ops.length : Nat) : Int)), (24, .int .i64 ((i : Nat) : Int)), (10, .pointer (some ⟨bt163, 0, none⟩))]) (φ := True) (rest := []) h169 (by kernel_rfl) rfl trivial fun a171 h172 => ?_
          clear h169
          refine nd_done ?_
          refine hK160 _ _ ?_
          clear hK160
          refine wp_seq_k fun K173 hK173 => ?_
          refine dr_start (KB := [bq]) (Bi := [[0], [0], [0], [0], [0], [0], [0], [0], [0], [], [0]]) mixed h172 fun w174 h175 => ?_
          clear h172
          refine dr_batch tabOk tabZ_ok (by repeat (first | exact PF.body | with_reducible apply PF.inB | with_reducible apply PF.next)) [(0, {}), (1, {}), (2, {}), (3, {k := 0, p := 0}), (5, {}), (6, {}), (7, {}), (8, {k := 0, p := 0})] [3, 4, 7, 22, 23, 24, 10, 56, 61] (T' := [(3, .pointer (some ⟨bs, 0, none⟩)), (4, .slice o95 ((es ++ [x]).length) c96), (7, .pointer (some ⟨bq, 0, none⟩)), (22, .slice (some ⟨sb46, k047, none⟩) ops.length c), (23, .int .i64 ((ops.length : Nat) : Int)), (24, .int .i64 ((i : Nat) : Int)), (10, .pointer (some ⟨bt163, 0, none⟩)), (56, .agg #[.int .i64 bad.base.idx, .int .u64 bad.base.st.now, .int .i8 bad.base.st.cur, .int .u8 bad.base.st.s0, .int .u8 bad.base.st.s1, .int .u8 bad.base.st.s2, .int .u8 bad.base.st.s3, .int .u64 bad.base.st.r0, .int .u64 bad.base.st.r1, .int .u64 bad.base.st.r2, .int .u64 bad.base.st.r3, .int .u64 bad.base.st.word, .bool bad.base.out.refused, .int .i8 bad.base.out.running, .int .u64 bad.base.out.value]), (61, .slice d111.so bad.sns.length d111.sc)]) (φ := (bq = bq ∧ Nat.ble (0 + 15) 18 = true) ∧ (bq = bq ∧ Nat.ble (17 + 1) 18 = true) ∧ True) (fuel := 3) h175 (by kernel_rfl) rfl (by kernel_rfl) (by kernel_rfl) ⟨trivial, trivial, trivial, rfl, trivial, trivial, trivial, rfl, trivial⟩ ⟨⟨rfl, rfl⟩, ⟨rfl, rfl⟩, trivial⟩ fun a177 h178 => ?_
          clear h175
          refine wpAnyK_one (i := 4) (fuel := 2) (by kernel_rfl) ?_
          refine op_new tabOk (cells := [.int .i64 bad.base.idx, .int .u64 bad.base.st.now, .int .i8 bad.base.st.cur, .int .u8 bad.base.st.s0, .int .u8 bad.base.st.s1, .int .u8 bad.base.st.s2, .int .u8 bad.base.st.s3, .int .u64 bad.base.st.r0, .int .u64 bad.base.st.r1, .int .u64 bad.base.st.r2, .int .u64 bad.base.st.r3, .int .u64 bad.base.st.word, .bool bad.base.out.refused, .int .i8 bad.base.out.running, .int .u64 bad.base.out.value]) (ty := 66) (ln := (some 1)) (L1 := fun b179 => [(bq, ⟨logC bad.base (.slice d111.eo bad.evs.length d111.ec) (.slice d111.mo bad.mks.length d111.mc) (.slice d111.so bad.sns.length d111.sc), 69, true⟩), (b179, ⟨[.int .i64 bad.base.idx, .int .u64 bad.base.st.now, .int .i8 bad.base.st.cur, .int .u8 bad.base.st.s0, .int .u8 bad.base.st.s1, .int .u8 bad.base.st.s2, .int .u8 bad.base.st.s3, .int .u64 bad.base.st.r0, .int .u64 bad.base.st.r1, .int .u64 bad.base.st.r2, .int .u64 bad.base.st.r3, .int .u64 bad.base.st.word, .bool bad.base.out.refused, .int .i8 bad.base.out.running, .int .u64 bad.base.out.value], 66, false⟩)]) h178 rfl rfl rfl rfl (by kernel_rfl) (fun _ => rfl) fun b179 w180 a181 h182 hf183 hn184 => ?_
          refine ⟨(h178.keepFr hf183 (kcons (by simp) knil)), ?_⟩
          clear h178
          refine wpAnyK_one (i := 9) (fuel := 1) (by kernel_rfl) ?_
          have h185 := St.pcOf (L := [(bq, ⟨logC bad.base (.slice d111.eo bad.evs.length d111.ec) (.slice d111.mo bad.mks.length d111.mc) (.slice d111.so bad.sns.length d111.sc), 69, true⟩)]) (p' := pRow (rl ptC 66 15 ([bad.base]) (some ⟨b179, 0, none⟩) 1 ([b179]))) (ps' := [pSess bs bl d s, pRow (rl opC 35 6 (es ++ [x]) o95 c96 F97), pSess bt163 bq d111 (ssOf bad), pRow (rl ptC 66 15 ([bad.base]) (some ⟨b179, 0, none⟩) 1 ([b179]))]) h182 rfl (pRow_ok ⟨rfl, .inr ⟨b179, [.int .i64 bad.base.idx, .int .u64 bad.base.st.now, .int .i8 bad.base.st.cur, .int .u8 bad.base.st.s0, .int .u8 bad.base.st.s1, .int .u8 bad.base.st.s2, .int .u8 bad.base.st.s3, .int .u64 bad.base.st.r0, .int .u64 bad.base.st.r1, .int .u64 bad.base.st.r2, .int .u64 bad.base.st.r3, .int .u64 bad.base.st.word, .bool bad.base.out.refused, .int .i8 bad.base.out.running, .int .u64 bad.base.out.value], rfl, h182.kn (k := 1) (blk := ⟨[.int .i64 bad.base.idx, .int .u64 bad.base.st.now, .int .i8 bad.base.st.cur, .int .u8 bad.base.st.s0, .int .u8 bad.base.st.s1, .int .u8 bad.base.st.s2, .int .u8 bad.base.st.s3, .int .u64 bad.base.st.r0, .int .u64 bad.base.st.r1, .int .u64 bad.base.st.r2, .int .u64 bad.base.st.r3, .int .u64 bad.base.st.word, .bool bad.base.out.refused, .int .i8 bad.base.out.running, .int .u64 bad.base.out.value], 66, false⟩) rfl, rfl, Nat.le_refl _, rfl, rfl⟩⟩) rfl
          clear h182
          refine op_append tabOk (e := 66) (so := (some ⟨b179, 0, none⟩)) (n := 1) (c := 1) (xo := d111.so) (m := bad.sns.length) (cx := d111.sc) (vals := [bad.base].flatMap ptC) (vs := bad.sns.flatMap ptC) (F := [b179]) h185 rfl rfl rfl rfl rfl rfl rfl rfl rfl rfl rfl rfl (h185.inv.get (j := 3) (p := pRow (rl ptC 66 15 ([bad.base]) (some ⟨b179, 0, none⟩) 1 ([b179]))) rfl) (src_row ((h185.inv.get (j := 2) (p := pSess bt163 bq d111 (ssOf bad)) rfl).log.rows.get (j := 2) rfl)) (by omega) (allOne_flat ptC_one _) ?_
          intro o186 c187 F188 w189 hr190 hf191 hF192
          have hr1902 := rl_app (enc := ptC) (xs := [bad.base]) (ys := bad.sns) hr190
          rw [show 1 + bad.sns.length = ([bad.base] ++ bad.sns).length by simp; omega]
          have h193 := (h185.pcSet (j := 3) (p := pRow (rl ptC 66 15 ([bad.base]) (some ⟨b179, 0, none⟩) 1 ([b179]))) (p' := pRow (rl ptC 66 15 ([bad.base] ++ bad.sns) o186 c187 F188)) (ps' := [pSess bs bl d s, pRow (rl opC 35 6 (es ++ [x]) o95 c96 F97), pSess bt163 bq d111 (ssOf bad), pRow (rl ptC 66 15 ([bad.base] ++ bad.sns) o186 c187 F188)]) rfl (pRow_ok hr1902) hf191 (fun _ h => h) hF192 (kcons (fun _ => (Pf_nodup h185.inv.nd (i := 2) (j := 3) (x := pSess bt163 bq d111 (ssOf bad)) (y := pRow (rl ptC 66 15 ([bad.base]) (some ⟨b179, 0, none⟩) 1 ([b179]))) rfl rfl (by decide) bq (by simp))) knil) rfl).put (d := some 62) (v := .slice o186 (([bad.base] ++ bad.sns).length) c187) (T' := [(62, .slice o186 (([bad.base] ++ bad.sns).length) c187), (57, .slice (some ⟨b179, 0, none⟩) 1 1), (3, .pointer (some ⟨bs, 0, none⟩)), (4, .slice o95 ((es ++ [x]).length) c96), (7, .pointer (some ⟨bq, 0, none⟩)), (22, .slice (some ⟨sb46, k047, none⟩) ops.length c), (23, .int .i64 ((ops.length : Nat) : Int)), (24, .int .i64 ((i : Nat) : Int)), (10, .pointer (some ⟨bt163, 0, none⟩)), (56, .agg #[.int .i64 bad.base.idx, .int .u64 bad.base.st.now, .int .i8 bad.base.st.cur, .int .u8 bad.base.st.s0, .int .u8 bad.base.st.s1, .int .u8 bad.base.st.s2, .int .u8 bad.base.st.s3, .int .u64 bad.base.st.r0, .int .u64 bad.base.st.r1, .int .u64 bad.base.st.r2, .int .u64 bad.base.st.r3, .int .u64 bad.base.st.word, .bool bad.base.out.refused, .int .i8 bad.base.out.running, .int .u64 bad.base.out.value]), (61, .slice d111.so bad.sns.length d111.sc)]) rfl
          have hkh193 := h185.known
          refine ⟨keepNil, ?_⟩
          have hszh193 : w.heap.size ≤ _ := h185.frame.size
          clear h185
          refine dr_batch tabOk tabZ_ok (by repeat (first | exact PF.body | with_reducible apply PF.inB | with_reducible apply PF.next)) [(10, {})] [3, 4, 7, 22, 23, 24, 10, 11] (T' := [(3, .pointer (some ⟨bs, 0, none⟩)), (4, .slice o95 ((es ++ [x]).length) c96), (7, .pointer (some ⟨bq, 0, none⟩)), (22, .slice (some ⟨sb46, k047, none⟩) ops.length c), (23, .int .i64 ((ops.length : Nat) : Int)), (24, .int .i64 ((i : Nat) : Int)), (10, .pointer (some ⟨bt163, 0, none⟩)), (11, .slice o186 (([bad.base] ++ bad.sns).length) c187)]) (φ := True) (fuel := 0) h193 (by kernel_rfl) rfl (by kernel_rfl) (by kernel_rfl) ⟨trivial, trivial⟩ trivial fun a194 h195 => ?_
          clear h193
          refine wpAnyK_done (by kernel_rfl) ?_ _
          refine hK173 _ _ ?_
          clear hK173
          refine wp_seq_k fun K196 hK196 => ?_
          refine wp_seq_k fun K197 hK197 => ?_
          refine nd_start (l := [0, 1, 2]) rfl ?_
          refine nd_batch tabOk tabZ_ok [(0, {}), (1, {}), (2, {})] [3, 4, 7, 22, 23, 24, 10, 11, 63, 64, 65] (T' := [(3, .pointer (some ⟨bs, 0, none⟩)), (4, .slice o95 ((es ++ [x]).length) c96), (7, .pointer (some ⟨bq, 0, none⟩)), (22, .slice (some ⟨sb46, k047, none⟩) ops.length c), (23, .int .i64 ((ops.length : Nat) : Int)), (24, .int .i64 ((i : Nat) : Int)), (10, .pointer (some ⟨bt163, 0, none⟩)), (11, .slice o186 (([bad.base] ++ bad.sns).length) c187), (63, .slice o186 (([bad.base] ++ bad.sns).length) c187), (64, .int .i64 ((([bad.base] ++ bad.sns).length : Nat) : Int)), (65, .int .i64 0)]) (φ := True) (rest := []) h195 (by kernel_rfl) rfl trivial fun a198 h199 => ?_
          clear h195
          refine nd_done ?_
          refine hK197 _ _ ?_
          clear hK197
          refine wp_block ?_
          have h200 := h199.memMono (L' := []) (List.Sublist.cons _ List.Sublist.slnil)
          clear h199
          have hrowh207 := (h200.inv.get (j := 3) (p := pRow (rl ptC 66 15 ([bad.base] ++ bad.sns) o186 c187 F188)) rfl)
          obtain ⟨rb201, cs202, ho204, hb203, _, hF205, hcap208, _⟩ := rl_open hrowh207 ptC_len (show ([bad.base] ++ bad.sns)[0]? = some bad.base from rfl)
          subst ho204 hF205
          have hrd206 : ∀ j y, ([bad.base] ++ bad.sns)[j]? = some y → cellsAre cs202 (j * 15) (ptC y) := fun j y hy => rl_at hrowh207 hb203 ptC_len hy
          have h207 := St.pcTake (ps := [pSess bs bl d s, pRow (rl opC 35 6 (es ++ [x]) o95 c96 F97), pSess bt163 bq d111 (ssOf bad)]) (p := pRow (rl ptC 66 15 ([bad.base] ++ bad.sns) (some ⟨rb201, 0, none⟩) c187 [rb201])) h200 rfl hb203 knil
          clear h200 hrowh207
          have hll : ([bad.base] ++ bad.sns).length = bad.sns.length + 1 := by simp
          refine wp_loop_ghost (fun gg3 ga gw => ∃ (k : Nat) (dt : Hd), (k ≤ ([bad.base] ++ bad.sns).length) ∧ (gg3 = ([bad.base] ++ bad.sns).length - k) ∧ St ⟨136, [], w, Pk w.heap.size [pSess bs bl d s, pRow (rl opC 35 6 (es ++ [x]) o95 c96 F97), pSess bt163 bq dt (ssOf bad)], Pf [pSess bs bl d s, pRow (rl opC 35 6 (es ++ [x]) o95 c96 F97), pSess bt163 bq dt (ssOf bad)]⟩ [(3, .pointer (some ⟨bs, 0, none⟩)), (4, .slice o95 ((es ++ [x]).length) c96), (7, .pointer (some ⟨bq, 0, none⟩)), (10, .pointer (some ⟨bt163, 0, none⟩)), (22, .slice (some ⟨sb46, k047, none⟩) ops.length c), (23, .int .i64 ((ops.length : Nat) : Int)), (24, .int .i64 ((i : Nat) : Int)), (63, .slice (some ⟨rb201, 0, none⟩) (([bad.base] ++ bad.sns).length) c187), (64, .int .i64 ((([bad.base] ++ bad.sns).length : Nat) : Int)), (65, .int .i64 ((k : Nat) : Int))] [(rb201, ⟨cs202, 66, false⟩)] ga gw) ([bad.base] ++ bad.sns).length ⟨0, d111, Nat.zero_le _, rfl, (h207.slotsMono (restr_spec (keep := [3, 4, 7, 10, 22, 23, 24, 63, 64, 65]) rfl))⟩ ?_
          clear h207
          rintro gg3 a209 w210 ⟨k, dt, hi212, hi213, h211⟩
          have hk := hi212
          have hg3 := hi213
          refine wp_seq_k fun K214 hK214 => ?_
          refine nd_start (l := [0]) rfl ?_
          refine nd_batch tabOk tabZ_ok [(0, {})] [3, 4, 7, 10, 22, 23, 24, 63, 64, 65, 66] (T' := [(3, .pointer (some ⟨bs, 0, none⟩)), (4, .slice o95 ((es ++ [x]).length) c96), (7, .pointer (some ⟨bq, 0, none⟩)), (10, .pointer (some ⟨bt163, 0, none⟩)), (22, .slice (some ⟨sb46, k047, none⟩) ops.length c), (23, .int .i64 ((ops.length : Nat) : Int)), (24, .int .i64 ((i : Nat) : Int)), (63, .slice (some ⟨rb201, 0, none⟩) (([bad.base] ++ bad.sns).length) c187), (64, .int .i64 ((([bad.base] ++ bad.sns).length : Nat) : Int)), (65, .int .i64 ((k : Nat) : Int)), (66, .bool (decide (((k : Nat) : Int) < ((([bad.base] ++ bad.sns).length : Nat) : Int))))]) (φ := True) (rest := []) h211 (by kernel_rfl) rfl trivial fun a215 h216 => ?_
          clear h211
          refine nd_done ?_
          refine hK214 _ _ ?_
          clear hK214
          refine wp_seq_k fun K217 hK217 => ?_
          refine c_split h216 (b := decide (((k : Nat) : Int) < ((([bad.base] ++ bad.sns).length : Nat) : Int))) rfl (fun hc218 => ?_) (fun hc218 => ?_)
          ·
            have hc218f : ((k : Nat) : Int) < ((([bad.base] ++ bad.sns).length : Nat) : Int) := by simpa using hc218
            obtain ⟨q, hq⟩ := Sx.get_some (xs := ([bad.base] ++ bad.sns)) (i := k) (by omega)
            have hqm := List.mem_of_getElem? hq
            obtain ⟨hq1, hq2, hq3⟩ := start_facts hbwf hqm
            obtain ⟨hv1, hv2⟩ := vfy_law hbwf hq1 hq2
            refine wp_skip ?_
            refine hK217 _ _ ?_
            clear hK217
            refine wp_seq_k fun K219 hK219 => ?_
            refine wp_block ?_
            refine wp_seq_k fun K220 hK220 => ?_
            refine nd_start (l := [0, 1, 2, 3]) rfl ?_
            refine nd_batch tabOk tabZ_ok [(0, {}), (1, {k := 0, m := 1, vs := [.int .i64 q.idx, .int .u64 q.st.now, .int .i8 q.st.cur, .int .u8 q.st.s0, .int .u8 q.st.s1, .int .u8 q.st.s2, .int .u8 q.st.s3, .int .u64 q.st.r0, .int .u64 q.st.r1, .int .u64 q.st.r2, .int .u64 q.st.r3, .int .u64 q.st.word, .bool q.out.refused, .int .i8 q.out.running, .int .u64 q.out.value]})] [3, 4, 7, 10, 22, 23, 24, 63, 64, 65, 68] (T' := [(3, .pointer (some ⟨bs, 0, none⟩)), (4, .slice o95 ((es ++ [x]).length) c96), (7, .pointer (some ⟨bq, 0, none⟩)), (10, .pointer (some ⟨bt163, 0, none⟩)), (22, .slice (some ⟨sb46, k047, none⟩) ops.length c), (23, .int .i64 ((ops.length : Nat) : Int)), (24, .int .i64 ((i : Nat) : Int)), (63, .slice (some ⟨rb201, 0, none⟩) (([bad.base] ++ bad.sns).length) c187), (64, .int .i64 ((([bad.base] ++ bad.sns).length : Nat) : Int)), (65, .int .i64 ((k : Nat) : Int)), (68, .agg #[.int .i64 q.idx, .int .u64 q.st.now, .int .i8 q.st.cur, .int .u8 q.st.s0, .int .u8 q.st.s1, .int .u8 q.st.s2, .int .u8 q.st.s3, .int .u64 q.st.r0, .int .u64 q.st.r1, .int .u64 q.st.r2, .int .u64 q.st.r3, .int .u64 q.st.word, .bool q.out.refused, .int .i8 q.out.running, .int .u64 q.out.value])]) (φ := (0 ≤ ((k : Nat) : Int) ∧ ((k : Nat) : Int) < ((([bad.base] ++ bad.sns).length : Nat) : Int)) ∧ (rb201 = rb201 ∧ cellsAre cs202 (0 + (k * 15)) [.int .i64 q.idx, .int .u64 q.st.now, .int .i8 q.st.cur, .int .u8 q.st.s0, .int .u8 q.st.s1, .int .u8 q.st.s2, .int .u8 q.st.s3, .int .u64 q.st.r0, .int .u64 q.st.r1, .int .u64 q.st.r2, .int .u64 q.st.r3, .int .u64 q.st.word, .bool q.out.refused, .int .i8 q.out.running, .int .u64 q.out.value]) ∧ True) (rest := [2, 3]) h216 (by kernel_rfl) rfl ⟨⟨by omega, by omega⟩, ⟨rfl, (by rw [Nat.zero_add]; exact hrd206 _ _ hq)⟩, trivial⟩ fun a221 h222 => ?_
            clear h216
            refine nd_op ?_
            refine op_new tabOk (cells := [.int .i64 0, .int .u64 0, .int .i8 0, .int .u8 0, .int .u8 0, .int .u8 0, .int .u8 0, .int .u64 0, .int .u64 0, .int .u64 0, .int .u64 0, .int .u64 0, .bool false, .int .i8 0, .int .u64 0]) (ty := 66) (ln := none) (L1 := fun b223 => [(rb201, ⟨cs202, 66, false⟩), (b223, ⟨[.int .i64 0, .int .u64 0, .int .i8 0, .int .u8 0, .int .u8 0, .int .u8 0, .int .u8 0, .int .u64 0, .int .u64 0, .int .u64 0, .int .u64 0, .int .u64 0, .bool false, .int .i8 0, .int .u64 0], 66, false⟩)]) h222 rfl rfl rfl rfl (by kernel_rfl) (fun _ => rfl) fun b223 w224 a225 h226 hf227 hn228 => ?_
            clear h222
            refine nd_op ?_
            refine op_store tabOk {k := 1} (L' := [(rb201, ⟨cs202, 66, false⟩), (b223, ⟨[.int .i64 q.idx, .int .u64 q.st.now, .int .i8 q.st.cur, .int .u8 q.st.s0, .int .u8 q.st.s1, .int .u8 q.st.s2, .int .u8 q.st.s3, .int .u64 q.st.r0, .int .u64 q.st.r1, .int .u64 q.st.r2, .int .u64 q.st.r3, .int .u64 q.st.word, .bool q.out.refused, .int .i8 q.out.running, .int .u64 q.out.value], 66, false⟩)]) (φ := b223 = b223 ∧ Nat.ble (0 + 15) 15 = true) h226 rfl rfl rfl (by kernel_rfl) ⟨rfl, rfl⟩ fun w229 h230 => ?_
            clear h226
            refine nd_done ?_
            refine hK220 _ _ ?_
            clear hK220
            refine wp_seq_k fun K231 hK231 => ?_
            refine nd_start (l := [0, 1, 2, 3]) rfl ?_
            refine nd_batch tabOk tabZ_ok [(0, {}), (1, {k := 1})] [13, 3, 4, 7, 10, 22, 23, 24, 63, 64, 65, 69, 70] (T' := [(13, .pointer (some ⟨b223, 0, none⟩)), (3, .pointer (some ⟨bs, 0, none⟩)), (4, .slice o95 ((es ++ [x]).length) c96), (7, .pointer (some ⟨bq, 0, none⟩)), (10, .pointer (some ⟨bt163, 0, none⟩)), (22, .slice (some ⟨sb46, k047, none⟩) ops.length c), (23, .int .i64 ((ops.length : Nat) : Int)), (24, .int .i64 ((i : Nat) : Int)), (63, .slice (some ⟨rb201, 0, none⟩) (([bad.base] ++ bad.sns).length) c187), (64, .int .i64 ((([bad.base] ++ bad.sns).length : Nat) : Int)), (65, .int .i64 ((k : Nat) : Int)), (69, .pointer (some ⟨bq, 0, none⟩)), (70, .agg #[.int .i64 q.idx, .int .u64 q.st.now, .int .i8 q.st.cur, .int .u8 q.st.s0, .int .u8 q.st.s1, .int .u8 q.st.s2, .int .u8 q.st.s3, .int .u64 q.st.r0, .int .u64 q.st.r1, .int .u64 q.st.r2, .int .u64 q.st.r3, .int .u64 q.st.word, .bool q.out.refused, .int .i8 q.out.running, .int .u64 q.out.value])]) (φ := (b223 = b223 ∧ Nat.ble (0 + 15) 15 = true) ∧ True) (rest := [2, 3]) h230 (by kernel_rfl) rfl ⟨⟨rfl, rfl⟩, trivial⟩ fun a232 h233 => ?_
            clear h230
            refine nd_op ?_
            refine op_call h233 rfl rfl rfl (callOk Try.func23 (by decide) rfl) (args := [.pointer (some ⟨bq, 0, none⟩), .agg #[.int .i64 q.idx, .int .u64 q.st.now, .int .i8 q.st.cur, .int .u8 q.st.s0, .int .u8 q.st.s1, .int .u8 q.st.s2, .int .u8 q.st.s3, .int .u64 q.st.r0, .int .u64 q.st.r1, .int .u64 q.st.r2, .int .u64 q.st.r3, .int .u64 q.st.word, .bool q.out.refused, .int .i8 q.out.running, .int .u64 q.out.value]]) rfl (firstDiv_ok bq _ bad _ (h233.inv.get (j := 2) (p := pSess bt163 bq dt (ssOf bad)) rfl).log (B := (i : Int)) (by omega) hbwf q hq1 hq2 hq3) ?_
            rintro _ w237 ⟨r234, rfl, hr235, hf236⟩
            refine ⟨_, rfl, ?_⟩
            have hr235e : r234 = (vfy bad q).at_ := IsFD.unique (by omega) hr235 (vfy_law hbwf hq1 hq2).1
            subst hr235e
            have h238 := (h233.grow hf236).put (d := some 71) (v := .int .i64 ((vfy bad q).at_)) (T' := [(71, .int .i64 ((vfy bad q).at_)), (13, .pointer (some ⟨b223, 0, none⟩)), (3, .pointer (some ⟨bs, 0, none⟩)), (4, .slice o95 ((es ++ [x]).length) c96), (7, .pointer (some ⟨bq, 0, none⟩)), (10, .pointer (some ⟨bt163, 0, none⟩)), (22, .slice (some ⟨sb46, k047, none⟩) ops.length c), (23, .int .i64 ((ops.length : Nat) : Int)), (24, .int .i64 ((i : Nat) : Int)), (63, .slice (some ⟨rb201, 0, none⟩) (([bad.base] ++ bad.sns).length) c187), (64, .int .i64 ((([bad.base] ++ bad.sns).length : Nat) : Int)), (65, .int .i64 ((k : Nat) : Int)), (69, .pointer (some ⟨bq, 0, none⟩)), (70, .agg #[.int .i64 q.idx, .int .u64 q.st.now, .int .i8 q.st.cur, .int .u8 q.st.s0, .int .u8 q.st.s1, .int .u8 q.st.s2, .int .u8 q.st.s3, .int .u64 q.st.r0, .int .u64 q.st.r1, .int .u64 q.st.r2, .int .u64 q.st.r3, .int .u64 q.st.word, .bool q.out.refused, .int .i8 q.out.running, .int .u64 q.out.value])]) rfl
            have hszh238 : w.heap.size ≤ _ := h233.frame.size
            clear h233
            refine nd_batch tabOk tabZ_ok [(3, {})] [13, 3, 4, 7, 10, 22, 23, 24, 63, 64, 65, 14] (T' := [(13, .pointer (some ⟨b223, 0, none⟩)), (3, .pointer (some ⟨bs, 0, none⟩)), (4, .slice o95 ((es ++ [x]).length) c96), (7, .pointer (some ⟨bq, 0, none⟩)), (10, .pointer (some ⟨bt163, 0, none⟩)), (22, .slice (some ⟨sb46, k047, none⟩) ops.length c), (23, .int .i64 ((ops.length : Nat) : Int)), (24, .int .i64 ((i : Nat) : Int)), (63, .slice (some ⟨rb201, 0, none⟩) (([bad.base] ++ bad.sns).length) c187), (64, .int .i64 ((([bad.base] ++ bad.sns).length : Nat) : Int)), (65, .int .i64 ((k : Nat) : Int)), (14, .int .i64 ((vfy bad q).at_))]) (φ := True) (rest := []) h238 (by kernel_rfl) rfl trivial fun a239 h240 => ?_
            clear h238
            refine nd_done ?_
            refine hK231 _ _ ?_
            clear hK231
            refine wp_seq_k fun K241 hK241 => ?_
            refine nd_start (l := [0, 1, 2, 3, 4, 5, 6]) rfl ?_
            refine nd_batch tabOk tabZ_ok [(0, {}), (1, {}), (2, {k := 1}), (3, {})] [13, 3, 4, 7, 10, 22, 23, 24, 63, 64, 65, 14, 72, 75] (T' := [(13, .pointer (some ⟨b223, 0, none⟩)), (3, .pointer (some ⟨bs, 0, none⟩)), (4, .slice o95 ((es ++ [x]).length) c96), (7, .pointer (some ⟨bq, 0, none⟩)), (10, .pointer (some ⟨bt163, 0, none⟩)), (22, .slice (some ⟨sb46, k047, none⟩) ops.length c), (23, .int .i64 ((ops.length : Nat) : Int)), (24, .int .i64 ((i : Nat) : Int)), (63, .slice (some ⟨rb201, 0, none⟩) (([bad.base] ++ bad.sns).length) c187), (64, .int .i64 ((([bad.base] ++ bad.sns).length : Nat) : Int)), (65, .int .i64 ((k : Nat) : Int)), (14, .int .i64 ((vfy bad q).at_)), (72, .pointer (some ⟨bt163, 0, none⟩)), (75, .agg #[.int .u8 6, .int .i64 q.idx, .int .i64 0, .int .u8 0, .int .u32 0, .int .u64 0])]) (φ := (b223 = b223 ∧ Nat.ble (0 + 1) 15 = true) ∧ True) (rest := [4, 5, 6]) h240 (by kernel_rfl) rfl ⟨⟨rfl, rfl⟩, trivial⟩ fun a242 h243 => ?_
            clear h240
            refine nd_op ?_
            refine op_call h243 rfl rfl rfl (callOk Try.func12 (by decide) rfl) (args := [.pointer (some ⟨bt163, 0, none⟩), .agg #[.int .u8 6, .int .i64 q.idx, .int .i64 0, .int .u8 0, .int .u32 0, .int .u64 0]]) rfl ((by have hq := do_ok bt163 bq dt (ssOf bad) _ (h243.inv.get (j := 2) (p := pSess bt163 bq dt (ssOf bad)) rfl) (B := (i : Int)) (by omega) (ssOf_wf hbwf) ⟨6, q.idx, 0, ⟨0, 0, 0⟩⟩ (opk_ok (by decide) (by decide)); rw [do_check, check7 hbwf hqm] at hq; exact hq)) ?_
            rintro _ w248 ⟨d244, rfl, hs245, hf246, hF247⟩
            refine ⟨_, rfl, ?_⟩
            have h249 := (h243.pcSet (j := 2) (p := pSess bt163 bq dt (ssOf bad)) (p' := pSess bt163 bq d244 (ssOf bad)) (ps' := [pSess bs bl d s, pRow (rl opC 35 6 (es ++ [x]) o95 c96 F97), pSess bt163 bq d244 (ssOf bad)]) rfl (pSess_ok hs245) hf246 (fun _ h => h) (sess_sub hF247) (kcons (by intro hq; cases hq) (kcons (by intro hq; cases hq) knil)) rfl).put (d := some 76) (v := .agg #[.int .u8 0, .int .i64 bad.base.idx, .int .i64 bad.base.idx, .int .i64 bad.fin, .bool false, .bool bad.base.out.refused, .int .i8 bad.base.out.running, .int .u64 bad.base.out.value, .int .u64 (dig bad.base.st), .int .i64 q.idx, .int .i64 ((vfy bad (pqOf bad q)).rep), .int .i64 ((vfy bad (pqOf bad q)).at_)]) (T' := [(76, .agg #[.int .u8 0, .int .i64 bad.base.idx, .int .i64 bad.base.idx, .int .i64 bad.fin, .bool false, .bool bad.base.out.refused, .int .i8 bad.base.out.running, .int .u64 bad.base.out.value, .int .u64 (dig bad.base.st), .int .i64 q.idx, .int .i64 ((vfy bad (pqOf bad q)).rep), .int .i64 ((vfy bad (pqOf bad q)).at_)]), (13, .pointer (some ⟨b223, 0, none⟩)), (3, .pointer (some ⟨bs, 0, none⟩)), (4, .slice o95 ((es ++ [x]).length) c96), (7, .pointer (some ⟨bq, 0, none⟩)), (10, .pointer (some ⟨bt163, 0, none⟩)), (22, .slice (some ⟨sb46, k047, none⟩) ops.length c), (23, .int .i64 ((ops.length : Nat) : Int)), (24, .int .i64 ((i : Nat) : Int)), (63, .slice (some ⟨rb201, 0, none⟩) (([bad.base] ++ bad.sns).length) c187), (64, .int .i64 ((([bad.base] ++ bad.sns).length : Nat) : Int)), (65, .int .i64 ((k : Nat) : Int)), (14, .int .i64 ((vfy bad q).at_)), (72, .pointer (some ⟨bt163, 0, none⟩)), (75, .agg #[.int .u8 6, .int .i64 q.idx, .int .i64 0, .int .u8 0, .int .u32 0, .int .u64 0])]) rfl
            have hszh249 : w.heap.size ≤ _ := h243.frame.size
            clear h243
            have hb251 := (h249.inv.get (j := 2) (p := pSess bt163 bq d244 (ssOf bad)) rfl).log.blk
            have h250 := h249.open_ (b := bq) (cells := logC bad.base (.slice d244.eo bad.evs.length d244.ec) (.slice d244.mo bad.mks.length d244.mc) (.slice d244.so bad.sns.length d244.sc)) (ty := 69) hb251 (h249.notinL (by simp [Pf]) (kcons (by intro hq; cases hq) (kcons (by intro hq; cases hq) knil)))
            clear h249
            refine nd_op ?_
            refine op_new tabOk (cells := [.int .u8 0, .int .i64 0, .int .i64 0, .int .i64 0, .bool false, .bool false, .int .i8 0, .int .u64 0, .int .u64 0, .int .i64 0, .int .i64 0, .int .i64 0]) (ty := 41) (ln := none) (L1 := fun b252 => [(rb201, ⟨cs202, 66, false⟩), (b223, ⟨[.int .i64 q.idx, .int .u64 q.st.now, .int .i8 q.st.cur, .int .u8 q.st.s0, .int .u8 q.st.s1, .int .u8 q.st.s2, .int .u8 q.st.s3, .int .u64 q.st.r0, .int .u64 q.st.r1, .int .u64 q.st.r2, .int .u64 q.st.r3, .int .u64 q.st.word, .bool q.out.refused, .int .i8 q.out.running, .int .u64 q.out.value], 66, false⟩), (bq, ⟨logC bad.base (.slice d244.eo bad.evs.length d244.ec) (.slice d244.mo bad.mks.length d244.mc) (.slice d244.so bad.sns.length d244.sc), 69, true⟩), (b252, ⟨[.int .u8 0, .int .i64 0, .int .i64 0, .int .i64 0, .bool false, .bool false, .int .i8 0, .int .u64 0, .int .u64 0, .int .i64 0, .int .i64 0, .int .i64 0], 41, false⟩)]) h250 rfl rfl rfl rfl (by kernel_rfl) (fun _ => rfl) fun b252 w253 a254 h255 hf256 hn257 => ?_
            clear h250
            refine nd_op ?_
            refine op_store tabOk {k := 3} (L' := [(rb201, ⟨cs202, 66, false⟩), (b223, ⟨[.int .i64 q.idx, .int .u64 q.st.now, .int .i8 q.st.cur, .int .u8 q.st.s0, .int .u8 q.st.s1, .int .u8 q.st.s2, .int .u8 q.st.s3, .int .u64 q.st.r0, .int .u64 q.st.r1, .int .u64 q.st.r2, .int .u64 q.st.r3, .int .u64 q.st.word, .bool q.out.refused, .int .i8 q.out.running, .int .u64 q.out.value], 66, false⟩), (bq, ⟨logC bad.base (.slice d244.eo bad.evs.length d244.ec) (.slice d244.mo bad.mks.length d244.mc) (.slice d244.so bad.sns.length d244.sc), 69, true⟩), (b252, ⟨[.int .u8 0, .int .i64 bad.base.idx, .int .i64 bad.base.idx, .int .i64 bad.fin, .bool false, .bool bad.base.out.refused, .int .i8 bad.base.out.running, .int .u64 bad.base.out.value, .int .u64 (dig bad.base.st), .int .i64 q.idx, .int .i64 ((vfy bad (pqOf bad q)).rep), .int .i64 ((vfy bad (pqOf bad q)).at_)], 41, false⟩)]) (φ := b252 = b252 ∧ Nat.ble (0 + 12) 12 = true) h255 rfl rfl rfl (by kernel_rfl) ⟨rfl, rfl⟩ fun w258 h259 => ?_
            clear h255
            refine nd_done ?_
            refine hK241 _ _ ?_
            clear hK241
            refine wp_seq_k fun K260 hK260 => ?_
            refine wp_seq_k fun K261 hK261 => ?_
            refine dr_start (KB := [rb201, b223, bq, b252]) (Bi := [[0, 1, 2, 3], [0, 1, 2, 3], [0, 1, 2, 3], [0, 1, 2, 3], [0, 1, 2, 3], [0, 1, 2, 3], [0, 1, 2, 3], [0, 1, 2, 3]]) mixed h259 fun w262 h263 => ?_
            clear h259
            refine dr_batch tabOk tabZ_ok (by repeat (first | exact PF.body | with_reducible apply PF.inB | with_reducible apply PF.next)) [(0, {}), (1, {k := 1, p := 1}), (2, {}), (3, {}), (4, {}), (5, {}), (6, {k := 2, p := 2}), (7, {})] [15, 13, 3, 4, 7, 10, 22, 23, 24, 63, 64, 65, 14, 84] (T' := [(15, .pointer (some ⟨b252, 0, none⟩)), (13, .pointer (some ⟨b223, 0, none⟩)), (3, .pointer (some ⟨bs, 0, none⟩)), (4, .slice o95 ((es ++ [x]).length) c96), (7, .pointer (some ⟨bq, 0, none⟩)), (10, .pointer (some ⟨bt163, 0, none⟩)), (22, .slice (some ⟨sb46, k047, none⟩) ops.length c), (23, .int .i64 ((ops.length : Nat) : Int)), (24, .int .i64 ((i : Nat) : Int)), (63, .slice (some ⟨rb201, 0, none⟩) (([bad.base] ++ bad.sns).length) c187), (64, .int .i64 ((([bad.base] ++ bad.sns).length : Nat) : Int)), (65, .int .i64 ((k : Nat) : Int)), (14, .int .i64 ((vfy bad q).at_)), (84, .bool (q.idx == bad.base.idx))]) (φ := (b223 = b223 ∧ Nat.ble (0 + 1) 15 = true) ∧ (bq = bq ∧ Nat.ble (0 + 1) 18 = true) ∧ True) (fuel := 0) h263 (by kernel_rfl) rfl (by kernel_rfl) (by kernel_rfl) ⟨trivial, rfl, trivial, trivial, trivial, trivial, rfl, trivial, trivial⟩ ⟨⟨rfl, rfl⟩, ⟨rfl, rfl⟩, trivial⟩ fun a265 h266 => ?_
            clear h263
            refine wpAnyK_done (by kernel_rfl) ?_ _
            refine hK261 _ _ ?_
            clear hK261
            refine c_split h266 (b := (q.idx == bad.base.idx)) rfl (fun hc267 => ?_) (fun hc267 => ?_)
            ·
              have hc267f : q.idx = bad.base.idx := by simpa using hc267
              have hqb : q.idx = bad.base.idx := hc267f
              refine nd_start (l := [0, 1, 2, 3, 4, 5, 6]) rfl ?_
              refine nd_batch tabOk tabZ_ok [(0, {}), (1, {}), (2, {}), (3, {}), (4, {k := 2})] [15, 13, 3, 4, 7, 10, 22, 23, 24, 63, 64, 65, 14, 85, 89] (T' := [(15, .pointer (some ⟨b252, 0, none⟩)), (13, .pointer (some ⟨b223, 0, none⟩)), (3, .pointer (some ⟨bs, 0, none⟩)), (4, .slice o95 ((es ++ [x]).length) c96), (7, .pointer (some ⟨bq, 0, none⟩)), (10, .pointer (some ⟨bt163, 0, none⟩)), (22, .slice (some ⟨sb46, k047, none⟩) ops.length c), (23, .int .i64 ((ops.length : Nat) : Int)), (24, .int .i64 ((i : Nat) : Int)), (63, .slice (some ⟨rb201, 0, none⟩) (([bad.base] ++ bad.sns).length) c187), (64, .int .i64 ((([bad.base] ++ bad.sns).length : Nat) : Int)), (65, .int .i64 ((k : Nat) : Int)), (14, .int .i64 ((vfy bad q).at_)), (85, .pointer (some ⟨bq, 0, none⟩)), (89, .agg #[.int .i64 bad.base.idx, .int .u64 bad.base.st.now, .int .i8 bad.base.st.cur, .int .u8 bad.base.st.s0, .int .u8 bad.base.st.s1, .int .u8 bad.base.st.s2, .int .u8 bad.base.st.s3, .int .u64 bad.base.st.r0, .int .u64 bad.base.st.r1, .int .u64 bad.base.st.r2, .int .u64 bad.base.st.r3, .int .u64 bad.base.st.word, .bool bad.base.out.refused, .int .i8 bad.base.out.running, .int .u64 bad.base.out.value])]) (φ := (bq = bq ∧ Nat.ble (0 + 15) 18 = true) ∧ True) (rest := [5, 6]) h266 (by kernel_rfl) rfl ⟨⟨rfl, rfl⟩, trivial⟩ fun a268 h269 => ?_
              clear h266
              refine nd_op ?_
              refine op_call h269 rfl rfl rfl (callOk Try.func23 (by decide) rfl) (args := [.pointer (some ⟨bq, 0, none⟩), .agg #[.int .i64 bad.base.idx, .int .u64 bad.base.st.now, .int .i8 bad.base.st.cur, .int .u8 bad.base.st.s0, .int .u8 bad.base.st.s1, .int .u8 bad.base.st.s2, .int .u8 bad.base.st.s3, .int .u64 bad.base.st.r0, .int .u64 bad.base.st.r1, .int .u64 bad.base.st.r2, .int .u64 bad.base.st.r3, .int .u64 bad.base.st.word, .bool bad.base.out.refused, .int .i8 bad.base.out.running, .int .u64 bad.base.out.value]]) rfl (firstDiv_ok bq _ bad _ (h269.inv.get (j := 2) (p := pSess bt163 bq d244 (ssOf bad)) rfl).log (B := (i : Int)) (by omega) hbwf bad.base (Int.le_refl _) (by omega) hbwf.bst) ?_
              rintro _ w273 ⟨r270, rfl, hr271, hf272⟩
              refine ⟨_, rfl, ?_⟩
              have hr271e : r270 = (vfy bad bad.base).at_ := IsFD.unique (by omega) hr271 (vfy_law hbwf (Int.le_refl _) (by omega)).1
              subst hr271e
              have h274 := (h269.grow hf272).put (d := some 90) (v := .int .i64 ((vfy bad bad.base).at_)) (T' := [(90, .int .i64 ((vfy bad bad.base).at_)), (15, .pointer (some ⟨b252, 0, none⟩)), (13, .pointer (some ⟨b223, 0, none⟩)), (3, .pointer (some ⟨bs, 0, none⟩)), (4, .slice o95 ((es ++ [x]).length) c96), (7, .pointer (some ⟨bq, 0, none⟩)), (10, .pointer (some ⟨bt163, 0, none⟩)), (22, .slice (some ⟨sb46, k047, none⟩) ops.length c), (23, .int .i64 ((ops.length : Nat) : Int)), (24, .int .i64 ((i : Nat) : Int)), (63, .slice (some ⟨rb201, 0, none⟩) (([bad.base] ++ bad.sns).length) c187), (64, .int .i64 ((([bad.base] ++ bad.sns).length : Nat) : Int)), (65, .int .i64 ((k : Nat) : Int)), (14, .int .i64 ((vfy bad q).at_)), (85, .pointer (some ⟨bq, 0, none⟩)), (89, .agg #[.int .i64 bad.base.idx, .int .u64 bad.base.st.now, .int .i8 bad.base.st.cur, .int .u8 bad.base.st.s0, .int .u8 bad.base.st.s1, .int .u8 bad.base.st.s2, .int .u8 bad.base.st.s3, .int .u64 bad.base.st.r0, .int .u64 bad.base.st.r1, .int .u64 bad.base.st.r2, .int .u64 bad.base.st.r3, .int .u64 bad.base.st.word, .bool bad.base.out.refused, .int .i8 bad.base.out.running, .int .u64 bad.base.out.value])]) rfl
              have hszh274 : w.heap.size ≤ _ := h269.frame.size
              clear h269
              refine nd_batch tabOk tabZ_ok [(6, {})] [15, 13, 3, 4, 7, 10, 22, 23, 24, 63, 64, 65, 14] (T' := [(15, .pointer (some ⟨b252, 0, none⟩)), (13, .pointer (some ⟨b223, 0, none⟩)), (3, .pointer (some ⟨bs, 0, none⟩)), (4, .slice o95 ((es ++ [x]).length) c96), (7, .pointer (some ⟨bq, 0, none⟩)), (10, .pointer (some ⟨bt163, 0, none⟩)), (22, .slice (some ⟨sb46, k047, none⟩) ops.length c), (23, .int .i64 ((ops.length : Nat) : Int)), (24, .int .i64 ((i : Nat) : Int)), (63, .slice (some ⟨rb201, 0, none⟩) (([bad.base] ++ bad.sns).length) c187), (64, .int .i64 ((([bad.base] ++ bad.sns).length : Nat) : Int)), (65, .int .i64 ((k : Nat) : Int)), (14, .int .i64 ((vfy bad bad.base).at_))]) (φ := True) (rest := []) h274 (by kernel_rfl) rfl trivial fun a275 h276 => ?_
              clear h274
              refine nd_done ?_
              refine hK260 _ _ ?_
              clear hK260
              refine wp_seq_k fun K277 hK277 => ?_
              refine wp_seq_k fun K278 hK278 => ?_
              refine nd_start (l := [0, 1, 2, 3, 4, 5, 6, 7, 8]) rfl ?_
              refine nd_batch tabOk tabZ_ok [(0, {}), (1, {k := 3}), (2, {}), (3, {}), (4, {}), (5, {k := 3}), (6, {}), (7, {f := 1}), (8, {})] [15, 13, 3, 4, 7, 10, 22, 23, 24, 63, 64, 65, 14, 99] (T' := [(15, .pointer (some ⟨b252, 0, none⟩)), (13, .pointer (some ⟨b223, 0, none⟩)), (3, .pointer (some ⟨bs, 0, none⟩)), (4, .slice o95 ((es ++ [x]).length) c96), (7, .pointer (some ⟨bq, 0, none⟩)), (10, .pointer (some ⟨bt163, 0, none⟩)), (22, .slice (some ⟨sb46, k047, none⟩) ops.length c), (23, .int .i64 ((ops.length : Nat) : Int)), (24, .int .i64 ((i : Nat) : Int)), (63, .slice (some ⟨rb201, 0, none⟩) (([bad.base] ++ bad.sns).length) c187), (64, .int .i64 ((([bad.base] ++ bad.sns).length : Nat) : Int)), (65, .int .i64 ((k : Nat) : Int)), (14, .int .i64 ((vfy bad bad.base).at_)), (99, .bool false)]) (φ := (b252 = b252 ∧ Nat.ble (0 + 1) 12 = true) ∧ (b252 = b252 ∧ Nat.ble (11 + 1) 12 = true) ∧ (((vfy bad (pqOf bad q)).at_ != (vfy bad bad.base).at_)) = false ∧ True) (rest := []) h276 (by kernel_rfl) rfl ⟨⟨rfl, rfl⟩, ⟨rfl, rfl⟩, (by unfold pqOf; rw [if_pos hqb]; simp), trivial⟩ fun a279 h280 => ?_
              clear h276
              refine nd_done ?_
              refine hK278 _ _ ?_
              clear hK278
              refine c_false h280 rfl ?_
              refine wp_skip ?_
              refine hK277 _ _ ?_
              clear hK277
              refine wp_seq_k fun K281 hK281 => ?_
              refine nd_start (l := [0, 1, 2, 3]) rfl ?_
              refine nd_batch tabOk tabZ_ok [(0, {})] [15, 13, 3, 4, 7, 10, 22, 23, 24, 63, 64, 65, 14, 100] (T' := [(15, .pointer (some ⟨b252, 0, none⟩)), (13, .pointer (some ⟨b223, 0, none⟩)), (3, .pointer (some ⟨bs, 0, none⟩)), (4, .slice o95 ((es ++ [x]).length) c96), (7, .pointer (some ⟨bq, 0, none⟩)), (10, .pointer (some ⟨bt163, 0, none⟩)), (22, .slice (some ⟨sb46, k047, none⟩) ops.length c), (23, .int .i64 ((ops.length : Nat) : Int)), (24, .int .i64 ((i : Nat) : Int)), (63, .slice (some ⟨rb201, 0, none⟩) (([bad.base] ++ bad.sns).length) c187), (64, .int .i64 ((([bad.base] ++ bad.sns).length : Nat) : Int)), (65, .int .i64 ((k : Nat) : Int)), (14, .int .i64 ((vfy bad bad.base).at_)), (100, .pointer (some ⟨bq, 0, none⟩))]) (φ := True) (rest := [1, 2, 3]) h280 (by kernel_rfl) rfl trivial fun a282 h283 => ?_
              clear h280
              refine nd_op ?_
              refine op_call h283 rfl rfl rfl (callOk Try.func24 (by decide) rfl) (args := [.pointer (some ⟨bq, 0, none⟩), .pointer (some ⟨b223, 0, none⟩)]) rfl (verifyC_ok bq _ bad _ (h283.inv.get (j := 2) (p := pSess bt163 bq d244 (ssOf bad)) rfl).log q b223 (h283.kn (k := 1) (blk := ⟨ptC q, 66, false⟩) rfl) (fun hqq => h283.dj (k := 1) rfl rfl (by rw [hqq]; simp [Pf])) (fun hqq => h283.dj (k := 1) rfl rfl (by simp [Pf, hqq])) hbwf.sin hbwf.min hbwf.ssort hbwf.msort ⟨hq1, hq2⟩ hq3 hbwf.evs hbwf.b0 (by omega) hbwf.len hbwf.mlen (by omega)) ?_
              rintro _ w285 ⟨rfl, hf287⟩
              refine ⟨_, rfl, ?_⟩
              have h286 := (h283.grow hf287).put (d := some 101) (v := .agg #[.int .i64 ((vfy bad q).at_), .int .i64 ((vfy bad q).good), .int .i64 ((vfy bad q).rep)]) (T' := [(101, .agg #[.int .i64 ((vfy bad q).at_), .int .i64 ((vfy bad q).good), .int .i64 ((vfy bad q).rep)]), (15, .pointer (some ⟨b252, 0, none⟩)), (13, .pointer (some ⟨b223, 0, none⟩)), (3, .pointer (some ⟨bs, 0, none⟩)), (4, .slice o95 ((es ++ [x]).length) c96), (7, .pointer (some ⟨bq, 0, none⟩)), (10, .pointer (some ⟨bt163, 0, none⟩)), (22, .slice (some ⟨sb46, k047, none⟩) ops.length c), (23, .int .i64 ((ops.length : Nat) : Int)), (24, .int .i64 ((i : Nat) : Int)), (63, .slice (some ⟨rb201, 0, none⟩) (([bad.base] ++ bad.sns).length) c187), (64, .int .i64 ((([bad.base] ++ bad.sns).length : Nat) : Int)), (65, .int .i64 ((k : Nat) : Int)), (14, .int .i64 ((vfy bad bad.base).at_)), (100, .pointer (some ⟨bq, 0, none⟩))]) rfl
              clear h283
              refine nd_op ?_
              refine op_new tabOk (cells := [.int .i64 0, .int .i64 0, .int .i64 0]) (ty := 72) (ln := none) (L1 := fun b288 => [(rb201, ⟨cs202, 66, false⟩), (b223, ⟨[.int .i64 q.idx, .int .u64 q.st.now, .int .i8 q.st.cur, .int .u8 q.st.s0, .int .u8 q.st.s1, .int .u8 q.st.s2, .int .u8 q.st.s3, .int .u64 q.st.r0, .int .u64 q.st.r1, .int .u64 q.st.r2, .int .u64 q.st.r3, .int .u64 q.st.word, .bool q.out.refused, .int .i8 q.out.running, .int .u64 q.out.value], 66, false⟩), (bq, ⟨logC bad.base (.slice d244.eo bad.evs.length d244.ec) (.slice d244.mo bad.mks.length d244.mc) (.slice d244.so bad.sns.length d244.sc), 69, true⟩), (b252, ⟨[.int .u8 0, .int .i64 bad.base.idx, .int .i64 bad.base.idx, .int .i64 bad.fin, .bool false, .bool bad.base.out.refused, .int .i8 bad.base.out.running, .int .u64 bad.base.out.value, .int .u64 (dig bad.base.st), .int .i64 q.idx, .int .i64 ((vfy bad (pqOf bad q)).rep), .int .i64 ((vfy bad (pqOf bad q)).at_)], 41, false⟩), (b288, ⟨[.int .i64 0, .int .i64 0, .int .i64 0], 72, false⟩)]) h286 rfl rfl rfl rfl (by kernel_rfl) (fun _ => rfl) fun b288 w289 a290 h291 hf292 hn293 => ?_
              clear h286
              refine nd_op ?_
              refine op_store tabOk {k := 4} (L' := [(rb201, ⟨cs202, 66, false⟩), (b223, ⟨[.int .i64 q.idx, .int .u64 q.st.now, .int .i8 q.st.cur, .int .u8 q.st.s0, .int .u8 q.st.s1, .int .u8 q.st.s2, .int .u8 q.st.s3, .int .u64 q.st.r0, .int .u64 q.st.r1, .int .u64 q.st.r2, .int .u64 q.st.r3, .int .u64 q.st.word, .bool q.out.refused, .int .i8 q.out.running, .int .u64 q.out.value], 66, false⟩), (bq, ⟨logC bad.base (.slice d244.eo bad.evs.length d244.ec) (.slice d244.mo bad.mks.length d244.mc) (.slice d244.so bad.sns.length d244.sc), 69, true⟩), (b252, ⟨[.int .u8 0, .int .i64 bad.base.idx, .int .i64 bad.base.idx, .int .i64 bad.fin, .bool false, .bool bad.base.out.refused, .int .i8 bad.base.out.running, .int .u64 bad.base.out.value, .int .u64 (dig bad.base.st), .int .i64 q.idx, .int .i64 ((vfy bad (pqOf bad q)).rep), .int .i64 ((vfy bad (pqOf bad q)).at_)], 41, false⟩), (b288, ⟨[.int .i64 ((vfy bad q).at_), .int .i64 ((vfy bad q).good), .int .i64 ((vfy bad q).rep)], 72, false⟩)]) (φ := b288 = b288 ∧ Nat.ble (0 + 3) 3 = true) h291 rfl rfl rfl (by kernel_rfl) ⟨rfl, rfl⟩ fun w294 h295 => ?_
              clear h291
              refine nd_done ?_
              refine hK281 _ _ ?_
              clear hK281
              refine wp_seq_k fun K296 hK296 => ?_
              refine dr_start (KB := [rb201, b223, bq, b252, b288]) (Bi := [[0, 1, 2, 3, 4], [0, 1, 2, 3, 4], [0, 1, 2, 3, 4], [0, 1, 2, 3, 4], [4], [0, 1, 2, 3, 4], [0, 1, 2, 3, 4], [0, 1, 2, 3, 4], [0, 1, 2, 3, 4], [0, 1, 2, 3, 4], [0, 1, 2, 3, 4], [0, 1, 2, 3, 4], [0, 1, 2, 3, 4], [0, 1, 2, 3, 4], [4], [0, 1, 2, 3, 4], [0, 1, 2, 3, 4]]) mixed h295 fun w297 h298 => ?_
              clear h295
              refine dr_batch tabOk tabZ_ok (by repeat (first | exact PF.body | with_reducible apply PF.inB | with_reducible apply PF.next)) [(0, {}), (1, {k := 4, p := 4}), (2, {}), (3, {k := 1, p := 1})] [16, 15, 13, 3, 4, 7, 10, 22, 23, 24, 63, 64, 65, 14, 103, 104, 105] (T' := [(16, .pointer (some ⟨b288, 0, none⟩)), (15, .pointer (some ⟨b252, 0, none⟩)), (13, .pointer (some ⟨b223, 0, none⟩)), (3, .pointer (some ⟨bs, 0, none⟩)), (4, .slice o95 ((es ++ [x]).length) c96), (7, .pointer (some ⟨bq, 0, none⟩)), (10, .pointer (some ⟨bt163, 0, none⟩)), (22, .slice (some ⟨sb46, k047, none⟩) ops.length c), (23, .int .i64 ((ops.length : Nat) : Int)), (24, .int .i64 ((i : Nat) : Int)), (63, .slice (some ⟨rb201, 0, none⟩) (([bad.base] ++ bad.sns).length) c187), (64, .int .i64 ((([bad.base] ++ bad.sns).length : Nat) : Int)), (65, .int .i64 ((k : Nat) : Int)), (14, .int .i64 ((vfy bad bad.base).at_)), (103, .int .i64 ((vfy bad q).at_)), (104, .pointer (some ⟨bq, 0, none⟩)), (105, .agg #[.int .i64 q.idx, .int .u64 q.st.now, .int .i8 q.st.cur, .int .u8 q.st.s0, .int .u8 q.st.s1, .int .u8 q.st.s2, .int .u8 q.st.s3, .int .u64 q.st.r0, .int .u64 q.st.r1, .int .u64 q.st.r2, .int .u64 q.st.r3, .int .u64 q.st.word, .bool q.out.refused, .int .i8 q.out.running, .int .u64 q.out.value])]) (φ := (b288 = b288 ∧ Nat.ble (0 + 1) 3 = true) ∧ (b223 = b223 ∧ Nat.ble (0 + 15) 15 = true) ∧ True) (fuel := 13) h298 (by kernel_rfl) rfl (by kernel_rfl) (by kernel_rfl) ⟨trivial, rfl, trivial, rfl, trivial⟩ ⟨⟨rfl, rfl⟩, ⟨rfl, rfl⟩, trivial⟩ fun a300 h301 => ?_
              clear h298
              refine wpAnyK_one (i := 4) (fuel := 12) (by kernel_rfl) ?_
              refine op_call h301 rfl rfl rfl (callOk Try.func23 (by decide) rfl) (args := [.pointer (some ⟨bq, 0, none⟩), .agg #[.int .i64 q.idx, .int .u64 q.st.now, .int .i8 q.st.cur, .int .u8 q.st.s0, .int .u8 q.st.s1, .int .u8 q.st.s2, .int .u8 q.st.s3, .int .u64 q.st.r0, .int .u64 q.st.r1, .int .u64 q.st.r2, .int .u64 q.st.r3, .int .u64 q.st.word, .bool q.out.refused, .int .i8 q.out.running, .int .u64 q.out.value]]) rfl (firstDiv_ok bq _ bad _ (h301.inv.get (j := 2) (p := pSess bt163 bq d244 (ssOf bad)) rfl).log (B := (i : Int)) (by omega) hbwf q hq1 hq2 hq3) ?_
              rintro _ w305 ⟨r302, rfl, hr303, hf304⟩
              refine ⟨_, rfl, ?_⟩
              have hr303e : r302 = (vfy bad q).at_ := IsFD.unique (by omega) hr303 (vfy_law hbwf hq1 hq2).1
              subst hr303e
              have h306 := (h301.grow hf304).put (d := some 106) (v := .int .i64 ((vfy bad q).at_)) (T' := [(106, .int .i64 ((vfy bad q).at_)), (16, .pointer (some ⟨b288, 0, none⟩)), (15, .pointer (some ⟨b252, 0, none⟩)), (13, .pointer (some ⟨b223, 0, none⟩)), (3, .pointer (some ⟨bs, 0, none⟩)), (4, .slice o95 ((es ++ [x]).length) c96), (7, .pointer (some ⟨bq, 0, none⟩)), (10, .pointer (some ⟨bt163, 0, none⟩)), (22, .slice (some ⟨sb46, k047, none⟩) ops.length c), (23, .int .i64 ((ops.length : Nat) : Int)), (24, .int .i64 ((i : Nat) : Int)), (63, .slice (some ⟨rb201, 0, none⟩) (([bad.base] ++ bad.sns).length) c187), (64, .int .i64 ((([bad.base] ++ bad.sns).length : Nat) : Int)), (65, .int .i64 ((k : Nat) : Int)), (14, .int .i64 ((vfy bad bad.base).at_)), (103, .int .i64 ((vfy bad q).at_)), (104, .pointer (some ⟨bq, 0, none⟩)), (105, .agg #[.int .i64 q.idx, .int .u64 q.st.now, .int .i8 q.st.cur, .int .u8 q.st.s0, .int .u8 q.st.s1, .int .u8 q.st.s2, .int .u8 q.st.s3, .int .u64 q.st.r0, .int .u64 q.st.r1, .int .u64 q.st.r2, .int .u64 q.st.r3, .int .u64 q.st.word, .bool q.out.refused, .int .i8 q.out.running, .int .u64 q.out.value])]) rfl
              refine ⟨(h301.keepFr hf304 (kcons (by simp) knil)), ?_⟩
              have hszh306 : w.heap.size ≤ _ := h301.frame.size
              clear h301
              refine dr_batch tabOk tabZ_ok (by repeat (first | exact PF.body | with_reducible apply PF.inB | with_reducible apply PF.next)) [(5, {f := 1}), (6, {}), (7, {}), (8, {k := 4, p := 4}), (9, {}), (10, {}), (11, {k := 1, p := 1}), (12, {}), (13, {k := 4, p := 4})] [16, 15, 13, 3, 4, 7, 10, 22, 23, 24, 63, 64, 65, 14, 108, 110, 111, 113, 115] (T' := [(16, .pointer (some ⟨b288, 0, none⟩)), (15, .pointer (some ⟨b252, 0, none⟩)), (13, .pointer (some ⟨b223, 0, none⟩)), (3, .pointer (some ⟨bs, 0, none⟩)), (4, .slice o95 ((es ++ [x]).length) c96), (7, .pointer (some ⟨bq, 0, none⟩)), (10, .pointer (some ⟨bt163, 0, none⟩)), (22, .slice (some ⟨sb46, k047, none⟩) ops.length c), (23, .int .i64 ((ops.length : Nat) : Int)), (24, .int .i64 ((i : Nat) : Int)), (63, .slice (some ⟨rb201, 0, none⟩) (([bad.base] ++ bad.sns).length) c187), (64, .int .i64 ((([bad.base] ++ bad.sns).length : Nat) : Int)), (65, .int .i64 ((k : Nat) : Int)), (14, .int .i64 ((vfy bad bad.base).at_)), (108, .bool false), (110, .int .i64 ((vfy bad q).good)), (111, .pointer (some ⟨bq, 0, none⟩)), (113, .int .i64 q.idx), (115, .int .i64 ((vfy bad q).at_))]) (φ := (((vfy bad q).at_ != (vfy bad q).at_)) = false ∧ (b288 = b288 ∧ Nat.ble (1 + 1) 3 = true) ∧ (b223 = b223 ∧ Nat.ble (0 + 1) 15 = true) ∧ (b288 = b288 ∧ Nat.ble (0 + 1) 3 = true) ∧ True) (fuel := 3) h306 (by kernel_rfl) rfl (by kernel_rfl) (by kernel_rfl) ⟨trivial, trivial, trivial, rfl, trivial, trivial, rfl, trivial, rfl, trivial⟩ ⟨(by simp), ⟨rfl, rfl⟩, ⟨rfl, rfl⟩, ⟨rfl, rfl⟩, trivial⟩ fun a307 h308 => ?_
              clear h306
              refine wpAnyK_one (i := 14) (fuel := 2) (by kernel_rfl) ?_
              refine op_call h308 rfl rfl rfl (callOk Try.func25 (by decide) rfl) (args := [.pointer (some ⟨bq, 0, none⟩), .int .i64 q.idx, .int .i64 ((vfy bad q).at_)]) rfl (lastBefore_ok bq _ bad _ (h308.inv.get (j := 2) (p := pSess bt163 bq d244 (ssOf bad)) rfl).log q.idx (vfy bad q).at_ (by omega) (by omega)) ?_
              rintro _ w312 ⟨r309, rfl, hr310, hf311⟩
              refine ⟨_, rfl, ?_⟩
              have hr310e : r309 = (vfy bad q).good := IsLast.unique hr310 hv2
              subst hr310e
              have h313 := (h308.grow hf311).put (d := some 116) (v := .int .i64 ((vfy bad q).good)) (T' := [(116, .int .i64 ((vfy bad q).good)), (16, .pointer (some ⟨b288, 0, none⟩)), (15, .pointer (some ⟨b252, 0, none⟩)), (13, .pointer (some ⟨b223, 0, none⟩)), (3, .pointer (some ⟨bs, 0, none⟩)), (4, .slice o95 ((es ++ [x]).length) c96), (7, .pointer (some ⟨bq, 0, none⟩)), (10, .pointer (some ⟨bt163, 0, none⟩)), (22, .slice (some ⟨sb46, k047, none⟩) ops.length c), (23, .int .i64 ((ops.length : Nat) : Int)), (24, .int .i64 ((i : Nat) : Int)), (63, .slice (some ⟨rb201, 0, none⟩) (([bad.base] ++ bad.sns).length) c187), (64, .int .i64 ((([bad.base] ++ bad.sns).length : Nat) : Int)), (65, .int .i64 ((k : Nat) : Int)), (14, .int .i64 ((vfy bad bad.base).at_)), (108, .bool false), (110, .int .i64 ((vfy bad q).good)), (111, .pointer (some ⟨bq, 0, none⟩)), (113, .int .i64 q.idx), (115, .int .i64 ((vfy bad q).at_))]) rfl
              refine ⟨(h308.keepFr hf311 (kcons (by simp) knil)), ?_⟩
              have hszh313 : w.heap.size ≤ _ := h308.frame.size
              clear h308
              refine dr_batch tabOk tabZ_ok (by repeat (first | exact PF.body | with_reducible apply PF.inB | with_reducible apply PF.next)) [(15, {f := 1}), (16, {})] [16, 15, 13, 3, 4, 7, 10, 22, 23, 24, 63, 64, 65, 14, 118] (T' := [(16, .pointer (some ⟨b288, 0, none⟩)), (15, .pointer (some ⟨b252, 0, none⟩)), (13, .pointer (some ⟨b223, 0, none⟩)), (3, .pointer (some ⟨bs, 0, none⟩)), (4, .slice o95 ((es ++ [x]).length) c96), (7, .pointer (some ⟨bq, 0, none⟩)), (10, .pointer (some ⟨bt163, 0, none⟩)), (22, .slice (some ⟨sb46, k047, none⟩) ops.length c), (23, .int .i64 ((ops.length : Nat) : Int)), (24, .int .i64 ((i : Nat) : Int)), (63, .slice (some ⟨rb201, 0, none⟩) (([bad.base] ++ bad.sns).length) c187), (64, .int .i64 ((([bad.base] ++ bad.sns).length : Nat) : Int)), (65, .int .i64 ((k : Nat) : Int)), (14, .int .i64 ((vfy bad bad.base).at_)), (118, .bool false)]) (φ := (((vfy bad q).good != (vfy bad q).good)) = false ∧ True) (fuel := 0) h313 (by kernel_rfl) rfl (by kernel_rfl) (by kernel_rfl) ⟨trivial, trivial, trivial⟩ ⟨(by simp), trivial⟩ fun a314 h315 => ?_
              clear h313
              refine wpAnyK_done (by kernel_rfl) ?_ _
              refine hK296 _ _ ?_
              clear hK296
              refine c_false h315 rfl ?_
              refine wp_skip ?_
              refine hK219 _ _ ?_
              clear hK219
              refine nd_start (l := [0, 1]) rfl ?_
              refine nd_batch tabOk tabZ_ok [(0, {}), (1, {})] [16, 15, 13, 3, 4, 7, 10, 22, 23, 24, 63, 64, 14, 65] (T' := [(16, .pointer (some ⟨b288, 0, none⟩)), (15, .pointer (some ⟨b252, 0, none⟩)), (13, .pointer (some ⟨b223, 0, none⟩)), (3, .pointer (some ⟨bs, 0, none⟩)), (4, .slice o95 ((es ++ [x]).length) c96), (7, .pointer (some ⟨bq, 0, none⟩)), (10, .pointer (some ⟨bt163, 0, none⟩)), (22, .slice (some ⟨sb46, k047, none⟩) ops.length c), (23, .int .i64 ((ops.length : Nat) : Int)), (24, .int .i64 ((i : Nat) : Int)), (63, .slice (some ⟨rb201, 0, none⟩) (([bad.base] ++ bad.sns).length) c187), (64, .int .i64 ((([bad.base] ++ bad.sns).length : Nat) : Int)), (14, .int .i64 ((vfy bad bad.base).at_)), (65, .int .i64 (((k : Nat) : Int) + 1))]) (φ := inR .i64 (((k : Nat) : Int) + 1) ∧ True) (rest := []) h315 (by kernel_rfl) rfl ⟨⟨by omega, by omega⟩, trivial⟩ fun a316 h317 => ?_
              clear h315
              refine nd_done ?_
              have h318 := h317.memMono (L' := [(rb201, ⟨cs202, 66, false⟩)]) (List.Sublist.cons_cons _ (List.Sublist.cons _ (List.Sublist.cons _ (List.Sublist.cons _ (List.Sublist.cons _ List.Sublist.slnil)))))
              clear h317
              exact ⟨(gg3 - 1), by omega, (k + 1), d244, by omega, by omega, (h318.slotsMono (restr_spec (keep := [3, 4, 7, 10, 22, 23, 24, 63, 64, 65]) rfl))⟩
            ·
              have hc267f : q.idx ≠ bad.base.idx := by simpa using hc267
              have hqb : q.idx ≠ bad.base.idx := hc267f
              refine wp_skip ?_
              refine hK260 _ _ ?_
              clear hK260
              refine wp_seq_k fun K319 hK319 => ?_
              refine wp_seq_k fun K320 hK320 => ?_
              refine nd_start (l := [0, 1, 2, 3, 4, 5, 6, 7, 8]) rfl ?_
              refine nd_batch tabOk tabZ_ok [(0, {}), (1, {k := 3}), (2, {}), (3, {}), (4, {}), (5, {k := 3}), (6, {}), (7, {f := 1}), (8, {})] [15, 13, 3, 4, 7, 10, 22, 23, 24, 63, 64, 65, 14, 99] (T' := [(15, .pointer (some ⟨b252, 0, none⟩)), (13, .pointer (some ⟨b223, 0, none⟩)), (3, .pointer (some ⟨bs, 0, none⟩)), (4, .slice o95 ((es ++ [x]).length) c96), (7, .pointer (some ⟨bq, 0, none⟩)), (10, .pointer (some ⟨bt163, 0, none⟩)), (22, .slice (some ⟨sb46, k047, none⟩) ops.length c), (23, .int .i64 ((ops.length : Nat) : Int)), (24, .int .i64 ((i : Nat) : Int)), (63, .slice (some ⟨rb201, 0, none⟩) (([bad.base] ++ bad.sns).length) c187), (64, .int .i64 ((([bad.base] ++ bad.sns).length : Nat) : Int)), (65, .int .i64 ((k : Nat) : Int)), (14, .int .i64 ((vfy bad q).at_)), (99, .bool false)]) (φ := (b252 = b252 ∧ Nat.ble (0 + 1) 12 = true) ∧ (b252 = b252 ∧ Nat.ble (11 + 1) 12 = true) ∧ (((vfy bad (pqOf bad q)).at_ != (vfy bad q).at_)) = false ∧ True) (rest := []) h266 (by kernel_rfl) rfl ⟨⟨rfl, rfl⟩, ⟨rfl, rfl⟩, (by unfold pqOf; rw [if_neg hqb]; simp), trivial⟩ fun a321 h322 => ?_
              clear h266
              refine nd_done ?_
              refine hK320 _ _ ?_
              clear hK320
              refine c_false h322 rfl ?_
              refine wp_skip ?_
              refine hK319 _ _ ?_
              clear hK319
              refine wp_seq_k fun K323 hK323 => ?_
              refine nd_start (l := [0, 1, 2, 3]) rfl ?_
              refine nd_batch tabOk tabZ_ok [(0, {})] [15, 13, 3, 4, 7, 10, 22, 23, 24, 63, 64, 65, 14, 100] (T' := [(15, .pointer (some ⟨b252, 0, none⟩)), (13, .pointer (some ⟨b223, 0, none⟩)), (3, .pointer (some ⟨bs, 0, none⟩)), (4, .slice o95 ((es ++ [x]).length) c96), (7, .pointer (some ⟨bq, 0, none⟩)), (10, .pointer (some ⟨bt163, 0, none⟩)), (22, .slice (some ⟨sb46, k047, none⟩) ops.length c), (23, .int .i64 ((ops.length : Nat) : Int)), (24, .int .i64 ((i : Nat) : Int)), (63, .slice (some ⟨rb201, 0, none⟩) (([bad.base] ++ bad.sns).length) c187), (64, .int .i64 ((([bad.base] ++ bad.sns).length : Nat) : Int)), (65, .int .i64 ((k : Nat) : Int)), (14, .int .i64 ((vfy bad q).at_)), (100, .pointer (some ⟨bq, 0, none⟩))]) (φ := True) (rest := [1, 2, 3]) h322 (by kernel_rfl) rfl trivial fun a324 h325 => ?_
              clear h322
              refine nd_op ?_
              refine op_call h325 rfl rfl rfl (callOk Try.func24 (by decide) rfl) (args := [.pointer (some ⟨bq, 0, none⟩), .pointer (some ⟨b223, 0, none⟩)]) rfl (verifyC_ok bq _ bad _ (h325.inv.get (j := 2) (p := pSess bt163 bq d244 (ssOf bad)) rfl).log q b223 (h325.kn (k := 1) (blk := ⟨ptC q, 66, false⟩) rfl) (fun hqq => h325.dj (k := 1) rfl rfl (by rw [hqq]; simp [Pf])) (fun hqq => h325.dj (k := 1) rfl rfl (by simp [Pf, hqq])) hbwf.sin hbwf.min hbwf.ssort hbwf.msort ⟨hq1, hq2⟩ hq3 hbwf.evs hbwf.b0 (by omega) hbwf.len hbwf.mlen (by omega)) ?_
              rintro _ w327 ⟨rfl, hf329⟩
              refine ⟨_, rfl, ?_⟩
              have h328 := (h325.grow hf329).put (d := some 101) (v := .agg #[.int .i64 ((vfy bad q).at_), .int .i64 ((vfy bad q).good), .int .i64 ((vfy bad q).rep)]) (T' := [(101, .agg #[.int .i64 ((vfy bad q).at_), .int .i64 ((vfy bad q).good), .int .i64 ((vfy bad q).rep)]), (15, .pointer (some ⟨b252, 0, none⟩)), (13, .pointer (some ⟨b223, 0, none⟩)), (3, .pointer (some ⟨bs, 0, none⟩)), (4, .slice o95 ((es ++ [x]).length) c96), (7, .pointer (some ⟨bq, 0, none⟩)), (10, .pointer (some ⟨bt163, 0, none⟩)), (22, .slice (some ⟨sb46, k047, none⟩) ops.length c), (23, .int .i64 ((ops.length : Nat) : Int)), (24, .int .i64 ((i : Nat) : Int)), (63, .slice (some ⟨rb201, 0, none⟩) (([bad.base] ++ bad.sns).length) c187), (64, .int .i64 ((([bad.base] ++ bad.sns).length : Nat) : Int)), (65, .int .i64 ((k : Nat) : Int)), (14, .int .i64 ((vfy bad q).at_)), (100, .pointer (some ⟨bq, 0, none⟩))]) rfl
              clear h325
              refine nd_op ?_
              refine op_new tabOk (cells := [.int .i64 0, .int .i64 0, .int .i64 0]) (ty := 72) (ln := none) (L1 := fun b330 => [(rb201, ⟨cs202, 66, false⟩), (b223, ⟨[.int .i64 q.idx, .int .u64 q.st.now, .int .i8 q.st.cur, .int .u8 q.st.s0, .int .u8 q.st.s1, .int .u8 q.st.s2, .int .u8 q.st.s3, .int .u64 q.st.r0, .int .u64 q.st.r1, .int .u64 q.st.r2, .int .u64 q.st.r3, .int .u64 q.st.word, .bool q.out.refused, .int .i8 q.out.running, .int .u64 q.out.value], 66, false⟩), (bq, ⟨logC bad.base (.slice d244.eo bad.evs.length d244.ec) (.slice d244.mo bad.mks.length d244.mc) (.slice d244.so bad.sns.length d244.sc), 69, true⟩), (b252, ⟨[.int .u8 0, .int .i64 bad.base.idx, .int .i64 bad.base.idx, .int .i64 bad.fin, .bool false, .bool bad.base.out.refused, .int .i8 bad.base.out.running, .int .u64 bad.base.out.value, .int .u64 (dig bad.base.st), .int .i64 q.idx, .int .i64 ((vfy bad (pqOf bad q)).rep), .int .i64 ((vfy bad (pqOf bad q)).at_)], 41, false⟩), (b330, ⟨[.int .i64 0, .int .i64 0, .int .i64 0], 72, false⟩)]) h328 rfl rfl rfl rfl (by kernel_rfl) (fun _ => rfl) fun b330 w331 a332 h333 hf334 hn335 => ?_
              clear h328
              refine nd_op ?_
              refine op_store tabOk {k := 4} (L' := [(rb201, ⟨cs202, 66, false⟩), (b223, ⟨[.int .i64 q.idx, .int .u64 q.st.now, .int .i8 q.st.cur, .int .u8 q.st.s0, .int .u8 q.st.s1, .int .u8 q.st.s2, .int .u8 q.st.s3, .int .u64 q.st.r0, .int .u64 q.st.r1, .int .u64 q.st.r2, .int .u64 q.st.r3, .int .u64 q.st.word, .bool q.out.refused, .int .i8 q.out.running, .int .u64 q.out.value], 66, false⟩), (bq, ⟨logC bad.base (.slice d244.eo bad.evs.length d244.ec) (.slice d244.mo bad.mks.length d244.mc) (.slice d244.so bad.sns.length d244.sc), 69, true⟩), (b252, ⟨[.int .u8 0, .int .i64 bad.base.idx, .int .i64 bad.base.idx, .int .i64 bad.fin, .bool false, .bool bad.base.out.refused, .int .i8 bad.base.out.running, .int .u64 bad.base.out.value, .int .u64 (dig bad.base.st), .int .i64 q.idx, .int .i64 ((vfy bad (pqOf bad q)).rep), .int .i64 ((vfy bad (pqOf bad q)).at_)], 41, false⟩), (b330, ⟨[.int .i64 ((vfy bad q).at_), .int .i64 ((vfy bad q).good), .int .i64 ((vfy bad q).rep)], 72, false⟩)]) (φ := b330 = b330 ∧ Nat.ble (0 + 3) 3 = true) h333 rfl rfl rfl (by kernel_rfl) ⟨rfl, rfl⟩ fun w336 h337 => ?_
              clear h333
              refine nd_done ?_
              refine hK323 _ _ ?_
              clear hK323
              refine wp_seq_k fun K338 hK338 => ?_
              refine dr_start (KB := [rb201, b223, bq, b252, b330]) (Bi := [[0, 1, 2, 3, 4], [0, 1, 2, 3, 4], [0, 1, 2, 3, 4], [0, 1, 2, 3, 4], [4], [0, 1, 2, 3, 4], [0, 1, 2, 3, 4], [0, 1, 2, 3, 4], [0, 1, 2, 3, 4], [0, 1, 2, 3, 4], [0, 1, 2, 3, 4], [0, 1, 2, 3, 4], [0, 1, 2, 3, 4], [0, 1, 2, 3, 4], [4], [0, 1, 2, 3, 4], [0, 1, 2, 3, 4]]) mixed h337 fun w339 h340 => ?_
              clear h337
              refine dr_batch tabOk tabZ_ok (by repeat (first | exact PF.body | with_reducible apply PF.inB | with_reducible apply PF.next)) [(0, {}), (1, {k := 4, p := 4}), (2, {}), (3, {k := 1, p := 1})] [16, 15, 13, 3, 4, 7, 10, 22, 23, 24, 63, 64, 65, 14, 103, 104, 105] (T' := [(16, .pointer (some ⟨b330, 0, none⟩)), (15, .pointer (some ⟨b252, 0, none⟩)), (13, .pointer (some ⟨b223, 0, none⟩)), (3, .pointer (some ⟨bs, 0, none⟩)), (4, .slice o95 ((es ++ [x]).length) c96), (7, .pointer (some ⟨bq, 0, none⟩)), (10, .pointer (some ⟨bt163, 0, none⟩)), (22, .slice (some ⟨sb46, k047, none⟩) ops.length c), (23, .int .i64 ((ops.length : Nat) : Int)), (24, .int .i64 ((i : Nat) : Int)), (63, .slice (some ⟨rb201, 0, none⟩) (([bad.base] ++ bad.sns).length) c187), (64, .int .i64 ((([bad.base] ++ bad.sns).length : Nat) : Int)), (65, .int .i64 ((k : Nat) : Int)), (14, .int .i64 ((vfy bad q).at_)), (103, .int .i64 ((vfy bad q).at_)), (104, .pointer (some ⟨bq, 0, none⟩)), (105, .agg #[.int .i64 q.idx, .int .u64 q.st.now, .int .i8 q.st.cur, .int .u8 q.st.s0, .int .u8 q.st.s1, .int .u8 q.st.s2, .int .u8 q.st.s3, .int .u64 q.st.r0, .int .u64 q.st.r1, .int .u64 q.st.r2, .int .u64 q.st.r3, .int .u64 q.st.word, .bool q.out.refused, .int .i8 q.out.running, .int .u64 q.out.value])]) (φ := (b330 = b330 ∧ Nat.ble (0 + 1) 3 = true) ∧ (b223 = b223 ∧ Nat.ble (0 + 15) 15 = true) ∧ True) (fuel := 13) h340 (by kernel_rfl) rfl (by kernel_rfl) (by kernel_rfl) ⟨trivial, rfl, trivial, rfl, trivial⟩ ⟨⟨rfl, rfl⟩, ⟨rfl, rfl⟩, trivial⟩ fun a342 h343 => ?_
              clear h340
              refine wpAnyK_one (i := 4) (fuel := 12) (by kernel_rfl) ?_
              refine op_call h343 rfl rfl rfl (callOk Try.func23 (by decide) rfl) (args := [.pointer (some ⟨bq, 0, none⟩), .agg #[.int .i64 q.idx, .int .u64 q.st.now, .int .i8 q.st.cur, .int .u8 q.st.s0, .int .u8 q.st.s1, .int .u8 q.st.s2, .int .u8 q.st.s3, .int .u64 q.st.r0, .int .u64 q.st.r1, .int .u64 q.st.r2, .int .u64 q.st.r3, .int .u64 q.st.word, .bool q.out.refused, .int .i8 q.out.running, .int .u64 q.out.value]]) rfl (firstDiv_ok bq _ bad _ (h343.inv.get (j := 2) (p := pSess bt163 bq d244 (ssOf bad)) rfl).log (B := (i : Int)) (by omega) hbwf q hq1 hq2 hq3) ?_
              rintro _ w347 ⟨r344, rfl, hr345, hf346⟩
              refine ⟨_, rfl, ?_⟩
              have hr345e : r344 = (vfy bad q).at_ := IsFD.unique (by omega) hr345 (vfy_law hbwf hq1 hq2).1
              subst hr345e
              have h348 := (h343.grow hf346).put (d := some 106) (v := .int .i64 ((vfy bad q).at_)) (T' := [(106, .int .i64 ((vfy bad q).at_)), (16, .pointer (some ⟨b330, 0, none⟩)), (15, .pointer (some ⟨b252, 0, none⟩)), (13, .pointer (some ⟨b223, 0, none⟩)), (3, .pointer (some ⟨bs, 0, none⟩)), (4, .slice o95 ((es ++ [x]).length) c96), (7, .pointer (some ⟨bq, 0, none⟩)), (10, .pointer (some ⟨bt163, 0, none⟩)), (22, .slice (some ⟨sb46, k047, none⟩) ops.length c), (23, .int .i64 ((ops.length : Nat) : Int)), (24, .int .i64 ((i : Nat) : Int)), (63, .slice (some ⟨rb201, 0, none⟩) (([bad.base] ++ bad.sns).length) c187), (64, .int .i64 ((([bad.base] ++ bad.sns).length : Nat) : Int)), (65, .int .i64 ((k : Nat) : Int)), (14, .int .i64 ((vfy bad q).at_)), (103, .int .i64 ((vfy bad q).at_)), (104, .pointer (some ⟨bq, 0, none⟩)), (105, .agg #[.int .i64 q.idx, .int .u64 q.st.now, .int .i8 q.st.cur, .int .u8 q.st.s0, .int .u8 q.st.s1, .int .u8 q.st.s2, .int .u8 q.st.s3, .int .u64 q.st.r0, .int .u64 q.st.r1, .int .u64 q.st.r2, .int .u64 q.st.r3, .int .u64 q.st.word, .bool q.out.refused, .int .i8 q.out.running, .int .u64 q.out.value])]) rfl
              refine ⟨(h343.keepFr hf346 (kcons (by simp) knil)), ?_⟩
              have hszh348 : w.heap.size ≤ _ := h343.frame.size
              clear h343
              refine dr_batch tabOk tabZ_ok (by repeat (first | exact PF.body | with_reducible apply PF.inB | with_reducible apply PF.next)) [(5, {f := 1}), (6, {}), (7, {}), (8, {k := 4, p := 4}), (9, {}), (10, {}), (11, {k := 1, p := 1}), (12, {}), (13, {k := 4, p := 4})] [16, 15, 13, 3, 4, 7, 10, 22, 23, 24, 63, 64, 65, 14, 108, 110, 111, 113, 115] (T' := [(16, .pointer (some ⟨b330, 0, none⟩)), (15, .pointer (some ⟨b252, 0, none⟩)), (13, .pointer (some ⟨b223, 0, none⟩)), (3, .pointer (some ⟨bs, 0, none⟩)), (4, .slice o95 ((es ++ [x]).length) c96), (7, .pointer (some ⟨bq, 0, none⟩)), (10, .pointer (some ⟨bt163, 0, none⟩)), (22, .slice (some ⟨sb46, k047, none⟩) ops.length c), (23, .int .i64 ((ops.length : Nat) : Int)), (24, .int .i64 ((i : Nat) : Int)), (63, .slice (some ⟨rb201, 0, none⟩) (([bad.base] ++ bad.sns).length) c187), (64, .int .i64 ((([bad.base] ++ bad.sns).length : Nat) : Int)), (65, .int .i64 ((k : Nat) : Int)), (14, .int .i64 ((vfy bad q).at_)), (108, .bool false), (110, .int .i64 ((vfy bad q).good)), (111, .pointer (some ⟨bq, 0, none⟩)), (113, .int .i64 q.idx), (115, .int .i64 ((vfy bad q).at_))]) (φ := (((vfy bad q).at_ != (vfy bad q).at_)) = false ∧ (b330 = b330 ∧ Nat.ble (1 + 1) 3 = true) ∧ (b223 = b223 ∧ Nat.ble (0 + 1) 15 = true) ∧ (b330 = b330 ∧ Nat.ble (0 + 1) 3 = true) ∧ True) (fuel := 3) h348 (by kernel_rfl) rfl (by kernel_rfl) (by kernel_rfl) ⟨trivial, trivial, trivial, rfl, trivial, trivial, rfl, trivial, rfl, trivial⟩ ⟨(by simp), ⟨rfl, rfl⟩, ⟨rfl, rfl⟩, ⟨rfl, rfl⟩, trivial⟩ fun a349 h350 => ?_
              clear h348
              refine wpAnyK_one (i := 14) (fuel := 2) (by kernel_rfl) ?_
              refine op_call h350 rfl rfl rfl (callOk Try.func25 (by decide) rfl) (args := [.pointer (some ⟨bq, 0, none⟩), .int .i64 q.idx, .int .i64 ((vfy bad q).at_)]) rfl (lastBefore_ok bq _ bad _ (h350.inv.get (j := 2) (p := pSess bt163 bq d244 (ssOf bad)) rfl).log q.idx (vfy bad q).at_ (by omega) (by omega)) ?_
              rintro _ w354 ⟨r351, rfl, hr352, hf353⟩
              refine ⟨_, rfl, ?_⟩
              have hr352e : r351 = (vfy bad q).good := IsLast.unique hr352 hv2
              subst hr352e
              have h355 := (h350.grow hf353).put (d := some 116) (v := .int .i64 ((vfy bad q).good)) (T' := [(116, .int .i64 ((vfy bad q).good)), (16, .pointer (some ⟨b330, 0, none⟩)), (15, .pointer (some ⟨b252, 0, none⟩)), (13, .pointer (some ⟨b223, 0, none⟩)), (3, .pointer (some ⟨bs, 0, none⟩)), (4, .slice o95 ((es ++ [x]).length) c96), (7, .pointer (some ⟨bq, 0, none⟩)), (10, .pointer (some ⟨bt163, 0, none⟩)), (22, .slice (some ⟨sb46, k047, none⟩) ops.length c), (23, .int .i64 ((ops.length : Nat) : Int)), (24, .int .i64 ((i : Nat) : Int)), (63, .slice (some ⟨rb201, 0, none⟩) (([bad.base] ++ bad.sns).length) c187), (64, .int .i64 ((([bad.base] ++ bad.sns).length : Nat) : Int)), (65, .int .i64 ((k : Nat) : Int)), (14, .int .i64 ((vfy bad q).at_)), (108, .bool false), (110, .int .i64 ((vfy bad q).good)), (111, .pointer (some ⟨bq, 0, none⟩)), (113, .int .i64 q.idx), (115, .int .i64 ((vfy bad q).at_))]) rfl
              refine ⟨(h350.keepFr hf353 (kcons (by simp) knil)), ?_⟩
              have hszh355 : w.heap.size ≤ _ := h350.frame.size
              clear h350
              refine dr_batch tabOk tabZ_ok (by repeat (first | exact PF.body | with_reducible apply PF.inB | with_reducible apply PF.next)) [(15, {f := 1}), (16, {})] [16, 15, 13, 3, 4, 7, 10, 22, 23, 24, 63, 64, 65, 14, 118] (T' := [(16, .pointer (some ⟨b330, 0, none⟩)), (15, .pointer (some ⟨b252, 0, none⟩)), (13, .pointer (some ⟨b223, 0, none⟩)), (3, .pointer (some ⟨bs, 0, none⟩)), (4, .slice o95 ((es ++ [x]).length) c96), (7, .pointer (some ⟨bq, 0, none⟩)), (10, .pointer (some ⟨bt163, 0, none⟩)), (22, .slice (some ⟨sb46, k047, none⟩) ops.length c), (23, .int .i64 ((ops.length : Nat) : Int)), (24, .int .i64 ((i : Nat) : Int)), (63, .slice (some ⟨rb201, 0, none⟩) (([bad.base] ++ bad.sns).length) c187), (64, .int .i64 ((([bad.base] ++ bad.sns).length : Nat) : Int)), (65, .int .i64 ((k : Nat) : Int)), (14, .int .i64 ((vfy bad q).at_)), (118, .bool false)]) (φ := (((vfy bad q).good != (vfy bad q).good)) = false ∧ True) (fuel := 0) h355 (by kernel_rfl) rfl (by kernel_rfl) (by kernel_rfl) ⟨trivial, trivial, trivial⟩ ⟨(by simp), trivial⟩ fun a356 h357 => ?_
              clear h355
              refine wpAnyK_done (by kernel_rfl) ?_ _
              refine hK338 _ _ ?_
              clear hK338
              refine c_false h357 rfl ?_
              refine wp_skip ?_
              refine hK219 _ _ ?_
              clear hK219
              refine nd_start (l := [0, 1]) rfl ?_
              refine nd_batch tabOk tabZ_ok [(0, {}), (1, {})] [16, 15, 13, 3, 4, 7, 10, 22, 23, 24, 63, 64, 14, 65] (T' := [(16, .pointer (some ⟨b330, 0, none⟩)), (15, .pointer (some ⟨b252, 0, none⟩)), (13, .pointer (some ⟨b223, 0, none⟩)), (3, .pointer (some ⟨bs, 0, none⟩)), (4, .slice o95 ((es ++ [x]).length) c96), (7, .pointer (some ⟨bq, 0, none⟩)), (10, .pointer (some ⟨bt163, 0, none⟩)), (22, .slice (some ⟨sb46, k047, none⟩) ops.length c), (23, .int .i64 ((ops.length : Nat) : Int)), (24, .int .i64 ((i : Nat) : Int)), (63, .slice (some ⟨rb201, 0, none⟩) (([bad.base] ++ bad.sns).length) c187), (64, .int .i64 ((([bad.base] ++ bad.sns).length : Nat) : Int)), (14, .int .i64 ((vfy bad q).at_)), (65, .int .i64 (((k : Nat) : Int) + 1))]) (φ := inR .i64 (((k : Nat) : Int) + 1) ∧ True) (rest := []) h357 (by kernel_rfl) rfl ⟨⟨by omega, by omega⟩, trivial⟩ fun a358 h359 => ?_
              clear h357
              refine nd_done ?_
              have h360 := h359.memMono (L' := [(rb201, ⟨cs202, 66, false⟩)]) (List.Sublist.cons_cons _ (List.Sublist.cons _ (List.Sublist.cons _ (List.Sublist.cons _ (List.Sublist.cons _ List.Sublist.slnil)))))
              clear h359
              exact ⟨(gg3 - 1), by omega, (k + 1), d244, by omega, by omega, (h360.slotsMono (restr_spec (keep := [3, 4, 7, 10, 22, 23, 24, 63, 64, 65]) rfl))⟩
          ·
            have hc218f : ¬ ((k : Nat) : Int) < ((([bad.base] ++ bad.sns).length : Nat) : Int) := by simpa using hc218
            have h361 := h216.slotsMono (T' := [(3, .pointer (some ⟨bs, 0, none⟩)), (4, .slice o95 ((es ++ [x]).length) c96), (7, .pointer (some ⟨bq, 0, none⟩)), (10, .pointer (some ⟨bt163, 0, none⟩)), (22, .slice (some ⟨sb46, k047, none⟩) ops.length c), (23, .int .i64 ((ops.length : Nat) : Int)), (24, .int .i64 ((i : Nat) : Int))]) (restr_spec (keep := [3, 4, 7, 10, 22, 23, 24]) rfl)
            clear h216
            have h362 := h361.memMono (L' := []) (List.Sublist.cons _ List.Sublist.slnil)
            clear h361
            refine wp_exit ?_
            refine hK196 _ _ ?_
            clear hK196
            refine wp_seq_k fun K363 hK363 => ?_
            refine nd_start (l := [0, 1, 2, 3, 4, 5, 6]) rfl ?_
            refine nd_batch tabOk tabZ_ok [(0, {}), (1, {})] [3, 4, 7, 10, 22, 23, 24, 120, 121] (T' := [(3, .pointer (some ⟨bs, 0, none⟩)), (4, .slice o95 ((es ++ [x]).length) c96), (7, .pointer (some ⟨bq, 0, none⟩)), (10, .pointer (some ⟨bt163, 0, none⟩)), (22, .slice (some ⟨sb46, k047, none⟩) ops.length c), (23, .int .i64 ((ops.length : Nat) : Int)), (24, .int .i64 ((i : Nat) : Int)), (120, .pointer (some ⟨bt163, 0, none⟩)), (121, .pointer (some ⟨bq, 0, none⟩))]) (φ := True) (rest := [2, 3, 4, 5, 6]) h362 (by kernel_rfl) rfl trivial fun a364 h365 => ?_
            clear h362
            refine nd_op ?_
            refine op_call h365 rfl rfl rfl (callOk Try.func20 (by decide) rfl) (args := [.pointer (some ⟨bq, 0, none⟩)]) rfl (end_ok bq bad.base _ bad.evs.length _ _ _ false _ (h365.inv.get (j := 2) (p := pSess bt163 bq dt (ssOf bad)) rfl).log.blk hbwf.b0 (by omega) (by omega)) ?_
            rintro _ w366 ⟨rfl, hf368⟩
            refine ⟨_, rfl, ?_⟩
            have h367 := (h365.grow hf368).put (d := some 122) (v := .int .i64 (bad.base.idx + (bad.evs.length : Int))) (T' := [(122, .int .i64 (bad.base.idx + (bad.evs.length : Int))), (3, .pointer (some ⟨bs, 0, none⟩)), (4, .slice o95 ((es ++ [x]).length) c96), (7, .pointer (some ⟨bq, 0, none⟩)), (10, .pointer (some ⟨bt163, 0, none⟩)), (22, .slice (some ⟨sb46, k047, none⟩) ops.length c), (23, .int .i64 ((ops.length : Nat) : Int)), (24, .int .i64 ((i : Nat) : Int)), (120, .pointer (some ⟨bt163, 0, none⟩)), (121, .pointer (some ⟨bq, 0, none⟩))]) rfl
            clear h365
            refine nd_batch tabOk tabZ_ok [(3, {})] [3, 4, 7, 10, 22, 23, 24, 120, 123] (T' := [(3, .pointer (some ⟨bs, 0, none⟩)), (4, .slice o95 ((es ++ [x]).length) c96), (7, .pointer (some ⟨bq, 0, none⟩)), (10, .pointer (some ⟨bt163, 0, none⟩)), (22, .slice (some ⟨sb46, k047, none⟩) ops.length c), (23, .int .i64 ((ops.length : Nat) : Int)), (24, .int .i64 ((i : Nat) : Int)), (120, .pointer (some ⟨bt163, 0, none⟩)), (123, .agg #[.int .u8 1, .int .i64 (bad.base.idx + (bad.evs.length : Int)), .int .i64 0, .int .u8 0, .int .u32 0, .int .u64 0])]) (φ := True) (rest := [4, 5, 6]) h367 (by kernel_rfl) rfl trivial fun a369 h370 => ?_
            clear h367
            refine nd_op ?_
            have hsk := seek_fin (lg := bad) (n := (bad.base.idx + (bad.evs.length : Int))) (by omega) (Int.le_refl _)
            refine op_call h370 rfl rfl rfl (callOk Try.func12 (by decide) rfl) (args := [.pointer (some ⟨bt163, 0, none⟩), .agg #[.int .u8 1, .int .i64 (bad.base.idx + (bad.evs.length : Int)), .int .i64 0, .int .u8 0, .int .u32 0, .int .u64 0]]) rfl ((by have hq := do_ok bt163 bq dt (ssOf bad) _ (h370.inv.get (j := 2) (p := pSess bt163 bq dt (ssOf bad)) rfl) (B := (i : Int)) (by omega) (ssOf_wf hbwf) ⟨1, (bad.base.idx + (bad.evs.length : Int)), 0, ⟨0, 0, 0⟩⟩ (opk_ok (by decide) (by decide)); rw [do_seek] at hq; exact hq)) ?_
            rintro _ w375 ⟨d371, rfl, hs372, hf373, hF374⟩
            refine ⟨_, rfl, ?_⟩
            have h376 := (h370.pcSet (j := 2) (p := pSess bt163 bq dt (ssOf bad)) (p' := pSess bt163 bq d371 ((seekR (ssOf bad) (bad.base.idx + (bad.evs.length : Int))).2)) (ps' := [pSess bs bl d s, pRow (rl opC 35 6 (es ++ [x]) o95 c96 F97), pSess bt163 bq d371 ((seekR (ssOf bad) (bad.base.idx + (bad.evs.length : Int))).2)]) rfl (pSess_ok hs372) hf373 (fun _ h => h) (sess_sub hF374) knil rfl).put (d := some 124) (v := .agg #[.int .u8 ((seekR (ssOf bad) (bad.base.idx + (bad.evs.length : Int))).1.code), .int .i64 ((seekR (ssOf bad) (bad.base.idx + (bad.evs.length : Int))).1.pos), .int .i64 ((seekR (ssOf bad) (bad.base.idx + (bad.evs.length : Int))).1.base), .int .i64 ((seekR (ssOf bad) (bad.base.idx + (bad.evs.length : Int))).1.fin), .bool ((seekR (ssOf bad) (bad.base.idx + (bad.evs.length : Int))).1.live), .bool ((seekR (ssOf bad) (bad.base.idx + (bad.evs.length : Int))).1.out.refused), .int .i8 ((seekR (ssOf bad) (bad.base.idx + (bad.evs.length : Int))).1.out.running), .int .u64 ((seekR (ssOf bad) (bad.base.idx + (bad.evs.length : Int))).1.out.value), .int .u64 ((seekR (ssOf bad) (bad.base.idx + (bad.evs.length : Int))).1.dig), .int .i64 ((seekR (ssOf bad) (bad.base.idx + (bad.evs.length : Int))).1.from_), .int .i64 ((seekR (ssOf bad) (bad.base.idx + (bad.evs.length : Int))).1.replayed), .int .i64 ((seekR (ssOf bad) (bad.base.idx + (bad.evs.length : Int))).1.at_)]) (T' := [(124, .agg #[.int .u8 ((seekR (ssOf bad) (bad.base.idx + (bad.evs.length : Int))).1.code), .int .i64 ((seekR (ssOf bad) (bad.base.idx + (bad.evs.length : Int))).1.pos), .int .i64 ((seekR (ssOf bad) (bad.base.idx + (bad.evs.length : Int))).1.base), .int .i64 ((seekR (ssOf bad) (bad.base.idx + (bad.evs.length : Int))).1.fin), .bool ((seekR (ssOf bad) (bad.base.idx + (bad.evs.length : Int))).1.live), .bool ((seekR (ssOf bad) (bad.base.idx + (bad.evs.length : Int))).1.out.refused), .int .i8 ((seekR (ssOf bad) (bad.base.idx + (bad.evs.length : Int))).1.out.running), .int .u64 ((seekR (ssOf bad) (bad.base.idx + (bad.evs.length : Int))).1.out.value), .int .u64 ((seekR (ssOf bad) (bad.base.idx + (bad.evs.length : Int))).1.dig), .int .i64 ((seekR (ssOf bad) (bad.base.idx + (bad.evs.length : Int))).1.from_), .int .i64 ((seekR (ssOf bad) (bad.base.idx + (bad.evs.length : Int))).1.replayed), .int .i64 ((seekR (ssOf bad) (bad.base.idx + (bad.evs.length : Int))).1.at_)]), (3, .pointer (some ⟨bs, 0, none⟩)), (4, .slice o95 ((es ++ [x]).length) c96), (7, .pointer (some ⟨bq, 0, none⟩)), (10, .pointer (some ⟨bt163, 0, none⟩)), (22, .slice (some ⟨sb46, k047, none⟩) ops.length c), (23, .int .i64 ((ops.length : Nat) : Int)), (24, .int .i64 ((i : Nat) : Int)), (120, .pointer (some ⟨bt163, 0, none⟩)), (123, .agg #[.int .u8 1, .int .i64 (bad.base.idx + (bad.evs.length : Int)), .int .i64 0, .int .u8 0, .int .u32 0, .int .u64 0])]) rfl
            have hszh376 : w.heap.size ≤ _ := h370.frame.size
            clear h370
            refine nd_op ?_
            refine op_new tabOk (cells := [.int .u8 0, .int .i64 0, .int .i64 0, .int .i64 0, .bool false, .bool false, .int .i8 0, .int .u64 0, .int .u64 0, .int .i64 0, .int .i64 0, .int .i64 0]) (ty := 41) (ln := none) (L1 := fun b377 => [(b377, ⟨[.int .u8 0, .int .i64 0, .int .i64 0, .int .i64 0, .bool false, .bool false, .int .i8 0, .int .u64 0, .int .u64 0, .int .i64 0, .int .i64 0, .int .i64 0], 41, false⟩)]) h376 rfl rfl rfl rfl (by kernel_rfl) (fun _ => rfl) fun b377 w378 a379 h380 hf381 hn382 => ?_
            clear h376
            refine nd_op ?_
            refine op_store tabOk {k := 0} (L' := [(b377, ⟨[.int .u8 ((seekR (ssOf bad) (bad.base.idx + (bad.evs.length : Int))).1.code), .int .i64 ((seekR (ssOf bad) (bad.base.idx + (bad.evs.length : Int))).1.pos), .int .i64 ((seekR (ssOf bad) (bad.base.idx + (bad.evs.length : Int))).1.base), .int .i64 ((seekR (ssOf bad) (bad.base.idx + (bad.evs.length : Int))).1.fin), .bool ((seekR (ssOf bad) (bad.base.idx + (bad.evs.length : Int))).1.live), .bool ((seekR (ssOf bad) (bad.base.idx + (bad.evs.length : Int))).1.out.refused), .int .i8 ((seekR (ssOf bad) (bad.base.idx + (bad.evs.length : Int))).1.out.running), .int .u64 ((seekR (ssOf bad) (bad.base.idx + (bad.evs.length : Int))).1.out.value), .int .u64 ((seekR (ssOf bad) (bad.base.idx + (bad.evs.length : Int))).1.dig), .int .i64 ((seekR (ssOf bad) (bad.base.idx + (bad.evs.length : Int))).1.from_), .int .i64 ((seekR (ssOf bad) (bad.base.idx + (bad.evs.length : Int))).1.replayed), .int .i64 ((seekR (ssOf bad) (bad.base.idx + (bad.evs.length : Int))).1.at_)], 41, false⟩)]) (φ := b377 = b377 ∧ Nat.ble (0 + 12) 12 = true) h380 rfl rfl rfl (by kernel_rfl) ⟨rfl, rfl⟩ fun w383 h384 => ?_
            clear h380
            refine nd_done ?_
            refine hK363 _ _ ?_
            clear hK363
            refine wp_seq_k fun K385 hK385 => ?_
            refine dr_start (KB := [b377]) (Bi := [[0], [0], [0], [0], [0], [0], [0], [0], [0], [0]]) mixed h384 fun w386 h387 => ?_
            clear h384
            refine dr_batch tabOk tabZ_ok (by repeat (first | exact PF.body | with_reducible apply PF.inB | with_reducible apply PF.next)) [(0, {}), (1, {k := 0, p := 0}), (2, {f := 1}), (3, {}), (4, {}), (5, {k := 0, p := 0}), (6, {})] [17, 3, 4, 7, 10, 22, 23, 24, 128, 130, 131] (T' := [(17, .pointer (some ⟨b377, 0, none⟩)), (3, .pointer (some ⟨bs, 0, none⟩)), (4, .slice o95 ((es ++ [x]).length) c96), (7, .pointer (some ⟨bq, 0, none⟩)), (10, .pointer (some ⟨bt163, 0, none⟩)), (22, .slice (some ⟨sb46, k047, none⟩) ops.length c), (23, .int .i64 ((ops.length : Nat) : Int)), (24, .int .i64 ((i : Nat) : Int)), (128, .bool false), (130, .int .i64 ((seekR (ssOf bad) (bad.base.idx + (bad.evs.length : Int))).1.pos)), (131, .pointer (some ⟨bq, 0, none⟩))]) (φ := (b377 = b377 ∧ Nat.ble (0 + 1) 12 = true) ∧ (((seekR (ssOf bad) (bad.base.idx + (bad.evs.length : Int))).1.code != 0)) = false ∧ (b377 = b377 ∧ Nat.ble (1 + 1) 12 = true) ∧ True) (fuel := 3) h387 (by kernel_rfl) rfl (by kernel_rfl) (by kernel_rfl) ⟨trivial, rfl, trivial, trivial, trivial, rfl, trivial, trivial⟩ ⟨⟨rfl, rfl⟩, (by rw [hsk.1]; rfl), ⟨rfl, rfl⟩, trivial⟩ fun a389 h390 => ?_
            clear h387
            refine wpAnyK_one (i := 7) (fuel := 2) (by kernel_rfl) ?_
            refine op_call h390 rfl rfl rfl (callOk Try.func20 (by decide) rfl) (args := [.pointer (some ⟨bq, 0, none⟩)]) rfl (end_ok bq bad.base _ bad.evs.length _ _ _ false _ (show LogAt _ bq d371 bad by have hq := (h390.inv.get (j := 2) (p := pSess bt163 bq d371 ((seekR (ssOf bad) (bad.base.idx + (bad.evs.length : Int))).2)) rfl).log; rw [seek_lg] at hq; exact hq).blk hbwf.b0 (by omega) (by omega)) ?_
            rintro _ w391 ⟨rfl, hf393⟩
            refine ⟨_, rfl, ?_⟩
            have h392 := (h390.grow hf393).put (d := some 132) (v := .int .i64 (bad.base.idx + (bad.evs.length : Int))) (T' := [(132, .int .i64 (bad.base.idx + (bad.evs.length : Int))), (17, .pointer (some ⟨b377, 0, none⟩)), (3, .pointer (some ⟨bs, 0, none⟩)), (4, .slice o95 ((es ++ [x]).length) c96), (7, .pointer (some ⟨bq, 0, none⟩)), (10, .pointer (some ⟨bt163, 0, none⟩)), (22, .slice (some ⟨sb46, k047, none⟩) ops.length c), (23, .int .i64 ((ops.length : Nat) : Int)), (24, .int .i64 ((i : Nat) : Int)), (128, .bool false), (130, .int .i64 ((seekR (ssOf bad) (bad.base.idx + (bad.evs.length : Int))).1.pos)), (131, .pointer (some ⟨bq, 0, none⟩))]) rfl
            refine ⟨(h390.keepFr hf393 (kcons (by simp) knil)), ?_⟩
            clear h390
            refine dr_batch tabOk tabZ_ok (by repeat (first | exact PF.body | with_reducible apply PF.inB | with_reducible apply PF.next)) [(8, {f := 1}), (9, {})] [17, 3, 4, 7, 10, 22, 23, 24, 134] (T' := [(17, .pointer (some ⟨b377, 0, none⟩)), (3, .pointer (some ⟨bs, 0, none⟩)), (4, .slice o95 ((es ++ [x]).length) c96), (7, .pointer (some ⟨bq, 0, none⟩)), (10, .pointer (some ⟨bt163, 0, none⟩)), (22, .slice (some ⟨sb46, k047, none⟩) ops.length c), (23, .int .i64 ((ops.length : Nat) : Int)), (24, .int .i64 ((i : Nat) : Int)), (134, .bool false)]) (φ := (((seekR (ssOf bad) (bad.base.idx + (bad.evs.length : Int))).1.pos != (bad.base.idx + (bad.evs.length : Int)))) = false ∧ True) (fuel := 0) h392 (by kernel_rfl) rfl (by kernel_rfl) (by kernel_rfl) ⟨trivial, trivial, trivial⟩ ⟨(by rw [hsk.2]; simp), trivial⟩ fun a394 h395 => ?_
            clear h392
            refine wpAnyK_done (by kernel_rfl) ?_ _
            refine hK385 _ _ ?_
            clear hK385
            refine c_false h395 rfl ?_
            refine wp_skip ?_
            refine hK51 _ _ ?_
            clear hK51
            refine nd_start (l := [0, 1]) rfl ?_
            refine nd_batch tabOk tabZ_ok [(0, {}), (1, {})] [17, 3, 4, 7, 10, 22, 23, 24] (T' := [(17, .pointer (some ⟨b377, 0, none⟩)), (3, .pointer (some ⟨bs, 0, none⟩)), (4, .slice o95 ((es ++ [x]).length) c96), (7, .pointer (some ⟨bq, 0, none⟩)), (10, .pointer (some ⟨bt163, 0, none⟩)), (22, .slice (some ⟨sb46, k047, none⟩) ops.length c), (23, .int .i64 ((ops.length : Nat) : Int)), (24, .int .i64 (((i : Nat) : Int) + 1))]) (φ := inR .i64 (((i : Nat) : Int) + 1) ∧ True) (rest := []) h395 (by kernel_rfl) rfl ⟨⟨by omega, by omega⟩, trivial⟩ fun a396 h397 => ?_
            clear h395
            refine nd_done ?_
            have h398 := h397.memMono (L' := []) (List.Sublist.cons _ List.Sublist.slnil)
            clear h397
            have h399 := h398.pcSub (ps' := [pSess bs bl d s, pRow (rl opC 35 6 (es ++ [x]) o95 c96 F97)]) (List.Sublist.cons_cons _ (List.Sublist.cons_cons _ (List.Sublist.cons _ List.Sublist.slnil)))
            clear h398
            exact ⟨(g - 1), by omega, (i + 1), s, d, (es ++ [x]), o95, c96, F97, by omega, by omega, (hwf.mono (by omega)), (by rw [List.length_append]; simp; omega), heo2, (h399.slotsMono (restr_spec (keep := [3, 4, 22, 23, 24]) rfl))⟩
    ·
      have hc45f : ¬ ((i : Nat) : Int) < ((ops.length : Nat) : Int) := by simpa using hc45
      refine wp_exit ?_
      refine hK28 _ _ ?_
      clear hK28
      refine wp_seq_k fun K400 hK400 => ?_
      refine nd_start (l := [0]) rfl ?_
      refine nd_batch tabOk tabZ_ok [(0, {})] [3, 4, 22, 23, 24, 2] (T' := [(3, .pointer (some ⟨bs, 0, none⟩)), (4, .slice ro es.length rc), (22, .slice o ops.length c), (23, .int .i64 ((ops.length : Nat) : Int)), (24, .int .i64 ((i : Nat) : Int)), (2, .bool true)]) (φ := True) (rest := []) h43 (by kernel_rfl) rfl trivial fun a401 h402 => ?_
      clear h43
      refine nd_done ?_
      refine hK400 _ _ ?_
      clear hK400
      refine wp_ret ?_
      try simp only [Exit.then, Exit.inBlock]
      try rw [if_pos trivial]
      exact s_ret tabOk tabZ_ok h402 [(.tmp 2, {})] (vs := [.bool true]) (φ := True) rfl (by kernel_rfl) trivial ⟨rfl, h402.frame⟩

end Go.Proofs.Qxb6500919a
