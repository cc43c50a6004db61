/-
  SeekStartsAtLatestSnapshot: the law walked. (Made by program: a symbolic walk that prints its steps.)
-/
import Derived.Test.Qxb6500919aTab
import Derived.Test.Qxb6500919aL5
import Derived.Test.Qxb6500919aSxJ
import Derived.Test.Qxb6500919aW1
import Derived.Test.Qxb6500919aW2
import Derived.Test.Qxb6500919aW4
import Derived.Test.Qxb6500919aWH
import Derived.Test.Qxb6500919aWI
namespace Go.Proofs.Qxb6500919a
open Go.Sx Go.Rp
set_option maxRecDepth 100000
set_option maxHeartbeats 4000000
set_option linter.unusedVariables false
set_option linter.unusedSimpArgs false

/-- A script as it lies in memory. -/
structure Scr (w : World) (o : Option Addr) (ops : List Opn) : Prop where
  get : ∀ {i : Nat} {x : Opn}, ops[i]? = some x → ∃ b k0, o = some ⟨b, k0, none⟩ ∧ b < w.heap.size ∧ ∀ j y, ops[j]? = some y → CellsAt w b (k0 + j * 6) (opC y)


theorem ss0_wf : ss0.wf ((0 : Nat) : Int) := by
  have hm : mach0.ok := by constructor <;> (try constructor) <;> decide
  refine ⟨⟨by decide, by decide, by decide, by decide, by decide, ?_, hm, ?_, ?_, ?_, ?_, ?_⟩, hm, by decide, by decide, fun _ => by decide⟩
  all_goals first | (intro x hx; cases hx) | exact List.Pairwise.nil

theorem ss0_hon : Hon [] ss0 := by
  refine ⟨⟨by decide, rfl, rfl, ?_, ?_⟩, rfl⟩
  all_goals (intro x hx; cases hx)

theorem op7_ok {p n : Int} : (⟨7, p, n, ⟨0, 0, 0⟩⟩ : Opn).ok := ⟨⟨(by decide : (0 : Int) ≤ 7), (by decide : (7 : Int) ≤ 255)⟩, ⟨(by decide : (0 : Int) ≤ 0), (by decide : (0 : Int) ≤ 255)⟩, ⟨(by decide : (0 : Int) ≤ 0), (by decide : (0 : Int) ≤ 4294967295)⟩, ⟨(by decide : (0 : Int) ≤ 0), (by decide : (0 : Int) ≤ 18446744073709551615)⟩⟩

theorem do_replay (s : Ss) (p n : Int) (e : Ev) : doR s ⟨7, p, n, e⟩ = (replayR s p n, s) := by simp [doR]


theorem law5_ok (o : Option Addr) (c : Nat) (ops : List Opn) (w : World) (hok : ∀ op ∈ ops, op.ok) (hscr : Scr w o ops) : Calls Try.prog 5 #[.slice o ops.length c] w fun e w' => e = .returned (.bool true) ∧ Fr [] w w' := by
  refine enter0 (n := 111) (K := []) (T := [(0, .slice o ops.length c)]) (L := []) (args := [.slice o ops.length c]) Try.func5 rfl rfl rfl rfl knil (by simp) knil ?_
  intro a h
  refine wp_seq_k fun K1 hK1 => ?_
  refine nd_start (l := [0]) rfl ?_
  refine nd_batch tabOk tabZ_ok [(0, {})] [0, 2] (T' := [(0, .slice o ops.length c), (2, .bool false)]) (φ := True) (rest := []) h (by kernel_rfl) rfl trivial fun a2 h3 => ?_
  clear h
  refine nd_done ?_
  refine hK1 _ _ ?_
  clear hK1
  refine wp_seq_k fun K4 hK4 => ?_
  refine wp_seq_k fun K5 hK5 => ?_
  refine nd_start (l := [0, 1, 2]) rfl ?_
  refine nd_batch tabOk tabZ_ok [(0, {})] [0, 2, 12] (T' := [(0, .slice o ops.length c), (2, .bool false), (12, .slice o ops.length c)]) (φ := True) (rest := [1, 2]) h3 (by kernel_rfl) rfl trivial fun a6 h7 => ?_
  clear h3
  refine nd_op ?_
  refine op_call h7 rfl rfl rfl (callOk Try.func9 (by decide) rfl) (args := [.slice o ops.length c]) rfl (small_ok o ops.length c _) ?_
  rintro _ w8 ⟨rfl, hf10⟩
  refine ⟨_, rfl, ?_⟩
  have h9 := (h7.grow hf10).put (d := some 13) (v := .bool (decide (ops.length ≤ 65536))) (T' := [(13, .bool (decide (ops.length ≤ 65536))), (0, .slice o ops.length c), (2, .bool false), (12, .slice o ops.length c)]) rfl
  clear h7
  refine nd_batch tabOk tabZ_ok [(2, {})] [0, 2, 14] (T' := [(0, .slice o ops.length c), (2, .bool false), (14, .bool (!(decide (ops.length ≤ 65536))))]) (φ := True) (rest := []) h9 (by kernel_rfl) rfl trivial fun a11 h12 => ?_
  clear h9
  refine nd_done ?_
  refine hK5 _ _ ?_
  clear hK5
  refine c_split h12 (b := !(decide (ops.length ≤ 65536))) rfl (fun hc13 => ?_) (fun hc13 => ?_)
  ·
    refine wp_seq_k fun K14 hK14 => ?_
    refine nd_start (l := [0]) rfl ?_
    refine nd_batch tabOk tabZ_ok [(0, {})] [0, 2] (T' := [(0, .slice o ops.length c), (2, .bool true)]) (φ := True) (rest := []) h12 (by kernel_rfl) rfl trivial fun a15 h16 => ?_
    clear h12
    refine nd_done ?_
    refine hK14 _ _ ?_
    clear hK14
    refine wp_ret ?_
    try simp only [Exit.then, Exit.inBlock]
    try rw [if_pos trivial]
    exact s_ret tabOk tabZ_ok h16 [(.tmp 2, {})] (vs := [.bool true]) (φ := True) rfl (by kernel_rfl) trivial ⟨rfl, h16.frame⟩
  ·
    have hsm : ops.length ≤ 65536 := by simpa using hc13
    refine wp_skip ?_
    refine hK4 _ _ ?_
    clear hK4
    refine wp_seq_k fun K17 hK17 => ?_
    refine nd_start (l := [0, 1]) rfl ?_
    refine nd_op ?_
    have h18 := h12.slotsMono (T' := [(0, .slice o ops.length c), (2, .bool false)]) (restr_spec (keep := [0, 2]) rfl)
    clear h12
    refine op_call h18 rfl rfl rfl (callOk Try.func10 (by decide) rfl) (args := []) rfl (new_ok _) ?_
    rintro _ w19 ⟨bs, bl, rfl, hs0, hf20, hn1, hn2⟩
    refine ⟨_, rfl, ?_⟩
    have h21q := h18.callSub hf20 (fun b hb => by cases hb) (A' := fun w => SessAt w bs bl hd0 ss0) (F' := bs :: bl :: hd0.F) (L' := []) (List.nil_sublist _) knil hs0 SessAt.stable hs0.low (fun b hb => by simp [Hd.F, hd0] at hb; rcases hb with rfl | rfl; exact .inr (.inr hn1); exact .inr (.inr hn2))
    have hnew : ∀ x ∈ bs :: bl :: hd0.F, w.heap.size ≤ x := by intro x hx; have hq1 : w.heap.size ≤ _ := h18.frame.size; simp [Hd.F, hd0] at hx; rcases hx with rfl | rfl; exact Nat.le_trans hq1 hn1; exact Nat.le_trans hq1 hn2
    have h21 := h21q.put (d := some 15) (v := .pointer (some ⟨bs, 0, none⟩)) (T' := [(15, .pointer (some ⟨bs, 0, none⟩)), (0, .slice o ops.length c), (2, .bool false)]) rfl
    clear h18 h21q
    refine nd_batch tabOk tabZ_ok [(1, {})] [0, 2, 3] (T' := [(0, .slice o ops.length c), (2, .bool false), (3, .pointer (some ⟨bs, 0, none⟩))]) (φ := True) (rest := []) h21 (by kernel_rfl) rfl trivial fun a22 h23 => ?_
    clear h21
    refine nd_done ?_
    refine hK17 _ _ ?_
    clear hK17
    refine wp_seq_k fun K24 hK24 => ?_
    refine wp_seq_k fun K25 hK25 => ?_
    refine nd_start (l := [0, 1, 2]) rfl ?_
    refine nd_batch tabOk tabZ_ok [(0, {}), (1, {}), (2, {})] [0, 2, 3, 16, 17, 18] (T' := [(0, .slice o ops.length c), (2, .bool false), (3, .pointer (some ⟨bs, 0, none⟩)), (16, .slice o ops.length c), (17, .int .i64 ((ops.length : Nat) : Int)), (18, .int .i64 0)]) (φ := True) (rest := []) h23 (by kernel_rfl) rfl trivial fun a26 h27 => ?_
    clear h23
    refine nd_done ?_
    refine hK25 _ _ ?_
    clear hK25
    refine wp_block ?_
    refine wp_loop_ghost (fun g ga gw => ∃ (i : Nat) (s : Ss) (d : Hd) (all : List Ev), (i ≤ ops.length) ∧ (g = ops.length - i) ∧ (s.wf (i : Int)) ∧ (Hon all s) ∧ (∀ x ∈ bs :: bl :: d.F, w.heap.size ≤ x) ∧ St ⟨111, [], w, fun w => SessAt w bs bl d s, bs :: bl :: d.F⟩ [(3, .pointer (some ⟨bs, 0, none⟩)), (16, .slice o ops.length c), (17, .int .i64 ((ops.length : Nat) : Int)), (18, .int .i64 ((i : Nat) : Int))] [] ga gw) ops.length ⟨0, ss0, hd0, [], Nat.zero_le _, rfl, ss0_wf, ss0_hon, hnew, (h27.slotsMono (restr_spec (keep := [3, 16, 17, 18]) rfl))⟩ ?_
    clear h27
    rintro g a28 w29 ⟨i, s, d, all, hi31, hi32, hi33, hi34, hi35, h30⟩
    have hi := hi31
    have hg := hi32
    have hwf := hi33
    have hon := hi34
    have hnw := hi35
    refine wp_seq_k fun K36 hK36 => ?_
    refine nd_start (l := [0]) rfl ?_
    refine nd_batch tabOk tabZ_ok [(0, {})] [3, 16, 17, 18, 19] (T' := [(3, .pointer (some ⟨bs, 0, none⟩)), (16, .slice o ops.length c), (17, .int .i64 ((ops.length : Nat) : Int)), (18, .int .i64 ((i : Nat) : Int)), (19, .bool (decide (((i : Nat) : Int) < ((ops.length : Nat) : Int))))]) (φ := True) (rest := []) h30 (by kernel_rfl) rfl trivial fun a37 h38 => ?_
    clear h30
    refine nd_done ?_
    refine hK36 _ _ ?_
    clear hK36
    refine wp_seq_k fun K39 hK39 => ?_
    refine c_split h38 (b := decide (((i : Nat) : Int) < ((ops.length : Nat) : Int))) rfl (fun hc40 => ?_) (fun hc40 => ?_)
    ·
      have hc40f : ((i : Nat) : Int) < ((ops.length : Nat) : Int) := by simpa using hc40
      obtain ⟨x, hx⟩ := Sx.get_some (xs := ops) (i := i) (by omega)
      have hxok := hok x (List.mem_of_getElem? hx)
      obtain ⟨sb41, k042, ho43, hb44, hc45⟩ := hscr.get hx
      subst ho43
      refine wp_skip ?_
      refine hK39 _ _ ?_
      clear hK39
      refine wp_seq_k fun K46 hK46 => ?_
      refine wp_block ?_
      refine wp_seq_k fun K47 hK47 => ?_
      refine nd_start (l := [0, 1, 2, 3]) rfl ?_
      refine nd_batch tabOk tabZ_ok [(0, {})] [3, 16, 17, 18, 20] (T' := [(3, .pointer (some ⟨bs, 0, none⟩)), (16, .slice (some ⟨sb41, k042, none⟩) ops.length c), (17, .int .i64 ((ops.length : Nat) : Int)), (18, .int .i64 ((i : Nat) : Int)), (20, .pointer (some ⟨sb41, k042 + (i * 6), none⟩))]) (φ := (0 ≤ ((i : Nat) : Int) ∧ ((i : Nat) : Int) < ((ops.length : Nat) : Int)) ∧ True) (rest := [1, 2, 3]) h38 (by kernel_rfl) rfl ⟨⟨by omega, by omega⟩, trivial⟩ fun a48 h49 => ?_
      clear h38
      refine nd_op ?_
      refine op_loadx tabOk (b := sb41) (k := k042 + (i * 6)) (vs := opC x) h49 rfl rfl rfl rfl rfl rfl rfl (CellsAt.fr (hc45 _ _ hx) h49.frame hb44) ?_
      have h50 := h49.put (d := some 21) (v := .agg #[.int .u8 x.kind, .int .i64 x.n, .int .i64 x.m, .int .u8 x.ev.kind, .int .u32 x.ev.pick, .int .u64 x.ev.arg]) (T' := [(21, .agg #[.int .u8 x.kind, .int .i64 x.n, .int .i64 x.m, .int .u8 x.ev.kind, .int .u32 x.ev.pick, .int .u64 x.ev.arg]), (3, .pointer (some ⟨bs, 0, none⟩)), (16, .slice (some ⟨sb41, k042, none⟩) ops.length c), (17, .int .i64 ((ops.length : Nat) : Int)), (18, .int .i64 ((i : Nat) : Int)), (20, .pointer (some ⟨sb41, k042 + (i * 6), none⟩))]) rfl
      clear h49
      refine nd_op ?_
      refine op_new tabOk (cells := [.int .u8 0, .int .i64 0, .int .i64 0, .int .u8 0, .int .u32 0, .int .u64 0]) (ty := 35) (ln := none) (L1 := fun b51 => [(b51, ⟨[.int .u8 0, .int .i64 0, .int .i64 0, .int .u8 0, .int .u32 0, .int .u64 0], 35, false⟩)]) h50 rfl rfl rfl rfl (by kernel_rfl) (fun _ => rfl) fun b51 w52 a53 h54 hf55 hn56 => ?_
      clear h50
      refine nd_op ?_
      refine op_store tabOk {k := 0} (L' := [(b51, ⟨[.int .u8 x.kind, .int .i64 x.n, .int .i64 x.m, .int .u8 x.ev.kind, .int .u32 x.ev.pick, .int .u64 x.ev.arg], 35, false⟩)]) (φ := b51 = b51 ∧ Nat.ble (0 + 6) 6 = true) h54 rfl rfl rfl (by kernel_rfl) ⟨rfl, rfl⟩ fun w57 h58 => ?_
      clear h54
      refine nd_done ?_
      refine hK47 _ _ ?_
      clear hK47
      refine wp_seq_k fun K59 hK59 => ?_
      refine nd_start (l := [0, 1, 2, 3, 4]) rfl ?_
      refine nd_batch tabOk tabZ_ok [(0, {}), (1, {k := 0})] [5, 3, 16, 17, 18, 22, 23] (T' := [(5, .pointer (some ⟨b51, 0, none⟩)), (3, .pointer (some ⟨bs, 0, none⟩)), (16, .slice (some ⟨sb41, k042, none⟩) ops.length c), (17, .int .i64 ((ops.length : Nat) : Int)), (18, .int .i64 ((i : Nat) : Int)), (22, .pointer (some ⟨bs, 0, none⟩)), (23, .agg #[.int .u8 x.kind, .int .i64 x.n, .int .i64 x.m, .int .u8 x.ev.kind, .int .u32 x.ev.pick, .int .u64 x.ev.arg])]) (φ := (b51 = b51 ∧ Nat.ble (0 + 6) 6 = true) ∧ True) (rest := [2, 3, 4]) h58 (by kernel_rfl) rfl ⟨⟨rfl, rfl⟩, trivial⟩ fun a60 h61 => ?_
      clear h58
      refine nd_op ?_
      refine op_call h61 rfl rfl rfl (callOk Try.func12 (by decide) rfl) (args := [.pointer (some ⟨bs, 0, none⟩), .agg #[.int .u8 x.kind, .int .i64 x.n, .int .i64 x.m, .int .u8 x.ev.kind, .int .u32 x.ev.pick, .int .u64 x.ev.arg]]) rfl (do_ok bs bl d s _ h61.inv (B := (i : Int)) (by omega) hwf x hxok) ?_
      rintro _ w62 ⟨d67, rfl, hs64, hf65, hF66⟩
      refine ⟨_, rfl, ?_⟩
      have h63q := h61.callSub hf65 (fun b hb => .inr (hnw b hb)) (A' := fun w => SessAt w bs bl d67 (doR s x).2) (F' := bs :: bl :: d67.F) (L' := [(b51, ⟨[.int .u8 x.kind, .int .i64 x.n, .int .i64 x.m, .int .u8 x.ev.kind, .int .u32 x.ev.pick, .int .u64 x.ev.arg], 35, false⟩)]) (List.Sublist.refl _) (kcons (h61.dj (k := 0) rfl rfl) knil) hs64 SessAt.stable hs64.low (fun b hb => by rcases List.mem_cons.1 hb with rfl | hb; exact .inl (by simp); rcases List.mem_cons.1 hb with rfl | hb; exact .inl (by simp); rcases hF66 b hb with hq | hq; exact .inl (List.mem_cons_of_mem _ (List.mem_cons_of_mem _ hq)); exact .inr (.inr hq))
      have h63 := h63q.put (d := some 24) (v := .agg #[.int .u8 ((doR s x).1.code), .int .i64 ((doR s x).1.pos), .int .i64 ((doR s x).1.base), .int .i64 ((doR s x).1.fin), .bool ((doR s x).1.live), .bool ((doR s x).1.out.refused), .int .i8 ((doR s x).1.out.running), .int .u64 ((doR s x).1.out.value), .int .u64 ((doR s x).1.dig), .int .i64 ((doR s x).1.from_), .int .i64 ((doR s x).1.replayed), .int .i64 ((doR s x).1.at_)]) (T' := [(24, .agg #[.int .u8 ((doR s x).1.code), .int .i64 ((doR s x).1.pos), .int .i64 ((doR s x).1.base), .int .i64 ((doR s x).1.fin), .bool ((doR s x).1.live), .bool ((doR s x).1.out.refused), .int .i8 ((doR s x).1.out.running), .int .u64 ((doR s x).1.out.value), .int .u64 ((doR s x).1.dig), .int .i64 ((doR s x).1.from_), .int .i64 ((doR s x).1.replayed), .int .i64 ((doR s x).1.at_)]), (5, .pointer (some ⟨b51, 0, none⟩)), (3, .pointer (some ⟨bs, 0, none⟩)), (16, .slice (some ⟨sb41, k042, none⟩) ops.length c), (17, .int .i64 ((ops.length : Nat) : Int)), (18, .int .i64 ((i : Nat) : Int)), (22, .pointer (some ⟨bs, 0, none⟩)), (23, .agg #[.int .u8 x.kind, .int .i64 x.n, .int .i64 x.m, .int .u8 x.ev.kind, .int .u32 x.ev.pick, .int .u64 x.ev.arg])]) rfl
      have hszh63 := h61.frame.size
      clear h61 h63q
      have hnew68 : ∀ x ∈ bs :: bl :: d67.F, w.heap.size ≤ x := by intro x hx; rcases List.mem_cons.1 hx with rfl | hx; exact hnw _ (by simp); rcases List.mem_cons.1 hx with rfl | hx; exact hnw _ (by simp); rcases hF66 x hx with hq | hq; exact hnw _ (by simp [hq]); exact Nat.le_trans hszh63 hq
      have hwf1 : (doR s x).2.wf ((i + 1 : Nat) : Int) := by have hq := do_wf hwf x hxok.2; rw [show ((i + 1 : Nat) : Int) = (i : Int) + 1 by omega]; exact hq
      obtain ⟨all1, hon1⟩ := do_hon hwf hon x
      refine nd_op ?_
      refine op_new tabOk (cells := [.int .u8 0, .int .i64 0, .int .i64 0, .int .i64 0, .bool false, .bool false, .int .i8 0, .int .u64 0, .int .u64 0, .int .i64 0, .int .i64 0, .int .i64 0]) (ty := 41) (ln := none) (L1 := fun b69 => [(b51, ⟨[.int .u8 x.kind, .int .i64 x.n, .int .i64 x.m, .int .u8 x.ev.kind, .int .u32 x.ev.pick, .int .u64 x.ev.arg], 35, false⟩), (b69, ⟨[.int .u8 0, .int .i64 0, .int .i64 0, .int .i64 0, .bool false, .bool false, .int .i8 0, .int .u64 0, .int .u64 0, .int .i64 0, .int .i64 0, .int .i64 0], 41, false⟩)]) h63 rfl rfl rfl rfl (by kernel_rfl) (fun _ => rfl) fun b69 w70 a71 h72 hf73 hn74 => ?_
      clear h63
      refine nd_op ?_
      refine op_store tabOk {k := 1} (L' := [(b51, ⟨[.int .u8 x.kind, .int .i64 x.n, .int .i64 x.m, .int .u8 x.ev.kind, .int .u32 x.ev.pick, .int .u64 x.ev.arg], 35, false⟩), (b69, ⟨[.int .u8 ((doR s x).1.code), .int .i64 ((doR s x).1.pos), .int .i64 ((doR s x).1.base), .int .i64 ((doR s x).1.fin), .bool ((doR s x).1.live), .bool ((doR s x).1.out.refused), .int .i8 ((doR s x).1.out.running), .int .u64 ((doR s x).1.out.value), .int .u64 ((doR s x).1.dig), .int .i64 ((doR s x).1.from_), .int .i64 ((doR s x).1.replayed), .int .i64 ((doR s x).1.at_)], 41, false⟩)]) (φ := b69 = b69 ∧ Nat.ble (0 + 12) 12 = true) h72 rfl rfl rfl (by kernel_rfl) ⟨rfl, rfl⟩ fun w75 h76 => ?_
      clear h72
      refine nd_done ?_
      refine hK59 _ _ ?_
      clear hK59
      refine wp_seq_k fun K77 hK77 => ?_
      refine wp_seq_k fun K78 hK78 => ?_
      rcases Bool.eq_false_or_eq_true (((doR s x).1.code != 0)) with hb79 | hb79
      ·
        have hb79f : (doR s x).1.code ≠ 0 := by simpa using hb79
        refine nd_start (l := [0, 1, 2, 3, 4, 5, 6, 7, 8, 9, 10, 11, 12]) rfl ?_
        refine nd_batch tabOk tabZ_ok [(0, {}), (1, {k := 1}), (2, {f := 2}), (3, {}), (4, {}), (5, {}), (6, {}), (7, {}), (8, {}), (9, {}), (10, {}), (11, {}), (12, {})] [6, 5, 3, 16, 17, 18, 37] (T' := [(6, .pointer (some ⟨b69, 0, none⟩)), (5, .pointer (some ⟨b51, 0, none⟩)), (3, .pointer (some ⟨bs, 0, none⟩)), (16, .slice (some ⟨sb41, k042, none⟩) ops.length c), (17, .int .i64 ((ops.length : Nat) : Int)), (18, .int .i64 ((i : Nat) : Int)), (37, .bool true)]) (φ := (b69 = b69 ∧ Nat.ble (0 + 1) 12 = true) ∧ (((doR s x).1.code != 0)) = true ∧ True) (rest := []) h76 (by kernel_rfl) rfl ⟨⟨rfl, rfl⟩, hb79, trivial⟩ fun a80 h81 => ?_
        clear h76
        refine nd_done ?_
        refine hK78 _ _ ?_
        clear hK78
        refine c_true h81 rfl ?_
        refine wp_exit ?_
        refine hK46 _ _ ?_
        clear hK46
        refine nd_start (l := [0, 1]) rfl ?_
        refine nd_batch tabOk tabZ_ok [(0, {}), (1, {})] [6, 5, 3, 16, 17, 18] (T' := [(6, .pointer (some ⟨b69, 0, none⟩)), (5, .pointer (some ⟨b51, 0, none⟩)), (3, .pointer (some ⟨bs, 0, none⟩)), (16, .slice (some ⟨sb41, k042, none⟩) ops.length c), (17, .int .i64 ((ops.length : Nat) : Int)), (18, .int .i64 (((i : Nat) : Int) + 1))]) (φ := inR .i64 (((i : Nat) : Int) + 1) ∧ True) (rest := []) h81 (by kernel_rfl) rfl ⟨⟨by omega, by omega⟩, trivial⟩ fun a82 h83 => ?_
        clear h81
        refine nd_done ?_
        have h84 := h83.memMono (L' := []) (List.Sublist.cons _ (List.Sublist.cons _ List.Sublist.slnil))
        clear h83
        exact ⟨(g - 1), by omega, (i + 1), (doR s x).2, d67, all1, by omega, by omega, hwf1, hon1, hnew68, (h84.slotsMono (restr_spec (keep := [3, 16, 17, 18]) rfl))⟩
      ·
        have hb79f : (doR s x).1.code = 0 := by simpa using hb79
        rcases Bool.eq_false_or_eq_true ((x.kind != 1)) with hb85 | hb85
        ·
          have hb85f : x.kind ≠ 1 := by simpa using hb85
          have hk1 : x.kind ≠ 1 := hb85f
          refine nd_start (l := [0, 1, 2, 3, 4, 5, 6, 7, 8, 9, 10, 11, 12]) rfl ?_
          refine nd_batch tabOk tabZ_ok [(0, {}), (1, {k := 1}), (2, {f := 1}), (3, {}), (4, {}), (5, {k := 0}), (6, {f := 2}), (7, {}), (8, {}), (9, {k := 0}), (10, {}), (11, {}), (12, {})] [6, 5, 3, 16, 17, 18, 37] (T' := [(6, .pointer (some ⟨b69, 0, none⟩)), (5, .pointer (some ⟨b51, 0, none⟩)), (3, .pointer (some ⟨bs, 0, none⟩)), (16, .slice (some ⟨sb41, k042, none⟩) ops.length c), (17, .int .i64 ((ops.length : Nat) : Int)), (18, .int .i64 ((i : Nat) : Int)), (37, .bool (x.kind != 2))]) (φ := (b69 = b69 ∧ Nat.ble (0 + 1) 12 = true) ∧ (((doR s x).1.code != 0)) = false ∧ (b51 = b51 ∧ Nat.ble (0 + 1) 6 = true) ∧ ((x.kind != 1)) = true ∧ (b51 = b51 ∧ Nat.ble (0 + 1) 6 = true) ∧ True) (rest := []) h76 (by kernel_rfl) rfl ⟨⟨rfl, rfl⟩, hb79, ⟨rfl, rfl⟩, hb85, ⟨rfl, rfl⟩, trivial⟩ fun a86 h87 => ?_
          clear h76
          refine nd_done ?_
          refine hK78 _ _ ?_
          clear hK78
          refine c_split h87 (b := (x.kind != 2)) rfl (fun hc88 => ?_) (fun hc88 => ?_)
          ·
            have hc88f : x.kind ≠ 2 := by simpa using hc88
            refine wp_exit ?_
            refine hK46 _ _ ?_
            clear hK46
            refine nd_start (l := [0, 1]) rfl ?_
            refine nd_batch tabOk tabZ_ok [(0, {}), (1, {})] [6, 5, 3, 16, 17, 18] (T' := [(6, .pointer (some ⟨b69, 0, none⟩)), (5, .pointer (some ⟨b51, 0, none⟩)), (3, .pointer (some ⟨bs, 0, none⟩)), (16, .slice (some ⟨sb41, k042, none⟩) ops.length c), (17, .int .i64 ((ops.length : Nat) : Int)), (18, .int .i64 (((i : Nat) : Int) + 1))]) (φ := inR .i64 (((i : Nat) : Int) + 1) ∧ True) (rest := []) h87 (by kernel_rfl) rfl ⟨⟨by omega, by omega⟩, trivial⟩ fun a89 h90 => ?_
            clear h87
            refine nd_done ?_
            have h91 := h90.memMono (L' := []) (List.Sublist.cons _ (List.Sublist.cons _ List.Sublist.slnil))
            clear h90
            exact ⟨(g - 1), by omega, (i + 1), (doR s x).2, d67, all1, by omega, by omega, hwf1, hon1, hnew68, (h91.slotsMono (restr_spec (keep := [3, 16, 17, 18]) rfl))⟩
          ·
            have hc88f : x.kind = 2 := by simpa using hc88
            have hkind : x.kind = 1 ∨ x.kind = 2 := .inr hc88f
            refine wp_skip ?_
            refine hK77 _ _ ?_
            clear hK77
            refine wp_seq_k fun K92 hK92 => ?_
            refine dr_start (KB := [b51, b69]) (Bi := [[0, 1], [0, 1], [0, 1], [0, 1], [0, 1], [0, 1]]) mixed h87 fun w93 h94 => ?_
            clear h87
            refine dr_batch tabOk tabZ_ok (by repeat (first | exact PF.body | with_reducible apply PF.inB | with_reducible apply PF.next)) [(0, {}), (1, {k := 1, p := 1}), (2, {}), (3, {k := 1, p := 1}), (4, {}), (5, {})] [6, 5, 3, 16, 17, 18, 7, 8] (T' := [(6, .pointer (some ⟨b69, 0, none⟩)), (5, .pointer (some ⟨b51, 0, none⟩)), (3, .pointer (some ⟨bs, 0, none⟩)), (16, .slice (some ⟨sb41, k042, none⟩) ops.length c), (17, .int .i64 ((ops.length : Nat) : Int)), (18, .int .i64 ((i : Nat) : Int)), (7, .int .i64 ((doR s x).1.pos)), (8, .int .i64 ((doR s x).1.base))]) (φ := (b69 = b69 ∧ Nat.ble (1 + 1) 12 = true) ∧ (b69 = b69 ∧ Nat.ble (2 + 1) 12 = true) ∧ True) (fuel := 0) h94 (by kernel_rfl) rfl (by kernel_rfl) (by kernel_rfl) ⟨trivial, rfl, trivial, rfl, trivial, trivial, trivial⟩ ⟨⟨rfl, rfl⟩, ⟨rfl, rfl⟩, trivial⟩ fun a96 h97 => ?_
            clear h94
            refine wpAnyK_done (by kernel_rfl) ?_ _
            refine hK92 _ _ ?_
            clear hK92
            refine wp_seq_k fun K98 hK98 => ?_
            refine wp_seq_k fun K99 hK99 => ?_
            refine nd_start (l := [0, 1, 2, 3, 4]) rfl ?_
            refine nd_batch tabOk tabZ_ok [(0, {})] [6, 5, 3, 16, 17, 18, 7, 8, 42] (T' := [(6, .pointer (some ⟨b69, 0, none⟩)), (5, .pointer (some ⟨b51, 0, none⟩)), (3, .pointer (some ⟨bs, 0, none⟩)), (16, .slice (some ⟨sb41, k042, none⟩) ops.length c), (17, .int .i64 ((ops.length : Nat) : Int)), (18, .int .i64 ((i : Nat) : Int)), (7, .int .i64 ((doR s x).1.pos)), (8, .int .i64 ((doR s x).1.base)), (42, .pointer (some ⟨bs, 0, none⟩))]) (φ := True) (rest := [1, 2, 3, 4]) h97 (by kernel_rfl) rfl trivial fun a100 h101 => ?_
            clear h97
            refine nd_op ?_
            have hcode : (doR s x).1.code = 0 := hb79f
            obtain ⟨n, hn1, hn2, hnop, hlg, hpos, hbase, hdig, hout, hfrom, hrep, hona⟩ := seek_acc hwf hon hcode hkind
            have hB0 := hwf.lg.b0
            have hBf := hwf.lg.fin
            have hsl := hwf.lg.slen
            have hpl := ptsOf_len s.lg.base.idx s.lg.sns
            have hng := near_ge hwf.lg n
            have hnl := near_le s.lg hn1
            refine op_call h101 rfl rfl rfl (callOk Try.func17 (by decide) rfl) (args := [.pointer (some ⟨bs, 0, none⟩)]) rfl (slog_ok bs _ _ _ _ _ false _ h101.inv.blk) ?_
            rintro _ w102 ⟨rfl, hf104⟩
            refine ⟨_, rfl, ?_⟩
            have h103 := (h101.grow hf104).put (d := some 43) (v := .pointer (some ⟨bl, 0, none⟩)) (T' := [(43, .pointer (some ⟨bl, 0, none⟩)), (6, .pointer (some ⟨b69, 0, none⟩)), (5, .pointer (some ⟨b51, 0, none⟩)), (3, .pointer (some ⟨bs, 0, none⟩)), (16, .slice (some ⟨sb41, k042, none⟩) ops.length c), (17, .int .i64 ((ops.length : Nat) : Int)), (18, .int .i64 ((i : Nat) : Int)), (7, .int .i64 ((doR s x).1.pos)), (8, .int .i64 ((doR s x).1.base)), (42, .pointer (some ⟨bs, 0, none⟩))]) rfl
            clear h101
            refine nd_op ?_
            refine op_call h103 rfl rfl rfl (callOk Try.func19 (by decide) rfl) (args := [.pointer (some ⟨bl, 0, none⟩)]) rfl (points_ok bl d67 s.lg _ (by have hq := h103.inv.log; rw [hlg] at hq; exact hq) (by have := hwf.lg.slen; omega)) ?_
            rintro _ w105 ⟨po, pc, pF, rfl, hrow, hpf, hpfr⟩
            refine ⟨_, rfl, ?_⟩
            obtain ⟨bp, pcs, ho2, hbp, _, hF2, _, _⟩ := rl_open hrow i64C_len (i := 0) (x := s.lg.base.idx) rfl
            subst ho2 hF2
            have hrd : ∀ j y, (ptsOf s.lg.base.idx s.lg.sns)[j]? = some y → cellsAre pcs (j * 1) (i64C y) := fun j y hy => rl_at hrow hbp i64C_len hy
            have h106q : St _ _ [(b51, ⟨[.int .u8 x.kind, .int .i64 x.n, .int .i64 x.m, .int .u8 x.ev.kind, .int .u32 x.ev.pick, .int .u64 x.ev.arg], 35, false⟩), (b69, ⟨[.int .u8 ((doR s x).1.code), .int .i64 ((doR s x).1.pos), .int .i64 ((doR s x).1.base), .int .i64 ((doR s x).1.fin), .bool ((doR s x).1.live), .bool ((doR s x).1.out.refused), .int .i8 ((doR s x).1.out.running), .int .u64 ((doR s x).1.out.value), .int .u64 ((doR s x).1.dig), .int .i64 ((doR s x).1.from_), .int .i64 ((doR s x).1.replayed), .int .i64 ((doR s x).1.at_)], 41, false⟩), (bp, ⟨pcs, 3, false⟩)] _ _ := h103.fresh hpf (hpfr bp (by simp)) hbp
            have h106 := h106q.put (d := some 44) (v := .slice (some ⟨bp, 0, none⟩) ((ptsOf s.lg.base.idx s.lg.sns).length) pc) (T' := [(44, .slice (some ⟨bp, 0, none⟩) ((ptsOf s.lg.base.idx s.lg.sns).length) pc), (43, .pointer (some ⟨bl, 0, none⟩)), (6, .pointer (some ⟨b69, 0, none⟩)), (5, .pointer (some ⟨b51, 0, none⟩)), (3, .pointer (some ⟨bs, 0, none⟩)), (16, .slice (some ⟨sb41, k042, none⟩) ops.length c), (17, .int .i64 ((ops.length : Nat) : Int)), (18, .int .i64 ((i : Nat) : Int)), (7, .int .i64 ((doR s x).1.pos)), (8, .int .i64 ((doR s x).1.base)), (42, .pointer (some ⟨bs, 0, none⟩))]) rfl
            clear h103 h106q
            rw [hpos, hbase, hdig, hout, hfrom, hrep] at h106
            refine nd_batch tabOk tabZ_ok [(3, {}), (4, {})] [44, 6, 5, 3, 16, 17, 18, 7, 8, 45, 46] (T' := [(44, .slice (some ⟨bp, 0, none⟩) ((ptsOf s.lg.base.idx s.lg.sns).length) pc), (6, .pointer (some ⟨b69, 0, none⟩)), (5, .pointer (some ⟨b51, 0, none⟩)), (3, .pointer (some ⟨bs, 0, none⟩)), (16, .slice (some ⟨sb41, k042, none⟩) ops.length c), (17, .int .i64 ((ops.length : Nat) : Int)), (18, .int .i64 ((i : Nat) : Int)), (7, .int .i64 n), (8, .int .i64 s.lg.base.idx), (45, .int .i64 (((ptsOf s.lg.base.idx s.lg.sns).length : Nat) : Int)), (46, .int .i64 0)]) (φ := True) (rest := []) h106 (by kernel_rfl) rfl trivial fun a107 h108 => ?_
            clear h106
            refine nd_done ?_
            refine hK99 _ _ ?_
            clear hK99
            refine wp_block ?_
            skip
            refine wp_loop_ghost (fun gg ga gw => ∃ (k : Nat) (d2 : Hd), (k ≤ (ptsOf s.lg.base.idx s.lg.sns).length) ∧ (gg = (ptsOf s.lg.base.idx s.lg.sns).length - k) ∧ (∀ x ∈ bs :: bl :: d2.F, w.heap.size ≤ x) ∧ St ⟨111, [], w, fun w => SessAt w bs bl d2 (doR s x).2, bs :: bl :: d2.F⟩ [(3, .pointer (some ⟨bs, 0, none⟩)), (5, .pointer (some ⟨b51, 0, none⟩)), (6, .pointer (some ⟨b69, 0, none⟩)), (7, .int .i64 n), (16, .slice (some ⟨sb41, k042, none⟩) ops.length c), (17, .int .i64 ((ops.length : Nat) : Int)), (18, .int .i64 ((i : Nat) : Int)), (44, .slice (some ⟨bp, 0, none⟩) ((ptsOf s.lg.base.idx s.lg.sns).length) pc), (45, .int .i64 (((ptsOf s.lg.base.idx s.lg.sns).length : Nat) : Int)), (8, .int .i64 (lat n s.lg.base.idx ((ptsOf s.lg.base.idx s.lg.sns).take k))), (46, .int .i64 ((k : Nat) : Int))] [(b51, ⟨[.int .u8 x.kind, .int .i64 x.n, .int .i64 x.m, .int .u8 x.ev.kind, .int .u32 x.ev.pick, .int .u64 x.ev.arg], 35, false⟩), (b69, ⟨[.int .u8 ((doR s x).1.code), .int .i64 n, .int .i64 s.lg.base.idx, .int .i64 ((doR s x).1.fin), .bool ((doR s x).1.live), .bool ((stAt all n).2.refused), .int .i8 ((stAt all n).2.running), .int .u64 ((stAt all n).2.value), .int .u64 (dig (stAt all n).1), .int .i64 ((s.lg.near n).idx), .int .i64 (n - (s.lg.near n).idx), .int .i64 ((doR s x).1.at_)], 41, false⟩), (bp, ⟨pcs, 3, false⟩)] ga gw) (ptsOf s.lg.base.idx s.lg.sns).length ⟨0, d67, Nat.zero_le _, rfl, hnew68, (h108.slotsMono (restr_spec (keep := [3, 5, 6, 7, 16, 17, 18, 44, 45, 8, 46]) rfl))⟩ ?_
            clear h108
            rintro gg a109 w110 ⟨k, d2, hi112, hi113, hi114, h111⟩
            have hk := hi112
            have hg2 := hi113
            have hnw2 := hi114
            refine wp_seq_k fun K115 hK115 => ?_
            refine nd_start (l := [0]) rfl ?_
            refine nd_batch tabOk tabZ_ok [(0, {})] [3, 5, 6, 7, 16, 17, 18, 44, 45, 8, 46, 47] (T' := [(3, .pointer (some ⟨bs, 0, none⟩)), (5, .pointer (some ⟨b51, 0, none⟩)), (6, .pointer (some ⟨b69, 0, none⟩)), (7, .int .i64 n), (16, .slice (some ⟨sb41, k042, none⟩) ops.length c), (17, .int .i64 ((ops.length : Nat) : Int)), (18, .int .i64 ((i : Nat) : Int)), (44, .slice (some ⟨bp, 0, none⟩) ((ptsOf s.lg.base.idx s.lg.sns).length) pc), (45, .int .i64 (((ptsOf s.lg.base.idx s.lg.sns).length : Nat) : Int)), (8, .int .i64 (lat n s.lg.base.idx ((ptsOf s.lg.base.idx s.lg.sns).take k))), (46, .int .i64 ((k : Nat) : Int)), (47, .bool (decide (((k : Nat) : Int) < (((ptsOf s.lg.base.idx s.lg.sns).length : Nat) : Int))))]) (φ := True) (rest := []) h111 (by kernel_rfl) rfl trivial fun a116 h117 => ?_
            clear h111
            refine nd_done ?_
            refine hK115 _ _ ?_
            clear hK115
            refine wp_seq_k fun K118 hK118 => ?_
            refine c_split h117 (b := decide (((k : Nat) : Int) < (((ptsOf s.lg.base.idx s.lg.sns).length : Nat) : Int))) rfl (fun hc119 => ?_) (fun hc119 => ?_)
            ·
              have hc119f : ((k : Nat) : Int) < (((ptsOf s.lg.base.idx s.lg.sns).length : Nat) : Int) := by simpa using hc119
              obtain ⟨p, hp⟩ := Sx.get_some (xs := (ptsOf s.lg.base.idx s.lg.sns)) (i := k) (by omega)
              have hpm := List.mem_of_getElem? hp
              obtain ⟨_, _, _, _, hpb, hpfn⟩ := point_hon hwf.lg hon.lg hpm
              refine wp_skip ?_
              refine hK118 _ _ ?_
              clear hK118
              refine wp_seq_k fun K120 hK120 => ?_
              refine wp_block ?_
              refine wp_seq_k fun K121 hK121 => ?_
              refine nd_start (l := [0, 1, 2]) rfl ?_
              refine nd_batch tabOk tabZ_ok [(0, {}), (1, {k := 2, m := 1, vs := [.int .i64 p]}), (2, {})] [3, 5, 6, 7, 16, 17, 18, 44, 45, 8, 46, 10] (T' := [(3, .pointer (some ⟨bs, 0, none⟩)), (5, .pointer (some ⟨b51, 0, none⟩)), (6, .pointer (some ⟨b69, 0, none⟩)), (7, .int .i64 n), (16, .slice (some ⟨sb41, k042, none⟩) ops.length c), (17, .int .i64 ((ops.length : Nat) : Int)), (18, .int .i64 ((i : Nat) : Int)), (44, .slice (some ⟨bp, 0, none⟩) ((ptsOf s.lg.base.idx s.lg.sns).length) pc), (45, .int .i64 (((ptsOf s.lg.base.idx s.lg.sns).length : Nat) : Int)), (8, .int .i64 (lat n s.lg.base.idx ((ptsOf s.lg.base.idx s.lg.sns).take k))), (46, .int .i64 ((k : Nat) : Int)), (10, .int .i64 p)]) (φ := (0 ≤ ((k : Nat) : Int) ∧ ((k : Nat) : Int) < (((ptsOf s.lg.base.idx s.lg.sns).length : Nat) : Int)) ∧ (bp = bp ∧ cellsAre pcs (0 + (k * 1)) [.int .i64 p]) ∧ True) (rest := []) h117 (by kernel_rfl) rfl ⟨⟨by omega, by omega⟩, ⟨rfl, (by rw [Nat.zero_add]; exact hrd _ _ hp)⟩, trivial⟩ fun a122 h123 => ?_
              clear h117
              refine nd_done ?_
              refine hK121 _ _ ?_
              clear hK121
              refine wp_seq_k fun K124 hK124 => ?_
              refine wp_seq_k fun K125 hK125 => ?_
              refine nd_start (l := [0, 1, 2]) rfl ?_
              refine nd_batch tabOk tabZ_ok [(0, {}), (1, {}), (2, {})] [3, 5, 6, 7, 16, 17, 18, 44, 45, 8, 46, 10, 52] (T' := [(3, .pointer (some ⟨bs, 0, none⟩)), (5, .pointer (some ⟨b51, 0, none⟩)), (6, .pointer (some ⟨b69, 0, none⟩)), (7, .int .i64 n), (16, .slice (some ⟨sb41, k042, none⟩) ops.length c), (17, .int .i64 ((ops.length : Nat) : Int)), (18, .int .i64 ((i : Nat) : Int)), (44, .slice (some ⟨bp, 0, none⟩) ((ptsOf s.lg.base.idx s.lg.sns).length) pc), (45, .int .i64 (((ptsOf s.lg.base.idx s.lg.sns).length : Nat) : Int)), (8, .int .i64 (lat n s.lg.base.idx ((ptsOf s.lg.base.idx s.lg.sns).take k))), (46, .int .i64 ((k : Nat) : Int)), (10, .int .i64 p), (52, .bool (decide (p > n)))]) (φ := True) (rest := []) h123 (by kernel_rfl) rfl trivial fun a126 h127 => ?_
              clear h123
              refine nd_done ?_
              refine hK125 _ _ ?_
              clear hK125
              refine c_split h127 (b := decide (p > n)) rfl (fun hc128 => ?_) (fun hc128 => ?_)
              ·
                have hc128f : p > n := by simpa using hc128
                have hfar : p > n := hc128f
                refine wp_exit ?_
                refine hK120 _ _ ?_
                clear hK120
                refine nd_start (l := [0, 1]) rfl ?_
                refine nd_batch tabOk tabZ_ok [(0, {}), (1, {})] [3, 5, 6, 7, 16, 17, 18, 44, 45, 8, 10, 46] (T' := [(3, .pointer (some ⟨bs, 0, none⟩)), (5, .pointer (some ⟨b51, 0, none⟩)), (6, .pointer (some ⟨b69, 0, none⟩)), (7, .int .i64 n), (16, .slice (some ⟨sb41, k042, none⟩) ops.length c), (17, .int .i64 ((ops.length : Nat) : Int)), (18, .int .i64 ((i : Nat) : Int)), (44, .slice (some ⟨bp, 0, none⟩) ((ptsOf s.lg.base.idx s.lg.sns).length) pc), (45, .int .i64 (((ptsOf s.lg.base.idx s.lg.sns).length : Nat) : Int)), (8, .int .i64 (lat n s.lg.base.idx ((ptsOf s.lg.base.idx s.lg.sns).take k))), (10, .int .i64 p), (46, .int .i64 (((k : Nat) : Int) + 1))]) (φ := inR .i64 (((k : Nat) : Int) + 1) ∧ True) (rest := []) h127 (by kernel_rfl) rfl ⟨⟨by omega, by omega⟩, trivial⟩ fun a129 h130 => ?_
                clear h127
                refine nd_done ?_
                have e1 : lat n s.lg.base.idx ((ptsOf s.lg.base.idx s.lg.sns).take k) = lat n s.lg.base.idx ((ptsOf s.lg.base.idx s.lg.sns).take (k + 1)) := by rw [Sx.take_snoc hp, lat_snoc, if_pos hfar]
                rw [e1] at h130
                exact ⟨(gg - 1), by omega, (k + 1), d2, by omega, by omega, hnw2, (h130.slotsMono (restr_spec (keep := [3, 5, 6, 7, 16, 17, 18, 44, 45, 8, 46]) rfl))⟩
              ·
                have hc128f : ¬ p > n := by simpa using hc128
                have hfar : ¬ p > n := hc128f
                have hpn : p ≤ n := by omega
                refine wp_skip ?_
                refine hK124 _ _ ?_
                clear hK124
                refine wp_seq_k fun K131 hK131 => ?_
                refine nd_start (l := [0, 1, 2, 3]) rfl ?_
                refine nd_batch tabOk tabZ_ok [(0, {}), (1, {}), (2, {}), (3, {})] [3, 5, 6, 7, 16, 17, 18, 44, 45, 46, 10, 8] (T' := [(3, .pointer (some ⟨bs, 0, none⟩)), (5, .pointer (some ⟨b51, 0, none⟩)), (6, .pointer (some ⟨b69, 0, none⟩)), (7, .int .i64 n), (16, .slice (some ⟨sb41, k042, none⟩) ops.length c), (17, .int .i64 ((ops.length : Nat) : Int)), (18, .int .i64 ((i : Nat) : Int)), (44, .slice (some ⟨bp, 0, none⟩) ((ptsOf s.lg.base.idx s.lg.sns).length) pc), (45, .int .i64 (((ptsOf s.lg.base.idx s.lg.sns).length : Nat) : Int)), (46, .int .i64 ((k : Nat) : Int)), (10, .int .i64 p), (8, .int .i64 (if p > (lat n s.lg.base.idx ((ptsOf s.lg.base.idx s.lg.sns).take k)) then p else (lat n s.lg.base.idx ((ptsOf s.lg.base.idx s.lg.sns).take k))))]) (φ := True) (rest := []) h127 (by kernel_rfl) rfl trivial fun a132 h133 => ?_
                clear h127
                refine nd_done ?_
                refine hK131 _ _ ?_
                clear hK131
                refine wp_seq_k fun K134 hK134 => ?_
                refine nd_start (l := [0, 1, 2, 3, 4, 5, 6]) rfl ?_
                refine nd_batch tabOk tabZ_ok [(0, {}), (1, {}), (2, {}), (3, {})] [3, 5, 6, 7, 16, 17, 18, 44, 45, 46, 10, 8, 56, 59] (T' := [(3, .pointer (some ⟨bs, 0, none⟩)), (5, .pointer (some ⟨b51, 0, none⟩)), (6, .pointer (some ⟨b69, 0, none⟩)), (7, .int .i64 n), (16, .slice (some ⟨sb41, k042, none⟩) ops.length c), (17, .int .i64 ((ops.length : Nat) : Int)), (18, .int .i64 ((i : Nat) : Int)), (44, .slice (some ⟨bp, 0, none⟩) ((ptsOf s.lg.base.idx s.lg.sns).length) pc), (45, .int .i64 (((ptsOf s.lg.base.idx s.lg.sns).length : Nat) : Int)), (46, .int .i64 ((k : Nat) : Int)), (10, .int .i64 p), (8, .int .i64 (if p > (lat n s.lg.base.idx ((ptsOf s.lg.base.idx s.lg.sns).take k)) then p else (lat n s.lg.base.idx ((ptsOf s.lg.base.idx s.lg.sns).take k)))), (56, .pointer (some ⟨bs, 0, none⟩)), (59, .agg #[.int .u8 7, .int .i64 p, .int .i64 n, .int .u8 0, .int .u32 0, .int .u64 0])]) (φ := True) (rest := [4, 5, 6]) h133 (by kernel_rfl) rfl trivial fun a135 h136 => ?_
                clear h133
                refine nd_op ?_
                refine op_call h136 rfl rfl rfl (callOk Try.func12 (by decide) rfl) (args := [.pointer (some ⟨bs, 0, none⟩), .agg #[.int .u8 7, .int .i64 p, .int .i64 n, .int .u8 0, .int .u32 0, .int .u64 0]]) rfl ((by have hq := do_ok bs bl d2 (doR s x).2 _ h136.inv (B := ((i + 1 : Nat) : Int)) (by omega) hwf1 ⟨7, p, n, ⟨0, 0, 0⟩⟩ op7_ok; rw [do_replay, pts_replay hwf1 hona.lg (by rw [hlg]; exact hpm) hpn (by rw [hlg]; exact hn2)] at hq; exact hq)) ?_
                rintro _ w137 ⟨d142, rfl, hs139, hf140, hF141⟩
                refine ⟨_, rfl, ?_⟩
                have h138q := h136.callSub hf140 (fun b hb => .inr (hnw2 b hb)) (A' := fun w => SessAt w bs bl d142 (doR s x).2) (F' := bs :: bl :: d142.F) (L' := [(b51, ⟨[.int .u8 x.kind, .int .i64 x.n, .int .i64 x.m, .int .u8 x.ev.kind, .int .u32 x.ev.pick, .int .u64 x.ev.arg], 35, false⟩), (b69, ⟨[.int .u8 ((doR s x).1.code), .int .i64 n, .int .i64 s.lg.base.idx, .int .i64 ((doR s x).1.fin), .bool ((doR s x).1.live), .bool ((stAt all n).2.refused), .int .i8 ((stAt all n).2.running), .int .u64 ((stAt all n).2.value), .int .u64 (dig (stAt all n).1), .int .i64 ((s.lg.near n).idx), .int .i64 (n - (s.lg.near n).idx), .int .i64 ((doR s x).1.at_)], 41, false⟩), (bp, ⟨pcs, 3, false⟩)]) (List.Sublist.refl _) (kcons (h136.dj (k := 0) rfl rfl) (kcons (h136.dj (k := 1) rfl rfl) (kcons (h136.dj (k := 2) rfl rfl) knil))) hs139 SessAt.stable hs139.low (fun b hb => by rcases List.mem_cons.1 hb with rfl | hb; exact .inl (by simp); rcases List.mem_cons.1 hb with rfl | hb; exact .inl (by simp); rcases hF141 b hb with hq | hq; exact .inl (List.mem_cons_of_mem _ (List.mem_cons_of_mem _ hq)); exact .inr (.inr hq))
                have h138 := h138q.put (d := some 60) (v := .agg #[.int .u8 0, .int .i64 ((doR s x).2.pos), .int .i64 ((doR s x).2.lg.base.idx), .int .i64 ((doR s x).2.lg.fin), .bool ((doR s x).2.live), .bool ((stAt all n).2.refused), .int .i8 ((stAt all n).2.running), .int .u64 ((stAt all n).2.value), .int .u64 (dig (stAt all n).1), .int .i64 p, .int .i64 (n - p), .int .i64 (-1)]) (T' := [(60, .agg #[.int .u8 0, .int .i64 ((doR s x).2.pos), .int .i64 ((doR s x).2.lg.base.idx), .int .i64 ((doR s x).2.lg.fin), .bool ((doR s x).2.live), .bool ((stAt all n).2.refused), .int .i8 ((stAt all n).2.running), .int .u64 ((stAt all n).2.value), .int .u64 (dig (stAt all n).1), .int .i64 p, .int .i64 (n - p), .int .i64 (-1)]), (3, .pointer (some ⟨bs, 0, none⟩)), (5, .pointer (some ⟨b51, 0, none⟩)), (6, .pointer (some ⟨b69, 0, none⟩)), (7, .int .i64 n), (16, .slice (some ⟨sb41, k042, none⟩) ops.length c), (17, .int .i64 ((ops.length : Nat) : Int)), (18, .int .i64 ((i : Nat) : Int)), (44, .slice (some ⟨bp, 0, none⟩) ((ptsOf s.lg.base.idx s.lg.sns).length) pc), (45, .int .i64 (((ptsOf s.lg.base.idx s.lg.sns).length : Nat) : Int)), (46, .int .i64 ((k : Nat) : Int)), (10, .int .i64 p), (8, .int .i64 (if p > (lat n s.lg.base.idx ((ptsOf s.lg.base.idx s.lg.sns).take k)) then p else (lat n s.lg.base.idx ((ptsOf s.lg.base.idx s.lg.sns).take k)))), (56, .pointer (some ⟨bs, 0, none⟩)), (59, .agg #[.int .u8 7, .int .i64 p, .int .i64 n, .int .u8 0, .int .u32 0, .int .u64 0])]) rfl
                have hszh138 := h136.frame.size
                clear h136 h138q
                have hnew143 : ∀ x ∈ bs :: bl :: d142.F, w.heap.size ≤ x := by intro x hx; rcases List.mem_cons.1 hx with rfl | hx; exact hnw2 _ (by simp); rcases List.mem_cons.1 hx with rfl | hx; exact hnw2 _ (by simp); rcases hF141 x hx with hq | hq; exact hnw2 _ (by simp [hq]); exact Nat.le_trans hszh138 hq
                refine nd_op ?_
                refine op_new tabOk (cells := [.int .u8 0, .int .i64 0, .int .i64 0, .int .i64 0, .bool false, .bool false, .int .i8 0, .int .u64 0, .int .u64 0, .int .i64 0, .int .i64 0, .int .i64 0]) (ty := 41) (ln := none) (L1 := fun b144 => [(b51, ⟨[.int .u8 x.kind, .int .i64 x.n, .int .i64 x.m, .int .u8 x.ev.kind, .int .u32 x.ev.pick, .int .u64 x.ev.arg], 35, false⟩), (b69, ⟨[.int .u8 ((doR s x).1.code), .int .i64 n, .int .i64 s.lg.base.idx, .int .i64 ((doR s x).1.fin), .bool ((doR s x).1.live), .bool ((stAt all n).2.refused), .int .i8 ((stAt all n).2.running), .int .u64 ((stAt all n).2.value), .int .u64 (dig (stAt all n).1), .int .i64 ((s.lg.near n).idx), .int .i64 (n - (s.lg.near n).idx), .int .i64 ((doR s x).1.at_)], 41, false⟩), (bp, ⟨pcs, 3, false⟩), (b144, ⟨[.int .u8 0, .int .i64 0, .int .i64 0, .int .i64 0, .bool false, .bool false, .int .i8 0, .int .u64 0, .int .u64 0, .int .i64 0, .int .i64 0, .int .i64 0], 41, false⟩)]) h138 rfl rfl rfl rfl (by kernel_rfl) (fun _ => rfl) fun b144 w145 a146 h147 hf148 hn149 => ?_
                clear h138
                refine nd_op ?_
                refine op_store tabOk {k := 3} (L' := [(b51, ⟨[.int .u8 x.kind, .int .i64 x.n, .int .i64 x.m, .int .u8 x.ev.kind, .int .u32 x.ev.pick, .int .u64 x.ev.arg], 35, false⟩), (b69, ⟨[.int .u8 ((doR s x).1.code), .int .i64 n, .int .i64 s.lg.base.idx, .int .i64 ((doR s x).1.fin), .bool ((doR s x).1.live), .bool ((stAt all n).2.refused), .int .i8 ((stAt all n).2.running), .int .u64 ((stAt all n).2.value), .int .u64 (dig (stAt all n).1), .int .i64 ((s.lg.near n).idx), .int .i64 (n - (s.lg.near n).idx), .int .i64 ((doR s x).1.at_)], 41, false⟩), (bp, ⟨pcs, 3, false⟩), (b144, ⟨[.int .u8 0, .int .i64 ((doR s x).2.pos), .int .i64 ((doR s x).2.lg.base.idx), .int .i64 ((doR s x).2.lg.fin), .bool ((doR s x).2.live), .bool ((stAt all n).2.refused), .int .i8 ((stAt all n).2.running), .int .u64 ((stAt all n).2.value), .int .u64 (dig (stAt all n).1), .int .i64 p, .int .i64 (n - p), .int .i64 (-1)], 41, false⟩)]) (φ := b144 = b144 ∧ Nat.ble (0 + 12) 12 = true) h147 rfl rfl rfl (by kernel_rfl) ⟨rfl, rfl⟩ fun w150 h151 => ?_
                clear h147
                refine nd_done ?_
                refine hK134 _ _ ?_
                clear hK134
                refine wp_seq_k fun K152 hK152 => ?_
                refine nd_start (l := [0, 1, 2, 3, 4, 5, 6, 7, 8, 9, 10, 11, 12, 13, 14, 15, 16, 17, 18, 19, 20, 21, 22, 23, 24]) rfl ?_
                refine nd_batch tabOk tabZ_ok [(0, {}), (1, {k := 3}), (2, {}), (3, {}), (4, {}), (5, {k := 3}), (6, {}), (7, {k := 1}), (8, {f := 1}), (9, {}), (10, {}), (11, {}), (12, {k := 3}), (13, {}), (14, {k := 1}), (15, {f := 1}), (16, {}), (17, {}), (18, {}), (19, {k := 3}), (20, {}), (21, {}), (22, {}), (23, {f := 1}), (24, {})] [11, 3, 5, 6, 7, 16, 17, 18, 44, 45, 46, 10, 8, 85] (T' := [(11, .pointer (some ⟨b144, 0, none⟩)), (3, .pointer (some ⟨bs, 0, none⟩)), (5, .pointer (some ⟨b51, 0, none⟩)), (6, .pointer (some ⟨b69, 0, none⟩)), (7, .int .i64 n), (16, .slice (some ⟨sb41, k042, none⟩) ops.length c), (17, .int .i64 ((ops.length : Nat) : Int)), (18, .int .i64 ((i : Nat) : Int)), (44, .slice (some ⟨bp, 0, none⟩) ((ptsOf s.lg.base.idx s.lg.sns).length) pc), (45, .int .i64 (((ptsOf s.lg.base.idx s.lg.sns).length : Nat) : Int)), (46, .int .i64 ((k : Nat) : Int)), (10, .int .i64 p), (8, .int .i64 (if p > (lat n s.lg.base.idx ((ptsOf s.lg.base.idx s.lg.sns).take k)) then p else (lat n s.lg.base.idx ((ptsOf s.lg.base.idx s.lg.sns).take k)))), (85, .bool false)]) (φ := (b144 = b144 ∧ Nat.ble (0 + 1) 12 = true) ∧ (b144 = b144 ∧ Nat.ble (8 + 1) 12 = true) ∧ (b69 = b69 ∧ Nat.ble (8 + 1) 12 = true) ∧ (((dig (stAt all n).1) != (dig (stAt all n).1))) = false ∧ (b144 = b144 ∧ Nat.ble (5 + 3) 12 = true) ∧ (b69 = b69 ∧ Nat.ble (5 + 3) 12 = true) ∧ EqRun Try.prog 39 (.agg #[.bool ((stAt all n).2.refused), .int .i8 ((stAt all n).2.running), .int .u64 ((stAt all n).2.value)]) (.agg #[.bool ((stAt all n).2.refused), .int .i8 ((stAt all n).2.running), .int .u64 ((stAt all n).2.value)]) true ∧ (b144 = b144 ∧ Nat.ble (10 + 1) 12 = true) ∧ inR .i64 (n - p) ∧ (((n - p) != (n - p))) = false ∧ True) (rest := []) h151 (by kernel_rfl) rfl ⟨⟨rfl, rfl⟩, ⟨rfl, rfl⟩, ⟨rfl, rfl⟩, (by simp), ⟨rfl, rfl⟩, ⟨rfl, rfl⟩, (by have hq := run39 (stAt all n).2 (stAt all n).2; rw [show otEq (stAt all n).2 (stAt all n).2 = true from otEq_iff.2 rfl] at hq; exact hq), ⟨rfl, rfl⟩, ⟨by omega, by omega⟩, (by simp), trivial⟩ fun a153 h154 => ?_
                clear h151
                refine nd_done ?_
                refine hK152 _ _ ?_
                clear hK152
                refine c_false h154 rfl ?_
                refine wp_skip ?_
                refine hK120 _ _ ?_
                clear hK120
                refine nd_start (l := [0, 1]) rfl ?_
                refine nd_batch tabOk tabZ_ok [(0, {}), (1, {})] [11, 3, 5, 6, 7, 16, 17, 18, 44, 45, 10, 8, 46] (T' := [(11, .pointer (some ⟨b144, 0, none⟩)), (3, .pointer (some ⟨bs, 0, none⟩)), (5, .pointer (some ⟨b51, 0, none⟩)), (6, .pointer (some ⟨b69, 0, none⟩)), (7, .int .i64 n), (16, .slice (some ⟨sb41, k042, none⟩) ops.length c), (17, .int .i64 ((ops.length : Nat) : Int)), (18, .int .i64 ((i : Nat) : Int)), (44, .slice (some ⟨bp, 0, none⟩) ((ptsOf s.lg.base.idx s.lg.sns).length) pc), (45, .int .i64 (((ptsOf s.lg.base.idx s.lg.sns).length : Nat) : Int)), (10, .int .i64 p), (8, .int .i64 (if p > (lat n s.lg.base.idx ((ptsOf s.lg.base.idx s.lg.sns).take k)) then p else (lat n s.lg.base.idx ((ptsOf s.lg.base.idx s.lg.sns).take k)))), (46, .int .i64 (((k : Nat) : Int) + 1))]) (φ := inR .i64 (((k : Nat) : Int) + 1) ∧ True) (rest := []) h154 (by kernel_rfl) rfl ⟨⟨by omega, by omega⟩, trivial⟩ fun a155 h156 => ?_
                clear h154
                refine nd_done ?_
                have h157 := h156.memMono (L' := [(b51, ⟨[.int .u8 x.kind, .int .i64 x.n, .int .i64 x.m, .int .u8 x.ev.kind, .int .u32 x.ev.pick, .int .u64 x.ev.arg], 35, false⟩), (b69, ⟨[.int .u8 ((doR s x).1.code), .int .i64 n, .int .i64 s.lg.base.idx, .int .i64 ((doR s x).1.fin), .bool ((doR s x).1.live), .bool ((stAt all n).2.refused), .int .i8 ((stAt all n).2.running), .int .u64 ((stAt all n).2.value), .int .u64 (dig (stAt all n).1), .int .i64 ((s.lg.near n).idx), .int .i64 (n - (s.lg.near n).idx), .int .i64 ((doR s x).1.at_)], 41, false⟩), (bp, ⟨pcs, 3, false⟩)]) (List.Sublist.cons_cons _ (List.Sublist.cons_cons _ (List.Sublist.cons_cons _ (List.Sublist.cons _ List.Sublist.slnil))))
                clear h156
                have e1 : (if p > (lat n s.lg.base.idx ((ptsOf s.lg.base.idx s.lg.sns).take k)) then p else (lat n s.lg.base.idx ((ptsOf s.lg.base.idx s.lg.sns).take k))) = lat n s.lg.base.idx ((ptsOf s.lg.base.idx s.lg.sns).take (k + 1)) := by rw [Sx.take_snoc hp, lat_snoc, if_neg hfar]
                rw [e1] at h157
                exact ⟨(gg - 1), by omega, (k + 1), d142, by omega, by omega, hnew143, (h157.slotsMono (restr_spec (keep := [3, 5, 6, 7, 16, 17, 18, 44, 45, 8, 46]) rfl))⟩
            ·
              have hc119f : ¬ ((k : Nat) : Int) < (((ptsOf s.lg.base.idx s.lg.sns).length : Nat) : Int) := by simpa using hc119
              have hkk : k = (ptsOf s.lg.base.idx s.lg.sns).length := by omega
              have hlat : lat n s.lg.base.idx ((ptsOf s.lg.base.idx s.lg.sns).take k) = (s.lg.near n).idx := by rw [hkk, List.take_length]; exact lat_near hwf.lg hn1
              rw [hlat] at h117
              have h158 := h117.slotsMono (T' := [(3, .pointer (some ⟨bs, 0, none⟩)), (5, .pointer (some ⟨b51, 0, none⟩)), (6, .pointer (some ⟨b69, 0, none⟩)), (7, .int .i64 n), (16, .slice (some ⟨sb41, k042, none⟩) ops.length c), (17, .int .i64 ((ops.length : Nat) : Int)), (18, .int .i64 ((i : Nat) : Int)), (44, .slice (some ⟨bp, 0, none⟩) ((ptsOf s.lg.base.idx s.lg.sns).length) pc), (45, .int .i64 (((ptsOf s.lg.base.idx s.lg.sns).length : Nat) : Int)), (8, .int .i64 ((s.lg.near n).idx))]) (restr_spec (keep := [3, 5, 6, 7, 16, 17, 18, 44, 45, 8]) rfl)
              clear h117
              refine wp_exit ?_
              refine hK98 _ _ ?_
              clear hK98
              refine wp_seq_k fun K159 hK159 => ?_
              rcases Bool.eq_false_or_eq_true ((x.kind == 1)) with hb160 | hb160
              ·
                have hb160f : x.kind = 1 := by simpa using hb160
                exact absurd hb160f hk1
              ·
                have hb160f : x.kind ≠ 1 := by simpa using hb160
                refine nd_start (l := [0, 1, 2, 3, 4, 5, 6, 7, 8, 9, 10, 11, 12, 13, 14, 15, 16, 17, 18, 19, 20, 21, 22]) rfl ?_
                refine nd_batch tabOk tabZ_ok [(0, {}), (1, {k := 1}), (2, {}), (3, {f := 1}), (4, {}), (5, {}), (6, {k := 1}), (7, {}), (8, {}), (9, {}), (10, {f := 1}), (11, {}), (12, {}), (13, {}), (14, {k := 0}), (15, {f := 1}), (16, {}), (17, {}), (18, {}), (19, {}), (20, {}), (21, {}), (22, {})] [3, 5, 6, 7, 16, 17, 18, 44, 45, 8, 109] (T' := [(3, .pointer (some ⟨bs, 0, none⟩)), (5, .pointer (some ⟨b51, 0, none⟩)), (6, .pointer (some ⟨b69, 0, none⟩)), (7, .int .i64 n), (16, .slice (some ⟨sb41, k042, none⟩) ops.length c), (17, .int .i64 ((ops.length : Nat) : Int)), (18, .int .i64 ((i : Nat) : Int)), (44, .slice (some ⟨bp, 0, none⟩) ((ptsOf s.lg.base.idx s.lg.sns).length) pc), (45, .int .i64 (((ptsOf s.lg.base.idx s.lg.sns).length : Nat) : Int)), (8, .int .i64 ((s.lg.near n).idx)), (109, .bool false)]) (φ := (b69 = b69 ∧ Nat.ble (9 + 1) 12 = true) ∧ (((s.lg.near n).idx != (s.lg.near n).idx)) = false ∧ (b69 = b69 ∧ Nat.ble (10 + 1) 12 = true) ∧ inR .i64 (n - ((s.lg.near n).idx)) ∧ (((n - (s.lg.near n).idx) != (n - ((s.lg.near n).idx)))) = false ∧ (b51 = b51 ∧ Nat.ble (0 + 1) 6 = true) ∧ ((x.kind == 1)) = false ∧ True) (rest := []) h158 (by kernel_rfl) rfl ⟨⟨rfl, rfl⟩, (by simp), ⟨rfl, rfl⟩, ⟨by omega, by omega⟩, (by simp), ⟨rfl, rfl⟩, hb160, trivial⟩ fun a161 h162 => ?_
                clear h158
                refine nd_done ?_
                refine hK159 _ _ ?_
                clear hK159
                refine c_false h162 rfl ?_
                refine wp_skip ?_
                refine hK46 _ _ ?_
                clear hK46
                refine nd_start (l := [0, 1]) rfl ?_
                refine nd_batch tabOk tabZ_ok [(0, {}), (1, {})] [3, 5, 6, 7, 16, 17, 44, 45, 8, 18] (T' := [(3, .pointer (some ⟨bs, 0, none⟩)), (5, .pointer (some ⟨b51, 0, none⟩)), (6, .pointer (some ⟨b69, 0, none⟩)), (7, .int .i64 n), (16, .slice (some ⟨sb41, k042, none⟩) ops.length c), (17, .int .i64 ((ops.length : Nat) : Int)), (44, .slice (some ⟨bp, 0, none⟩) ((ptsOf s.lg.base.idx s.lg.sns).length) pc), (45, .int .i64 (((ptsOf s.lg.base.idx s.lg.sns).length : Nat) : Int)), (8, .int .i64 ((s.lg.near n).idx)), (18, .int .i64 (((i : Nat) : Int) + 1))]) (φ := inR .i64 (((i : Nat) : Int) + 1) ∧ True) (rest := []) h162 (by kernel_rfl) rfl ⟨⟨by omega, by omega⟩, trivial⟩ fun a163 h164 => ?_
                clear h162
                refine nd_done ?_
                have h165 := h164.memMono (L' := []) (List.Sublist.cons _ (List.Sublist.cons _ (List.Sublist.cons _ List.Sublist.slnil)))
                clear h164
                exact ⟨(g - 1), by omega, (i + 1), (doR s x).2, d2, all1, by omega, by omega, hwf1, hon1, hnw2, (h165.slotsMono (restr_spec (keep := [3, 16, 17, 18]) rfl))⟩
        ·
          have hb85f : x.kind = 1 := by simpa using hb85
          have hkind : x.kind = 1 ∨ x.kind = 2 := .inl hb85f
          have hk1 : x.kind = 1 := hb85f
          refine nd_start (l := [0, 1, 2, 3, 4, 5, 6, 7, 8, 9, 10, 11, 12]) rfl ?_
          refine nd_batch tabOk tabZ_ok [(0, {}), (1, {k := 1}), (2, {f := 1}), (3, {}), (4, {}), (5, {k := 0}), (6, {f := 1}), (7, {}), (8, {}), (9, {}), (10, {}), (11, {}), (12, {})] [6, 5, 3, 16, 17, 18, 37] (T' := [(6, .pointer (some ⟨b69, 0, none⟩)), (5, .pointer (some ⟨b51, 0, none⟩)), (3, .pointer (some ⟨bs, 0, none⟩)), (16, .slice (some ⟨sb41, k042, none⟩) ops.length c), (17, .int .i64 ((ops.length : Nat) : Int)), (18, .int .i64 ((i : Nat) : Int)), (37, .bool false)]) (φ := (b69 = b69 ∧ Nat.ble (0 + 1) 12 = true) ∧ (((doR s x).1.code != 0)) = false ∧ (b51 = b51 ∧ Nat.ble (0 + 1) 6 = true) ∧ ((x.kind != 1)) = false ∧ True) (rest := []) h76 (by kernel_rfl) rfl ⟨⟨rfl, rfl⟩, hb79, ⟨rfl, rfl⟩, hb85, trivial⟩ fun a166 h167 => ?_
          clear h76
          refine nd_done ?_
          refine hK78 _ _ ?_
          clear hK78
          refine c_false h167 rfl ?_
          refine wp_skip ?_
          refine hK77 _ _ ?_
          clear hK77
          refine wp_seq_k fun K168 hK168 => ?_
          refine dr_start (KB := [b51, b69]) (Bi := [[0, 1], [0, 1], [0, 1], [0, 1], [0, 1], [0, 1]]) mixed h167 fun w169 h170 => ?_
          clear h167
          refine dr_batch tabOk tabZ_ok (by repeat (first | exact PF.body | with_reducible apply PF.inB | with_reducible apply PF.next)) [(0, {}), (1, {k := 1, p := 1}), (2, {}), (3, {k := 1, p := 1}), (4, {}), (5, {})] [6, 5, 3, 16, 17, 18, 7, 8] (T' := [(6, .pointer (some ⟨b69, 0, none⟩)), (5, .pointer (some ⟨b51, 0, none⟩)), (3, .pointer (some ⟨bs, 0, none⟩)), (16, .slice (some ⟨sb41, k042, none⟩) ops.length c), (17, .int .i64 ((ops.length : Nat) : Int)), (18, .int .i64 ((i : Nat) : Int)), (7, .int .i64 ((doR s x).1.pos)), (8, .int .i64 ((doR s x).1.base))]) (φ := (b69 = b69 ∧ Nat.ble (1 + 1) 12 = true) ∧ (b69 = b69 ∧ Nat.ble (2 + 1) 12 = true) ∧ True) (fuel := 0) h170 (by kernel_rfl) rfl (by kernel_rfl) (by kernel_rfl) ⟨trivial, rfl, trivial, rfl, trivial, trivial, trivial⟩ ⟨⟨rfl, rfl⟩, ⟨rfl, rfl⟩, trivial⟩ fun a172 h173 => ?_
          clear h170
          refine wpAnyK_done (by kernel_rfl) ?_ _
          refine hK168 _ _ ?_
          clear hK168
          refine wp_seq_k fun K174 hK174 => ?_
          refine wp_seq_k fun K175 hK175 => ?_
          refine nd_start (l := [0, 1, 2, 3, 4]) rfl ?_
          refine nd_batch tabOk tabZ_ok [(0, {})] [6, 5, 3, 16, 17, 18, 7, 8, 42] (T' := [(6, .pointer (some ⟨b69, 0, none⟩)), (5, .pointer (some ⟨b51, 0, none⟩)), (3, .pointer (some ⟨bs, 0, none⟩)), (16, .slice (some ⟨sb41, k042, none⟩) ops.length c), (17, .int .i64 ((ops.length : Nat) : Int)), (18, .int .i64 ((i : Nat) : Int)), (7, .int .i64 ((doR s x).1.pos)), (8, .int .i64 ((doR s x).1.base)), (42, .pointer (some ⟨bs, 0, none⟩))]) (φ := True) (rest := [1, 2, 3, 4]) h173 (by kernel_rfl) rfl trivial fun a176 h177 => ?_
          clear h173
          refine nd_op ?_
          have hcode : (doR s x).1.code = 0 := hb79f
          obtain ⟨n, hn1, hn2, hnop, hlg, hpos, hbase, hdig, hout, hfrom, hrep, hona⟩ := seek_acc hwf hon hcode hkind
          have hB0 := hwf.lg.b0
          have hBf := hwf.lg.fin
          have hsl := hwf.lg.slen
          have hpl := ptsOf_len s.lg.base.idx s.lg.sns
          have hng := near_ge hwf.lg n
          have hnl := near_le s.lg hn1
          refine op_call h177 rfl rfl rfl (callOk Try.func17 (by decide) rfl) (args := [.pointer (some ⟨bs, 0, none⟩)]) rfl (slog_ok bs _ _ _ _ _ false _ h177.inv.blk) ?_
          rintro _ w178 ⟨rfl, hf180⟩
          refine ⟨_, rfl, ?_⟩
          have h179 := (h177.grow hf180).put (d := some 43) (v := .pointer (some ⟨bl, 0, none⟩)) (T' := [(43, .pointer (some ⟨bl, 0, none⟩)), (6, .pointer (some ⟨b69, 0, none⟩)), (5, .pointer (some ⟨b51, 0, none⟩)), (3, .pointer (some ⟨bs, 0, none⟩)), (16, .slice (some ⟨sb41, k042, none⟩) ops.length c), (17, .int .i64 ((ops.length : Nat) : Int)), (18, .int .i64 ((i : Nat) : Int)), (7, .int .i64 ((doR s x).1.pos)), (8, .int .i64 ((doR s x).1.base)), (42, .pointer (some ⟨bs, 0, none⟩))]) rfl
          clear h177
          refine nd_op ?_
          refine op_call h179 rfl rfl rfl (callOk Try.func19 (by decide) rfl) (args := [.pointer (some ⟨bl, 0, none⟩)]) rfl (points_ok bl d67 s.lg _ (by have hq := h179.inv.log; rw [hlg] at hq; exact hq) (by have := hwf.lg.slen; omega)) ?_
          rintro _ w181 ⟨po, pc, pF, rfl, hrow, hpf, hpfr⟩
          refine ⟨_, rfl, ?_⟩
          obtain ⟨bp, pcs, ho2, hbp, _, hF2, _, _⟩ := rl_open hrow i64C_len (i := 0) (x := s.lg.base.idx) rfl
          subst ho2 hF2
          have hrd : ∀ j y, (ptsOf s.lg.base.idx s.lg.sns)[j]? = some y → cellsAre pcs (j * 1) (i64C y) := fun j y hy => rl_at hrow hbp i64C_len hy
          have h182q : St _ _ [(b51, ⟨[.int .u8 x.kind, .int .i64 x.n, .int .i64 x.m, .int .u8 x.ev.kind, .int .u32 x.ev.pick, .int .u64 x.ev.arg], 35, false⟩), (b69, ⟨[.int .u8 ((doR s x).1.code), .int .i64 ((doR s x).1.pos), .int .i64 ((doR s x).1.base), .int .i64 ((doR s x).1.fin), .bool ((doR s x).1.live), .bool ((doR s x).1.out.refused), .int .i8 ((doR s x).1.out.running), .int .u64 ((doR s x).1.out.value), .int .u64 ((doR s x).1.dig), .int .i64 ((doR s x).1.from_), .int .i64 ((doR s x).1.replayed), .int .i64 ((doR s x).1.at_)], 41, false⟩), (bp, ⟨pcs, 3, false⟩)] _ _ := h179.fresh hpf (hpfr bp (by simp)) hbp
          have h182 := h182q.put (d := some 44) (v := .slice (some ⟨bp, 0, none⟩) ((ptsOf s.lg.base.idx s.lg.sns).length) pc) (T' := [(44, .slice (some ⟨bp, 0, none⟩) ((ptsOf s.lg.base.idx s.lg.sns).length) pc), (43, .pointer (some ⟨bl, 0, none⟩)), (6, .pointer (some ⟨b69, 0, none⟩)), (5, .pointer (some ⟨b51, 0, none⟩)), (3, .pointer (some ⟨bs, 0, none⟩)), (16, .slice (some ⟨sb41, k042, none⟩) ops.length c), (17, .int .i64 ((ops.length : Nat) : Int)), (18, .int .i64 ((i : Nat) : Int)), (7, .int .i64 ((doR s x).1.pos)), (8, .int .i64 ((doR s x).1.base)), (42, .pointer (some ⟨bs, 0, none⟩))]) rfl
          clear h179 h182q
          rw [hpos, hbase, hdig, hout, hfrom, hrep] at h182
          refine nd_batch tabOk tabZ_ok [(3, {}), (4, {})] [44, 6, 5, 3, 16, 17, 18, 7, 8, 45, 46] (T' := [(44, .slice (some ⟨bp, 0, none⟩) ((ptsOf s.lg.base.idx s.lg.sns).length) pc), (6, .pointer (some ⟨b69, 0, none⟩)), (5, .pointer (some ⟨b51, 0, none⟩)), (3, .pointer (some ⟨bs, 0, none⟩)), (16, .slice (some ⟨sb41, k042, none⟩) ops.length c), (17, .int .i64 ((ops.length : Nat) : Int)), (18, .int .i64 ((i : Nat) : Int)), (7, .int .i64 n), (8, .int .i64 s.lg.base.idx), (45, .int .i64 (((ptsOf s.lg.base.idx s.lg.sns).length : Nat) : Int)), (46, .int .i64 0)]) (φ := True) (rest := []) h182 (by kernel_rfl) rfl trivial fun a183 h184 => ?_
          clear h182
          refine nd_done ?_
          refine hK175 _ _ ?_
          clear hK175
          refine wp_block ?_
          skip
          refine wp_loop_ghost (fun gg ga gw => ∃ (k : Nat) (d2 : Hd), (k ≤ (ptsOf s.lg.base.idx s.lg.sns).length) ∧ (gg = (ptsOf s.lg.base.idx s.lg.sns).length - k) ∧ (∀ x ∈ bs :: bl :: d2.F, w.heap.size ≤ x) ∧ St ⟨111, [], w, fun w => SessAt w bs bl d2 (doR s x).2, bs :: bl :: d2.F⟩ [(3, .pointer (some ⟨bs, 0, none⟩)), (5, .pointer (some ⟨b51, 0, none⟩)), (6, .pointer (some ⟨b69, 0, none⟩)), (7, .int .i64 n), (16, .slice (some ⟨sb41, k042, none⟩) ops.length c), (17, .int .i64 ((ops.length : Nat) : Int)), (18, .int .i64 ((i : Nat) : Int)), (44, .slice (some ⟨bp, 0, none⟩) ((ptsOf s.lg.base.idx s.lg.sns).length) pc), (45, .int .i64 (((ptsOf s.lg.base.idx s.lg.sns).length : Nat) : Int)), (8, .int .i64 (lat n s.lg.base.idx ((ptsOf s.lg.base.idx s.lg.sns).take k))), (46, .int .i64 ((k : Nat) : Int))] [(b51, ⟨[.int .u8 x.kind, .int .i64 x.n, .int .i64 x.m, .int .u8 x.ev.kind, .int .u32 x.ev.pick, .int .u64 x.ev.arg], 35, false⟩), (b69, ⟨[.int .u8 ((doR s x).1.code), .int .i64 n, .int .i64 s.lg.base.idx, .int .i64 ((doR s x).1.fin), .bool ((doR s x).1.live), .bool ((stAt all n).2.refused), .int .i8 ((stAt all n).2.running), .int .u64 ((stAt all n).2.value), .int .u64 (dig (stAt all n).1), .int .i64 ((s.lg.near n).idx), .int .i64 (n - (s.lg.near n).idx), .int .i64 ((doR s x).1.at_)], 41, false⟩), (bp, ⟨pcs, 3, false⟩)] ga gw) (ptsOf s.lg.base.idx s.lg.sns).length ⟨0, d67, Nat.zero_le _, rfl, hnew68, (h184.slotsMono (restr_spec (keep := [3, 5, 6, 7, 16, 17, 18, 44, 45, 8, 46]) rfl))⟩ ?_
          clear h184
          rintro gg a185 w186 ⟨k, d2, hi188, hi189, hi190, h187⟩
          have hk := hi188
          have hg2 := hi189
          have hnw2 := hi190
          refine wp_seq_k fun K191 hK191 => ?_
          refine nd_start (l := [0]) rfl ?_
          refine nd_batch tabOk tabZ_ok [(0, {})] [3, 5, 6, 7, 16, 17, 18, 44, 45, 8, 46, 47] (T' := [(3, .pointer (some ⟨bs, 0, none⟩)), (5, .pointer (some ⟨b51, 0, none⟩)), (6, .pointer (some ⟨b69, 0, none⟩)), (7, .int .i64 n), (16, .slice (some ⟨sb41, k042, none⟩) ops.length c), (17, .int .i64 ((ops.length : Nat) : Int)), (18, .int .i64 ((i : Nat) : Int)), (44, .slice (some ⟨bp, 0, none⟩) ((ptsOf s.lg.base.idx s.lg.sns).length) pc), (45, .int .i64 (((ptsOf s.lg.base.idx s.lg.sns).length : Nat) : Int)), (8, .int .i64 (lat n s.lg.base.idx ((ptsOf s.lg.base.idx s.lg.sns).take k))), (46, .int .i64 ((k : Nat) : Int)), (47, .bool (decide (((k : Nat) : Int) < (((ptsOf s.lg.base.idx s.lg.sns).length : Nat) : Int))))]) (φ := True) (rest := []) h187 (by kernel_rfl) rfl trivial fun a192 h193 => ?_
          clear h187
          refine nd_done ?_
          refine hK191 _ _ ?_
          clear hK191
          refine wp_seq_k fun K194 hK194 => ?_
          refine c_split h193 (b := decide (((k : Nat) : Int) < (((ptsOf s.lg.base.idx s.lg.sns).length : Nat) : Int))) rfl (fun hc195 => ?_) (fun hc195 => ?_)
          ·
            have hc195f : ((k : Nat) : Int) < (((ptsOf s.lg.base.idx s.lg.sns).length : Nat) : Int) := by simpa using hc195
            obtain ⟨p, hp⟩ := Sx.get_some (xs := (ptsOf s.lg.base.idx s.lg.sns)) (i := k) (by omega)
            have hpm := List.mem_of_getElem? hp
            obtain ⟨_, _, _, _, hpb, hpfn⟩ := point_hon hwf.lg hon.lg hpm
            refine wp_skip ?_
            refine hK194 _ _ ?_
            clear hK194
            refine wp_seq_k fun K196 hK196 => ?_
            refine wp_block ?_
            refine wp_seq_k fun K197 hK197 => ?_
            refine nd_start (l := [0, 1, 2]) rfl ?_
            refine nd_batch tabOk tabZ_ok [(0, {}), (1, {k := 2, m := 1, vs := [.int .i64 p]}), (2, {})] [3, 5, 6, 7, 16, 17, 18, 44, 45, 8, 46, 10] (T' := [(3, .pointer (some ⟨bs, 0, none⟩)), (5, .pointer (some ⟨b51, 0, none⟩)), (6, .pointer (some ⟨b69, 0, none⟩)), (7, .int .i64 n), (16, .slice (some ⟨sb41, k042, none⟩) ops.length c), (17, .int .i64 ((ops.length : Nat) : Int)), (18, .int .i64 ((i : Nat) : Int)), (44, .slice (some ⟨bp, 0, none⟩) ((ptsOf s.lg.base.idx s.lg.sns).length) pc), (45, .int .i64 (((ptsOf s.lg.base.idx s.lg.sns).length : Nat) : Int)), (8, .int .i64 (lat n s.lg.base.idx ((ptsOf s.lg.base.idx s.lg.sns).take k))), (46, .int .i64 ((k : Nat) : Int)), (10, .int .i64 p)]) (φ := (0 ≤ ((k : Nat) : Int) ∧ ((k : Nat) : Int) < (((ptsOf s.lg.base.idx s.lg.sns).length : Nat) : Int)) ∧ (bp = bp ∧ cellsAre pcs (0 + (k * 1)) [.int .i64 p]) ∧ True) (rest := []) h193 (by kernel_rfl) rfl ⟨⟨by omega, by omega⟩, ⟨rfl, (by rw [Nat.zero_add]; exact hrd _ _ hp)⟩, trivial⟩ fun a198 h199 => ?_
            clear h193
            refine nd_done ?_
            refine hK197 _ _ ?_
            clear hK197
            refine wp_seq_k fun K200 hK200 => ?_
            refine wp_seq_k fun K201 hK201 => ?_
            refine nd_start (l := [0, 1, 2]) rfl ?_
            refine nd_batch tabOk tabZ_ok [(0, {}), (1, {}), (2, {})] [3, 5, 6, 7, 16, 17, 18, 44, 45, 8, 46, 10, 52] (T' := [(3, .pointer (some ⟨bs, 0, none⟩)), (5, .pointer (some ⟨b51, 0, none⟩)), (6, .pointer (some ⟨b69, 0, none⟩)), (7, .int .i64 n), (16, .slice (some ⟨sb41, k042, none⟩) ops.length c), (17, .int .i64 ((ops.length : Nat) : Int)), (18, .int .i64 ((i : Nat) : Int)), (44, .slice (some ⟨bp, 0, none⟩) ((ptsOf s.lg.base.idx s.lg.sns).length) pc), (45, .int .i64 (((ptsOf s.lg.base.idx s.lg.sns).length : Nat) : Int)), (8, .int .i64 (lat n s.lg.base.idx ((ptsOf s.lg.base.idx s.lg.sns).take k))), (46, .int .i64 ((k : Nat) : Int)), (10, .int .i64 p), (52, .bool (decide (p > n)))]) (φ := True) (rest := []) h199 (by kernel_rfl) rfl trivial fun a202 h203 => ?_
            clear h199
            refine nd_done ?_
            refine hK201 _ _ ?_
            clear hK201
            refine c_split h203 (b := decide (p > n)) rfl (fun hc204 => ?_) (fun hc204 => ?_)
            ·
              have hc204f : p > n := by simpa using hc204
              have hfar : p > n := hc204f
              refine wp_exit ?_
              refine hK196 _ _ ?_
              clear hK196
              refine nd_start (l := [0, 1]) rfl ?_
              refine nd_batch tabOk tabZ_ok [(0, {}), (1, {})] [3, 5, 6, 7, 16, 17, 18, 44, 45, 8, 10, 46] (T' := [(3, .pointer (some ⟨bs, 0, none⟩)), (5, .pointer (some ⟨b51, 0, none⟩)), (6, .pointer (some ⟨b69, 0, none⟩)), (7, .int .i64 n), (16, .slice (some ⟨sb41, k042, none⟩) ops.length c), (17, .int .i64 ((ops.length : Nat) : Int)), (18, .int .i64 ((i : Nat) : Int)), (44, .slice (some ⟨bp, 0, none⟩) ((ptsOf s.lg.base.idx s.lg.sns).length) pc), (45, .int .i64 (((ptsOf s.lg.base.idx s.lg.sns).length : Nat) : Int)), (8, .int .i64 (lat n s.lg.base.idx ((ptsOf s.lg.base.idx s.lg.sns).take k))), (10, .int .i64 p), (46, .int .i64 (((k : Nat) : Int) + 1))]) (φ := inR .i64 (((k : Nat) : Int) + 1) ∧ True) (rest := []) h203 (by kernel_rfl) rfl ⟨⟨by omega, by omega⟩, trivial⟩ fun a205 h206 => ?_
              clear h203
              refine nd_done ?_
              have e1 : lat n s.lg.base.idx ((ptsOf s.lg.base.idx s.lg.sns).take k) = lat n s.lg.base.idx ((ptsOf s.lg.base.idx s.lg.sns).take (k + 1)) := by rw [Sx.take_snoc hp, lat_snoc, if_pos hfar]
              rw [e1] at h206
              exact ⟨(gg - 1), by omega, (k + 1), d2, by omega, by omega, hnw2, (h206.slotsMono (restr_spec (keep := [3, 5, 6, 7, 16, 17, 18, 44, 45, 8, 46]) rfl))⟩
            ·
              have hc204f : ¬ p > n := by simpa using hc204
              have hfar : ¬ p > n := hc204f
              have hpn : p ≤ n := by omega
              refine wp_skip ?_
              refine hK200 _ _ ?_
              clear hK200
              refine wp_seq_k fun K207 hK207 => ?_
              refine nd_start (l := [0, 1, 2, 3]) rfl ?_
              refine nd_batch tabOk tabZ_ok [(0, {}), (1, {}), (2, {}), (3, {})] [3, 5, 6, 7, 16, 17, 18, 44, 45, 46, 10, 8] (T' := [(3, .pointer (some ⟨bs, 0, none⟩)), (5, .pointer (some ⟨b51, 0, none⟩)), (6, .pointer (some ⟨b69, 0, none⟩)), (7, .int .i64 n), (16, .slice (some ⟨sb41, k042, none⟩) ops.length c), (17, .int .i64 ((ops.length : Nat) : Int)), (18, .int .i64 ((i : Nat) : Int)), (44, .slice (some ⟨bp, 0, none⟩) ((ptsOf s.lg.base.idx s.lg.sns).length) pc), (45, .int .i64 (((ptsOf s.lg.base.idx s.lg.sns).length : Nat) : Int)), (46, .int .i64 ((k : Nat) : Int)), (10, .int .i64 p), (8, .int .i64 (if p > (lat n s.lg.base.idx ((ptsOf s.lg.base.idx s.lg.sns).take k)) then p else (lat n s.lg.base.idx ((ptsOf s.lg.base.idx s.lg.sns).take k))))]) (φ := True) (rest := []) h203 (by kernel_rfl) rfl trivial fun a208 h209 => ?_
              clear h203
              refine nd_done ?_
              refine hK207 _ _ ?_
              clear hK207
              refine wp_seq_k fun K210 hK210 => ?_
              refine nd_start (l := [0, 1, 2, 3, 4, 5, 6]) rfl ?_
              refine nd_batch tabOk tabZ_ok [(0, {}), (1, {}), (2, {}), (3, {})] [3, 5, 6, 7, 16, 17, 18, 44, 45, 46, 10, 8, 56, 59] (T' := [(3, .pointer (some ⟨bs, 0, none⟩)), (5, .pointer (some ⟨b51, 0, none⟩)), (6, .pointer (some ⟨b69, 0, none⟩)), (7, .int .i64 n), (16, .slice (some ⟨sb41, k042, none⟩) ops.length c), (17, .int .i64 ((ops.length : Nat) : Int)), (18, .int .i64 ((i : Nat) : Int)), (44, .slice (some ⟨bp, 0, none⟩) ((ptsOf s.lg.base.idx s.lg.sns).length) pc), (45, .int .i64 (((ptsOf s.lg.base.idx s.lg.sns).length : Nat) : Int)), (46, .int .i64 ((k : Nat) : Int)), (10, .int .i64 p), (8, .int .i64 (if p > (lat n s.lg.base.idx ((ptsOf s.lg.base.idx s.lg.sns).take k)) then p else (lat n s.lg.base.idx ((ptsOf s.lg.base.idx s.lg.sns).take k)))), (56, .pointer (some ⟨bs, 0, none⟩)), (59, .agg #[.int .u8 7, .int .i64 p, .int .i64 n, .int .u8 0, .int .u32 0, .int .u64 0])]) (φ := True) (rest := [4, 5, 6]) h209 (by kernel_rfl) rfl trivial fun a211 h212 => ?_
              clear h209
              refine nd_op ?_
              refine op_call h212 rfl rfl rfl (callOk Try.func12 (by decide) rfl) (args := [.pointer (some ⟨bs, 0, none⟩), .agg #[.int .u8 7, .int .i64 p, .int .i64 n, .int .u8 0, .int .u32 0, .int .u64 0]]) rfl ((by have hq := do_ok bs bl d2 (doR s x).2 _ h212.inv (B := ((i + 1 : Nat) : Int)) (by omega) hwf1 ⟨7, p, n, ⟨0, 0, 0⟩⟩ op7_ok; rw [do_replay, pts_replay hwf1 hona.lg (by rw [hlg]; exact hpm) hpn (by rw [hlg]; exact hn2)] at hq; exact hq)) ?_
              rintro _ w213 ⟨d218, rfl, hs215, hf216, hF217⟩
              refine ⟨_, rfl, ?_⟩
              have h214q := h212.callSub hf216 (fun b hb => .inr (hnw2 b hb)) (A' := fun w => SessAt w bs bl d218 (doR s x).2) (F' := bs :: bl :: d218.F) (L' := [(b51, ⟨[.int .u8 x.kind, .int .i64 x.n, .int .i64 x.m, .int .u8 x.ev.kind, .int .u32 x.ev.pick, .int .u64 x.ev.arg], 35, false⟩), (b69, ⟨[.int .u8 ((doR s x).1.code), .int .i64 n, .int .i64 s.lg.base.idx, .int .i64 ((doR s x).1.fin), .bool ((doR s x).1.live), .bool ((stAt all n).2.refused), .int .i8 ((stAt all n).2.running), .int .u64 ((stAt all n).2.value), .int .u64 (dig (stAt all n).1), .int .i64 ((s.lg.near n).idx), .int .i64 (n - (s.lg.near n).idx), .int .i64 ((doR s x).1.at_)], 41, false⟩), (bp, ⟨pcs, 3, false⟩)]) (List.Sublist.refl _) (kcons (h212.dj (k := 0) rfl rfl) (kcons (h212.dj (k := 1) rfl rfl) (kcons (h212.dj (k := 2) rfl rfl) knil))) hs215 SessAt.stable hs215.low (fun b hb => by rcases List.mem_cons.1 hb with rfl | hb; exact .inl (by simp); rcases List.mem_cons.1 hb with rfl | hb; exact .inl (by simp); rcases hF217 b hb with hq | hq; exact .inl (List.mem_cons_of_mem _ (List.mem_cons_of_mem _ hq)); exact .inr (.inr hq))
              have h214 := h214q.put (d := some 60) (v := .agg #[.int .u8 0, .int .i64 ((doR s x).2.pos), .int .i64 ((doR s x).2.lg.base.idx), .int .i64 ((doR s x).2.lg.fin), .bool ((doR s x).2.live), .bool ((stAt all n).2.refused), .int .i8 ((stAt all n).2.running), .int .u64 ((stAt all n).2.value), .int .u64 (dig (stAt all n).1), .int .i64 p, .int .i64 (n - p), .int .i64 (-1)]) (T' := [(60, .agg #[.int .u8 0, .int .i64 ((doR s x).2.pos), .int .i64 ((doR s x).2.lg.base.idx), .int .i64 ((doR s x).2.lg.fin), .bool ((doR s x).2.live), .bool ((stAt all n).2.refused), .int .i8 ((stAt all n).2.running), .int .u64 ((stAt all n).2.value), .int .u64 (dig (stAt all n).1), .int .i64 p, .int .i64 (n - p), .int .i64 (-1)]), (3, .pointer (some ⟨bs, 0, none⟩)), (5, .pointer (some ⟨b51, 0, none⟩)), (6, .pointer (some ⟨b69, 0, none⟩)), (7, .int .i64 n), (16, .slice (some ⟨sb41, k042, none⟩) ops.length c), (17, .int .i64 ((ops.length : Nat) : Int)), (18, .int .i64 ((i : Nat) : Int)), (44, .slice (some ⟨bp, 0, none⟩) ((ptsOf s.lg.base.idx s.lg.sns).length) pc), (45, .int .i64 (((ptsOf s.lg.base.idx s.lg.sns).length : Nat) : Int)), (46, .int .i64 ((k : Nat) : Int)), (10, .int .i64 p), (8, .int .i64 (if p > (lat n s.lg.base.idx ((ptsOf s.lg.base.idx s.lg.sns).take k)) then p else (lat n s.lg.base.idx ((ptsOf s.lg.base.idx s.lg.sns).take k)))), (56, .pointer (some ⟨bs, 0, none⟩)), (59, .agg #[.int .u8 7, .int .i64 p, .int .i64 n, .int .u8 0, .int .u32 0, .int .u64 0])]) rfl
              have hszh214 := h212.frame.size
              clear h212 h214q
              have hnew219 : ∀ x ∈ bs :: bl :: d218.F, w.heap.size ≤ x := by intro x hx; rcases List.mem_cons.1 hx with rfl | hx; exact hnw2 _ (by simp); rcases List.mem_cons.1 hx with rfl | hx; exact hnw2 _ (by simp); rcases hF217 x hx with hq | hq; exact hnw2 _ (by simp [hq]); exact Nat.le_trans hszh214 hq
              refine nd_op ?_
              refine op_new tabOk (cells := [.int .u8 0, .int .i64 0, .int .i64 0, .int .i64 0, .bool false, .bool false, .int .i8 0, .int .u64 0, .int .u64 0, .int .i64 0, .int .i64 0, .int .i64 0]) (ty := 41) (ln := none) (L1 := fun b220 => [(b51, ⟨[.int .u8 x.kind, .int .i64 x.n, .int .i64 x.m, .int .u8 x.ev.kind, .int .u32 x.ev.pick, .int .u64 x.ev.arg], 35, false⟩), (b69, ⟨[.int .u8 ((doR s x).1.code), .int .i64 n, .int .i64 s.lg.base.idx, .int .i64 ((doR s x).1.fin), .bool ((doR s x).1.live), .bool ((stAt all n).2.refused), .int .i8 ((stAt all n).2.running), .int .u64 ((stAt all n).2.value), .int .u64 (dig (stAt all n).1), .int .i64 ((s.lg.near n).idx), .int .i64 (n - (s.lg.near n).idx), .int .i64 ((doR s x).1.at_)], 41, false⟩), (bp, ⟨pcs, 3, false⟩), (b220, ⟨[.int .u8 0, .int .i64 0, .int .i64 0, .int .i64 0, .bool false, .bool false, .int .i8 0, .int .u64 0, .int .u64 0, .int .i64 0, .int .i64 0, .int .i64 0], 41, false⟩)]) h214 rfl rfl rfl rfl (by kernel_rfl) (fun _ => rfl) fun b220 w221 a222 h223 hf224 hn225 => ?_
              clear h214
              refine nd_op ?_
              refine op_store tabOk {k := 3} (L' := [(b51, ⟨[.int .u8 x.kind, .int .i64 x.n, .int .i64 x.m, .int .u8 x.ev.kind, .int .u32 x.ev.pick, .int .u64 x.ev.arg], 35, false⟩), (b69, ⟨[.int .u8 ((doR s x).1.code), .int .i64 n, .int .i64 s.lg.base.idx, .int .i64 ((doR s x).1.fin), .bool ((doR s x).1.live), .bool ((stAt all n).2.refused), .int .i8 ((stAt all n).2.running), .int .u64 ((stAt all n).2.value), .int .u64 (dig (stAt all n).1), .int .i64 ((s.lg.near n).idx), .int .i64 (n - (s.lg.near n).idx), .int .i64 ((doR s x).1.at_)], 41, false⟩), (bp, ⟨pcs, 3, false⟩), (b220, ⟨[.int .u8 0, .int .i64 ((doR s x).2.pos), .int .i64 ((doR s x).2.lg.base.idx), .int .i64 ((doR s x).2.lg.fin), .bool ((doR s x).2.live), .bool ((stAt all n).2.refused), .int .i8 ((stAt all n).2.running), .int .u64 ((stAt all n).2.value), .int .u64 (dig (stAt all n).1), .int .i64 p, .int .i64 (n - p), .int .i64 (-1)], 41, false⟩)]) (φ := b220 = b220 ∧ Nat.ble (0 + 12) 12 = true) h223 rfl rfl rfl (by kernel_rfl) ⟨rfl, rfl⟩ fun w226 h227 => ?_
              clear h223
              refine nd_done ?_
              refine hK210 _ _ ?_
              clear hK210
              refine wp_seq_k fun K228 hK228 => ?_
              refine nd_start (l := [0, 1, 2, 3, 4, 5, 6, 7, 8, 9, 10, 11, 12, 13, 14, 15, 16, 17, 18, 19, 20, 21, 22, 23, 24]) rfl ?_
              refine nd_batch tabOk tabZ_ok [(0, {}), (1, {k := 3}), (2, {}), (3, {}), (4, {}), (5, {k := 3}), (6, {}), (7, {k := 1}), (8, {f := 1}), (9, {}), (10, {}), (11, {}), (12, {k := 3}), (13, {}), (14, {k := 1}), (15, {f := 1}), (16, {}), (17, {}), (18, {}), (19, {k := 3}), (20, {}), (21, {}), (22, {}), (23, {f := 1}), (24, {})] [11, 3, 5, 6, 7, 16, 17, 18, 44, 45, 46, 10, 8, 85] (T' := [(11, .pointer (some ⟨b220, 0, none⟩)), (3, .pointer (some ⟨bs, 0, none⟩)), (5, .pointer (some ⟨b51, 0, none⟩)), (6, .pointer (some ⟨b69, 0, none⟩)), (7, .int .i64 n), (16, .slice (some ⟨sb41, k042, none⟩) ops.length c), (17, .int .i64 ((ops.length : Nat) : Int)), (18, .int .i64 ((i : Nat) : Int)), (44, .slice (some ⟨bp, 0, none⟩) ((ptsOf s.lg.base.idx s.lg.sns).length) pc), (45, .int .i64 (((ptsOf s.lg.base.idx s.lg.sns).length : Nat) : Int)), (46, .int .i64 ((k : Nat) : Int)), (10, .int .i64 p), (8, .int .i64 (if p > (lat n s.lg.base.idx ((ptsOf s.lg.base.idx s.lg.sns).take k)) then p else (lat n s.lg.base.idx ((ptsOf s.lg.base.idx s.lg.sns).take k)))), (85, .bool false)]) (φ := (b220 = b220 ∧ Nat.ble (0 + 1) 12 = true) ∧ (b220 = b220 ∧ Nat.ble (8 + 1) 12 = true) ∧ (b69 = b69 ∧ Nat.ble (8 + 1) 12 = true) ∧ (((dig (stAt all n).1) != (dig (stAt all n).1))) = false ∧ (b220 = b220 ∧ Nat.ble (5 + 3) 12 = true) ∧ (b69 = b69 ∧ Nat.ble (5 + 3) 12 = true) ∧ EqRun Try.prog 39 (.agg #[.bool ((stAt all n).2.refused), .int .i8 ((stAt all n).2.running), .int .u64 ((stAt all n).2.value)]) (.agg #[.bool ((stAt all n).2.refused), .int .i8 ((stAt all n).2.running), .int .u64 ((stAt all n).2.value)]) true ∧ (b220 = b220 ∧ Nat.ble (10 + 1) 12 = true) ∧ inR .i64 (n - p) ∧ (((n - p) != (n - p))) = false ∧ True) (rest := []) h227 (by kernel_rfl) rfl ⟨⟨rfl, rfl⟩, ⟨rfl, rfl⟩, ⟨rfl, rfl⟩, (by simp), ⟨rfl, rfl⟩, ⟨rfl, rfl⟩, (by have hq := run39 (stAt all n).2 (stAt all n).2; rw [show otEq (stAt all n).2 (stAt all n).2 = true from otEq_iff.2 rfl] at hq; exact hq), ⟨rfl, rfl⟩, ⟨by omega, by omega⟩, (by simp), trivial⟩ fun a229 h230 => ?_
              clear h227
              refine nd_done ?_
              refine hK228 _ _ ?_
              clear hK228
              refine c_false h230 rfl ?_
              refine wp_skip ?_
              refine hK196 _ _ ?_
              clear hK196
              refine nd_start (l := [0, 1]) rfl ?_
              refine nd_batch tabOk tabZ_ok [(0, {}), (1, {})] [11, 3, 5, 6, 7, 16, 17, 18, 44, 45, 10, 8, 46] (T' := [(11, .pointer (some ⟨b220, 0, none⟩)), (3, .pointer (some ⟨bs, 0, none⟩)), (5, .pointer (some ⟨b51, 0, none⟩)), (6, .pointer (some ⟨b69, 0, none⟩)), (7, .int .i64 n), (16, .slice (some ⟨sb41, k042, none⟩) ops.length c), (17, .int .i64 ((ops.length : Nat) : Int)), (18, .int .i64 ((i : Nat) : Int)), (44, .slice (some ⟨bp, 0, none⟩) ((ptsOf s.lg.base.idx s.lg.sns).length) pc), (45, .int .i64 (((ptsOf s.lg.base.idx s.lg.sns).length : Nat) : Int)), (10, .int .i64 p), (8, .int .i64 (if p > (lat n s.lg.base.idx ((ptsOf s.lg.base.idx s.lg.sns).take k)) then p else (lat n s.lg.base.idx ((ptsOf s.lg.base.idx s.lg.sns).take k)))), (46, .int .i64 (((k : Nat) : Int) + 1))]) (φ := inR .i64 (((k : Nat) : Int) + 1) ∧ True) (rest := []) h230 (by kernel_rfl) rfl ⟨⟨by omega, by omega⟩, trivial⟩ fun a231 h232 => ?_
              clear h230
              refine nd_done ?_
              have h233 := h232.memMono (L' := [(b51, ⟨[.int .u8 x.kind, .int .i64 x.n, .int .i64 x.m, .int .u8 x.ev.kind, .int .u32 x.ev.pick, .int .u64 x.ev.arg], 35, false⟩), (b69, ⟨[.int .u8 ((doR s x).1.code), .int .i64 n, .int .i64 s.lg.base.idx, .int .i64 ((doR s x).1.fin), .bool ((doR s x).1.live), .bool ((stAt all n).2.refused), .int .i8 ((stAt all n).2.running), .int .u64 ((stAt all n).2.value), .int .u64 (dig (stAt all n).1), .int .i64 ((s.lg.near n).idx), .int .i64 (n - (s.lg.near n).idx), .int .i64 ((doR s x).1.at_)], 41, false⟩), (bp, ⟨pcs, 3, false⟩)]) (List.Sublist.cons_cons _ (List.Sublist.cons_cons _ (List.Sublist.cons_cons _ (List.Sublist.cons _ List.Sublist.slnil))))
              clear h232
              have e1 : (if p > (lat n s.lg.base.idx ((ptsOf s.lg.base.idx s.lg.sns).take k)) then p else (lat n s.lg.base.idx ((ptsOf s.lg.base.idx s.lg.sns).take k))) = lat n s.lg.base.idx ((ptsOf s.lg.base.idx s.lg.sns).take (k + 1)) := by rw [Sx.take_snoc hp, lat_snoc, if_neg hfar]
              rw [e1] at h233
              exact ⟨(gg - 1), by omega, (k + 1), d218, by omega, by omega, hnew219, (h233.slotsMono (restr_spec (keep := [3, 5, 6, 7, 16, 17, 18, 44, 45, 8, 46]) rfl))⟩
          ·
            have hc195f : ¬ ((k : Nat) : Int) < (((ptsOf s.lg.base.idx s.lg.sns).length : Nat) : Int) := by simpa using hc195
            have hkk : k = (ptsOf s.lg.base.idx s.lg.sns).length := by omega
            have hlat : lat n s.lg.base.idx ((ptsOf s.lg.base.idx s.lg.sns).take k) = (s.lg.near n).idx := by rw [hkk, List.take_length]; exact lat_near hwf.lg hn1
            rw [hlat] at h193
            have h234 := h193.slotsMono (T' := [(3, .pointer (some ⟨bs, 0, none⟩)), (5, .pointer (some ⟨b51, 0, none⟩)), (6, .pointer (some ⟨b69, 0, none⟩)), (7, .int .i64 n), (16, .slice (some ⟨sb41, k042, none⟩) ops.length c), (17, .int .i64 ((ops.length : Nat) : Int)), (18, .int .i64 ((i : Nat) : Int)), (44, .slice (some ⟨bp, 0, none⟩) ((ptsOf s.lg.base.idx s.lg.sns).length) pc), (45, .int .i64 (((ptsOf s.lg.base.idx s.lg.sns).length : Nat) : Int)), (8, .int .i64 ((s.lg.near n).idx))]) (restr_spec (keep := [3, 5, 6, 7, 16, 17, 18, 44, 45, 8]) rfl)
            clear h193
            refine wp_exit ?_
            refine hK174 _ _ ?_
            clear hK174
            refine wp_seq_k fun K235 hK235 => ?_
            rcases Bool.eq_false_or_eq_true ((x.kind == 1)) with hb236 | hb236
            ·
              have hb236f : x.kind = 1 := by simpa using hb236
              refine nd_start (l := [0, 1, 2, 3, 4, 5, 6, 7, 8, 9, 10, 11, 12, 13, 14, 15, 16, 17, 18, 19, 20, 21, 22]) rfl ?_
              refine nd_batch tabOk tabZ_ok [(0, {}), (1, {k := 1}), (2, {}), (3, {f := 1}), (4, {}), (5, {}), (6, {k := 1}), (7, {}), (8, {}), (9, {}), (10, {f := 1}), (11, {}), (12, {}), (13, {}), (14, {k := 0}), (15, {f := 2}), (16, {}), (17, {}), (18, {}), (19, {k := 0}), (20, {f := 1}), (21, {}), (22, {})] [3, 5, 6, 7, 16, 17, 18, 44, 45, 8, 109] (T' := [(3, .pointer (some ⟨bs, 0, none⟩)), (5, .pointer (some ⟨b51, 0, none⟩)), (6, .pointer (some ⟨b69, 0, none⟩)), (7, .int .i64 n), (16, .slice (some ⟨sb41, k042, none⟩) ops.length c), (17, .int .i64 ((ops.length : Nat) : Int)), (18, .int .i64 ((i : Nat) : Int)), (44, .slice (some ⟨bp, 0, none⟩) ((ptsOf s.lg.base.idx s.lg.sns).length) pc), (45, .int .i64 (((ptsOf s.lg.base.idx s.lg.sns).length : Nat) : Int)), (8, .int .i64 ((s.lg.near n).idx)), (109, .bool false)]) (φ := (b69 = b69 ∧ Nat.ble (9 + 1) 12 = true) ∧ (((s.lg.near n).idx != (s.lg.near n).idx)) = false ∧ (b69 = b69 ∧ Nat.ble (10 + 1) 12 = true) ∧ inR .i64 (n - ((s.lg.near n).idx)) ∧ (((n - (s.lg.near n).idx) != (n - ((s.lg.near n).idx)))) = false ∧ (b51 = b51 ∧ Nat.ble (0 + 1) 6 = true) ∧ ((x.kind == 1)) = true ∧ (b51 = b51 ∧ Nat.ble (1 + 1) 6 = true) ∧ ((n != x.n)) = false ∧ True) (rest := []) h234 (by kernel_rfl) rfl ⟨⟨rfl, rfl⟩, (by simp), ⟨rfl, rfl⟩, ⟨by omega, by omega⟩, (by simp), ⟨rfl, rfl⟩, hb236, ⟨rfl, rfl⟩, (by rw [hnop hk1]; simp), trivial⟩ fun a237 h238 => ?_
              clear h234
              refine nd_done ?_
              refine hK235 _ _ ?_
              clear hK235
              refine c_false h238 rfl ?_
              refine wp_skip ?_
              refine hK46 _ _ ?_
              clear hK46
              refine nd_start (l := [0, 1]) rfl ?_
              refine nd_batch tabOk tabZ_ok [(0, {}), (1, {})] [3, 5, 6, 7, 16, 17, 44, 45, 8, 18] (T' := [(3, .pointer (some ⟨bs, 0, none⟩)), (5, .pointer (some ⟨b51, 0, none⟩)), (6, .pointer (some ⟨b69, 0, none⟩)), (7, .int .i64 n), (16, .slice (some ⟨sb41, k042, none⟩) ops.length c), (17, .int .i64 ((ops.length : Nat) : Int)), (44, .slice (some ⟨bp, 0, none⟩) ((ptsOf s.lg.base.idx s.lg.sns).length) pc), (45, .int .i64 (((ptsOf s.lg.base.idx s.lg.sns).length : Nat) : Int)), (8, .int .i64 ((s.lg.near n).idx)), (18, .int .i64 (((i : Nat) : Int) + 1))]) (φ := inR .i64 (((i : Nat) : Int) + 1) ∧ True) (rest := []) h238 (by kernel_rfl) rfl ⟨⟨by omega, by omega⟩, trivial⟩ fun a239 h240 => ?_
              clear h238
              refine nd_done ?_
              have h241 := h240.memMono (L' := []) (List.Sublist.cons _ (List.Sublist.cons _ (List.Sublist.cons _ List.Sublist.slnil)))
              clear h240
              exact ⟨(g - 1), by omega, (i + 1), (doR s x).2, d2, all1, by omega, by omega, hwf1, hon1, hnw2, (h241.slotsMono (restr_spec (keep := [3, 16, 17, 18]) rfl))⟩
            ·
              have hb236f : x.kind ≠ 1 := by simpa using hb236
              exact absurd hk1 hb236f
    ·
      have hc40f : ¬ ((i : Nat) : Int) < ((ops.length : Nat) : Int) := by simpa using hc40
      have h242 := h38.slotsMono (T' := [(3, .pointer (some ⟨bs, 0, none⟩))]) (restr_spec (keep := [3]) rfl)
      clear h38
      refine wp_exit ?_
      refine hK24 _ _ ?_
      clear hK24
      refine wp_seq_k fun K243 hK243 => ?_
      refine nd_start (l := [0]) rfl ?_
      refine nd_batch tabOk tabZ_ok [(0, {})] [3, 2] (T' := [(3, .pointer (some ⟨bs, 0, none⟩)), (2, .bool true)]) (φ := True) (rest := []) h242 (by kernel_rfl) rfl trivial fun a244 h245 => ?_
      clear h242
      refine nd_done ?_
      refine hK243 _ _ ?_
      clear hK243
      refine wp_ret ?_
      try simp only [Exit.then, Exit.inBlock]
      try rw [if_pos trivial]
      exact s_ret tabOk tabZ_ok h245 [(.tmp 2, {})] (vs := [.bool true]) (φ := True) rfl (by kernel_rfl) trivial ⟨rfl, h245.frame⟩

end Go.Proofs.Qxb6500919a
