/-
  The transition function of the kernel. (Made by program: a symbolic walk that prints its steps.)
-/
import Derived.Test.Qxb6500919aFmtTab
import Derived.Test.Qxb6500919aFmtFun
import Derived.Test.Qxb6500919aFmtW1
namespace Go.Proofs.Qxb6500919aFmt
open Go.Sx Go.Rp
set_option maxRecDepth 100000
set_option linter.unusedVariables false

theorem step_calls (pre post : List Value) (m : Mach) (hm : m.ok) (e : Ev) (he : e.ok) (b : Nat) (ty : TypeId) (ro : Bool) (w : World) (hb : w.heap[b]? = some (Blk.obj ⟨pre ++ machC m ++ post, ty, ro⟩)) :
    Calls Tryf.prog 63 #[.pointer (some ⟨b, pre.length, none⟩), .agg (evC e).toArray] w fun r w' => r = .returned (.agg (outC (kstep m e).2).toArray) ∧ w'.heap[b]? = some (Blk.obj ⟨pre ++ machC (kstep m e).1 ++ post, ty, false⟩) ∧ Fr [b] w w' := by
  have hcur := hm.cur
  refine enter0 (n := 212) (K := [b]) (T := [(0, .pointer (some ⟨b, pre.length, none⟩)), (1, .agg #[.int .u8 e.kind, .int .u32 e.pick, .int .u64 e.arg])]) (L := [(b, ⟨pre ++ machC m ++ post, ty, false⟩)]) (args := [.pointer (some ⟨b, pre.length, none⟩), .agg #[.int .u8 e.kind, .int .u32 e.pick, .int .u64 e.arg]]) Tryf.func63 rfl rfl rfl rfl (kcons hb knil) (by simp) (kcons (by simp) knil) ?_
  intro a h
  have h0 := h.rows0
  clear h
  refine wp_seq_k fun K1 hK1 => ?_
  refine nd_start (l := [0, 1]) rfl ?_
  refine nd_op ?_
  refine op_new tabOk (cells := [.int .u8 e.kind, .int .u32 e.pick, .int .u64 e.arg]) (ty := 31) (ln := none) (L1 := fun b2 => [(b, ⟨pre ++ machC m ++ post, ty, false⟩), (b2, ⟨[.int .u8 e.kind, .int .u32 e.pick, .int .u64 e.arg], 31, false⟩)]) h0 rfl rfl rfl rfl (by kernel_rfl) (fun _ => rfl) fun b2 w3 a4 h5 hf6 hn7 => ?_
  clear h0
  refine nd_op ?_
  refine op_new tabOk (cells := [.bool false, .int .i8 0, .int .u64 0]) (ty := 44) (ln := none) (L1 := fun b8 => [(b, ⟨pre ++ machC m ++ post, ty, false⟩), (b2, ⟨[.int .u8 e.kind, .int .u32 e.pick, .int .u64 e.arg], 31, false⟩), (b8, ⟨[.bool false, .int .i8 0, .int .u64 0], 44, false⟩)]) h5 rfl rfl rfl rfl (by kernel_rfl) (fun _ => rfl) fun b8 w9 a10 h11 hf12 hn13 => ?_
  clear h5
  refine nd_done ?_
  refine hK1 _ _ ?_
  clear hK1
  refine wp_seq_k fun K14 hK14 => ?_
  refine nd_start (l := [0, 1, 2, 3, 4, 5, 6]) rfl ?_
  refine nd_batch tabOk tabZ_ok [(0, {}), (1, {}), (2, {}), (3, {k := 0, m := 1, vs := [.int .i8 m.cur]}), (4, {})] [4, 3, 0, 1, 15] (T' := [(4, .pointer (some ⟨b8, 0, none⟩)), (3, .pointer (some ⟨b2, 0, none⟩)), (0, .pointer (some ⟨b, pre.length, none⟩)), (1, .agg #[.int .u8 e.kind, .int .u32 e.pick, .int .u64 e.arg]), (15, .agg #[.bool true, .int .i8 m.cur, .int .u64 0])]) (φ := (b = b ∧ cellsAre (pre ++ machC m ++ post) (pre.length + 1) [.int .i8 m.cur]) ∧ True) (rest := [5, 6]) h11 (by kernel_rfl) rfl ⟨⟨rfl, (mid_cur' pre post m rfl)⟩, trivial⟩ fun a15 h16 => ?_
  clear h11
  refine nd_op ?_
  refine op_new tabOk (cells := [.bool false, .int .i8 0, .int .u64 0]) (ty := 44) (ln := none) (L1 := fun b17 => [(b, ⟨pre ++ machC m ++ post, ty, false⟩), (b2, ⟨[.int .u8 e.kind, .int .u32 e.pick, .int .u64 e.arg], 31, false⟩), (b8, ⟨[.bool false, .int .i8 0, .int .u64 0], 44, false⟩), (b17, ⟨[.bool false, .int .i8 0, .int .u64 0], 44, false⟩)]) h16 rfl rfl rfl rfl (by kernel_rfl) (fun _ => rfl) fun b17 w18 a19 h20 hf21 hn22 => ?_
  clear h16
  refine nd_op ?_
  refine op_store tabOk {k := 3} (L' := [(b, ⟨pre ++ machC m ++ post, ty, false⟩), (b2, ⟨[.int .u8 e.kind, .int .u32 e.pick, .int .u64 e.arg], 31, false⟩), (b8, ⟨[.bool false, .int .i8 0, .int .u64 0], 44, false⟩), (b17, ⟨[.bool true, .int .i8 m.cur, .int .u64 0], 44, false⟩)]) (φ := b17 = b17 ∧ Nat.ble (0 + 3) 3 = true) h20 rfl rfl rfl (by kernel_rfl) ⟨rfl, rfl⟩ fun w23 h24 => ?_
  clear h20
  refine nd_done ?_
  refine hK14 _ _ ?_
  clear hK14
  refine wp_seq_k fun K25 hK25 => ?_
  refine nd_start (l := [0]) rfl ?_
  refine nd_batch tabOk tabZ_ok [(0, {})] [5, 4, 3, 0, 1, 6] (T' := [(5, .pointer (some ⟨b17, 0, none⟩)), (4, .pointer (some ⟨b8, 0, none⟩)), (3, .pointer (some ⟨b2, 0, none⟩)), (0, .pointer (some ⟨b, pre.length, none⟩)), (1, .agg #[.int .u8 e.kind, .int .u32 e.pick, .int .u64 e.arg]), (6, .int .u64 0)]) (φ := True) (rest := []) h24 (by kernel_rfl) rfl trivial fun a26 h27 => ?_
  clear h24
  refine nd_done ?_
  refine hK25 _ _ ?_
  clear hK25
  refine wp_seq_k fun K28 hK28 => ?_
  have hm31 : ∀ (m1 : Mach) (val : Int) (ca : Act) (cw : World), (sw m e = some (m1, val)) → St ⟨212, [b], w, Rws [], Ff []⟩ [(0, .pointer (some ⟨b, pre.length, none⟩)), (3, .pointer (some ⟨b2, 0, none⟩)), (4, .pointer (some ⟨b8, 0, none⟩)), (6, .int .u64 val)] [(b, ⟨pre ++ machC m1 ++ post, ty, false⟩), (b2, ⟨[.int .u8 e.kind, .int .u32 e.pick, .int .u64 e.arg], 31, false⟩), (b8, ⟨[.bool false, .int .i8 0, .int .u64 0], 44, false⟩)] ca cw → K28 ca cw := by
    intro m1 val a29 w30 hi33 h32
    obtain ⟨hm1, hval⟩ := sw_ok hm he hi33
    have hcur1 := hm1.cur
    refine hK28 _ _ ?_
    refine wp_seq_k fun K34 hK34 => ?_
    refine wp_seq_k fun K35 hK35 => ?_
    refine nd_start (l := [0, 1, 2, 3, 4]) rfl ?_
    refine nd_batch tabOk tabZ_ok [(0, {}), (1, {}), (2, {}), (3, {k := 0, m := 1, vs := [.int .i8 m1.cur]}), (4, {})] [0, 3, 4, 6, 166] (T' := [(0, .pointer (some ⟨b, pre.length, none⟩)), (3, .pointer (some ⟨b2, 0, none⟩)), (4, .pointer (some ⟨b8, 0, none⟩)), (6, .int .u64 val), (166, .bool (decide (m1.cur < 0)))]) (φ := (b = b ∧ cellsAre (pre ++ machC m1 ++ post) (pre.length + 1) [.int .i8 m1.cur]) ∧ True) (rest := []) h32 (by kernel_rfl) rfl ⟨⟨rfl, (mid_cur' pre post m1 rfl)⟩, trivial⟩ fun a36 h37 => ?_
    clear h32
    refine nd_done ?_
    refine hK35 _ _ ?_
    clear hK35
    refine c_split h37 (b := decide (m1.cur < 0)) rfl (fun hc38 => ?_) (fun hc38 => ?_)
    ·
      have hc38f : m1.cur < 0 := by simpa using hc38
      refine wp_seq_k fun K39 hK39 => ?_
      refine nd_start (l := [0]) rfl ?_
      refine nd_batch tabOk tabZ_ok [(0, {})] [0, 3, 4, 6, 9] (T' := [(0, .pointer (some ⟨b, pre.length, none⟩)), (3, .pointer (some ⟨b2, 0, none⟩)), (4, .pointer (some ⟨b8, 0, none⟩)), (6, .int .u64 val), (9, .slice none 0 0)]) (φ := True) (rest := []) h37 (by kernel_rfl) rfl trivial fun a40 h41 => ?_
      clear h37
      refine nd_done ?_
      refine hK39 _ _ ?_
      clear hK39
      refine wp_seq_k fun K42 hK42 => ?_
      refine wp_seq_k fun K43 hK43 => ?_
      refine nd_start (l := [0]) rfl ?_
      refine nd_batch tabOk tabZ_ok [(0, {})] [0, 3, 4, 6, 9, 167] (T' := [(0, .pointer (some ⟨b, pre.length, none⟩)), (3, .pointer (some ⟨b2, 0, none⟩)), (4, .pointer (some ⟨b8, 0, none⟩)), (6, .int .u64 val), (9, .slice none 0 0), (167, .int .i64 0)]) (φ := True) (rest := []) h41 (by kernel_rfl) rfl trivial fun a44 h45 => ?_
      clear h41
      refine nd_done ?_
      refine hK43 _ _ ?_
      clear hK43
      refine wp_block ?_
      have h46 := h45.rowNil 42 1
      clear h45
      refine wp_loop_ghost (fun g ga gw => ∃ (k : Nat) (o' : Option Addr) (c' : Nat) (F' : List Nat), (k ≤ 4) ∧ (g = 4 - k) ∧ (∀ x ∈ F', x ∈ [b] ∨ w.heap.size ≤ x) ∧ St ⟨212, [b], w, Rws [rl i8C 42 1 (readyTo m1 k) o' c' F'], Ff [rl i8C 42 1 (readyTo m1 k) o' c' F']⟩ [(0, .pointer (some ⟨b, pre.length, none⟩)), (3, .pointer (some ⟨b2, 0, none⟩)), (4, .pointer (some ⟨b8, 0, none⟩)), (6, .int .u64 val), (9, .slice o' ((readyTo m1 k).length) c'), (167, .int .i64 ((k : Nat) : Int))] [(b, ⟨pre ++ machC m1 ++ post, ty, false⟩), (b2, ⟨[.int .u8 e.kind, .int .u32 e.pick, .int .u64 e.arg], 31, false⟩), (b8, ⟨[.bool false, .int .i8 0, .int .u64 0], 44, false⟩)] ga gw) 4 ⟨0, none, 0, [], by decide, rfl, (fun _ hq => by cases hq), (h46.slotsMono (restr_spec (keep := [0, 3, 4, 6, 9, 167]) rfl))⟩ ?_
      clear h46
      rintro g a47 w48 ⟨k, o', c', F', hi50, hi51, hi52, h49⟩
      have hFK := hi52
      have hrl := readyTo_len m1 k
      refine wp_seq_k fun K53 hK53 => ?_
      refine nd_start (l := [0]) rfl ?_
      refine nd_batch tabOk tabZ_ok [(0, {})] [0, 3, 4, 6, 9, 167, 168] (T' := [(0, .pointer (some ⟨b, pre.length, none⟩)), (3, .pointer (some ⟨b2, 0, none⟩)), (4, .pointer (some ⟨b8, 0, none⟩)), (6, .int .u64 val), (9, .slice o' ((readyTo m1 k).length) c'), (167, .int .i64 ((k : Nat) : Int)), (168, .bool (decide (((k : Nat) : Int) < 4)))]) (φ := True) (rest := []) h49 (by kernel_rfl) rfl trivial fun a54 h55 => ?_
      clear h49
      refine nd_done ?_
      refine hK53 _ _ ?_
      clear hK53
      refine wp_seq_k fun K56 hK56 => ?_
      refine c_split h55 (b := decide (((k : Nat) : Int) < 4)) rfl (fun hc57 => ?_) (fun hc57 => ?_)
      ·
        have hc57f : ((k : Nat) : Int) < 4 := by simpa using hc57
        refine wp_skip ?_
        refine hK56 _ _ ?_
        clear hK56
        refine wp_seq_k fun K58 hK58 => ?_
        refine wp_block ?_
        refine wp_seq_k fun K59 hK59 => ?_
        refine nd_start (l := [0, 1]) rfl ?_
        refine nd_batch tabOk tabZ_ok [(0, {}), (1, {})] [0, 3, 4, 6, 9, 167, 10] (T' := [(0, .pointer (some ⟨b, pre.length, none⟩)), (3, .pointer (some ⟨b2, 0, none⟩)), (4, .pointer (some ⟨b8, 0, none⟩)), (6, .int .u64 val), (9, .slice o' ((readyTo m1 k).length) c'), (167, .int .i64 ((k : Nat) : Int)), (10, .int .i64 ((k : Nat) : Int))]) (φ := True) (rest := []) h55 (by kernel_rfl) rfl trivial fun a60 h61 => ?_
        clear h55
        refine nd_done ?_
        refine hK59 _ _ ?_
        clear hK59
        refine wp_seq_k fun K62 hK62 => ?_
        refine nd_start (l := [0, 1, 2, 3, 4, 5, 6]) rfl ?_
        refine nd_batch tabOk tabZ_ok [(0, {}), (1, {}), (2, {}), (3, {}), (4, {}), (5, {k := 0, m := 1, vs := [.int .u8 (m1.st k)]}), (6, {})] [0, 3, 4, 6, 9, 167, 10, 176] (T' := [(0, .pointer (some ⟨b, pre.length, none⟩)), (3, .pointer (some ⟨b2, 0, none⟩)), (4, .pointer (some ⟨b8, 0, none⟩)), (6, .int .u64 val), (9, .slice o' ((readyTo m1 k).length) c'), (167, .int .i64 ((k : Nat) : Int)), (10, .int .i64 ((k : Nat) : Int)), (176, .bool ((m1.st k) == 0))]) (φ := (0 ≤ ((k : Nat) : Int) ∧ ((k : Nat) : Int) < 4) ∧ (b = b ∧ cellsAre (pre ++ machC m1 ++ post) (pre.length + 2 + (k * 1)) [.int .u8 (m1.st k)]) ∧ True) (rest := []) h61 (by kernel_rfl) rfl ⟨⟨by omega, by omega⟩, ⟨rfl, (mid_st pre post m1 (by omega))⟩, trivial⟩ fun a63 h64 => ?_
        clear h61
        refine nd_done ?_
        refine hK62 _ _ ?_
        clear hK62
        refine c_split h64 (b := ((m1.st k) == 0)) rfl (fun hc65 => ?_) (fun hc65 => ?_)
        ·
          have hc65f : (m1.st k) = 0 := by simpa using hc65
          have hs0 : m1.st k = 0 := hc65f
          refine nd_start (l := [0, 1, 2, 3, 4, 5]) rfl ?_
          refine nd_batch tabOk tabZ_ok [(0, {}), (1, {}), (2, {})] [0, 3, 4, 6, 9, 167, 10, 177, 179] (T' := [(0, .pointer (some ⟨b, pre.length, none⟩)), (3, .pointer (some ⟨b2, 0, none⟩)), (4, .pointer (some ⟨b8, 0, none⟩)), (6, .int .u64 val), (9, .slice o' ((readyTo m1 k).length) c'), (167, .int .i64 ((k : Nat) : Int)), (10, .int .i64 ((k : Nat) : Int)), (177, .slice o' ((readyTo m1 k).length) c'), (179, .int .i8 ((k : Nat) : Int))]) (φ := inR .i8 ((k : Nat) : Int) ∧ True) (rest := [3, 4, 5]) h64 (by kernel_rfl) rfl ⟨⟨by omega, by omega⟩, trivial⟩ fun a66 h67 => ?_
          clear h64
          refine nd_op ?_
          refine op_new tabOk (cells := [.int .i8 ((k : Nat) : Int)]) (ty := 42) (ln := (some 1)) (L1 := fun b68 => [(b, ⟨pre ++ machC m1 ++ post, ty, false⟩), (b2, ⟨[.int .u8 e.kind, .int .u32 e.pick, .int .u64 e.arg], 31, false⟩), (b8, ⟨[.bool false, .int .i8 0, .int .u64 0], 44, false⟩), (b68, ⟨[.int .i8 ((k : Nat) : Int)], 42, false⟩)]) h67 rfl rfl rfl rfl (by kernel_rfl) (fun _ => rfl) fun b68 w69 a70 h71 hf72 hn73 => ?_
          clear h67
          refine nd_op ?_
          refine op_append tabOk (e := 42) (so := o') (n := (readyTo m1 k).length) (c := c') (xo := some ⟨b68, 0, none⟩) (m := 1) (cx := 1) (vals := (readyTo m1 k).flatMap i8C) (vs := [.int .i8 ((k : Nat) : Int)]) (F := F') h71 rfl rfl rfl rfl rfl rfl rfl rfl rfl rfl rfl rfl (h71.inv.get (j := 0) rfl) (src_one (h71.kn (k := 3) rfl) rfl ⟨rfl, trivial⟩) (by omega) rfl ?_
          intro o74 c75 F76 w77 hr78 hf79 hF80
          have hr782 := rl_app1 (enc := i8C) (xs := readyTo m1 k) (y := ((k : Nat) : Int)) hr78
          have hKh81 := row1_keys (K := [b]) hFK h71.frame.size hF80
          rw [show (readyTo m1 k).length + 1 = (readyTo m1 k ++ [((k : Nat) : Int)]).length by simp]
          have h81 := (h71.rowSet (j := 0) (r' := rl i8C 42 1 (readyTo m1 k ++ [((k : Nat) : Int)]) o74 c75 F76) (R' := [rl i8C 42 1 (readyTo m1 k ++ [((k : Nat) : Int)]) o74 c75 F76]) rfl hr782 hf79 hF80 hFK (kcons (by intro hq; cases hq) (kcons (by intro hq; cases hq) (kcons (by intro hq; cases hq) (kcons (by intro hq; cases hq) knil)))) rfl).put (d := some 181) (v := .slice o74 ((readyTo m1 k ++ [((k : Nat) : Int)]).length) c75) (T' := [(181, .slice o74 ((readyTo m1 k ++ [((k : Nat) : Int)]).length) c75), (180, .slice (some ⟨b68, 0, none⟩) 1 1), (0, .pointer (some ⟨b, pre.length, none⟩)), (3, .pointer (some ⟨b2, 0, none⟩)), (4, .pointer (some ⟨b8, 0, none⟩)), (6, .int .u64 val), (9, .slice o' ((readyTo m1 k).length) c'), (167, .int .i64 ((k : Nat) : Int)), (10, .int .i64 ((k : Nat) : Int)), (177, .slice o' ((readyTo m1 k).length) c'), (179, .int .i8 ((k : Nat) : Int))]) rfl
          clear h71
          refine nd_batch tabOk tabZ_ok [(5, {})] [0, 3, 4, 6, 167, 10, 9] (T' := [(0, .pointer (some ⟨b, pre.length, none⟩)), (3, .pointer (some ⟨b2, 0, none⟩)), (4, .pointer (some ⟨b8, 0, none⟩)), (6, .int .u64 val), (167, .int .i64 ((k : Nat) : Int)), (10, .int .i64 ((k : Nat) : Int)), (9, .slice o74 ((readyTo m1 k ++ [((k : Nat) : Int)]).length) c75)]) (φ := True) (rest := []) h81 (by kernel_rfl) rfl trivial fun a82 h83 => ?_
          clear h81
          refine nd_done ?_
          refine hK58 _ _ ?_
          clear hK58
          refine nd_start (l := [0, 1]) rfl ?_
          refine nd_batch tabOk tabZ_ok [(0, {}), (1, {})] [0, 3, 4, 6, 10, 9, 167] (T' := [(0, .pointer (some ⟨b, pre.length, none⟩)), (3, .pointer (some ⟨b2, 0, none⟩)), (4, .pointer (some ⟨b8, 0, none⟩)), (6, .int .u64 val), (10, .int .i64 ((k : Nat) : Int)), (9, .slice o74 ((readyTo m1 k ++ [((k : Nat) : Int)]).length) c75), (167, .int .i64 (((k : Nat) : Int) + 1))]) (φ := inR .i64 (((k : Nat) : Int) + 1) ∧ True) (rest := []) h83 (by kernel_rfl) rfl ⟨⟨by omega, by omega⟩, trivial⟩ fun a84 h85 => ?_
          clear h83
          refine nd_done ?_
          have h86 := h85.memMono (L' := [(b, ⟨pre ++ machC m1 ++ post, ty, false⟩), (b2, ⟨[.int .u8 e.kind, .int .u32 e.pick, .int .u64 e.arg], 31, false⟩), (b8, ⟨[.bool false, .int .i8 0, .int .u64 0], 44, false⟩)]) (List.Sublist.cons_cons _ (List.Sublist.cons_cons _ (List.Sublist.cons_cons _ (List.Sublist.cons _ List.Sublist.slnil))))
          clear h85
          have e1 : readyTo m1 k ++ [((k : Nat) : Int)] = readyTo m1 (k + 1) := by simp [readyTo, hs0]
          rw [e1] at h86
          exact ⟨(g - 1), by omega, (k + 1), o74, c75, F76, by omega, by omega, hKh81, (h86.slotsMono (restr_spec (keep := [0, 3, 4, 6, 9, 167]) rfl))⟩
        ·
          have hc65f : (m1.st k) ≠ 0 := by simpa using hc65
          have hs0 : m1.st k ≠ 0 := hc65f
          refine wp_skip ?_
          refine hK58 _ _ ?_
          clear hK58
          refine nd_start (l := [0, 1]) rfl ?_
          refine nd_batch tabOk tabZ_ok [(0, {}), (1, {})] [0, 3, 4, 6, 9, 10, 167] (T' := [(0, .pointer (some ⟨b, pre.length, none⟩)), (3, .pointer (some ⟨b2, 0, none⟩)), (4, .pointer (some ⟨b8, 0, none⟩)), (6, .int .u64 val), (9, .slice o' ((readyTo m1 k).length) c'), (10, .int .i64 ((k : Nat) : Int)), (167, .int .i64 (((k : Nat) : Int) + 1))]) (φ := inR .i64 (((k : Nat) : Int) + 1) ∧ True) (rest := []) h64 (by kernel_rfl) rfl ⟨⟨by omega, by omega⟩, trivial⟩ fun a87 h88 => ?_
          clear h64
          refine nd_done ?_
          have e1 : readyTo m1 k = readyTo m1 (k + 1) := by simp [readyTo, hs0]
          rw [e1] at h88
          exact ⟨(g - 1), by omega, (k + 1), o', c', F', by omega, by omega, hFK, (h88.slotsMono (restr_spec (keep := [0, 3, 4, 6, 9, 167]) rfl))⟩
      ·
        have hc57f : ¬ ((k : Nat) : Int) < 4 := by simpa using hc57
        have hk4 : k = 4 := by omega
        subst hk4
        have h89 := h55.slotsMono (T' := [(0, .pointer (some ⟨b, pre.length, none⟩)), (3, .pointer (some ⟨b2, 0, none⟩)), (4, .pointer (some ⟨b8, 0, none⟩)), (6, .int .u64 val), (9, .slice o' ((readyTo m1 4).length) c')]) (restr_spec (keep := [0, 3, 4, 6, 9]) rfl)
        refine wp_exit ?_
        refine hK42 _ _ ?_
        clear hK42
        refine wp_seq_k fun K90 hK90 => ?_
        refine nd_start (l := [0, 1, 2]) rfl ?_
        refine nd_batch tabOk tabZ_ok [(0, {}), (1, {}), (2, {})] [0, 3, 4, 6, 9, 185] (T' := [(0, .pointer (some ⟨b, pre.length, none⟩)), (3, .pointer (some ⟨b2, 0, none⟩)), (4, .pointer (some ⟨b8, 0, none⟩)), (6, .int .u64 val), (9, .slice o' ((readyTo m1 4).length) c'), (185, .bool (decide ((((readyTo m1 4).length : Nat) : Int) > 0)))]) (φ := True) (rest := []) h89 (by kernel_rfl) rfl trivial fun a91 h92 => ?_
        clear h89
        refine nd_done ?_
        refine hK90 _ _ ?_
        clear hK90
        refine c_split h92 (b := decide ((((readyTo m1 4).length : Nat) : Int) > 0)) rfl (fun hc93 => ?_) (fun hc93 => ?_)
        ·
          have hc93f : (((readyTo m1 4).length : Nat) : Int) > 0 := by simpa using hc93
          have hkk : (e.pick % ((readyTo m1 4).length : Int)).toNat < (readyTo m1 4).length := by
            have h1 := Int.emod_lt_of_pos e.pick (b := ((readyTo m1 4).length : Int)) (by omega)
            have h2 := Int.emod_nonneg e.pick (b := ((readyTo m1 4).length : Int)) (by omega)
            omega
          have hp1 := Int.emod_lt_of_pos e.pick (b := ((readyTo m1 4).length : Int)) (by omega)
          have hp2 := Int.emod_nonneg e.pick (b := ((readyTo m1 4).length : Int)) (by omega)
          obtain ⟨x, hx, hxd, hx0, hx3⟩ := readyTo_at hkk
          obtain ⟨b94, cs95, ho96, hb97, hc98, hF99, hq101, hl102⟩ := rl_open (h92.inv.get (j := 0) rfl) i8C_len hx
          subst ho96 hF99
          have h100 := h92.open_ hb97 (h92.notinL (by simp [Ff]) (kcons (by intro hq; cases hq) (kcons (by intro hq; cases hq) (kcons (by intro hq; cases hq) knil))))
          clear h92
          refine wp_seq_k fun K103 hK103 => ?_
          refine nd_start (l := [0, 1, 2, 3, 4, 5, 6, 7, 8, 9, 10, 11, 12]) rfl ?_
          refine nd_batch tabOk tabZ_ok [(0, {}), (1, {}), (2, {}), (3, {k := 1}), (4, {}), (5, {}), (6, {}), (7, {}), (8, {}), (9, {k := 3, m := 1, vs := [.int .i8 x]}), (10, {}), (11, {})] [0, 3, 4, 6, 9, 195, 197] (T' := [(0, .pointer (some ⟨b, pre.length, none⟩)), (3, .pointer (some ⟨b2, 0, none⟩)), (4, .pointer (some ⟨b8, 0, none⟩)), (6, .int .u64 val), (9, .slice (some ⟨b94, 0, none⟩) ((readyTo m1 4).length) c'), (195, .int .i8 x), (197, .pointer (some ⟨b, pre.length + 1, none⟩))]) (φ := (b2 = b2 ∧ Nat.ble (1 + 1) 3 = true) ∧ inR .i64 e.pick ∧ (0 ≤ e.pick ∧ 0 < (((readyTo m1 4).length : Nat) : Int)) ∧ (0 ≤ (e.pick % (((readyTo m1 4).length : Nat) : Int)) ∧ (e.pick % (((readyTo m1 4).length : Nat) : Int)) < (((readyTo m1 4).length : Nat) : Int)) ∧ (b94 = b94 ∧ cellsAre cs95 (0 + (((e.pick % (((readyTo m1 4).length : Nat) : Int)).toNat) * 1)) [.int .i8 x]) ∧ True) (rest := [12]) h100 (by kernel_rfl) rfl ⟨⟨rfl, rfl⟩, ⟨by have := he.2.1; omega, by have := he.2.1; omega⟩, ⟨by have := he.2.1; omega, by omega⟩, ⟨by omega, by omega⟩, ⟨rfl, (by rw [Nat.zero_add]; exact hc98)⟩, trivial⟩ fun a104 h105 => ?_
          clear h100
          refine nd_op ?_
          refine op_store tabOk {k := 0, m := 1, vs := (pre ++ machC ({ m1 with cur := x } : Mach) ++ post)} (L' := [(b, ⟨pre ++ machC ({ m1 with cur := x } : Mach) ++ post, ty, false⟩), (b2, ⟨[.int .u8 e.kind, .int .u32 e.pick, .int .u64 e.arg], 31, false⟩), (b8, ⟨[.bool false, .int .i8 0, .int .u64 0], 44, false⟩), (b94, ⟨cs95, 42, true⟩)]) (φ := b = b ∧ Nat.ble (pre.length + 1 + 1) (pre ++ machC m1 ++ post).length = true ∧ splice (pre ++ machC m1 ++ post) (pre.length + 1) [.int .i8 x] = (pre ++ machC ({ m1 with cur := x } : Mach) ++ post)) h105 rfl rfl rfl (by kernel_rfl) ⟨rfl, (mid_len pre post m1 (by omega)), (set_cur pre post m1 x)⟩ fun w106 h107 => ?_
          clear h105
          refine nd_done ?_
          refine hK103 _ _ ?_
          clear hK103
          refine dr_start (KB := [b, b2, b8, b94]) (Bi := [[0, 1, 2, 3], [0, 1, 2, 3], [0, 1, 2, 3], [0, 1, 2, 3], [0, 1, 2, 3], [0, 1, 2, 3], [0, 1, 2, 3], [0, 1, 2, 3], []]) mixed h107 fun w108 h109 => ?_
          clear h107
          refine dr_batch tabOk tabZ_ok (by repeat (first | exact PF.body | with_reducible apply PF.inB | with_reducible apply PF.next)) [(0, {}), (1, {}), (2, {}), (3, {}), (4, {k := 0, m := 1, vs := [.int .i8 x], p := 0}), (5, {}), (6, {}), (7, {})] [0, 3, 4, 6, 9, 205] (T' := [(0, .pointer (some ⟨b, pre.length, none⟩)), (3, .pointer (some ⟨b2, 0, none⟩)), (4, .pointer (some ⟨b8, 0, none⟩)), (6, .int .u64 val), (9, .slice (some ⟨b94, 0, none⟩) ((readyTo m1 4).length) c'), (205, .pointer (some ⟨b, pre.length + 2 + (x.toNat * 1), none⟩))]) (φ := (b = b ∧ cellsAre (pre ++ machC ({ m1 with cur := x } : Mach) ++ post) (pre.length + 1) [.int .i8 x]) ∧ (0 ≤ x ∧ x < 4) ∧ True) (fuel := 1) h109 (by kernel_rfl) rfl (by kernel_rfl) (by kernel_rfl) ⟨trivial, trivial, trivial, trivial, rfl, trivial, trivial, trivial, trivial⟩ ⟨⟨rfl, (mid_cur' pre post ({ m1 with cur := x } : Mach) rfl)⟩, ⟨by omega, by omega⟩, trivial⟩ fun a111 h112 => ?_
          clear h109
          refine wpAnyK_one (i := 8) (fuel := 0) (by kernel_rfl) ?_
          refine op_store tabOk {k := 0, m := 1, vs := (pre ++ machC (({ m1 with cur := x } : Mach).setSt x.toNat 1) ++ post)} (L' := [(b, ⟨pre ++ machC (({ m1 with cur := x } : Mach).setSt x.toNat 1) ++ post, ty, false⟩), (b2, ⟨[.int .u8 e.kind, .int .u32 e.pick, .int .u64 e.arg], 31, false⟩), (b8, ⟨[.bool false, .int .i8 0, .int .u64 0], 44, false⟩), (b94, ⟨cs95, 42, true⟩)]) (φ := b = b ∧ Nat.ble (pre.length + 2 + (x.toNat * 1) + 1) (pre ++ machC ({ m1 with cur := x } : Mach) ++ post).length = true ∧ splice (pre ++ machC ({ m1 with cur := x } : Mach) ++ post) (pre.length + 2 + (x.toNat * 1)) [.int .u8 1] = (pre ++ machC (({ m1 with cur := x } : Mach).setSt x.toNat 1) ++ post)) h112 rfl rfl rfl (by kernel_rfl) ⟨rfl, (mid_len pre post ({ m1 with cur := x } : Mach) (by omega)), (set_st pre post ({ m1 with cur := x } : Mach) (by omega) 1)⟩ fun w113 h114 => ?_
          have hkh114 := h112.known
          refine ⟨keepNil, ?_⟩
          clear h112
          refine wpAnyK_done (by kernel_rfl) ?_ _
          refine hK34 _ _ ?_
          clear hK34
          refine wp_seq_k fun K115 hK115 => ?_
          refine nd_start (l := [0, 1, 2, 3, 4, 5, 6]) rfl ?_
          refine nd_batch tabOk tabZ_ok [(0, {}), (1, {}), (2, {}), (3, {k := 0, m := 1, vs := [.int .i8 x]}), (4, {}), (5, {})] [0, 3, 4, 6, 9, 211] (T' := [(0, .pointer (some ⟨b, pre.length, none⟩)), (3, .pointer (some ⟨b2, 0, none⟩)), (4, .pointer (some ⟨b8, 0, none⟩)), (6, .int .u64 val), (9, .slice (some ⟨b94, 0, none⟩) ((readyTo m1 4).length) c'), (211, .agg #[.bool false, .int .i8 x, .int .u64 val])]) (φ := (b = b ∧ cellsAre (pre ++ machC (({ m1 with cur := x } : Mach).setSt x.toNat 1) ++ post) (pre.length + 1) [.int .i8 x]) ∧ True) (rest := [6]) h114 (by kernel_rfl) rfl ⟨⟨rfl, (mid_cur' pre post (({ m1 with cur := x } : Mach).setSt x.toNat 1) ((Mach.setSt_cur _ _ _).trans rfl))⟩, trivial⟩ fun a116 h117 => ?_
          clear h114
          refine nd_op ?_
          refine op_store tabOk {k := 2} (L' := [(b, ⟨pre ++ machC (({ m1 with cur := x } : Mach).setSt x.toNat 1) ++ post, ty, false⟩), (b2, ⟨[.int .u8 e.kind, .int .u32 e.pick, .int .u64 e.arg], 31, false⟩), (b8, ⟨[.bool false, .int .i8 x, .int .u64 val], 44, false⟩), (b94, ⟨cs95, 42, true⟩)]) (φ := b8 = b8 ∧ Nat.ble (0 + 3) 3 = true) h117 rfl rfl rfl (by kernel_rfl) ⟨rfl, rfl⟩ fun w118 h119 => ?_
          clear h117
          refine nd_done ?_
          refine hK115 _ _ ?_
          clear hK115
          refine wp_ret ?_
          have hsc : sched m1 e.pick = (({ m1 with cur := x } : Mach).setSt x.toNat 1) := by unfold sched; rw [if_pos (by omega), if_pos (by omega), hxd]
          have hcu : (sched m1 e.pick).cur = x := by rw [hsc]; exact (Mach.setSt_cur _ _ _)
          have hst : kstep m e = ((({ m1 with cur := x } : Mach).setSt x.toNat 1), ⟨false, x, val⟩) := by simp only [kstep, hi33]; rw [hcu, hsc]
          try simp only [Exit.then, Exit.inBlock]
          exact s_ret tabOk tabZ_ok h119 [(.cell 4 44, {k := 2})] (vs := [.agg #[.bool false, .int .i8 x, .int .u64 val]]) (φ := (b8 = b8 ∧ Nat.ble (0 + 3) 3 = true) ∧ True) rfl (by kernel_rfl) ⟨⟨rfl, rfl⟩, trivial⟩ (by simp only [hst]; exact ⟨rfl, h119.kn (k := 0) rfl, h119.frame⟩)
        ·
          have hc93f : ¬ (((readyTo m1 4).length : Nat) : Int) > 0 := by simpa using hc93
          refine wp_skip ?_
          refine hK34 _ _ ?_
          clear hK34
          refine wp_seq_k fun K120 hK120 => ?_
          refine nd_start (l := [0, 1, 2, 3, 4, 5, 6]) rfl ?_
          refine nd_batch tabOk tabZ_ok [(0, {}), (1, {}), (2, {}), (3, {k := 0, m := 1, vs := [.int .i8 m1.cur]}), (4, {}), (5, {})] [0, 3, 4, 6, 9, 211] (T' := [(0, .pointer (some ⟨b, pre.length, none⟩)), (3, .pointer (some ⟨b2, 0, none⟩)), (4, .pointer (some ⟨b8, 0, none⟩)), (6, .int .u64 val), (9, .slice o' ((readyTo m1 4).length) c'), (211, .agg #[.bool false, .int .i8 m1.cur, .int .u64 val])]) (φ := (b = b ∧ cellsAre (pre ++ machC m1 ++ post) (pre.length + 1) [.int .i8 m1.cur]) ∧ True) (rest := [6]) h92 (by kernel_rfl) rfl ⟨⟨rfl, (mid_cur' pre post m1 rfl)⟩, trivial⟩ fun a121 h122 => ?_
          clear h92
          refine nd_op ?_
          refine op_store tabOk {k := 2} (L' := [(b, ⟨pre ++ machC m1 ++ post, ty, false⟩), (b2, ⟨[.int .u8 e.kind, .int .u32 e.pick, .int .u64 e.arg], 31, false⟩), (b8, ⟨[.bool false, .int .i8 m1.cur, .int .u64 val], 44, false⟩)]) (φ := b8 = b8 ∧ Nat.ble (0 + 3) 3 = true) h122 rfl rfl rfl (by kernel_rfl) ⟨rfl, rfl⟩ fun w123 h124 => ?_
          clear h122
          refine nd_done ?_
          refine hK120 _ _ ?_
          clear hK120
          refine wp_ret ?_
          have hsc : sched m1 e.pick = m1 := by unfold sched; rw [if_pos (by omega), if_neg (by omega)]
          have hcu : (sched m1 e.pick).cur = m1.cur := by rw [hsc]
          have hst : kstep m e = (m1, ⟨false, m1.cur, val⟩) := by simp only [kstep, hi33]; rw [hcu, hsc]
          try simp only [Exit.then, Exit.inBlock]
          exact s_ret tabOk tabZ_ok h124 [(.cell 4 44, {k := 2})] (vs := [.agg #[.bool false, .int .i8 m1.cur, .int .u64 val]]) (φ := (b8 = b8 ∧ Nat.ble (0 + 3) 3 = true) ∧ True) rfl (by kernel_rfl) ⟨⟨rfl, rfl⟩, trivial⟩ (by simp only [hst]; exact ⟨rfl, h124.kn (k := 0) rfl, h124.frame⟩)
    ·
      have hc38f : ¬ m1.cur < 0 := by simpa using hc38
      refine wp_skip ?_
      refine hK34 _ _ ?_
      clear hK34
      refine wp_seq_k fun K125 hK125 => ?_
      refine nd_start (l := [0, 1, 2, 3, 4, 5, 6]) rfl ?_
      refine nd_batch tabOk tabZ_ok [(0, {}), (1, {}), (2, {}), (3, {k := 0, m := 1, vs := [.int .i8 m1.cur]}), (4, {}), (5, {})] [0, 3, 4, 6, 211] (T' := [(0, .pointer (some ⟨b, pre.length, none⟩)), (3, .pointer (some ⟨b2, 0, none⟩)), (4, .pointer (some ⟨b8, 0, none⟩)), (6, .int .u64 val), (211, .agg #[.bool false, .int .i8 m1.cur, .int .u64 val])]) (φ := (b = b ∧ cellsAre (pre ++ machC m1 ++ post) (pre.length + 1) [.int .i8 m1.cur]) ∧ True) (rest := [6]) h37 (by kernel_rfl) rfl ⟨⟨rfl, (mid_cur' pre post m1 rfl)⟩, trivial⟩ fun a126 h127 => ?_
      clear h37
      refine nd_op ?_
      refine op_store tabOk {k := 2} (L' := [(b, ⟨pre ++ machC m1 ++ post, ty, false⟩), (b2, ⟨[.int .u8 e.kind, .int .u32 e.pick, .int .u64 e.arg], 31, false⟩), (b8, ⟨[.bool false, .int .i8 m1.cur, .int .u64 val], 44, false⟩)]) (φ := b8 = b8 ∧ Nat.ble (0 + 3) 3 = true) h127 rfl rfl rfl (by kernel_rfl) ⟨rfl, rfl⟩ fun w128 h129 => ?_
      clear h127
      refine nd_done ?_
      refine hK125 _ _ ?_
      clear hK125
      refine wp_ret ?_
      have hsc : sched m1 e.pick = m1 := by unfold sched; rw [if_neg (by omega)]
      have hcu : (sched m1 e.pick).cur = m1.cur := by rw [hsc]
      have hst : kstep m e = (m1, ⟨false, m1.cur, val⟩) := by simp only [kstep, hi33]; rw [hcu, hsc]
      try simp only [Exit.then, Exit.inBlock]
      exact s_ret tabOk tabZ_ok h129 [(.cell 4 44, {k := 2})] (vs := [.agg #[.bool false, .int .i8 m1.cur, .int .u64 val]]) (φ := (b8 = b8 ∧ Nat.ble (0 + 3) 3 = true) ∧ True) rfl (by kernel_rfl) ⟨⟨rfl, rfl⟩, trivial⟩ (by simp only [hst]; exact ⟨rfl, h129.kn (k := 0) rfl, h129.frame⟩)
  clear hK28
  refine wp_seq_k fun K130 hK130 => ?_
  refine nd_start (l := [0, 1]) rfl ?_
  refine nd_batch tabOk tabZ_ok [(0, {}), (1, {k := 1})] [5, 4, 3, 0, 1, 6, 17] (T' := [(5, .pointer (some ⟨b17, 0, none⟩)), (4, .pointer (some ⟨b8, 0, none⟩)), (3, .pointer (some ⟨b2, 0, none⟩)), (0, .pointer (some ⟨b, pre.length, none⟩)), (1, .agg #[.int .u8 e.kind, .int .u32 e.pick, .int .u64 e.arg]), (6, .int .u64 0), (17, .int .u8 e.kind)]) (φ := (b2 = b2 ∧ Nat.ble (0 + 1) 3 = true) ∧ True) (rest := []) h27 (by kernel_rfl) rfl ⟨⟨rfl, rfl⟩, trivial⟩ fun a131 h132 => ?_
  clear h27
  refine nd_done ?_
  refine hK130 _ _ ?_
  clear hK130
  refine wp_block ?_
  refine wp_seq_k fun K133 hK133 => ?_
  refine nd_start (l := [0, 1]) rfl ?_
  refine nd_batch tabOk tabZ_ok [(0, {}), (1, {})] [5, 4, 3, 0, 1, 6, 17, 19] (T' := [(5, .pointer (some ⟨b17, 0, none⟩)), (4, .pointer (some ⟨b8, 0, none⟩)), (3, .pointer (some ⟨b2, 0, none⟩)), (0, .pointer (some ⟨b, pre.length, none⟩)), (1, .agg #[.int .u8 e.kind, .int .u32 e.pick, .int .u64 e.arg]), (6, .int .u64 0), (17, .int .u8 e.kind), (19, .bool (e.kind == 0))]) (φ := True) (rest := []) h132 (by kernel_rfl) rfl trivial fun a134 h135 => ?_
  clear h132
  refine nd_done ?_
  refine hK133 _ _ ?_
  clear hK133
  refine c_split h135 (b := (e.kind == 0)) rfl (fun hc136 => ?_) (fun hc136 => ?_)
  ·
    have hc136f : e.kind = 0 := by simpa using hc136
    have hk0 : e.kind = 0 := hc136f
    refine wp_seq_k fun K137 hK137 => ?_
    refine nd_start (l := [0, 1, 2, 3, 4, 5, 6, 7]) rfl ?_
    refine nd_batch tabOk tabZ_ok [(0, {}), (1, {}), (2, {}), (3, {k := 0, m := 1, vs := [.int .u64 m.now]}), (4, {m := 1}), (5, {}), (6, {})] [5, 4, 3, 0, 1, 6, 17, 25, 27] (T' := [(5, .pointer (some ⟨b17, 0, none⟩)), (4, .pointer (some ⟨b8, 0, none⟩)), (3, .pointer (some ⟨b2, 0, none⟩)), (0, .pointer (some ⟨b, pre.length, none⟩)), (1, .agg #[.int .u8 e.kind, .int .u32 e.pick, .int .u64 e.arg]), (6, .int .u64 0), (17, .int .u8 e.kind), (25, .int .u64 (IntKind.wrap .u64 (m.now + 1))), (27, .pointer (some ⟨b, pre.length, none⟩))]) (φ := (b = b ∧ cellsAre (pre ++ machC m ++ post) pre.length [.int .u64 m.now]) ∧ True) (rest := [7]) h135 (by kernel_rfl) rfl ⟨⟨rfl, (mid_now' pre post m rfl)⟩, trivial⟩ fun a138 h139 => ?_
    clear h135
    refine nd_op ?_
    refine op_store tabOk {k := 0, m := 1, vs := (pre ++ machC ({ m with now := IntKind.wrap .u64 (m.now + 1) } : Mach) ++ post)} (L' := [(b, ⟨pre ++ machC ({ m with now := IntKind.wrap .u64 (m.now + 1) } : Mach) ++ post, ty, false⟩), (b2, ⟨[.int .u8 e.kind, .int .u32 e.pick, .int .u64 e.arg], 31, false⟩), (b8, ⟨[.bool false, .int .i8 0, .int .u64 0], 44, false⟩), (b17, ⟨[.bool true, .int .i8 m.cur, .int .u64 0], 44, false⟩)]) (φ := b = b ∧ Nat.ble (pre.length + 1) (pre ++ machC m ++ post).length = true ∧ splice (pre ++ machC m ++ post) pre.length [.int .u64 (IntKind.wrap .u64 (m.now + 1))] = (pre ++ machC ({ m with now := IntKind.wrap .u64 (m.now + 1) } : Mach) ++ post)) h139 rfl rfl rfl (by kernel_rfl) ⟨rfl, (mid_len pre post m (by omega)), (set_now pre post m (IntKind.wrap .u64 (m.now + 1)))⟩ fun w140 h141 => ?_
    clear h139
    refine nd_done ?_
    refine hK137 _ _ ?_
    clear hK137
    refine wp_seq_k fun K142 hK142 => ?_
    refine nd_start (l := [0, 1, 2, 3, 4]) rfl ?_
    refine nd_batch tabOk tabZ_ok [(0, {}), (1, {}), (2, {}), (3, {k := 0, m := 1, vs := [.int .i8 m.cur]}), (4, {})] [5, 4, 3, 0, 1, 6, 17, 32] (T' := [(5, .pointer (some ⟨b17, 0, none⟩)), (4, .pointer (some ⟨b8, 0, none⟩)), (3, .pointer (some ⟨b2, 0, none⟩)), (0, .pointer (some ⟨b, pre.length, none⟩)), (1, .agg #[.int .u8 e.kind, .int .u32 e.pick, .int .u64 e.arg]), (6, .int .u64 0), (17, .int .u8 e.kind), (32, .bool (decide (m.cur ≥ 0)))]) (φ := (b = b ∧ cellsAre (pre ++ machC ({ m with now := IntKind.wrap .u64 (m.now + 1) } : Mach) ++ post) (pre.length + 1) [.int .i8 m.cur]) ∧ True) (rest := []) h141 (by kernel_rfl) rfl ⟨⟨rfl, (mid_cur' pre post ({ m with now := IntKind.wrap .u64 (m.now + 1) } : Mach) rfl)⟩, trivial⟩ fun a143 h144 => ?_
    clear h141
    refine nd_done ?_
    refine hK142 _ _ ?_
    clear hK142
    refine c_split h144 (b := decide (m.cur ≥ 0)) rfl (fun hc145 => ?_) (fun hc145 => ?_)
    ·
      have hc145f : m.cur ≥ 0 := by simpa using hc145
      refine wp_seq_k fun K146 hK146 => ?_
      refine dr_start (KB := [b, b2, b8, b17]) (Bi := [[0, 1, 2, 3], [0, 1, 2, 3], [0, 1, 2, 3], [0, 1, 2, 3], [0, 1, 2, 3], [0, 1, 2, 3], [0, 1, 2, 3], [0, 1, 2, 3], []]) mixed h144 fun w147 h148 => ?_
      clear h144
      refine dr_batch tabOk tabZ_ok (by repeat (first | exact PF.body | with_reducible apply PF.inB | with_reducible apply PF.next)) [(0, {}), (1, {}), (2, {}), (3, {}), (4, {k := 0, m := 1, vs := [.int .i8 m.cur], p := 0}), (5, {}), (6, {}), (7, {})] [5, 4, 3, 0, 1, 6, 17, 40] (T' := [(5, .pointer (some ⟨b17, 0, none⟩)), (4, .pointer (some ⟨b8, 0, none⟩)), (3, .pointer (some ⟨b2, 0, none⟩)), (0, .pointer (some ⟨b, pre.length, none⟩)), (1, .agg #[.int .u8 e.kind, .int .u32 e.pick, .int .u64 e.arg]), (6, .int .u64 0), (17, .int .u8 e.kind), (40, .pointer (some ⟨b, pre.length + 2 + (m.cur.toNat * 1), none⟩))]) (φ := (b = b ∧ cellsAre (pre ++ machC ({ m with now := IntKind.wrap .u64 (m.now + 1) } : Mach) ++ post) (pre.length + 1) [.int .i8 m.cur]) ∧ (0 ≤ m.cur ∧ m.cur < 4) ∧ True) (fuel := 1) h148 (by kernel_rfl) rfl (by kernel_rfl) (by kernel_rfl) ⟨trivial, trivial, trivial, trivial, rfl, trivial, trivial, trivial, trivial⟩ ⟨⟨rfl, (mid_cur' pre post ({ m with now := IntKind.wrap .u64 (m.now + 1) } : Mach) rfl)⟩, ⟨by omega, by omega⟩, trivial⟩ fun a150 h151 => ?_
      clear h148
      refine wpAnyK_one (i := 8) (fuel := 0) (by kernel_rfl) ?_
      refine op_store tabOk {k := 0, m := 1, vs := (pre ++ machC (({ m with now := IntKind.wrap .u64 (m.now + 1) } : Mach).setSt m.cur.toNat 0) ++ post)} (L' := [(b, ⟨pre ++ machC (({ m with now := IntKind.wrap .u64 (m.now + 1) } : Mach).setSt m.cur.toNat 0) ++ post, ty, false⟩), (b2, ⟨[.int .u8 e.kind, .int .u32 e.pick, .int .u64 e.arg], 31, false⟩), (b8, ⟨[.bool false, .int .i8 0, .int .u64 0], 44, false⟩), (b17, ⟨[.bool true, .int .i8 m.cur, .int .u64 0], 44, false⟩)]) (φ := b = b ∧ Nat.ble (pre.length + 2 + (m.cur.toNat * 1) + 1) (pre ++ machC ({ m with now := IntKind.wrap .u64 (m.now + 1) } : Mach) ++ post).length = true ∧ splice (pre ++ machC ({ m with now := IntKind.wrap .u64 (m.now + 1) } : Mach) ++ post) (pre.length + 2 + (m.cur.toNat * 1)) [.int .u8 0] = (pre ++ machC (({ m with now := IntKind.wrap .u64 (m.now + 1) } : Mach).setSt m.cur.toNat 0) ++ post)) h151 rfl rfl rfl (by kernel_rfl) ⟨rfl, (mid_len pre post ({ m with now := IntKind.wrap .u64 (m.now + 1) } : Mach) (by omega)), (set_st pre post ({ m with now := IntKind.wrap .u64 (m.now + 1) } : Mach) (by omega) 0)⟩ fun w152 h153 => ?_
      have hkh153 := h151.known
      refine ⟨keepNil, ?_⟩
      clear h151
      refine wpAnyK_done (by kernel_rfl) ?_ _
      refine hK146 _ _ ?_
      clear hK146
      refine nd_start (l := [0, 1, 2, 3]) rfl ?_
      refine nd_batch tabOk tabZ_ok [(0, {}), (1, {}), (2, {})] [5, 4, 3, 0, 1, 6, 17, 43] (T' := [(5, .pointer (some ⟨b17, 0, none⟩)), (4, .pointer (some ⟨b8, 0, none⟩)), (3, .pointer (some ⟨b2, 0, none⟩)), (0, .pointer (some ⟨b, pre.length, none⟩)), (1, .agg #[.int .u8 e.kind, .int .u32 e.pick, .int .u64 e.arg]), (6, .int .u64 0), (17, .int .u8 e.kind), (43, .pointer (some ⟨b, pre.length + 1, none⟩))]) (φ := True) (rest := [3]) h153 (by kernel_rfl) rfl trivial fun a154 h155 => ?_
      clear h153
      refine nd_op ?_
      refine op_store tabOk {k := 0, m := 1, vs := (pre ++ machC ({ (({ m with now := IntKind.wrap .u64 (m.now + 1) } : Mach).setSt m.cur.toNat 0) with cur := -1 } : Mach) ++ post)} (L' := [(b, ⟨pre ++ machC ({ (({ m with now := IntKind.wrap .u64 (m.now + 1) } : Mach).setSt m.cur.toNat 0) with cur := -1 } : Mach) ++ post, ty, false⟩), (b2, ⟨[.int .u8 e.kind, .int .u32 e.pick, .int .u64 e.arg], 31, false⟩), (b8, ⟨[.bool false, .int .i8 0, .int .u64 0], 44, false⟩), (b17, ⟨[.bool true, .int .i8 m.cur, .int .u64 0], 44, false⟩)]) (φ := b = b ∧ Nat.ble (pre.length + 1 + 1) (pre ++ machC (({ m with now := IntKind.wrap .u64 (m.now + 1) } : Mach).setSt m.cur.toNat 0) ++ post).length = true ∧ splice (pre ++ machC (({ m with now := IntKind.wrap .u64 (m.now + 1) } : Mach).setSt m.cur.toNat 0) ++ post) (pre.length + 1) [.int .i8 (-1)] = (pre ++ machC ({ (({ m with now := IntKind.wrap .u64 (m.now + 1) } : Mach).setSt m.cur.toNat 0) with cur := -1 } : Mach) ++ post)) h155 rfl rfl rfl (by kernel_rfl) ⟨rfl, (mid_len pre post (({ m with now := IntKind.wrap .u64 (m.now + 1) } : Mach).setSt m.cur.toNat 0) (by omega)), (set_cur pre post (({ m with now := IntKind.wrap .u64 (m.now + 1) } : Mach).setSt m.cur.toNat 0) (-1))⟩ fun w156 h157 => ?_
      clear h155
      refine nd_done ?_
      exact hm31 ({ (({ m with now := IntKind.wrap .u64 (m.now + 1) } : Mach).setSt m.cur.toNat 0) with cur := -1 } : Mach) 0 _ _ (by unfold sw; rw [if_pos hk0, if_pos (by omega)]) ((h157.memMono (List.Sublist.cons_cons _ (List.Sublist.cons_cons _ (List.Sublist.cons_cons _ (List.Sublist.cons _ List.Sublist.slnil))))).slotsMono (restr_spec (keep := [0, 3, 4, 6]) rfl))
    ·
      have hc145f : ¬ m.cur ≥ 0 := by simpa using hc145
      refine wp_skip ?_
      exact hm31 ({ m with now := IntKind.wrap .u64 (m.now + 1) } : Mach) 0 _ _ (by unfold sw; rw [if_pos hk0, if_neg (by omega)]) ((h144.memMono (List.Sublist.cons_cons _ (List.Sublist.cons_cons _ (List.Sublist.cons_cons _ (List.Sublist.cons _ List.Sublist.slnil))))).slotsMono (restr_spec (keep := [0, 3, 4, 6]) rfl))
  ·
    have hc136f : e.kind ≠ 0 := by simpa using hc136
    have hk0 : e.kind ≠ 0 := hc136f
    refine wp_seq_k fun K158 hK158 => ?_
    refine nd_start (l := [0, 1]) rfl ?_
    refine nd_batch tabOk tabZ_ok [(0, {}), (1, {})] [5, 4, 3, 0, 1, 6, 17, 44] (T' := [(5, .pointer (some ⟨b17, 0, none⟩)), (4, .pointer (some ⟨b8, 0, none⟩)), (3, .pointer (some ⟨b2, 0, none⟩)), (0, .pointer (some ⟨b, pre.length, none⟩)), (1, .agg #[.int .u8 e.kind, .int .u32 e.pick, .int .u64 e.arg]), (6, .int .u64 0), (17, .int .u8 e.kind), (44, .bool (e.kind == 1))]) (φ := True) (rest := []) h135 (by kernel_rfl) rfl trivial fun a159 h160 => ?_
    clear h135
    refine nd_done ?_
    refine hK158 _ _ ?_
    clear hK158
    refine c_split h160 (b := (e.kind == 1)) rfl (fun hc161 => ?_) (fun hc161 => ?_)
    ·
      have hc161f : e.kind = 1 := by simpa using hc161
      have hk1 : e.kind = 1 := hc161f
      refine wp_seq_k fun K162 hK162 => ?_
      refine nd_start (l := [0]) rfl ?_
      refine nd_batch tabOk tabZ_ok [(0, {})] [5, 4, 3, 0, 1, 6, 17, 7] (T' := [(5, .pointer (some ⟨b17, 0, none⟩)), (4, .pointer (some ⟨b8, 0, none⟩)), (3, .pointer (some ⟨b2, 0, none⟩)), (0, .pointer (some ⟨b, pre.length, none⟩)), (1, .agg #[.int .u8 e.kind, .int .u32 e.pick, .int .u64 e.arg]), (6, .int .u64 0), (17, .int .u8 e.kind), (7, .bool false)]) (φ := True) (rest := []) h160 (by kernel_rfl) rfl trivial fun a163 h164 => ?_
      clear h160
      refine nd_done ?_
      refine hK162 _ _ ?_
      clear hK162
      refine wp_seq_k fun K165 hK165 => ?_
      refine wp_seq_k fun K166 hK166 => ?_
      refine nd_start (l := [0]) rfl ?_
      refine nd_batch tabOk tabZ_ok [(0, {})] [5, 4, 3, 0, 1, 6, 17, 7, 46] (T' := [(5, .pointer (some ⟨b17, 0, none⟩)), (4, .pointer (some ⟨b8, 0, none⟩)), (3, .pointer (some ⟨b2, 0, none⟩)), (0, .pointer (some ⟨b, pre.length, none⟩)), (1, .agg #[.int .u8 e.kind, .int .u32 e.pick, .int .u64 e.arg]), (6, .int .u64 0), (17, .int .u8 e.kind), (7, .bool false), (46, .int .i64 0)]) (φ := True) (rest := []) h164 (by kernel_rfl) rfl trivial fun a167 h168 => ?_
      clear h164
      refine nd_done ?_
      refine hK166 _ _ ?_
      clear hK166
      refine wp_block ?_
      refine wp_loop_ghost (fun g ga gw => ∃ (k : Nat) (m' : Mach) (tk : Bool), (k ≤ 4) ∧ (g = 4 - k) ∧ (sigTo m e.arg k = (m', tk)) ∧ St ⟨212, [b], w, Rws [], Ff []⟩ [(0, .pointer (some ⟨b, pre.length, none⟩)), (3, .pointer (some ⟨b2, 0, none⟩)), (4, .pointer (some ⟨b8, 0, none⟩)), (5, .pointer (some ⟨b17, 0, none⟩)), (6, .int .u64 0), (7, .bool tk), (46, .int .i64 ((k : Nat) : Int))] [(b, ⟨pre ++ machC m' ++ post, ty, false⟩), (b2, ⟨[.int .u8 e.kind, .int .u32 e.pick, .int .u64 e.arg], 31, false⟩), (b8, ⟨[.bool false, .int .i8 0, .int .u64 0], 44, false⟩), (b17, ⟨[.bool true, .int .i8 m.cur, .int .u64 0], 44, false⟩)] ga gw) 4 ⟨0, m, false, by decide, rfl, rfl, (h168.slotsMono (restr_spec (keep := [0, 3, 4, 5, 6, 7, 46]) rfl))⟩ ?_
      clear h168
      rintro g a169 w170 ⟨k, m', tk, hi172, hi173, hi174, h171⟩
      have hmc := (sigTo_ok hm he.2.2 k); rw [hi174] at hmc
      refine wp_seq_k fun K175 hK175 => ?_
      refine nd_start (l := [0]) rfl ?_
      refine nd_batch tabOk tabZ_ok [(0, {})] [0, 3, 4, 5, 6, 7, 46, 47] (T' := [(0, .pointer (some ⟨b, pre.length, none⟩)), (3, .pointer (some ⟨b2, 0, none⟩)), (4, .pointer (some ⟨b8, 0, none⟩)), (5, .pointer (some ⟨b17, 0, none⟩)), (6, .int .u64 0), (7, .bool tk), (46, .int .i64 ((k : Nat) : Int)), (47, .bool (decide (((k : Nat) : Int) < 4)))]) (φ := True) (rest := []) h171 (by kernel_rfl) rfl trivial fun a176 h177 => ?_
      clear h171
      refine nd_done ?_
      refine hK175 _ _ ?_
      clear hK175
      refine wp_seq_k fun K178 hK178 => ?_
      refine c_split h177 (b := decide (((k : Nat) : Int) < 4)) rfl (fun hc179 => ?_) (fun hc179 => ?_)
      ·
        have hc179f : ((k : Nat) : Int) < 4 := by simpa using hc179
        refine wp_skip ?_
        refine hK178 _ _ ?_
        clear hK178
        refine wp_seq_k fun K180 hK180 => ?_
        refine wp_block ?_
        refine wp_seq_k fun K181 hK181 => ?_
        refine nd_start (l := [0, 1]) rfl ?_
        refine nd_batch tabOk tabZ_ok [(0, {}), (1, {})] [0, 3, 4, 5, 6, 7, 46, 8] (T' := [(0, .pointer (some ⟨b, pre.length, none⟩)), (3, .pointer (some ⟨b2, 0, none⟩)), (4, .pointer (some ⟨b8, 0, none⟩)), (5, .pointer (some ⟨b17, 0, none⟩)), (6, .int .u64 0), (7, .bool tk), (46, .int .i64 ((k : Nat) : Int)), (8, .int .i64 ((k : Nat) : Int))]) (φ := True) (rest := []) h177 (by kernel_rfl) rfl trivial fun a182 h183 => ?_
        clear h177
        refine nd_done ?_
        refine hK181 _ _ ?_
        clear hK181
        refine wp_seq_k fun K184 hK184 => ?_
        rcases Bool.eq_false_or_eq_true (((m'.st k) == 2)) with hb185 | hb185
        ·
          have hb185f : (m'.st k) = 2 := by simpa using hb185
          have hs2 : m'.st k = 2 := hb185f
          refine nd_start (l := [0, 1, 2, 3, 4, 5, 6, 7, 8, 9, 10]) rfl ?_
          refine nd_batch tabOk tabZ_ok [(0, {}), (1, {}), (2, {}), (3, {}), (4, {}), (5, {k := 0, m := 1, vs := [.int .u8 (m'.st k)]}), (6, {f := 2}), (7, {}), (8, {}), (9, {}), (10, {})] [0, 3, 4, 5, 6, 7, 46, 8, 59] (T' := [(0, .pointer (some ⟨b, pre.length, none⟩)), (3, .pointer (some ⟨b2, 0, none⟩)), (4, .pointer (some ⟨b8, 0, none⟩)), (5, .pointer (some ⟨b17, 0, none⟩)), (6, .int .u64 0), (7, .bool tk), (46, .int .i64 ((k : Nat) : Int)), (8, .int .i64 ((k : Nat) : Int)), (59, .bool (!tk))]) (φ := (0 ≤ ((k : Nat) : Int) ∧ ((k : Nat) : Int) < 4) ∧ (b = b ∧ cellsAre (pre ++ machC m' ++ post) (pre.length + 2 + (k * 1)) [.int .u8 (m'.st k)]) ∧ (((m'.st k) == 2)) = true ∧ True) (rest := []) h183 (by kernel_rfl) rfl ⟨⟨by omega, by omega⟩, ⟨rfl, (mid_st pre post m' (by omega))⟩, hb185, trivial⟩ fun a186 h187 => ?_
          clear h183
          refine nd_done ?_
          refine hK184 _ _ ?_
          clear hK184
          refine c_split h187 (b := !tk) rfl (fun hc188 => ?_) (fun hc188 => ?_)
          ·
            have htk : tk = false := by simpa using hc188
            refine dr_start (KB := [b, b2, b8, b17]) (Bi := [[0, 1, 2, 3], [0, 1, 2, 3], [0, 1, 2, 3], [0, 1, 2, 3], [0, 1, 2, 3], [0, 1, 2, 3], [0, 1, 2, 3], [0, 1, 2, 3], [0, 1, 2, 3], [1], [0, 1, 2, 3], [0, 1, 2, 3], [0, 1, 2, 3], [], [0, 1, 2, 3]]) mixed h187 fun w189 h190 => ?_
            clear h187
            refine dr_batch tabOk tabZ_ok (by repeat (first | exact PF.body | with_reducible apply PF.inB | with_reducible apply PF.next)) [(0, {}), (1, {}), (2, {}), (3, {}), (4, {}), (5, {k := 1, p := 1}), (6, {}), (7, {}), (8, {}), (10, {}), (11, {})] [0, 3, 4, 5, 6, 7, 46, 8, 63, 65, 68, 70] (T' := [(0, .pointer (some ⟨b, pre.length, none⟩)), (3, .pointer (some ⟨b2, 0, none⟩)), (4, .pointer (some ⟨b8, 0, none⟩)), (5, .pointer (some ⟨b17, 0, none⟩)), (6, .int .u64 0), (7, .bool tk), (46, .int .i64 ((k : Nat) : Int)), (8, .int .i64 ((k : Nat) : Int)), (63, .int .i64 ((k : Nat) : Int)), (65, .int .u64 e.arg), (68, .pointer (some ⟨b, pre.length + 2 + (k * 1), none⟩)), (70, .pointer (some ⟨b, pre.length + 6, none⟩))]) (φ := (b2 = b2 ∧ Nat.ble (2 + 1) 3 = true) ∧ (0 ≤ ((k : Nat) : Int) ∧ ((k : Nat) : Int) < 4) ∧ True) (fuel := 4) h190 (by kernel_rfl) rfl (by kernel_rfl) (by kernel_rfl) ⟨trivial, trivial, trivial, trivial, trivial, rfl, trivial, trivial, trivial, trivial, trivial, trivial⟩ ⟨⟨rfl, rfl⟩, ⟨by omega, by omega⟩, trivial⟩ fun a192 h193 => ?_
            clear h190
            refine wpAnyK_one (i := 9) (fuel := 3) (by kernel_rfl) ?_
            refine op_store tabOk {k := 0, m := 1, vs := (pre ++ machC (m'.setSt k 0) ++ post)} (L' := [(b, ⟨pre ++ machC (m'.setSt k 0) ++ post, ty, false⟩), (b2, ⟨[.int .u8 e.kind, .int .u32 e.pick, .int .u64 e.arg], 31, false⟩), (b8, ⟨[.bool false, .int .i8 0, .int .u64 0], 44, false⟩), (b17, ⟨[.bool true, .int .i8 m.cur, .int .u64 0], 44, false⟩)]) (φ := b = b ∧ Nat.ble (pre.length + 2 + (k * 1) + 1) (pre ++ machC m' ++ post).length = true ∧ splice (pre ++ machC m' ++ post) (pre.length + 2 + (k * 1)) [.int .u8 0] = (pre ++ machC (m'.setSt k 0) ++ post)) h193 rfl rfl rfl (by kernel_rfl) ⟨rfl, (mid_len pre post m' (by omega)), (set_st pre post m' (by omega) 0)⟩ fun w194 h195 => ?_
            have hkh195 := h193.known
            refine ⟨(keepOf hkh195 h195.known (kcons (keepAt (q := 1) (q' := 1) rfl rfl) knil)), ?_⟩
            clear h193
            refine dr_batch tabOk tabZ_ok (by repeat (first | exact PF.body | with_reducible apply PF.inB | with_reducible apply PF.next)) [(12, {})] [0, 3, 4, 5, 6, 7, 46, 8, 65, 71] (T' := [(0, .pointer (some ⟨b, pre.length, none⟩)), (3, .pointer (some ⟨b2, 0, none⟩)), (4, .pointer (some ⟨b8, 0, none⟩)), (5, .pointer (some ⟨b17, 0, none⟩)), (6, .int .u64 0), (7, .bool tk), (46, .int .i64 ((k : Nat) : Int)), (8, .int .i64 ((k : Nat) : Int)), (65, .int .u64 e.arg), (71, .pointer (some ⟨b, pre.length + 6 + (k * 1), none⟩))]) (φ := (0 ≤ ((k : Nat) : Int) ∧ ((k : Nat) : Int) < 4) ∧ True) (fuel := 2) h195 (by kernel_rfl) rfl (by kernel_rfl) (by kernel_rfl) ⟨trivial, trivial⟩ ⟨⟨by omega, by omega⟩, trivial⟩ fun a196 h197 => ?_
            clear h195
            refine wpAnyK_one (i := 13) (fuel := 1) (by kernel_rfl) ?_
            refine op_store tabOk {k := 0, m := 1, vs := (pre ++ machC ((m'.setSt k 0).setRg k e.arg) ++ post)} (L' := [(b, ⟨pre ++ machC ((m'.setSt k 0).setRg k e.arg) ++ post, ty, false⟩), (b2, ⟨[.int .u8 e.kind, .int .u32 e.pick, .int .u64 e.arg], 31, false⟩), (b8, ⟨[.bool false, .int .i8 0, .int .u64 0], 44, false⟩), (b17, ⟨[.bool true, .int .i8 m.cur, .int .u64 0], 44, false⟩)]) (φ := b = b ∧ Nat.ble (pre.length + 6 + (k * 1) + 1) (pre ++ machC (m'.setSt k 0) ++ post).length = true ∧ splice (pre ++ machC (m'.setSt k 0) ++ post) (pre.length + 6 + (k * 1)) [.int .u64 e.arg] = (pre ++ machC ((m'.setSt k 0).setRg k e.arg) ++ post)) h197 rfl rfl rfl (by kernel_rfl) ⟨rfl, (mid_len pre post (m'.setSt k 0) (by omega)), (set_rg pre post (m'.setSt k 0) (by omega) e.arg)⟩ fun w198 h199 => ?_
            have hkh199 := h197.known
            refine ⟨keepNil, ?_⟩
            clear h197
            refine dr_batch tabOk tabZ_ok (by repeat (first | exact PF.body | with_reducible apply PF.inB | with_reducible apply PF.next)) [(14, {})] [0, 3, 4, 5, 6, 46, 8, 7] (T' := [(0, .pointer (some ⟨b, pre.length, none⟩)), (3, .pointer (some ⟨b2, 0, none⟩)), (4, .pointer (some ⟨b8, 0, none⟩)), (5, .pointer (some ⟨b17, 0, none⟩)), (6, .int .u64 0), (46, .int .i64 ((k : Nat) : Int)), (8, .int .i64 ((k : Nat) : Int)), (7, .bool true)]) (φ := True) (fuel := 0) h199 (by kernel_rfl) rfl (by kernel_rfl) (by kernel_rfl) ⟨trivial, trivial⟩ trivial fun a200 h201 => ?_
            clear h199
            refine wpAnyK_done (by kernel_rfl) ?_ _
            refine hK180 _ _ ?_
            clear hK180
            refine nd_start (l := [0, 1]) rfl ?_
            refine nd_batch tabOk tabZ_ok [(0, {}), (1, {})] [0, 3, 4, 5, 6, 8, 7, 46] (T' := [(0, .pointer (some ⟨b, pre.length, none⟩)), (3, .pointer (some ⟨b2, 0, none⟩)), (4, .pointer (some ⟨b8, 0, none⟩)), (5, .pointer (some ⟨b17, 0, none⟩)), (6, .int .u64 0), (8, .int .i64 ((k : Nat) : Int)), (7, .bool true), (46, .int .i64 (((k : Nat) : Int) + 1))]) (φ := inR .i64 (((k : Nat) : Int) + 1) ∧ True) (rest := []) h201 (by kernel_rfl) rfl ⟨⟨by omega, by omega⟩, trivial⟩ fun a202 h203 => ?_
            clear h201
            refine nd_done ?_
            exact ⟨(g - 1), by omega, (k + 1), ((m'.setSt k 0).setRg k e.arg), true, by omega, by omega, by simp [sigTo, hi174, hs2, htk], (h203.slotsMono (restr_spec (keep := [0, 3, 4, 5, 6, 7, 46]) rfl))⟩
          ·
            have htk : tk = true := by simpa using hc188
            refine wp_skip ?_
            refine hK180 _ _ ?_
            clear hK180
            refine nd_start (l := [0, 1]) rfl ?_
            refine nd_batch tabOk tabZ_ok [(0, {}), (1, {})] [0, 3, 4, 5, 6, 7, 8, 46] (T' := [(0, .pointer (some ⟨b, pre.length, none⟩)), (3, .pointer (some ⟨b2, 0, none⟩)), (4, .pointer (some ⟨b8, 0, none⟩)), (5, .pointer (some ⟨b17, 0, none⟩)), (6, .int .u64 0), (7, .bool tk), (8, .int .i64 ((k : Nat) : Int)), (46, .int .i64 (((k : Nat) : Int) + 1))]) (φ := inR .i64 (((k : Nat) : Int) + 1) ∧ True) (rest := []) h187 (by kernel_rfl) rfl ⟨⟨by omega, by omega⟩, trivial⟩ fun a204 h205 => ?_
            clear h187
            refine nd_done ?_
            exact ⟨(g - 1), by omega, (k + 1), m', tk, by omega, by omega, by rw [sigTo, if_neg (by rw [hi174]; simp [htk])]; exact hi174, (h205.slotsMono (restr_spec (keep := [0, 3, 4, 5, 6, 7, 46]) rfl))⟩
        ·
          have hb185f : (m'.st k) ≠ 2 := by simpa using hb185
          have hs2 : m'.st k ≠ 2 := hb185f
          refine nd_start (l := [0, 1, 2, 3, 4, 5, 6, 7, 8, 9, 10]) rfl ?_
          refine nd_batch tabOk tabZ_ok [(0, {}), (1, {}), (2, {}), (3, {}), (4, {}), (5, {k := 0, m := 1, vs := [.int .u8 (m'.st k)]}), (6, {f := 1}), (7, {}), (8, {}), (9, {}), (10, {})] [0, 3, 4, 5, 6, 7, 46, 8, 59] (T' := [(0, .pointer (some ⟨b, pre.length, none⟩)), (3, .pointer (some ⟨b2, 0, none⟩)), (4, .pointer (some ⟨b8, 0, none⟩)), (5, .pointer (some ⟨b17, 0, none⟩)), (6, .int .u64 0), (7, .bool tk), (46, .int .i64 ((k : Nat) : Int)), (8, .int .i64 ((k : Nat) : Int)), (59, .bool false)]) (φ := (0 ≤ ((k : Nat) : Int) ∧ ((k : Nat) : Int) < 4) ∧ (b = b ∧ cellsAre (pre ++ machC m' ++ post) (pre.length + 2 + (k * 1)) [.int .u8 (m'.st k)]) ∧ (((m'.st k) == 2)) = false ∧ True) (rest := []) h183 (by kernel_rfl) rfl ⟨⟨by omega, by omega⟩, ⟨rfl, (mid_st pre post m' (by omega))⟩, hb185, trivial⟩ fun a206 h207 => ?_
          clear h183
          refine nd_done ?_
          refine hK184 _ _ ?_
          clear hK184
          refine c_false h207 rfl ?_
          refine wp_skip ?_
          refine hK180 _ _ ?_
          clear hK180
          refine nd_start (l := [0, 1]) rfl ?_
          refine nd_batch tabOk tabZ_ok [(0, {}), (1, {})] [0, 3, 4, 5, 6, 7, 8, 46] (T' := [(0, .pointer (some ⟨b, pre.length, none⟩)), (3, .pointer (some ⟨b2, 0, none⟩)), (4, .pointer (some ⟨b8, 0, none⟩)), (5, .pointer (some ⟨b17, 0, none⟩)), (6, .int .u64 0), (7, .bool tk), (8, .int .i64 ((k : Nat) : Int)), (46, .int .i64 (((k : Nat) : Int) + 1))]) (φ := inR .i64 (((k : Nat) : Int) + 1) ∧ True) (rest := []) h207 (by kernel_rfl) rfl ⟨⟨by omega, by omega⟩, trivial⟩ fun a208 h209 => ?_
          clear h207
          refine nd_done ?_
          exact ⟨(g - 1), by omega, (k + 1), m', tk, by omega, by omega, by rw [sigTo, if_neg (by rw [hi174]; simp [hs2])]; exact hi174, (h209.slotsMono (restr_spec (keep := [0, 3, 4, 5, 6, 7, 46]) rfl))⟩
      ·
        have hc179f : ¬ ((k : Nat) : Int) < 4 := by simpa using hc179
        have hk4 : k = 4 := by omega
        subst hk4
        refine wp_exit ?_
        refine hK165 _ _ ?_
        clear hK165
        refine wp_seq_k fun K210 hK210 => ?_
        refine nd_start (l := [0, 1]) rfl ?_
        refine nd_batch tabOk tabZ_ok [(0, {}), (1, {})] [0, 3, 4, 5, 6, 7, 74] (T' := [(0, .pointer (some ⟨b, pre.length, none⟩)), (3, .pointer (some ⟨b2, 0, none⟩)), (4, .pointer (some ⟨b8, 0, none⟩)), (5, .pointer (some ⟨b17, 0, none⟩)), (6, .int .u64 0), (7, .bool tk), (74, .bool (!tk))]) (φ := True) (rest := []) h177 (by kernel_rfl) rfl trivial fun a211 h212 => ?_
        clear h177
        refine nd_done ?_
        refine hK210 _ _ ?_
        clear hK210
        refine c_split h212 (b := !tk) rfl (fun hc213 => ?_) (fun hc213 => ?_)
        ·
          have htk : tk = false := by simpa using hc213
          refine dr_start (KB := [b, b2, b8, b17]) (Bi := [[0, 1, 2, 3], [0, 1, 2, 3], [0, 1, 2, 3], [0, 1, 2, 3], [0, 1, 2, 3], [0, 1, 2, 3], [0, 1, 2, 3], [0, 1, 2, 3], [0, 1, 2, 3], [0, 1, 2, 3], []]) mixed h212 fun w214 h215 => ?_
          clear h212
          refine dr_batch tabOk tabZ_ok (by repeat (first | exact PF.body | with_reducible apply PF.inB | with_reducible apply PF.next)) [(0, {}), (1, {}), (2, {}), (3, {}), (4, {k := 0, m := 1, vs := [.int .u64 m'.word], p := 0}), (5, {}), (6, {k := 1, p := 1}), (7, {}), (8, {}), (9, {})] [0, 3, 4, 5, 6, 7, 82, 84] (T' := [(0, .pointer (some ⟨b, pre.length, none⟩)), (3, .pointer (some ⟨b2, 0, none⟩)), (4, .pointer (some ⟨b8, 0, none⟩)), (5, .pointer (some ⟨b17, 0, none⟩)), (6, .int .u64 0), (7, .bool tk), (82, .int .u64 (bitI .or .u64 m'.word e.arg)), (84, .pointer (some ⟨b, pre.length + 10, none⟩))]) (φ := (b = b ∧ cellsAre (pre ++ machC m' ++ post) (pre.length + 10) [.int .u64 m'.word]) ∧ (b2 = b2 ∧ Nat.ble (2 + 1) 3 = true) ∧ True) (fuel := 1) h215 (by kernel_rfl) rfl (by kernel_rfl) (by kernel_rfl) ⟨trivial, trivial, trivial, trivial, rfl, trivial, rfl, trivial, trivial, trivial, trivial⟩ ⟨⟨rfl, (mid_word' pre post m' rfl)⟩, ⟨rfl, rfl⟩, trivial⟩ fun a217 h218 => ?_
          clear h215
          refine wpAnyK_one (i := 10) (fuel := 0) (by kernel_rfl) ?_
          refine op_store tabOk {k := 0, m := 1, vs := (pre ++ machC ({ m' with word := bitI .or .u64 m'.word e.arg } : Mach) ++ post)} (L' := [(b, ⟨pre ++ machC ({ m' with word := bitI .or .u64 m'.word e.arg } : Mach) ++ post, ty, false⟩), (b2, ⟨[.int .u8 e.kind, .int .u32 e.pick, .int .u64 e.arg], 31, false⟩), (b8, ⟨[.bool false, .int .i8 0, .int .u64 0], 44, false⟩), (b17, ⟨[.bool true, .int .i8 m.cur, .int .u64 0], 44, false⟩)]) (φ := b = b ∧ Nat.ble (pre.length + 10 + 1) (pre ++ machC m' ++ post).length = true ∧ splice (pre ++ machC m' ++ post) (pre.length + 10) [.int .u64 (bitI .or .u64 m'.word e.arg)] = (pre ++ machC ({ m' with word := bitI .or .u64 m'.word e.arg } : Mach) ++ post)) h218 rfl rfl rfl (by kernel_rfl) ⟨rfl, (mid_len pre post m' (by omega)), (set_word pre post m' (bitI .or .u64 m'.word e.arg))⟩ fun w219 h220 => ?_
          have hkh220 := h218.known
          refine ⟨keepNil, ?_⟩
          clear h218
          refine wpAnyK_done (by kernel_rfl) ?_ _
          exact hm31 ({ m' with word := bitI .or .u64 m'.word e.arg } : Mach) 0 _ _ (by unfold sw; rw [if_neg hk0, if_pos hk1, hi174, htk]; simp) ((h220.memMono (List.Sublist.cons_cons _ (List.Sublist.cons_cons _ (List.Sublist.cons_cons _ (List.Sublist.cons _ List.Sublist.slnil))))).slotsMono (restr_spec (keep := [0, 3, 4, 6]) rfl))
        ·
          have htk : tk = true := by simpa using hc213
          refine wp_skip ?_
          exact hm31 m' 0 _ _ (by unfold sw; rw [if_neg hk0, if_pos hk1, hi174, htk]; simp) ((h212.memMono (List.Sublist.cons_cons _ (List.Sublist.cons_cons _ (List.Sublist.cons_cons _ (List.Sublist.cons _ List.Sublist.slnil))))).slotsMono (restr_spec (keep := [0, 3, 4, 6]) rfl))
    ·
      have hc161f : e.kind ≠ 1 := by simpa using hc161
      have hk1 : e.kind ≠ 1 := hc161f
      refine wp_seq_k fun K221 hK221 => ?_
      refine wp_seq_k fun K222 hK222 => ?_
      refine nd_start (l := [0, 1]) rfl ?_
      refine nd_batch tabOk tabZ_ok [(0, {}), (1, {})] [5, 4, 3, 0, 1, 6, 17, 85] (T' := [(5, .pointer (some ⟨b17, 0, none⟩)), (4, .pointer (some ⟨b8, 0, none⟩)), (3, .pointer (some ⟨b2, 0, none⟩)), (0, .pointer (some ⟨b, pre.length, none⟩)), (1, .agg #[.int .u8 e.kind, .int .u32 e.pick, .int .u64 e.arg]), (6, .int .u64 0), (17, .int .u8 e.kind), (85, .bool (e.kind == 2))]) (φ := True) (rest := []) h160 (by kernel_rfl) rfl trivial fun a223 h224 => ?_
      clear h160
      refine nd_done ?_
      refine hK222 _ _ ?_
      clear hK222
      refine c_split h224 (b := (e.kind == 2)) rfl (fun hc225 => ?_) (fun hc225 => ?_)
      ·
        have hc225f : e.kind = 2 := by simpa using hc225
        have hk2 : e.kind = 2 := hc225f
        refine wp_skip ?_
        refine hK221 _ _ ?_
        clear hK221
        refine c_split h224 (b := (e.kind == 2)) rfl (fun hc226 => ?_) (fun hc226 => ?_)
        ·
          have hc226f : e.kind = 2 := by simpa using hc226
          refine wp_seq_k fun K227 hK227 => ?_
          refine wp_seq_k fun K228 hK228 => ?_
          refine nd_start (l := [0, 1, 2, 3, 4]) rfl ?_
          refine nd_batch tabOk tabZ_ok [(0, {}), (1, {}), (2, {}), (3, {k := 0, m := 1, vs := [.int .i8 m.cur]}), (4, {})] [5, 4, 3, 0, 1, 6, 17, 85, 93] (T' := [(5, .pointer (some ⟨b17, 0, none⟩)), (4, .pointer (some ⟨b8, 0, none⟩)), (3, .pointer (some ⟨b2, 0, none⟩)), (0, .pointer (some ⟨b, pre.length, none⟩)), (1, .agg #[.int .u8 e.kind, .int .u32 e.pick, .int .u64 e.arg]), (6, .int .u64 0), (17, .int .u8 e.kind), (85, .bool (e.kind == 2)), (93, .bool (decide (m.cur < 0)))]) (φ := (b = b ∧ cellsAre (pre ++ machC m ++ post) (pre.length + 1) [.int .i8 m.cur]) ∧ True) (rest := []) h224 (by kernel_rfl) rfl ⟨⟨rfl, (mid_cur' pre post m rfl)⟩, trivial⟩ fun a229 h230 => ?_
          clear h224
          refine nd_done ?_
          refine hK228 _ _ ?_
          clear hK228
          refine c_split h230 (b := decide (m.cur < 0)) rfl (fun hc231 => ?_) (fun hc231 => ?_)
          ·
            have hc231f : m.cur < 0 := by simpa using hc231
            refine wp_seq_k fun K232 hK232 => ?_
            refine nd_start (l := [0, 1]) rfl ?_
            refine nd_batch tabOk tabZ_ok [(0, {k := 3})] [5, 4, 3, 0, 1, 6, 17, 85, 94] (T' := [(5, .pointer (some ⟨b17, 0, none⟩)), (4, .pointer (some ⟨b8, 0, none⟩)), (3, .pointer (some ⟨b2, 0, none⟩)), (0, .pointer (some ⟨b, pre.length, none⟩)), (1, .agg #[.int .u8 e.kind, .int .u32 e.pick, .int .u64 e.arg]), (6, .int .u64 0), (17, .int .u8 e.kind), (85, .bool (e.kind == 2)), (94, .agg #[.bool true, .int .i8 m.cur, .int .u64 0])]) (φ := (b17 = b17 ∧ Nat.ble (0 + 3) 3 = true) ∧ True) (rest := [1]) h230 (by kernel_rfl) rfl ⟨⟨rfl, rfl⟩, trivial⟩ fun a233 h234 => ?_
            clear h230
            refine nd_op ?_
            refine op_store tabOk {k := 2} (L' := [(b, ⟨pre ++ machC m ++ post, ty, false⟩), (b2, ⟨[.int .u8 e.kind, .int .u32 e.pick, .int .u64 e.arg], 31, false⟩), (b8, ⟨[.bool true, .int .i8 m.cur, .int .u64 0], 44, false⟩), (b17, ⟨[.bool true, .int .i8 m.cur, .int .u64 0], 44, false⟩)]) (φ := b8 = b8 ∧ Nat.ble (0 + 3) 3 = true) h234 rfl rfl rfl (by kernel_rfl) ⟨rfl, rfl⟩ fun w235 h236 => ?_
            clear h234
            refine nd_done ?_
            refine hK232 _ _ ?_
            clear hK232
            refine wp_ret ?_
            have hst : kstep m e = (m, ⟨true, m.cur, 0⟩) := by
              have hs : sw m e = none := by unfold sw; rw [if_neg hk0, if_neg hk1, if_pos (by omega), if_pos (by omega)]
              simp [kstep, hs]
            try simp only [Exit.then, Exit.inBlock]
            exact s_ret tabOk tabZ_ok h236 [(.cell 4 44, {k := 2})] (vs := [.agg #[.bool true, .int .i8 m.cur, .int .u64 0]]) (φ := (b8 = b8 ∧ Nat.ble (0 + 3) 3 = true) ∧ True) rfl (by kernel_rfl) ⟨⟨rfl, rfl⟩, trivial⟩ (by simp only [hst]; exact ⟨rfl, h236.kn (k := 0) rfl, h236.frame⟩)
          ·
            have hc231f : ¬ m.cur < 0 := by simpa using hc231
            refine wp_skip ?_
            refine hK227 _ _ ?_
            clear hK227
            refine wp_block ?_
            refine wp_seq_k fun K237 hK237 => ?_
            refine nd_start (l := [0, 1, 2, 3]) rfl ?_
            refine nd_batch tabOk tabZ_ok [(0, {}), (1, {k := 1}), (2, {}), (3, {})] [5, 4, 3, 0, 1, 6, 17, 85, 106] (T' := [(5, .pointer (some ⟨b17, 0, none⟩)), (4, .pointer (some ⟨b8, 0, none⟩)), (3, .pointer (some ⟨b2, 0, none⟩)), (0, .pointer (some ⟨b, pre.length, none⟩)), (1, .agg #[.int .u8 e.kind, .int .u32 e.pick, .int .u64 e.arg]), (6, .int .u64 0), (17, .int .u8 e.kind), (85, .bool (e.kind == 2)), (106, .bool (e.kind == 2))]) (φ := (b2 = b2 ∧ Nat.ble (0 + 1) 3 = true) ∧ True) (rest := []) h230 (by kernel_rfl) rfl ⟨⟨rfl, rfl⟩, trivial⟩ fun a238 h239 => ?_
            clear h230
            refine nd_done ?_
            refine hK237 _ _ ?_
            clear hK237
            refine c_split h239 (b := (e.kind == 2)) rfl (fun hc240 => ?_) (fun hc240 => ?_)
            ·
              have hc240f : e.kind = 2 := by simpa using hc240
              have hj2 : e.kind = 2 := hc240f
              refine wp_seq_k fun K241 hK241 => ?_
              refine dr_start (KB := [b, b2, b8, b17]) (Bi := [[0, 1, 2, 3], [0, 1, 2, 3], [0, 1, 2, 3], [0, 1, 2, 3], [0, 1, 2, 3], [0, 1, 2, 3], [0, 1, 2, 3], [0, 1, 2, 3], []]) mixed h239 fun w242 h243 => ?_
              clear h239
              refine dr_batch tabOk tabZ_ok (by repeat (first | exact PF.body | with_reducible apply PF.inB | with_reducible apply PF.next)) [(0, {}), (1, {}), (2, {}), (3, {}), (4, {k := 0, m := 1, vs := [.int .i8 m.cur], p := 0}), (5, {}), (6, {}), (7, {})] [5, 4, 3, 0, 1, 6, 17, 85, 117] (T' := [(5, .pointer (some ⟨b17, 0, none⟩)), (4, .pointer (some ⟨b8, 0, none⟩)), (3, .pointer (some ⟨b2, 0, none⟩)), (0, .pointer (some ⟨b, pre.length, none⟩)), (1, .agg #[.int .u8 e.kind, .int .u32 e.pick, .int .u64 e.arg]), (6, .int .u64 0), (17, .int .u8 e.kind), (85, .bool (e.kind == 2)), (117, .pointer (some ⟨b, pre.length + 2 + (m.cur.toNat * 1), none⟩))]) (φ := (b = b ∧ cellsAre (pre ++ machC m ++ post) (pre.length + 1) [.int .i8 m.cur]) ∧ (0 ≤ m.cur ∧ m.cur < 4) ∧ True) (fuel := 1) h243 (by kernel_rfl) rfl (by kernel_rfl) (by kernel_rfl) ⟨trivial, trivial, trivial, trivial, rfl, trivial, trivial, trivial, trivial⟩ ⟨⟨rfl, (mid_cur' pre post m rfl)⟩, ⟨by omega, by omega⟩, trivial⟩ fun a245 h246 => ?_
              clear h243
              refine wpAnyK_one (i := 8) (fuel := 0) (by kernel_rfl) ?_
              refine op_store tabOk {k := 0, m := 1, vs := (pre ++ machC (m.setSt m.cur.toNat 0) ++ post)} (L' := [(b, ⟨pre ++ machC (m.setSt m.cur.toNat 0) ++ post, ty, false⟩), (b2, ⟨[.int .u8 e.kind, .int .u32 e.pick, .int .u64 e.arg], 31, false⟩), (b8, ⟨[.bool false, .int .i8 0, .int .u64 0], 44, false⟩), (b17, ⟨[.bool true, .int .i8 m.cur, .int .u64 0], 44, false⟩)]) (φ := b = b ∧ Nat.ble (pre.length + 2 + (m.cur.toNat * 1) + 1) (pre ++ machC m ++ post).length = true ∧ splice (pre ++ machC m ++ post) (pre.length + 2 + (m.cur.toNat * 1)) [.int .u8 0] = (pre ++ machC (m.setSt m.cur.toNat 0) ++ post)) h246 rfl rfl rfl (by kernel_rfl) ⟨rfl, (mid_len pre post m (by omega)), (set_st pre post m (by omega) 0)⟩ fun w247 h248 => ?_
              have hkh248 := h246.known
              refine ⟨keepNil, ?_⟩
              clear h246
              refine wpAnyK_done (by kernel_rfl) ?_ _
              refine hK241 _ _ ?_
              clear hK241
              refine nd_start (l := [0, 1, 2, 3]) rfl ?_
              refine nd_batch tabOk tabZ_ok [(0, {}), (1, {}), (2, {})] [5, 4, 3, 0, 1, 6, 17, 85, 120] (T' := [(5, .pointer (some ⟨b17, 0, none⟩)), (4, .pointer (some ⟨b8, 0, none⟩)), (3, .pointer (some ⟨b2, 0, none⟩)), (0, .pointer (some ⟨b, pre.length, none⟩)), (1, .agg #[.int .u8 e.kind, .int .u32 e.pick, .int .u64 e.arg]), (6, .int .u64 0), (17, .int .u8 e.kind), (85, .bool (e.kind == 2)), (120, .pointer (some ⟨b, pre.length + 1, none⟩))]) (φ := True) (rest := [3]) h248 (by kernel_rfl) rfl trivial fun a249 h250 => ?_
              clear h248
              refine nd_op ?_
              refine op_store tabOk {k := 0, m := 1, vs := (pre ++ machC ({ (m.setSt m.cur.toNat 0) with cur := -1 } : Mach) ++ post)} (L' := [(b, ⟨pre ++ machC ({ (m.setSt m.cur.toNat 0) with cur := -1 } : Mach) ++ post, ty, false⟩), (b2, ⟨[.int .u8 e.kind, .int .u32 e.pick, .int .u64 e.arg], 31, false⟩), (b8, ⟨[.bool false, .int .i8 0, .int .u64 0], 44, false⟩), (b17, ⟨[.bool true, .int .i8 m.cur, .int .u64 0], 44, false⟩)]) (φ := b = b ∧ Nat.ble (pre.length + 1 + 1) (pre ++ machC (m.setSt m.cur.toNat 0) ++ post).length = true ∧ splice (pre ++ machC (m.setSt m.cur.toNat 0) ++ post) (pre.length + 1) [.int .i8 (-1)] = (pre ++ machC ({ (m.setSt m.cur.toNat 0) with cur := -1 } : Mach) ++ post)) h250 rfl rfl rfl (by kernel_rfl) ⟨rfl, (mid_len pre post (m.setSt m.cur.toNat 0) (by omega)), (set_cur pre post (m.setSt m.cur.toNat 0) (-1))⟩ fun w251 h252 => ?_
              clear h250
              refine nd_done ?_
              exact hm31 ({ (m.setSt m.cur.toNat 0) with cur := -1 } : Mach) 0 _ _ (by unfold sw; rw [if_neg hk0, if_neg hk1, if_pos (by omega), if_neg (by omega), if_pos hj2]) ((h252.memMono (List.Sublist.cons_cons _ (List.Sublist.cons_cons _ (List.Sublist.cons_cons _ (List.Sublist.cons _ List.Sublist.slnil))))).slotsMono (restr_spec (keep := [0, 3, 4, 6]) rfl))
            ·
              exact absurd (hc240.symm.trans hc226) (by decide)
        ·
          exact absurd (hc226.symm.trans hc225) (by decide)
      ·
        have hc225f : e.kind ≠ 2 := by simpa using hc225
        have hk2 : e.kind ≠ 2 := hc225f
        refine wp_seq_k fun K253 hK253 => ?_
        refine nd_start (l := [0, 1]) rfl ?_
        refine nd_batch tabOk tabZ_ok [(0, {}), (1, {})] [5, 4, 3, 0, 1, 6, 17, 85] (T' := [(5, .pointer (some ⟨b17, 0, none⟩)), (4, .pointer (some ⟨b8, 0, none⟩)), (3, .pointer (some ⟨b2, 0, none⟩)), (0, .pointer (some ⟨b, pre.length, none⟩)), (1, .agg #[.int .u8 e.kind, .int .u32 e.pick, .int .u64 e.arg]), (6, .int .u64 0), (17, .int .u8 e.kind), (85, .bool (e.kind == 3))]) (φ := True) (rest := []) h224 (by kernel_rfl) rfl trivial fun a254 h255 => ?_
        clear h224
        refine nd_done ?_
        refine hK253 _ _ ?_
        clear hK253
        refine c_split h255 (b := (e.kind == 3)) rfl (fun hc256 => ?_) (fun hc256 => ?_)
        ·
          have hc256f : e.kind = 3 := by simpa using hc256
          have hk3 : e.kind = 3 := hc256f
          refine wp_skip ?_
          refine hK221 _ _ ?_
          clear hK221
          refine c_split h255 (b := (e.kind == 3)) rfl (fun hc257 => ?_) (fun hc257 => ?_)
          ·
            have hc257f : e.kind = 3 := by simpa using hc257
            refine wp_seq_k fun K258 hK258 => ?_
            refine wp_seq_k fun K259 hK259 => ?_
            refine nd_start (l := [0, 1, 2, 3, 4]) rfl ?_
            refine nd_batch tabOk tabZ_ok [(0, {}), (1, {}), (2, {}), (3, {k := 0, m := 1, vs := [.int .i8 m.cur]}), (4, {})] [5, 4, 3, 0, 1, 6, 17, 85, 93] (T' := [(5, .pointer (some ⟨b17, 0, none⟩)), (4, .pointer (some ⟨b8, 0, none⟩)), (3, .pointer (some ⟨b2, 0, none⟩)), (0, .pointer (some ⟨b, pre.length, none⟩)), (1, .agg #[.int .u8 e.kind, .int .u32 e.pick, .int .u64 e.arg]), (6, .int .u64 0), (17, .int .u8 e.kind), (85, .bool (e.kind == 3)), (93, .bool (decide (m.cur < 0)))]) (φ := (b = b ∧ cellsAre (pre ++ machC m ++ post) (pre.length + 1) [.int .i8 m.cur]) ∧ True) (rest := []) h255 (by kernel_rfl) rfl ⟨⟨rfl, (mid_cur' pre post m rfl)⟩, trivial⟩ fun a260 h261 => ?_
            clear h255
            refine nd_done ?_
            refine hK259 _ _ ?_
            clear hK259
            refine c_split h261 (b := decide (m.cur < 0)) rfl (fun hc262 => ?_) (fun hc262 => ?_)
            ·
              have hc262f : m.cur < 0 := by simpa using hc262
              refine wp_seq_k fun K263 hK263 => ?_
              refine nd_start (l := [0, 1]) rfl ?_
              refine nd_batch tabOk tabZ_ok [(0, {k := 3})] [5, 4, 3, 0, 1, 6, 17, 85, 94] (T' := [(5, .pointer (some ⟨b17, 0, none⟩)), (4, .pointer (some ⟨b8, 0, none⟩)), (3, .pointer (some ⟨b2, 0, none⟩)), (0, .pointer (some ⟨b, pre.length, none⟩)), (1, .agg #[.int .u8 e.kind, .int .u32 e.pick, .int .u64 e.arg]), (6, .int .u64 0), (17, .int .u8 e.kind), (85, .bool (e.kind == 3)), (94, .agg #[.bool true, .int .i8 m.cur, .int .u64 0])]) (φ := (b17 = b17 ∧ Nat.ble (0 + 3) 3 = true) ∧ True) (rest := [1]) h261 (by kernel_rfl) rfl ⟨⟨rfl, rfl⟩, trivial⟩ fun a264 h265 => ?_
              clear h261
              refine nd_op ?_
              refine op_store tabOk {k := 2} (L' := [(b, ⟨pre ++ machC m ++ post, ty, false⟩), (b2, ⟨[.int .u8 e.kind, .int .u32 e.pick, .int .u64 e.arg], 31, false⟩), (b8, ⟨[.bool true, .int .i8 m.cur, .int .u64 0], 44, false⟩), (b17, ⟨[.bool true, .int .i8 m.cur, .int .u64 0], 44, false⟩)]) (φ := b8 = b8 ∧ Nat.ble (0 + 3) 3 = true) h265 rfl rfl rfl (by kernel_rfl) ⟨rfl, rfl⟩ fun w266 h267 => ?_
              clear h265
              refine nd_done ?_
              refine hK263 _ _ ?_
              clear hK263
              refine wp_ret ?_
              have hst : kstep m e = (m, ⟨true, m.cur, 0⟩) := by
                have hs : sw m e = none := by unfold sw; rw [if_neg hk0, if_neg hk1, if_pos (by omega), if_pos (by omega)]
                simp [kstep, hs]
              try simp only [Exit.then, Exit.inBlock]
              exact s_ret tabOk tabZ_ok h267 [(.cell 4 44, {k := 2})] (vs := [.agg #[.bool true, .int .i8 m.cur, .int .u64 0]]) (φ := (b8 = b8 ∧ Nat.ble (0 + 3) 3 = true) ∧ True) rfl (by kernel_rfl) ⟨⟨rfl, rfl⟩, trivial⟩ (by simp only [hst]; exact ⟨rfl, h267.kn (k := 0) rfl, h267.frame⟩)
            ·
              have hc262f : ¬ m.cur < 0 := by simpa using hc262
              refine wp_skip ?_
              refine hK258 _ _ ?_
              clear hK258
              refine wp_block ?_
              refine wp_seq_k fun K268 hK268 => ?_
              refine nd_start (l := [0, 1, 2, 3]) rfl ?_
              refine nd_batch tabOk tabZ_ok [(0, {}), (1, {k := 1}), (2, {}), (3, {})] [5, 4, 3, 0, 1, 6, 17, 85, 106] (T' := [(5, .pointer (some ⟨b17, 0, none⟩)), (4, .pointer (some ⟨b8, 0, none⟩)), (3, .pointer (some ⟨b2, 0, none⟩)), (0, .pointer (some ⟨b, pre.length, none⟩)), (1, .agg #[.int .u8 e.kind, .int .u32 e.pick, .int .u64 e.arg]), (6, .int .u64 0), (17, .int .u8 e.kind), (85, .bool (e.kind == 3)), (106, .bool (e.kind == 2))]) (φ := (b2 = b2 ∧ Nat.ble (0 + 1) 3 = true) ∧ True) (rest := []) h261 (by kernel_rfl) rfl ⟨⟨rfl, rfl⟩, trivial⟩ fun a269 h270 => ?_
              clear h261
              refine nd_done ?_
              refine hK268 _ _ ?_
              clear hK268
              refine c_split h270 (b := (e.kind == 2)) rfl (fun hc271 => ?_) (fun hc271 => ?_)
              ·
                exact absurd (hc271.symm.trans hc225) (by decide)
              ·
                have hc271f : e.kind ≠ 2 := by simpa using hc271
                have hj2 : e.kind ≠ 2 := hc271f
                refine wp_seq_k fun K272 hK272 => ?_
                refine nd_start (l := [0, 1, 2, 3]) rfl ?_
                refine nd_batch tabOk tabZ_ok [(0, {}), (1, {k := 1}), (2, {}), (3, {})] [5, 4, 3, 0, 1, 6, 17, 85, 121] (T' := [(5, .pointer (some ⟨b17, 0, none⟩)), (4, .pointer (some ⟨b8, 0, none⟩)), (3, .pointer (some ⟨b2, 0, none⟩)), (0, .pointer (some ⟨b, pre.length, none⟩)), (1, .agg #[.int .u8 e.kind, .int .u32 e.pick, .int .u64 e.arg]), (6, .int .u64 0), (17, .int .u8 e.kind), (85, .bool (e.kind == 3)), (121, .bool (e.kind == 4))]) (φ := (b2 = b2 ∧ Nat.ble (0 + 1) 3 = true) ∧ True) (rest := []) h270 (by kernel_rfl) rfl ⟨⟨rfl, rfl⟩, trivial⟩ fun a273 h274 => ?_
                clear h270
                refine nd_done ?_
                refine hK272 _ _ ?_
                clear hK272
                refine c_split h274 (b := (e.kind == 4)) rfl (fun hc275 => ?_) (fun hc275 => ?_)
                ·
                  have hc275f : e.kind = 4 := by simpa using hc275
                  have hj4 : e.kind = 4 := hc275f
                  refine dr_start (KB := [b, b2, b8, b17]) (Bi := [[0, 1, 2, 3], [0, 1, 2, 3], [0, 1, 2, 3], [0, 1, 2, 3], [0, 1, 2, 3], [0, 1, 2, 3], [0, 1, 2, 3], [0, 1, 2, 3], [0, 1, 2, 3], [0, 1, 2, 3], [0, 1, 2, 3], [0, 1, 2, 3], [1], [0, 1, 2, 3]]) mixed h274 fun w276 h277 => ?_
                  clear h274
                  refine dr_batch tabOk tabZ_ok (by repeat (first | exact PF.body | with_reducible apply PF.inB | with_reducible apply PF.next)) [(0, {}), (1, {}), (2, {}), (3, {}), (4, {k := 0, m := 1, vs := [.int .i8 m.cur], p := 0}), (5, {}), (6, {k := 1, p := 1}), (7, {}), (8, {k := 1, p := 1}), (9, {}), (10, {}), (11, {})] [5, 4, 3, 0, 1, 6, 17, 85, 131, 133, 136] (T' := [(5, .pointer (some ⟨b17, 0, none⟩)), (4, .pointer (some ⟨b8, 0, none⟩)), (3, .pointer (some ⟨b2, 0, none⟩)), (0, .pointer (some ⟨b, pre.length, none⟩)), (1, .agg #[.int .u8 e.kind, .int .u32 e.pick, .int .u64 e.arg]), (6, .int .u64 0), (17, .int .u8 e.kind), (85, .bool (e.kind == 3)), (131, .int .u64 e.arg), (133, .int .u64 e.arg), (136, .pointer (some ⟨b, pre.length + 6 + (m.cur.toNat * 1), none⟩))]) (φ := (b = b ∧ cellsAre (pre ++ machC m ++ post) (pre.length + 1) [.int .i8 m.cur]) ∧ (b2 = b2 ∧ Nat.ble (2 + 1) 3 = true) ∧ (b2 = b2 ∧ Nat.ble (2 + 1) 3 = true) ∧ (0 ≤ m.cur ∧ m.cur < 4) ∧ True) (fuel := 2) h277 (by kernel_rfl) rfl (by kernel_rfl) (by kernel_rfl) ⟨trivial, trivial, trivial, trivial, rfl, trivial, rfl, trivial, rfl, trivial, trivial, trivial, trivial⟩ ⟨⟨rfl, (mid_cur' pre post m rfl)⟩, ⟨rfl, rfl⟩, ⟨rfl, rfl⟩, ⟨by omega, by omega⟩, trivial⟩ fun a279 h280 => ?_
                  clear h277
                  refine wpAnyK_one (i := 12) (fuel := 1) (by kernel_rfl) ?_
                  refine op_store tabOk {k := 0, m := 1, vs := (pre ++ machC (m.setRg m.cur.toNat e.arg) ++ post)} (L' := [(b, ⟨pre ++ machC (m.setRg m.cur.toNat e.arg) ++ post, ty, false⟩), (b2, ⟨[.int .u8 e.kind, .int .u32 e.pick, .int .u64 e.arg], 31, false⟩), (b8, ⟨[.bool false, .int .i8 0, .int .u64 0], 44, false⟩), (b17, ⟨[.bool true, .int .i8 m.cur, .int .u64 0], 44, false⟩)]) (φ := b = b ∧ Nat.ble (pre.length + 6 + (m.cur.toNat * 1) + 1) (pre ++ machC m ++ post).length = true ∧ splice (pre ++ machC m ++ post) (pre.length + 6 + (m.cur.toNat * 1)) [.int .u64 e.arg] = (pre ++ machC (m.setRg m.cur.toNat e.arg) ++ post)) h280 rfl rfl rfl (by kernel_rfl) ⟨rfl, (mid_len pre post m (by omega)), (set_rg pre post m (by omega) e.arg)⟩ fun w281 h282 => ?_
                  have hkh282 := h280.known
                  refine ⟨(keepOf hkh282 h282.known (kcons (keepAt (q := 1) (q' := 1) rfl rfl) knil)), ?_⟩
                  clear h280
                  refine dr_batch tabOk tabZ_ok (by repeat (first | exact PF.body | with_reducible apply PF.inB | with_reducible apply PF.next)) [(13, {})] [5, 4, 3, 0, 1, 17, 85, 6] (T' := [(5, .pointer (some ⟨b17, 0, none⟩)), (4, .pointer (some ⟨b8, 0, none⟩)), (3, .pointer (some ⟨b2, 0, none⟩)), (0, .pointer (some ⟨b, pre.length, none⟩)), (1, .agg #[.int .u8 e.kind, .int .u32 e.pick, .int .u64 e.arg]), (17, .int .u8 e.kind), (85, .bool (e.kind == 3)), (6, .int .u64 e.arg)]) (φ := True) (fuel := 0) h282 (by kernel_rfl) rfl (by kernel_rfl) (by kernel_rfl) ⟨trivial, trivial⟩ trivial fun a283 h284 => ?_
                  clear h282
                  refine wpAnyK_done (by kernel_rfl) ?_ _
                  exact hm31 (m.setRg m.cur.toNat e.arg) e.arg _ _ (by unfold sw; rw [if_neg hk0, if_neg hk1, if_pos (by omega), if_neg (by omega), if_neg hj2, if_pos hj4]) ((h284.memMono (List.Sublist.cons_cons _ (List.Sublist.cons_cons _ (List.Sublist.cons_cons _ (List.Sublist.cons _ List.Sublist.slnil))))).slotsMono (restr_spec (keep := [0, 3, 4, 6]) rfl))
                ·
                  have hc275f : e.kind ≠ 4 := by simpa using hc275
                  have hj4 : e.kind ≠ 4 := hc275f
                  refine wp_seq_k fun K285 hK285 => ?_
                  refine nd_start (l := [0, 1, 2, 3, 4, 5]) rfl ?_
                  refine nd_batch tabOk tabZ_ok [(0, {}), (1, {}), (2, {}), (3, {k := 0, m := 1, vs := [.int .u64 m.word]}), (4, {}), (5, {})] [5, 4, 3, 0, 1, 6, 17, 85, 137] (T' := [(5, .pointer (some ⟨b17, 0, none⟩)), (4, .pointer (some ⟨b8, 0, none⟩)), (3, .pointer (some ⟨b2, 0, none⟩)), (0, .pointer (some ⟨b, pre.length, none⟩)), (1, .agg #[.int .u8 e.kind, .int .u32 e.pick, .int .u64 e.arg]), (6, .int .u64 0), (17, .int .u8 e.kind), (85, .bool (e.kind == 3)), (137, .bool (m.word != 0))]) (φ := (b = b ∧ cellsAre (pre ++ machC m ++ post) (pre.length + 10) [.int .u64 m.word]) ∧ True) (rest := []) h274 (by kernel_rfl) rfl ⟨⟨rfl, (mid_word' pre post m rfl)⟩, trivial⟩ fun a286 h287 => ?_
                  clear h274
                  refine nd_done ?_
                  refine hK285 _ _ ?_
                  clear hK285
                  refine c_split h287 (b := (m.word != 0)) rfl (fun hc288 => ?_) (fun hc288 => ?_)
                  ·
                    have hc288f : m.word ≠ 0 := by simpa using hc288
                    have hw0 : m.word ≠ 0 := hc288f
                    refine dr_start (KB := [b, b2, b8, b17]) (Bi := [[0, 1, 2, 3], [0, 1, 2, 3], [0, 1, 2, 3], [0, 1, 2, 3], [0, 1, 2, 3], [0, 1, 2, 3], [0, 1, 2, 3], [0, 1, 2, 3], [0, 1, 2, 3], [0, 1, 2, 3], [0, 1, 2, 3], [0, 1, 2, 3], [0, 1, 2, 3], [0, 1, 2, 3], [0, 1, 2, 3], [0, 1, 2, 3], [0, 1, 2, 3], [], [0, 1, 2, 3], [0, 1, 2, 3], [0, 1, 2, 3], []]) mixed h287 fun w289 h290 => ?_
                    clear h287
                    refine dr_batch tabOk tabZ_ok (by repeat (first | exact PF.body | with_reducible apply PF.inB | with_reducible apply PF.next)) [(0, {}), (1, {}), (2, {}), (3, {}), (4, {k := 0, m := 1, vs := [.int .i8 m.cur], p := 0}), (5, {}), (6, {}), (7, {}), (8, {}), (9, {k := 0, m := 1, vs := [.int .u64 m.word], p := 0}), (10, {}), (11, {}), (12, {}), (13, {k := 0, m := 1, vs := [.int .u64 m.word], p := 0}), (14, {}), (15, {}), (16, {})] [5, 4, 3, 0, 1, 6, 17, 85, 148, 152, 156, 159] (T' := [(5, .pointer (some ⟨b17, 0, none⟩)), (4, .pointer (some ⟨b8, 0, none⟩)), (3, .pointer (some ⟨b2, 0, none⟩)), (0, .pointer (some ⟨b, pre.length, none⟩)), (1, .agg #[.int .u8 e.kind, .int .u32 e.pick, .int .u64 e.arg]), (6, .int .u64 0), (17, .int .u8 e.kind), (85, .bool (e.kind == 3)), (148, .pointer (some ⟨b, pre.length, none⟩)), (152, .int .u64 m.word), (156, .int .u64 m.word), (159, .pointer (some ⟨b, pre.length + 6 + (m.cur.toNat * 1), none⟩))]) (φ := (b = b ∧ cellsAre (pre ++ machC m ++ post) (pre.length + 1) [.int .i8 m.cur]) ∧ (b = b ∧ cellsAre (pre ++ machC m ++ post) (pre.length + 10) [.int .u64 m.word]) ∧ (b = b ∧ cellsAre (pre ++ machC m ++ post) (pre.length + 10) [.int .u64 m.word]) ∧ (0 ≤ m.cur ∧ m.cur < 4) ∧ True) (fuel := 5) h290 (by kernel_rfl) rfl (by kernel_rfl) (by kernel_rfl) ⟨trivial, trivial, trivial, trivial, rfl, trivial, trivial, trivial, trivial, rfl, trivial, trivial, trivial, rfl, trivial, trivial, trivial, trivial⟩ ⟨⟨rfl, (mid_cur' pre post m rfl)⟩, ⟨rfl, (mid_word' pre post m rfl)⟩, ⟨rfl, (mid_word' pre post m rfl)⟩, ⟨by omega, by omega⟩, trivial⟩ fun a292 h293 => ?_
                    clear h290
                    refine wpAnyK_one (i := 17) (fuel := 4) (by kernel_rfl) ?_
                    refine op_store tabOk {k := 0, m := 1, vs := (pre ++ machC (m.setRg m.cur.toNat m.word) ++ post)} (L' := [(b, ⟨pre ++ machC (m.setRg m.cur.toNat m.word) ++ post, ty, false⟩), (b2, ⟨[.int .u8 e.kind, .int .u32 e.pick, .int .u64 e.arg], 31, false⟩), (b8, ⟨[.bool false, .int .i8 0, .int .u64 0], 44, false⟩), (b17, ⟨[.bool true, .int .i8 m.cur, .int .u64 0], 44, false⟩)]) (φ := b = b ∧ Nat.ble (pre.length + 6 + (m.cur.toNat * 1) + 1) (pre ++ machC m ++ post).length = true ∧ splice (pre ++ machC m ++ post) (pre.length + 6 + (m.cur.toNat * 1)) [.int .u64 m.word] = (pre ++ machC (m.setRg m.cur.toNat m.word) ++ post)) h293 rfl rfl rfl (by kernel_rfl) ⟨rfl, (mid_len pre post m (by omega)), (set_rg pre post m (by omega) m.word)⟩ fun w294 h295 => ?_
                    have hkh295 := h293.known
                    refine ⟨keepNil, ?_⟩
                    clear h293
                    refine dr_batch tabOk tabZ_ok (by repeat (first | exact PF.body | with_reducible apply PF.inB | with_reducible apply PF.next)) [(18, {}), (19, {}), (20, {})] [5, 4, 3, 0, 1, 17, 85, 6, 161] (T' := [(5, .pointer (some ⟨b17, 0, none⟩)), (4, .pointer (some ⟨b8, 0, none⟩)), (3, .pointer (some ⟨b2, 0, none⟩)), (0, .pointer (some ⟨b, pre.length, none⟩)), (1, .agg #[.int .u8 e.kind, .int .u32 e.pick, .int .u64 e.arg]), (17, .int .u8 e.kind), (85, .bool (e.kind == 3)), (6, .int .u64 m.word), (161, .pointer (some ⟨b, pre.length + 10, none⟩))]) (φ := True) (fuel := 1) h295 (by kernel_rfl) rfl (by kernel_rfl) (by kernel_rfl) ⟨trivial, trivial, trivial, trivial⟩ trivial fun a296 h297 => ?_
                    clear h295
                    refine wpAnyK_one (i := 21) (fuel := 0) (by kernel_rfl) ?_
                    refine op_store tabOk {k := 0, m := 1, vs := (pre ++ machC ({ (m.setRg m.cur.toNat m.word) with word := 0 } : Mach) ++ post)} (L' := [(b, ⟨pre ++ machC ({ (m.setRg m.cur.toNat m.word) with word := 0 } : Mach) ++ post, ty, false⟩), (b2, ⟨[.int .u8 e.kind, .int .u32 e.pick, .int .u64 e.arg], 31, false⟩), (b8, ⟨[.bool false, .int .i8 0, .int .u64 0], 44, false⟩), (b17, ⟨[.bool true, .int .i8 m.cur, .int .u64 0], 44, false⟩)]) (φ := b = b ∧ Nat.ble (pre.length + 10 + 1) (pre ++ machC (m.setRg m.cur.toNat m.word) ++ post).length = true ∧ splice (pre ++ machC (m.setRg m.cur.toNat m.word) ++ post) (pre.length + 10) [.int .u64 0] = (pre ++ machC ({ (m.setRg m.cur.toNat m.word) with word := 0 } : Mach) ++ post)) h297 rfl rfl rfl (by kernel_rfl) ⟨rfl, (mid_len pre post (m.setRg m.cur.toNat m.word) (by omega)), (set_word pre post (m.setRg m.cur.toNat m.word) 0)⟩ fun w298 h299 => ?_
                    have hkh299 := h297.known
                    refine ⟨keepNil, ?_⟩
                    clear h297
                    refine wpAnyK_done (by kernel_rfl) ?_ _
                    exact hm31 ({ (m.setRg m.cur.toNat m.word) with word := 0 } : Mach) m.word _ _ (by unfold sw; rw [if_neg hk0, if_neg hk1, if_pos (by omega), if_neg (by omega), if_neg hj2, if_neg hj4, if_pos hw0]) ((h299.memMono (List.Sublist.cons_cons _ (List.Sublist.cons_cons _ (List.Sublist.cons_cons _ (List.Sublist.cons _ List.Sublist.slnil))))).slotsMono (restr_spec (keep := [0, 3, 4, 6]) rfl))
                  ·
                    have hc288f : m.word = 0 := by simpa using hc288
                    have hw0 : m.word = 0 := hc288f
                    refine wp_seq_k fun K300 hK300 => ?_
                    refine dr_start (KB := [b, b2, b8, b17]) (Bi := [[0, 1, 2, 3], [0, 1, 2, 3], [0, 1, 2, 3], [0, 1, 2, 3], [0, 1, 2, 3], [0, 1, 2, 3], [0, 1, 2, 3], [0, 1, 2, 3], []]) mixed h287 fun w301 h302 => ?_
                    clear h287
                    refine dr_batch tabOk tabZ_ok (by repeat (first | exact PF.body | with_reducible apply PF.inB | with_reducible apply PF.next)) [(0, {}), (1, {}), (2, {}), (3, {}), (4, {k := 0, m := 1, vs := [.int .i8 m.cur], p := 0}), (5, {}), (6, {}), (7, {})] [5, 4, 3, 0, 1, 6, 17, 85, 102] (T' := [(5, .pointer (some ⟨b17, 0, none⟩)), (4, .pointer (some ⟨b8, 0, none⟩)), (3, .pointer (some ⟨b2, 0, none⟩)), (0, .pointer (some ⟨b, pre.length, none⟩)), (1, .agg #[.int .u8 e.kind, .int .u32 e.pick, .int .u64 e.arg]), (6, .int .u64 0), (17, .int .u8 e.kind), (85, .bool (e.kind == 3)), (102, .pointer (some ⟨b, pre.length + 2 + (m.cur.toNat * 1), none⟩))]) (φ := (b = b ∧ cellsAre (pre ++ machC m ++ post) (pre.length + 1) [.int .i8 m.cur]) ∧ (0 ≤ m.cur ∧ m.cur < 4) ∧ True) (fuel := 1) h302 (by kernel_rfl) rfl (by kernel_rfl) (by kernel_rfl) ⟨trivial, trivial, trivial, trivial, rfl, trivial, trivial, trivial, trivial⟩ ⟨⟨rfl, (mid_cur' pre post m rfl)⟩, ⟨by omega, by omega⟩, trivial⟩ fun a304 h305 => ?_
                    clear h302
                    refine wpAnyK_one (i := 8) (fuel := 0) (by kernel_rfl) ?_
                    refine op_store tabOk {k := 0, m := 1, vs := (pre ++ machC (m.setSt m.cur.toNat 2) ++ post)} (L' := [(b, ⟨pre ++ machC (m.setSt m.cur.toNat 2) ++ post, ty, false⟩), (b2, ⟨[.int .u8 e.kind, .int .u32 e.pick, .int .u64 e.arg], 31, false⟩), (b8, ⟨[.bool false, .int .i8 0, .int .u64 0], 44, false⟩), (b17, ⟨[.bool true, .int .i8 m.cur, .int .u64 0], 44, false⟩)]) (φ := b = b ∧ Nat.ble (pre.length + 2 + (m.cur.toNat * 1) + 1) (pre ++ machC m ++ post).length = true ∧ splice (pre ++ machC m ++ post) (pre.length + 2 + (m.cur.toNat * 1)) [.int .u8 2] = (pre ++ machC (m.setSt m.cur.toNat 2) ++ post)) h305 rfl rfl rfl (by kernel_rfl) ⟨rfl, (mid_len pre post m (by omega)), (set_st pre post m (by omega) 2)⟩ fun w306 h307 => ?_
                    have hkh307 := h305.known
                    refine ⟨keepNil, ?_⟩
                    clear h305
                    refine wpAnyK_done (by kernel_rfl) ?_ _
                    refine hK300 _ _ ?_
                    clear hK300
                    refine nd_start (l := [0, 1, 2, 3]) rfl ?_
                    refine nd_batch tabOk tabZ_ok [(0, {}), (1, {}), (2, {})] [5, 4, 3, 0, 1, 6, 17, 85, 105] (T' := [(5, .pointer (some ⟨b17, 0, none⟩)), (4, .pointer (some ⟨b8, 0, none⟩)), (3, .pointer (some ⟨b2, 0, none⟩)), (0, .pointer (some ⟨b, pre.length, none⟩)), (1, .agg #[.int .u8 e.kind, .int .u32 e.pick, .int .u64 e.arg]), (6, .int .u64 0), (17, .int .u8 e.kind), (85, .bool (e.kind == 3)), (105, .pointer (some ⟨b, pre.length + 1, none⟩))]) (φ := True) (rest := [3]) h307 (by kernel_rfl) rfl trivial fun a308 h309 => ?_
                    clear h307
                    refine nd_op ?_
                    refine op_store tabOk {k := 0, m := 1, vs := (pre ++ machC ({ (m.setSt m.cur.toNat 2) with cur := -1 } : Mach) ++ post)} (L' := [(b, ⟨pre ++ machC ({ (m.setSt m.cur.toNat 2) with cur := -1 } : Mach) ++ post, ty, false⟩), (b2, ⟨[.int .u8 e.kind, .int .u32 e.pick, .int .u64 e.arg], 31, false⟩), (b8, ⟨[.bool false, .int .i8 0, .int .u64 0], 44, false⟩), (b17, ⟨[.bool true, .int .i8 m.cur, .int .u64 0], 44, false⟩)]) (φ := b = b ∧ Nat.ble (pre.length + 1 + 1) (pre ++ machC (m.setSt m.cur.toNat 2) ++ post).length = true ∧ splice (pre ++ machC (m.setSt m.cur.toNat 2) ++ post) (pre.length + 1) [.int .i8 (-1)] = (pre ++ machC ({ (m.setSt m.cur.toNat 2) with cur := -1 } : Mach) ++ post)) h309 rfl rfl rfl (by kernel_rfl) ⟨rfl, (mid_len pre post (m.setSt m.cur.toNat 2) (by omega)), (set_cur pre post (m.setSt m.cur.toNat 2) (-1))⟩ fun w310 h311 => ?_
                    clear h309
                    refine nd_done ?_
                    exact hm31 ({ (m.setSt m.cur.toNat 2) with cur := -1 } : Mach) 0 _ _ (by unfold sw; rw [if_neg hk0, if_neg hk1, if_pos (by omega), if_neg (by omega), if_neg hj2, if_neg hj4, if_neg (by simpa using hw0)]) ((h311.memMono (List.Sublist.cons_cons _ (List.Sublist.cons_cons _ (List.Sublist.cons_cons _ (List.Sublist.cons _ List.Sublist.slnil))))).slotsMono (restr_spec (keep := [0, 3, 4, 6]) rfl))
          ·
            exact absurd (hc257.symm.trans hc256) (by decide)
        ·
          have hc256f : e.kind ≠ 3 := by simpa using hc256
          have hk3 : e.kind ≠ 3 := hc256f
          refine nd_start (l := [0, 1]) rfl ?_
          refine nd_batch tabOk tabZ_ok [(0, {}), (1, {})] [5, 4, 3, 0, 1, 6, 17, 85] (T' := [(5, .pointer (some ⟨b17, 0, none⟩)), (4, .pointer (some ⟨b8, 0, none⟩)), (3, .pointer (some ⟨b2, 0, none⟩)), (0, .pointer (some ⟨b, pre.length, none⟩)), (1, .agg #[.int .u8 e.kind, .int .u32 e.pick, .int .u64 e.arg]), (6, .int .u64 0), (17, .int .u8 e.kind), (85, .bool (e.kind == 4))]) (φ := True) (rest := []) h255 (by kernel_rfl) rfl trivial fun a312 h313 => ?_
          clear h255
          refine nd_done ?_
          refine hK221 _ _ ?_
          clear hK221
          refine c_split h313 (b := (e.kind == 4)) rfl (fun hc314 => ?_) (fun hc314 => ?_)
          ·
            have hc314f : e.kind = 4 := by simpa using hc314
            have hk4 : e.kind = 4 := hc314f
            refine wp_seq_k fun K315 hK315 => ?_
            refine wp_seq_k fun K316 hK316 => ?_
            refine nd_start (l := [0, 1, 2, 3, 4]) rfl ?_
            refine nd_batch tabOk tabZ_ok [(0, {}), (1, {}), (2, {}), (3, {k := 0, m := 1, vs := [.int .i8 m.cur]}), (4, {})] [5, 4, 3, 0, 1, 6, 17, 85, 93] (T' := [(5, .pointer (some ⟨b17, 0, none⟩)), (4, .pointer (some ⟨b8, 0, none⟩)), (3, .pointer (some ⟨b2, 0, none⟩)), (0, .pointer (some ⟨b, pre.length, none⟩)), (1, .agg #[.int .u8 e.kind, .int .u32 e.pick, .int .u64 e.arg]), (6, .int .u64 0), (17, .int .u8 e.kind), (85, .bool (e.kind == 4)), (93, .bool (decide (m.cur < 0)))]) (φ := (b = b ∧ cellsAre (pre ++ machC m ++ post) (pre.length + 1) [.int .i8 m.cur]) ∧ True) (rest := []) h313 (by kernel_rfl) rfl ⟨⟨rfl, (mid_cur' pre post m rfl)⟩, trivial⟩ fun a317 h318 => ?_
            clear h313
            refine nd_done ?_
            refine hK316 _ _ ?_
            clear hK316
            refine c_split h318 (b := decide (m.cur < 0)) rfl (fun hc319 => ?_) (fun hc319 => ?_)
            ·
              have hc319f : m.cur < 0 := by simpa using hc319
              refine wp_seq_k fun K320 hK320 => ?_
              refine nd_start (l := [0, 1]) rfl ?_
              refine nd_batch tabOk tabZ_ok [(0, {k := 3})] [5, 4, 3, 0, 1, 6, 17, 85, 94] (T' := [(5, .pointer (some ⟨b17, 0, none⟩)), (4, .pointer (some ⟨b8, 0, none⟩)), (3, .pointer (some ⟨b2, 0, none⟩)), (0, .pointer (some ⟨b, pre.length, none⟩)), (1, .agg #[.int .u8 e.kind, .int .u32 e.pick, .int .u64 e.arg]), (6, .int .u64 0), (17, .int .u8 e.kind), (85, .bool (e.kind == 4)), (94, .agg #[.bool true, .int .i8 m.cur, .int .u64 0])]) (φ := (b17 = b17 ∧ Nat.ble (0 + 3) 3 = true) ∧ True) (rest := [1]) h318 (by kernel_rfl) rfl ⟨⟨rfl, rfl⟩, trivial⟩ fun a321 h322 => ?_
              clear h318
              refine nd_op ?_
              refine op_store tabOk {k := 2} (L' := [(b, ⟨pre ++ machC m ++ post, ty, false⟩), (b2, ⟨[.int .u8 e.kind, .int .u32 e.pick, .int .u64 e.arg], 31, false⟩), (b8, ⟨[.bool true, .int .i8 m.cur, .int .u64 0], 44, false⟩), (b17, ⟨[.bool true, .int .i8 m.cur, .int .u64 0], 44, false⟩)]) (φ := b8 = b8 ∧ Nat.ble (0 + 3) 3 = true) h322 rfl rfl rfl (by kernel_rfl) ⟨rfl, rfl⟩ fun w323 h324 => ?_
              clear h322
              refine nd_done ?_
              refine hK320 _ _ ?_
              clear hK320
              refine wp_ret ?_
              have hst : kstep m e = (m, ⟨true, m.cur, 0⟩) := by
                have hs : sw m e = none := by unfold sw; rw [if_neg hk0, if_neg hk1, if_pos (by omega), if_pos (by omega)]
                simp [kstep, hs]
              try simp only [Exit.then, Exit.inBlock]
              exact s_ret tabOk tabZ_ok h324 [(.cell 4 44, {k := 2})] (vs := [.agg #[.bool true, .int .i8 m.cur, .int .u64 0]]) (φ := (b8 = b8 ∧ Nat.ble (0 + 3) 3 = true) ∧ True) rfl (by kernel_rfl) ⟨⟨rfl, rfl⟩, trivial⟩ (by simp only [hst]; exact ⟨rfl, h324.kn (k := 0) rfl, h324.frame⟩)
            ·
              have hc319f : ¬ m.cur < 0 := by simpa using hc319
              refine wp_skip ?_
              refine hK315 _ _ ?_
              clear hK315
              refine wp_block ?_
              refine wp_seq_k fun K325 hK325 => ?_
              refine nd_start (l := [0, 1, 2, 3]) rfl ?_
              refine nd_batch tabOk tabZ_ok [(0, {}), (1, {k := 1}), (2, {}), (3, {})] [5, 4, 3, 0, 1, 6, 17, 85, 106] (T' := [(5, .pointer (some ⟨b17, 0, none⟩)), (4, .pointer (some ⟨b8, 0, none⟩)), (3, .pointer (some ⟨b2, 0, none⟩)), (0, .pointer (some ⟨b, pre.length, none⟩)), (1, .agg #[.int .u8 e.kind, .int .u32 e.pick, .int .u64 e.arg]), (6, .int .u64 0), (17, .int .u8 e.kind), (85, .bool (e.kind == 4)), (106, .bool (e.kind == 2))]) (φ := (b2 = b2 ∧ Nat.ble (0 + 1) 3 = true) ∧ True) (rest := []) h318 (by kernel_rfl) rfl ⟨⟨rfl, rfl⟩, trivial⟩ fun a326 h327 => ?_
              clear h318
              refine nd_done ?_
              refine hK325 _ _ ?_
              clear hK325
              refine c_split h327 (b := (e.kind == 2)) rfl (fun hc328 => ?_) (fun hc328 => ?_)
              ·
                exact absurd (hc328.symm.trans hc225) (by decide)
              ·
                have hc328f : e.kind ≠ 2 := by simpa using hc328
                have hj2 : e.kind ≠ 2 := hc328f
                refine wp_seq_k fun K329 hK329 => ?_
                refine nd_start (l := [0, 1, 2, 3]) rfl ?_
                refine nd_batch tabOk tabZ_ok [(0, {}), (1, {k := 1}), (2, {}), (3, {})] [5, 4, 3, 0, 1, 6, 17, 85, 121] (T' := [(5, .pointer (some ⟨b17, 0, none⟩)), (4, .pointer (some ⟨b8, 0, none⟩)), (3, .pointer (some ⟨b2, 0, none⟩)), (0, .pointer (some ⟨b, pre.length, none⟩)), (1, .agg #[.int .u8 e.kind, .int .u32 e.pick, .int .u64 e.arg]), (6, .int .u64 0), (17, .int .u8 e.kind), (85, .bool (e.kind == 4)), (121, .bool (e.kind == 4))]) (φ := (b2 = b2 ∧ Nat.ble (0 + 1) 3 = true) ∧ True) (rest := []) h327 (by kernel_rfl) rfl ⟨⟨rfl, rfl⟩, trivial⟩ fun a330 h331 => ?_
                clear h327
                refine nd_done ?_
                refine hK329 _ _ ?_
                clear hK329
                refine c_split h331 (b := (e.kind == 4)) rfl (fun hc332 => ?_) (fun hc332 => ?_)
                ·
                  have hc332f : e.kind = 4 := by simpa using hc332
                  have hj4 : e.kind = 4 := hc332f
                  refine dr_start (KB := [b, b2, b8, b17]) (Bi := [[0, 1, 2, 3], [0, 1, 2, 3], [0, 1, 2, 3], [0, 1, 2, 3], [0, 1, 2, 3], [0, 1, 2, 3], [0, 1, 2, 3], [0, 1, 2, 3], [0, 1, 2, 3], [0, 1, 2, 3], [0, 1, 2, 3], [0, 1, 2, 3], [1], [0, 1, 2, 3]]) mixed h331 fun w333 h334 => ?_
                  clear h331
                  refine dr_batch tabOk tabZ_ok (by repeat (first | exact PF.body | with_reducible apply PF.inB | with_reducible apply PF.next)) [(0, {}), (1, {}), (2, {}), (3, {}), (4, {k := 0, m := 1, vs := [.int .i8 m.cur], p := 0}), (5, {}), (6, {k := 1, p := 1}), (7, {}), (8, {k := 1, p := 1}), (9, {}), (10, {}), (11, {})] [5, 4, 3, 0, 1, 6, 17, 85, 131, 133, 136] (T' := [(5, .pointer (some ⟨b17, 0, none⟩)), (4, .pointer (some ⟨b8, 0, none⟩)), (3, .pointer (some ⟨b2, 0, none⟩)), (0, .pointer (some ⟨b, pre.length, none⟩)), (1, .agg #[.int .u8 e.kind, .int .u32 e.pick, .int .u64 e.arg]), (6, .int .u64 0), (17, .int .u8 e.kind), (85, .bool (e.kind == 4)), (131, .int .u64 e.arg), (133, .int .u64 e.arg), (136, .pointer (some ⟨b, pre.length + 6 + (m.cur.toNat * 1), none⟩))]) (φ := (b = b ∧ cellsAre (pre ++ machC m ++ post) (pre.length + 1) [.int .i8 m.cur]) ∧ (b2 = b2 ∧ Nat.ble (2 + 1) 3 = true) ∧ (b2 = b2 ∧ Nat.ble (2 + 1) 3 = true) ∧ (0 ≤ m.cur ∧ m.cur < 4) ∧ True) (fuel := 2) h334 (by kernel_rfl) rfl (by kernel_rfl) (by kernel_rfl) ⟨trivial, trivial, trivial, trivial, rfl, trivial, rfl, trivial, rfl, trivial, trivial, trivial, trivial⟩ ⟨⟨rfl, (mid_cur' pre post m rfl)⟩, ⟨rfl, rfl⟩, ⟨rfl, rfl⟩, ⟨by omega, by omega⟩, trivial⟩ fun a336 h337 => ?_
                  clear h334
                  refine wpAnyK_one (i := 12) (fuel := 1) (by kernel_rfl) ?_
                  refine op_store tabOk {k := 0, m := 1, vs := (pre ++ machC (m.setRg m.cur.toNat e.arg) ++ post)} (L' := [(b, ⟨pre ++ machC (m.setRg m.cur.toNat e.arg) ++ post, ty, false⟩), (b2, ⟨[.int .u8 e.kind, .int .u32 e.pick, .int .u64 e.arg], 31, false⟩), (b8, ⟨[.bool false, .int .i8 0, .int .u64 0], 44, false⟩), (b17, ⟨[.bool true, .int .i8 m.cur, .int .u64 0], 44, false⟩)]) (φ := b = b ∧ Nat.ble (pre.length + 6 + (m.cur.toNat * 1) + 1) (pre ++ machC m ++ post).length = true ∧ splice (pre ++ machC m ++ post) (pre.length + 6 + (m.cur.toNat * 1)) [.int .u64 e.arg] = (pre ++ machC (m.setRg m.cur.toNat e.arg) ++ post)) h337 rfl rfl rfl (by kernel_rfl) ⟨rfl, (mid_len pre post m (by omega)), (set_rg pre post m (by omega) e.arg)⟩ fun w338 h339 => ?_
                  have hkh339 := h337.known
                  refine ⟨(keepOf hkh339 h339.known (kcons (keepAt (q := 1) (q' := 1) rfl rfl) knil)), ?_⟩
                  clear h337
                  refine dr_batch tabOk tabZ_ok (by repeat (first | exact PF.body | with_reducible apply PF.inB | with_reducible apply PF.next)) [(13, {})] [5, 4, 3, 0, 1, 17, 85, 6] (T' := [(5, .pointer (some ⟨b17, 0, none⟩)), (4, .pointer (some ⟨b8, 0, none⟩)), (3, .pointer (some ⟨b2, 0, none⟩)), (0, .pointer (some ⟨b, pre.length, none⟩)), (1, .agg #[.int .u8 e.kind, .int .u32 e.pick, .int .u64 e.arg]), (17, .int .u8 e.kind), (85, .bool (e.kind == 4)), (6, .int .u64 e.arg)]) (φ := True) (fuel := 0) h339 (by kernel_rfl) rfl (by kernel_rfl) (by kernel_rfl) ⟨trivial, trivial⟩ trivial fun a340 h341 => ?_
                  clear h339
                  refine wpAnyK_done (by kernel_rfl) ?_ _
                  exact hm31 (m.setRg m.cur.toNat e.arg) e.arg _ _ (by unfold sw; rw [if_neg hk0, if_neg hk1, if_pos (by omega), if_neg (by omega), if_neg hj2, if_pos hj4]) ((h341.memMono (List.Sublist.cons_cons _ (List.Sublist.cons_cons _ (List.Sublist.cons_cons _ (List.Sublist.cons _ List.Sublist.slnil))))).slotsMono (restr_spec (keep := [0, 3, 4, 6]) rfl))
                ·
                  exact absurd (hc332.symm.trans hc314) (by decide)
          ·
            have hc314f : e.kind ≠ 4 := by simpa using hc314
            have hk4 : e.kind ≠ 4 := hc314f
            refine wp_seq_k fun K342 hK342 => ?_
            refine nd_start (l := [0, 1]) rfl ?_
            refine nd_batch tabOk tabZ_ok [(0, {k := 3})] [5, 4, 3, 0, 1, 6, 17, 85, 18] (T' := [(5, .pointer (some ⟨b17, 0, none⟩)), (4, .pointer (some ⟨b8, 0, none⟩)), (3, .pointer (some ⟨b2, 0, none⟩)), (0, .pointer (some ⟨b, pre.length, none⟩)), (1, .agg #[.int .u8 e.kind, .int .u32 e.pick, .int .u64 e.arg]), (6, .int .u64 0), (17, .int .u8 e.kind), (85, .bool (e.kind == 4)), (18, .agg #[.bool true, .int .i8 m.cur, .int .u64 0])]) (φ := (b17 = b17 ∧ Nat.ble (0 + 3) 3 = true) ∧ True) (rest := [1]) h313 (by kernel_rfl) rfl ⟨⟨rfl, rfl⟩, trivial⟩ fun a343 h344 => ?_
            clear h313
            refine nd_op ?_
            refine op_store tabOk {k := 2} (L' := [(b, ⟨pre ++ machC m ++ post, ty, false⟩), (b2, ⟨[.int .u8 e.kind, .int .u32 e.pick, .int .u64 e.arg], 31, false⟩), (b8, ⟨[.bool true, .int .i8 m.cur, .int .u64 0], 44, false⟩), (b17, ⟨[.bool true, .int .i8 m.cur, .int .u64 0], 44, false⟩)]) (φ := b8 = b8 ∧ Nat.ble (0 + 3) 3 = true) h344 rfl rfl rfl (by kernel_rfl) ⟨rfl, rfl⟩ fun w345 h346 => ?_
            clear h344
            refine nd_done ?_
            refine hK342 _ _ ?_
            clear hK342
            refine wp_ret ?_
            have hst : kstep m e = (m, ⟨true, m.cur, 0⟩) := by
              have hs : sw m e = none := by unfold sw; rw [if_neg hk0, if_neg hk1, if_neg (by omega)]
              simp [kstep, hs]
            try simp only [Exit.then, Exit.inBlock]
            exact s_ret tabOk tabZ_ok h346 [(.cell 4 44, {k := 2})] (vs := [.agg #[.bool true, .int .i8 m.cur, .int .u64 0]]) (φ := (b8 = b8 ∧ Nat.ble (0 + 3) 3 = true) ∧ True) rfl (by kernel_rfl) ⟨⟨rfl, rfl⟩, trivial⟩ (by simp only [hst]; exact ⟨rfl, h346.kn (k := 0) rfl, h346.frame⟩)

end Go.Proofs.Qxb6500919aFmt
