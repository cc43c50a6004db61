/-
  The model: a list without one reference. (Made by program: a symbolic walk that prints its steps.)
-/
import Derived.Test.Qxb6500918aDoorSe
import Derived.Test.Qxb6500918aDoorP3
import Derived.Test.Qxb6500918aDoorRb
namespace Go.Proofs.Qxb6500918aDoor
open Go.Sx Go.Kn
set_option maxRecDepth 100000
set_option maxHeartbeats 4000000
set_option linter.unusedVariables false
set_option linter.unusedSimpArgs false

def withoutP (xs : List Rf) (r : Rf) : List Rf := xs.filter (fun x => decide (x ≠ r))

theorem withoutP_take {xs : List Rf} {r x : Rf} {m : Nat} (hx : xs[m]? = some x) : withoutP (xs.take (m + 1)) r = withoutP (xs.take m) r ++ (if x ≠ r then [x] else []) := by
  unfold withoutP
  rw [List.take_add_one, hx, List.filter_append]
  by_cases e : x = r
  · simp [e]
  · simp [e]

theorem without_ok (xs : List Rf) (r : Rf) (o : Option Addr) (c : Nat) (F : List Nat) (hxl : xs.length ≤ 256) (w : World) (hr : (rl rfC 39 2 xs o c F).at w) :
    Calls Tryd.prog 107 #[.slice o xs.length c, .agg #[.int .u16 r.idx, .int .u32 r.gen]] w fun e w' => ∃ o' c' F', e = .returned (.slice o' (withoutP xs r).length c') ∧ (rl rfC 39 2 (withoutP xs r) o' c' F').at w' ∧ Fr [] w w' ∧ ∀ b ∈ F', w.heap.size ≤ b := by
  refine enter (n := 23) (K := []) (A := Rws []) (F := Ff []) (T := [(0, .slice o xs.length c), (1, .agg #[.int .u16 r.idx, .int .u32 r.gen])]) (L := []) (args := [.slice o xs.length c, .agg #[.int .u16 r.idx, .int .u32 r.gen]]) Tryd.func107 rfl rfl rfl rfl knil (by simp) knil rws0 Rws.stable rws0.low knil ?_
  intro a h
  refine wp_seq_k fun K1 hK1 => ?_
  refine nd_start (l := [0, 1]) rfl ?_
  refine nd_op ?_
  refine op_new tabOk (cells := [.int .u16 r.idx, .int .u32 r.gen]) (ty := 39) (ln := none) (L1 := fun b2 => [(b2, ⟨[.int .u16 r.idx, .int .u32 r.gen], 39, false⟩)]) h rfl rfl rfl rfl (by kernel_rfl) (fun _ => rfl) fun b2 w3 a4 h5 hf6 hn7 => ?_
  clear h
  refine nd_batch tabOk tabZ_ok [(1, {})] [3, 0, 1, 4] (T' := [(3, .pointer (some ⟨b2, 0, none⟩)), (0, .slice o xs.length c), (1, .agg #[.int .u16 r.idx, .int .u32 r.gen]), (4, .slice none 0 0)]) (φ := True) (rest := []) h5 (by kernel_rfl) rfl trivial fun a8 h9 => ?_
  clear h5
  refine nd_done ?_
  refine hK1 _ _ ?_
  clear hK1
  refine wp_seq_k fun K10 hK10 => ?_
  refine nd_start (l := [0]) rfl ?_
  refine nd_batch tabOk tabZ_ok [(0, {})] [3, 0, 1, 4, 5] (T' := [(3, .pointer (some ⟨b2, 0, none⟩)), (0, .slice o xs.length c), (1, .agg #[.int .u16 r.idx, .int .u32 r.gen]), (4, .slice none 0 0), (5, .slice none 0 0)]) (φ := True) (rest := []) h9 (by kernel_rfl) rfl trivial fun a11 h12 => ?_
  clear h9
  refine nd_done ?_
  refine hK10 _ _ ?_
  clear hK10
  refine wp_seq_k fun K13 hK13 => ?_
  refine wp_seq_k fun K14 hK14 => ?_
  refine nd_start (l := [0, 1, 2]) rfl ?_
  refine nd_batch tabOk tabZ_ok [(0, {}), (1, {}), (2, {})] [3, 0, 1, 4, 5, 8, 9, 10] (T' := [(3, .pointer (some ⟨b2, 0, none⟩)), (0, .slice o xs.length c), (1, .agg #[.int .u16 r.idx, .int .u32 r.gen]), (4, .slice none 0 0), (5, .slice none 0 0), (8, .slice o xs.length c), (9, .int .i64 ((xs.length : Nat) : Int)), (10, .int .i64 0)]) (φ := True) (rest := []) h12 (by kernel_rfl) rfl trivial fun a15 h16 => ?_
  clear h12
  refine nd_done ?_
  refine hK14 _ _ ?_
  clear hK14
  refine wp_block ?_
  have h17a := h16.rowNil 39 2
  have h17 : St ⟨23, [], w, Rws [rl rfC 39 2 ([] : List Rf) none 0 ([])], Ff [rl rfC 39 2 ([] : List Rf) none 0 ([])]⟩ [(3, .pointer (some ⟨b2, 0, none⟩)), (0, .slice o xs.length c), (1, .agg #[.int .u16 r.idx, .int .u32 r.gen]), (4, .slice none 0 0), (5, .slice none 0 0), (8, .slice o xs.length c), (9, .int .i64 ((xs.length : Nat) : Int)), (10, .int .i64 0)] [(b2, ⟨[.int .u16 r.idx, .int .u32 r.gen], 39, false⟩)] _ _ := h17a
  clear h16 h17a
  refine wp_loop_ghost (fun g ga gw => ∃ (o' : Option Addr) (c' : Nat) (F' : List Nat) (rs : List Rf) (m : Nat), (g = xs.length - m) ∧ (m ≤ xs.length) ∧ (rs = withoutP (xs.take m) r) ∧ (∀ b ∈ F', b ∈ ([] : List Nat) ∨ w.heap.size ≤ b) ∧ St ⟨23, [], w, Rws [rl rfC 39 2 rs o' c' F'], Ff [rl rfC 39 2 rs o' c' F']⟩ [(3, .pointer (some ⟨b2, 0, none⟩)), (5, .slice o' rs.length c'), (8, .slice o xs.length c), (9, .int .i64 ((xs.length : Nat) : Int)), (10, .int .i64 ((m : Nat) : Int))] [(b2, ⟨[.int .u16 r.idx, .int .u32 r.gen], 39, false⟩)] ga gw) xs.length ⟨none, 0, [], [], 0, by omega, by omega, rfl, (fun _ hq => by cases hq), (h17.slotsMono (restr_spec (keep := [3, 5, 8, 9, 10]) rfl))⟩ ?_
  clear h17
  rintro g a18 w19 ⟨o', c', F', rs, m, hi21, hi22, hi23, hi24, h20⟩
  have hig := hi21
  have hmx := hi22
  have hrs := hi23
  have hFK := hi24
  have hrl : rs.length ≤ 256 := by rw [hrs]; exact Nat.le_trans (List.length_filter_le _ _) (by rw [List.length_take]; omega)
  refine wp_seq_k fun K25 hK25 => ?_
  refine nd_start (l := [0]) rfl ?_
  refine nd_batch tabOk tabZ_ok [(0, {})] [3, 5, 8, 9, 10, 11] (T' := [(3, .pointer (some ⟨b2, 0, none⟩)), (5, .slice o' rs.length c'), (8, .slice o xs.length c), (9, .int .i64 ((xs.length : Nat) : Int)), (10, .int .i64 ((m : Nat) : Int)), (11, .bool (decide (((m : Nat) : Int) < ((xs.length : Nat) : Int))))]) (φ := True) (rest := []) h20 (by kernel_rfl) rfl trivial fun a26 h27 => ?_
  clear h20
  refine nd_done ?_
  refine hK25 _ _ ?_
  clear hK25
  refine wp_seq_k fun K28 hK28 => ?_
  refine c_split h27 (b := decide (((m : Nat) : Int) < ((xs.length : Nat) : Int))) rfl (fun hc29 => ?_) (fun hc29 => ?_)
  ·
    have hc29f : ((m : Nat) : Int) < ((xs.length : Nat) : Int) := by simpa using hc29
    obtain ⟨x, hx⟩ : ∃ x, xs[m]? = some x := ⟨xs[m]'(by omega), by simp⟩
    have hsu := withoutP_take (r := r) hx
    obtain ⟨sb, scs, ho9, hsb, hsc, _, _, _⟩ := rl_open hr rfC_len hx
    subst ho9
    refine wp_skip ?_
    refine hK28 _ _ ?_
    clear hK28
    refine wp_seq_k fun K30 hK30 => ?_
    refine wp_block ?_
    refine wp_seq_k fun K31 hK31 => ?_
    refine nd_start (l := [0, 1, 2, 3]) rfl ?_
    refine nd_batch tabOk tabZ_ok [(0, {})] [3, 5, 8, 9, 10, 12] (T' := [(3, .pointer (some ⟨b2, 0, none⟩)), (5, .slice o' rs.length c'), (8, .slice (some ⟨sb, 0, none⟩) xs.length c), (9, .int .i64 ((xs.length : Nat) : Int)), (10, .int .i64 ((m : Nat) : Int)), (12, .pointer (some ⟨sb, 0 + (m * 2), none⟩))]) (φ := (0 ≤ ((m : Nat) : Int) ∧ ((m : Nat) : Int) < ((xs.length : Nat) : Int)) ∧ True) (rest := [1, 2, 3]) h27 (by kernel_rfl) rfl ⟨⟨by omega, by omega⟩, trivial⟩ fun a32 h33 => ?_
    clear h27
    refine nd_op ?_
    refine op_loadx tabOk (b := sb) (k := 0 + (m * 2)) (vs := rfC x) h33 rfl rfl rfl rfl rfl rfl rfl (by rw [Nat.zero_add]; exact CellsAt.fr (cellsAt_blk hsb hsc) h33.frame (lt_of_heap hsb)) ?_
    have h34 := h33.put (d := some 13) (v := .agg #[.int .u16 x.idx, .int .u32 x.gen]) (T' := [(13, .agg #[.int .u16 x.idx, .int .u32 x.gen]), (3, .pointer (some ⟨b2, 0, none⟩)), (5, .slice o' rs.length c'), (8, .slice (some ⟨sb, 0, none⟩) xs.length c), (9, .int .i64 ((xs.length : Nat) : Int)), (10, .int .i64 ((m : Nat) : Int)), (12, .pointer (some ⟨sb, 0 + (m * 2), none⟩))]) rfl
    clear h33
    refine nd_op ?_
    refine op_new tabOk (cells := [.int .u16 0, .int .u32 0]) (ty := 39) (ln := none) (L1 := fun b35 => [(b2, ⟨[.int .u16 r.idx, .int .u32 r.gen], 39, false⟩), (b35, ⟨[.int .u16 0, .int .u32 0], 39, false⟩)]) h34 rfl rfl rfl rfl (by kernel_rfl) (fun _ => rfl) fun b35 w36 a37 h38 hf39 hn40 => ?_
    clear h34
    refine nd_op ?_
    refine op_store tabOk {k := 1} (L' := [(b2, ⟨[.int .u16 r.idx, .int .u32 r.gen], 39, false⟩), (b35, ⟨[.int .u16 x.idx, .int .u32 x.gen], 39, false⟩)]) (φ := b35 = b35 ∧ Nat.ble (0 + 2) 2 = true) h38 rfl rfl rfl (by kernel_rfl) ⟨rfl, rfl⟩ fun w41 h42 => ?_
    clear h38
    refine nd_done ?_
    refine hK31 _ _ ?_
    clear hK31
    refine wp_seq_k fun K43 hK43 => ?_
    refine nd_start (l := [0, 1, 2]) rfl ?_
    refine nd_batch tabOk tabZ_ok [(0, {k := 1}), (1, {k := 0}), (2, {vs := [.bool (decide (x = r))]})] [7, 3, 5, 8, 9, 10, 16] (T' := [(7, .pointer (some ⟨b35, 0, none⟩)), (3, .pointer (some ⟨b2, 0, none⟩)), (5, .slice o' rs.length c'), (8, .slice (some ⟨sb, 0, none⟩) xs.length c), (9, .int .i64 ((xs.length : Nat) : Int)), (10, .int .i64 ((m : Nat) : Int)), (16, .bool (Bool.xor true (decide (x = r))))]) (φ := (b35 = b35 ∧ Nat.ble (0 + 2) 2 = true) ∧ (b2 = b2 ∧ Nat.ble (0 + 2) 2 = true) ∧ EqRun Tryd.prog 39 (.agg #[.int .u16 x.idx, .int .u32 x.gen]) (.agg #[.int .u16 r.idx, .int .u32 r.gen]) (decide (x = r)) ∧ True) (rest := []) h42 (by kernel_rfl) rfl ⟨⟨rfl, rfl⟩, ⟨rfl, rfl⟩, (runRf x r), trivial⟩ fun a44 h45 => ?_
    clear h42
    refine nd_done ?_
    refine hK43 _ _ ?_
    clear hK43
    refine c_split h45 (b := (Bool.xor true (decide (x = r)))) rfl (fun hc46 => ?_) (fun hc46 => ?_)
    ·
      have hc46f : ¬ (x = r) := by simpa using hc46
      have hxr : x ≠ r := by simpa using hc46
      rw [if_pos hxr] at hsu
      refine nd_start (l := [0, 1, 2, 3, 4]) rfl ?_
      refine nd_batch tabOk tabZ_ok [(0, {}), (1, {k := 1})] [7, 3, 5, 8, 9, 10, 17, 18] (T' := [(7, .pointer (some ⟨b35, 0, none⟩)), (3, .pointer (some ⟨b2, 0, none⟩)), (5, .slice o' rs.length c'), (8, .slice (some ⟨sb, 0, none⟩) xs.length c), (9, .int .i64 ((xs.length : Nat) : Int)), (10, .int .i64 ((m : Nat) : Int)), (17, .slice o' rs.length c'), (18, .agg #[.int .u16 x.idx, .int .u32 x.gen])]) (φ := (b35 = b35 ∧ Nat.ble (0 + 2) 2 = true) ∧ True) (rest := [2, 3, 4]) h45 (by kernel_rfl) rfl ⟨⟨rfl, rfl⟩, trivial⟩ fun a47 h48 => ?_
      clear h45
      refine nd_op ?_
      refine op_new tabOk (cells := [.int .u16 x.idx, .int .u32 x.gen]) (ty := 39) (ln := (some 1)) (L1 := fun b49 => [(b2, ⟨[.int .u16 r.idx, .int .u32 r.gen], 39, false⟩), (b35, ⟨[.int .u16 x.idx, .int .u32 x.gen], 39, false⟩), (b49, ⟨[.int .u16 x.idx, .int .u32 x.gen], 39, false⟩)]) h48 rfl rfl rfl rfl (by kernel_rfl) (fun _ => rfl) fun b49 w50 a51 h52 hf53 hn54 => ?_
      clear h48
      refine nd_op ?_
      refine op_append tabOk (e := 39) (so := o') (n := rs.length) (c := c') (xo := some ⟨b49, 0, none⟩) (m := 1) (cx := 1) (vals := rs.flatMap rfC) (vs := [.int .u16 x.idx, .int .u32 x.gen]) (F := F') h52 rfl rfl rfl rfl rfl rfl rfl rfl rfl rfl rfl rfl (h52.inv.get (j := 0) rfl) (src_one (h52.kn (k := 2) rfl) rfl ⟨rfl, rfl, trivial⟩) (by omega) rfl ?_
      intro o55 c56 F57 w58 hr59 hf60 hF61
      have hr592 := rl_app1 (enc := rfC) (xs := rs) (y := x) hr59
      have hKh62 := row1_keys (K := []) hFK h52.frame.size hF61
      rw [show rs.length + 1 = (rs ++ [x]).length by simp]
      have h62 := (h52.rowSet (j := 0) (r' := rl rfC 39 2 (rs ++ [x]) o55 c56 F57) (R' := [rl rfC 39 2 (rs ++ [x]) o55 c56 F57]) rfl hr592 hf60 hF61 hFK (kcons (by intro hq; cases hq) (kcons (by intro hq; cases hq) (kcons (by intro hq; cases hq) knil))) rfl).put (d := some 20) (v := .slice o55 ((rs ++ [x]).length) c56) (T' := [(20, .slice o55 ((rs ++ [x]).length) c56), (19, .slice (some ⟨b49, 0, none⟩) 1 1), (7, .pointer (some ⟨b35, 0, none⟩)), (3, .pointer (some ⟨b2, 0, none⟩)), (5, .slice o' rs.length c'), (8, .slice (some ⟨sb, 0, none⟩) xs.length c), (9, .int .i64 ((xs.length : Nat) : Int)), (10, .int .i64 ((m : Nat) : Int)), (17, .slice o' rs.length c'), (18, .agg #[.int .u16 x.idx, .int .u32 x.gen])]) rfl
      clear h52
      refine nd_batch tabOk tabZ_ok [(4, {})] [7, 3, 8, 9, 10, 5] (T' := [(7, .pointer (some ⟨b35, 0, none⟩)), (3, .pointer (some ⟨b2, 0, none⟩)), (8, .slice (some ⟨sb, 0, none⟩) xs.length c), (9, .int .i64 ((xs.length : Nat) : Int)), (10, .int .i64 ((m : Nat) : Int)), (5, .slice o55 ((rs ++ [x]).length) c56)]) (φ := True) (rest := []) h62 (by kernel_rfl) rfl trivial fun a63 h64 => ?_
      clear h62
      refine nd_done ?_
      refine hK30 _ _ ?_
      clear hK30
      refine nd_start (l := [0, 1]) rfl ?_
      refine nd_batch tabOk tabZ_ok [(0, {}), (1, {})] [7, 3, 8, 9, 5, 10] (T' := [(7, .pointer (some ⟨b35, 0, none⟩)), (3, .pointer (some ⟨b2, 0, none⟩)), (8, .slice (some ⟨sb, 0, none⟩) xs.length c), (9, .int .i64 ((xs.length : Nat) : Int)), (5, .slice o55 ((rs ++ [x]).length) c56), (10, .int .i64 (((m : Nat) : Int) + 1))]) (φ := inR .i64 (((m : Nat) : Int) + 1) ∧ True) (rest := []) h64 (by kernel_rfl) rfl ⟨⟨by omega, by omega⟩, trivial⟩ fun a65 h66 => ?_
      clear h64
      refine nd_done ?_
      have h67 := h66.memMono (L' := [(b2, ⟨[.int .u16 r.idx, .int .u32 r.gen], 39, false⟩)]) (List.Sublist.cons_cons _ (List.Sublist.cons _ (List.Sublist.cons _ List.Sublist.slnil)))
      clear h66
      exact ⟨(g - 1), by omega, o55, c56, F57, (rs ++ [x]), (m + 1), by omega, by omega, (by rw [hsu, hrs]; try rw [List.append_nil]), hKh62, (h67.slotsMono (restr_spec (keep := [3, 5, 8, 9, 10]) rfl))⟩
    ·
      have hc46f : x = r := by simpa using hc46
      have hxr : ¬ x ≠ r := by simpa using hc46
      rw [if_neg hxr] at hsu
      refine wp_skip ?_
      refine hK30 _ _ ?_
      clear hK30
      refine nd_start (l := [0, 1]) rfl ?_
      refine nd_batch tabOk tabZ_ok [(0, {}), (1, {})] [7, 3, 5, 8, 9, 10] (T' := [(7, .pointer (some ⟨b35, 0, none⟩)), (3, .pointer (some ⟨b2, 0, none⟩)), (5, .slice o' rs.length c'), (8, .slice (some ⟨sb, 0, none⟩) xs.length c), (9, .int .i64 ((xs.length : Nat) : Int)), (10, .int .i64 (((m : Nat) : Int) + 1))]) (φ := inR .i64 (((m : Nat) : Int) + 1) ∧ True) (rest := []) h45 (by kernel_rfl) rfl ⟨⟨by omega, by omega⟩, trivial⟩ fun a68 h69 => ?_
      clear h45
      refine nd_done ?_
      have h70 := h69.memMono (L' := [(b2, ⟨[.int .u16 r.idx, .int .u32 r.gen], 39, false⟩)]) (List.Sublist.cons_cons _ (List.Sublist.cons _ List.Sublist.slnil))
      clear h69
      exact ⟨(g - 1), by omega, o', c', F', rs, (m + 1), by omega, by omega, (by rw [hsu, hrs]; try rw [List.append_nil]), hFK, (h70.slotsMono (restr_spec (keep := [3, 5, 8, 9, 10]) rfl))⟩
  ·
    have hc29f : ¬ ((m : Nat) : Int) < ((xs.length : Nat) : Int) := by simpa using hc29
    have hfin : xs.length ≤ m := by omega
    rw [List.take_of_length_le hfin] at hrs
    refine wp_exit ?_
    refine hK13 _ _ ?_
    clear hK13
    refine wp_seq_k fun K71 hK71 => ?_
    refine nd_start (l := [0, 1]) rfl ?_
    refine nd_batch tabOk tabZ_ok [(0, {}), (1, {})] [3, 5, 8, 9, 10, 4] (T' := [(3, .pointer (some ⟨b2, 0, none⟩)), (5, .slice o' rs.length c'), (8, .slice o xs.length c), (9, .int .i64 ((xs.length : Nat) : Int)), (10, .int .i64 ((m : Nat) : Int)), (4, .slice o' rs.length c')]) (φ := True) (rest := []) h27 (by kernel_rfl) rfl trivial fun a72 h73 => ?_
    clear h27
    refine nd_done ?_
    refine hK71 _ _ ?_
    clear hK71
    refine wp_ret ?_
    try simp only [Exit.then, Exit.inBlock]
    try rw [if_pos trivial]
    exact s_ret tabOk tabZ_ok h73 [(.tmp 4, {})] (vs := [.slice o' rs.length c']) (φ := True) rfl (by kernel_rfl) trivial ⟨o', c', F', by rw [← hrs]; rfl, by rw [← hrs]; exact h73.inv.get (j := 0) rfl, h73.frame, fun b hb => (hFK b hb).resolve_left (fun hz => by cases hz)⟩

theorem withoutP_kys {Z : MZ} {x : Nat} : ∀ {xs : List Nat}, (∀ y ∈ xs, Z.ky y = Z.ky x → y = x) → withoutP (kys Z xs) (Z.ky x) = kys Z (xs.filter (fun y => decide (y ≠ x)))
  | [], _ => rfl
  | y :: xs, h => by
    have ih := withoutP_kys (xs := xs) (x := x) (Z := Z) (fun z hz => h z (List.mem_cons_of_mem _ hz))
    unfold withoutP kys at ih ⊢
    by_cases e : y = x
    · subst e; simp only [List.map_cons, List.filter_cons, ne_eq, not_true, decide_false]
      exact ih
    · have e2 : Z.ky y ≠ Z.ky x := fun q => e (h y (by simp) q)
      simp only [List.map_cons, List.filter_cons, ne_eq, e, e2, not_false_eq_true, decide_true, if_true]
      rw [← ih]

end Go.Proofs.Qxb6500918aDoor
