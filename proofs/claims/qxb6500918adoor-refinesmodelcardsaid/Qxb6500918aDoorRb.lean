/-
  slices.Clone over events; swapPairs. (Made by program: a symbolic walk that prints its steps.)
-/
import Derived.Test.Qxb6500918aDoorRa
namespace Go.Proofs.Qxb6500918aDoor
open Go.Sx Go.Kn
set_option maxRecDepth 100000
set_option maxHeartbeats 4000000
set_option linter.unusedVariables false
set_option linter.unusedSimpArgs false

theorem opC_flat {w : World} {b k : Nat} : ∀ (ops : List OpV), (∀ j y, ops[j]? = some y → CellsAt w b (k + j * 11) (opC y)) → CellsAt w b k (ops.flatMap opC)
  | [], _ => fun j v hj => by simp at hj
  | x :: ops, h => fun j v hj => by
    rw [List.flatMap_cons] at hj
    rcases Nat.lt_or_ge j 11 with hl | hl
    · rw [List.getElem?_append_left (by rw [opC_len]; exact hl)] at hj
      have := h 0 x rfl j v hj
      rw [Nat.zero_mul, Nat.add_zero] at this
      exact this
    · rw [List.getElem?_append_right (by rw [opC_len]; exact hl), opC_len] at hj
      have := opC_flat (k := k + 11) ops (fun i y hy => by
        have h1 := h (i + 1) y (by simpa using hy)
        rw [show k + (i + 1) * 11 = k + 11 + i * 11 by omega] at h1
        exact h1) (j - 11) v hj
      rw [show k + 11 + (j - 11) = k + j by omega] at this
      exact this

theorem scr_cells {w : World} {o : Option Addr} {ops : List OpV} (h : Scr w o ops) : ops.length = 0 ∨ ∃ b k, o = some ⟨b, k, none⟩ ∧ CellsAt w b k (ops.flatMap opC) := by
  cases hq : ops with
  | nil => exact .inl rfl
  | cons x r =>
    obtain ⟨b, k, h1, _, h3⟩ := h.get (i := 0) (x := x) (by rw [hq]; rfl)
    exact .inr ⟨b, k, h1, opC_flat _ (fun j y hy => h3 j y (by rw [hq]; exact hy))⟩

theorem row_scr {w : World} {o : Option Addr} {c : Nat} {F : List Nat} {ops : List OpV} (h : (rl opC 35 11 ops o c F).at w) : Scr w o ops := by
  refine ⟨fun {i x} hx => ?_⟩
  obtain ⟨b, cs, h1, h2, _, h4, _⟩ := rl_open h opC_len hx
  refine ⟨b, 0, h1, lt_of_heap h2, fun j y hy => ?_⟩
  obtain ⟨b', cs', e1, e2, e3, _⟩ := rl_open h opC_len hy
  have hbb : b' = b := by rw [h1] at e1; simpa using e1.symm
  subst hbb
  rw [Nat.zero_add]
  exact cellsAt_blk e2 e3

theorem flat_len11 : ∀ (xs : List OpV), (xs.flatMap opC).length = xs.length * 11
  | [] => rfl
  | x :: xs => by rw [List.flatMap_cons, List.length_append, opC_len, flat_len11 xs]; simp; omega

theorem pure_slicenil22 {T : Slots} {a : Act} {o : Oper} {x : Operand} {b : Option Addr} {n c : Nat} {v : Bool} (hs : SlotsOk T a) (hop : o.op = .binOp .eql 22 x (.const (.slice none 0 0)) 22) (hx : evO T x = some (.slice b n c)) (hv : b.isNone = v) : Pure Tryd.prog a o (.bool v) := by
  intro w
  have e2 : a.eval (.const (.slice none 0 0)) = .slice none 0 0 := rfl
  have hq := run_equal_slice_nil (P := Tryd.prog) w 22 35 b n c Tryd.underlying22
  subst hv
  simp only [execOp, hop, evO_eval hs hx, e2, Sem.run_bind, eqGuard, binOp, Sem.run_pure]
  simp [hq]

/-! A write into an element of a row -/

theorem splice_app9 {l1 l2 vs : List Value} {k : Nat} (h : k + vs.length ≤ l1.length) : splice (l1 ++ l2) k vs = splice l1 k vs ++ l2 := splice_app_left vs l1 l2 k h

theorem flat_set : ∀ {xs : List OpV} {i : Nat}, i < xs.length → ∀ y, splice (xs.flatMap opC) (i * 11) (opC y) = (xs.set i y).flatMap opC
  | [], _, h, _ => by simp at h
  | x0 :: xs, 0, _, y => by
    rw [List.flatMap_cons, Nat.zero_mul, splice_app_left _ _ _ _ (by rw [opC_len, opC_len]; decide), List.set_cons_zero, List.flatMap_cons]
    congr 1
  | x0 :: xs, i + 1, h, y => by
    have h' : i < xs.length := by simpa using h
    rw [List.flatMap_cons, List.set_cons_succ, List.flatMap_cons, ← flat_set h' y]
    have := splice_app_right (opC y) (opC x0) (xs.flatMap opC) (i * 11)
    rw [opC_len] at this
    rw [show (i + 1) * 11 = 11 + i * 11 by omega]
    exact this

theorem take_set {cs : List Value} {xs : List OpV} {c i : Nat} (hl : cs.length = c * 11) (hc : xs.length ≤ c) (ht : cs.take (xs.length * 11) = xs.flatMap opC) (hi : i < xs.length) (y : OpV) :
    (splice cs (i * 11) (opC y)).length = c * 11 ∧ (splice cs (i * 11) (opC y)).take ((xs.set i y).length * 11) = (xs.set i y).flatMap opC := by
  refine ⟨by rw [splice_length]; exact hl, ?_⟩
  have h1 : cs = cs.take (xs.length * 11) ++ cs.drop (xs.length * 11) := (List.take_append_drop _ _).symm
  have hlen : (cs.take (xs.length * 11)).length = xs.length * 11 := by rw [List.length_take]; omega
  rw [List.length_set, h1, splice_app_left _ _ _ _ (by rw [hlen, opC_len]; omega), ht, flat_set hi]
  rw [List.take_left']
  rw [flat_len11, List.length_set]

theorem set_mem {xs : List OpV} {i : Nat} {y : OpV} {P : OpV → Prop} (h : ∀ x ∈ xs, P x) (hy : P y) : ∀ x ∈ xs.set i y, P x := fun x hx => by
  rcases List.mem_or_eq_of_mem_set hx with h1 | h1
  · exact h x h1
  · rw [h1]; exact hy

theorem cloneO_some (ops : List OpV) (hl : ops.length ≤ 65536) (ad : Addr) (c : Nat) (w : World) (hscr : Scr w (some ad) ops) :
    Calls Tryd.prog 67 #[.slice (some ad) ops.length c] w fun e w' => ∃ o' c' F', e = .returned (.slice o' ops.length c') ∧ (rl opC 35 11 ops o' c' F').at w' ∧ Fr [] w w' ∧ ∀ b ∈ F', w.heap.size ≤ b := by
  refine enter0 (n := 8) (K := []) (T := [(0, .slice (some ad) ops.length c)]) (L := []) (args := [.slice (some ad) ops.length c]) Tryd.func67 rfl rfl rfl rfl knil (by simp) knil ?_
  intro a h
  refine wp_seq_k fun K1 hK1 => ?_
  refine nd_start (l := [0]) rfl ?_
  refine nd_batch tabOk tabZ_ok [(0, {})] [0, 2] (T' := [(0, .slice (some ad) ops.length c), (2, .slice none 0 0)]) (φ := True) (rest := []) h (by kernel_rfl) rfl trivial fun a2 h3 => ?_
  clear h
  refine nd_done ?_
  refine hK1 _ _ ?_
  clear hK1
  refine wp_seq_k fun K4 hK4 => ?_
  refine wp_seq_k fun K5 hK5 => ?_
  refine nd_start (l := [0, 1]) rfl ?_
  refine nd_batch tabOk tabZ_ok [(0, {})] [0, 2, 3] (T' := [(0, .slice (some ad) ops.length c), (2, .slice none 0 0), (3, .slice (some ad) ops.length c)]) (φ := True) (rest := [1]) h3 (by kernel_rfl) rfl trivial fun a6 h7 => ?_
  clear h3
  refine nd_op ?_
  refine op_pure (v := .bool false) h7 rfl rfl (pure_slicenil22 h7.slots rfl rfl rfl) ?_
  have h8 := h7.put (d := some 4) (v := .bool false) (T' := [(4, .bool false), (0, .slice (some ad) ops.length c), (2, .slice none 0 0), (3, .slice (some ad) ops.length c)]) rfl
  clear h7
  refine nd_done ?_
  refine hK5 _ _ ?_
  clear hK5
  refine c_false h8 rfl ?_
  refine wp_skip ?_
  refine hK4 _ _ ?_
  clear hK4
  refine wp_seq_k fun K9 hK9 => ?_
  refine nd_start (l := [0, 1, 2, 3]) rfl ?_
  refine nd_op ?_
  refine op_new0 tabOk (L1 := fun b10 => [(b10, ⟨[], 35, false⟩)]) h8 rfl rfl rfl rfl rfl rfl rfl rfl (fun _ => rfl) fun b10 w11 a12 h13 hf14 hn15 => ?_
  clear h8
  refine nd_batch tabOk tabZ_ok [(1, {})] [5, 0, 2, 6] (T' := [(5, .slice (some ⟨b10, 0, none⟩) 0 0), (0, .slice (some ad) ops.length c), (2, .slice none 0 0), (6, .slice (some ad) ops.length c)]) (φ := True) (rest := [2, 3]) h13 (by kernel_rfl) rfl trivial fun a16 h17 => ?_
  clear h13
  refine nd_op ?_
  have hnb := h17.newer (k := 0) rfl rfl
  have hsz := h17.frame.size
  refine op_append0 tabOk (e := 35) (b0 := b10) (xo := some ad) (m := ops.length) (cx := c) (vs := ops.flatMap opC) h17 rfl rfl rfl rfl rfl rfl rfl rfl rfl rfl rfl rfl (h17.kn (k := 0) (blk := ⟨[], 35, false⟩) rfl) (flat_len11 ops) (scr_cells (scr_fr hscr h17.frame)) (by omega) ?_
  intro o18 c19 F20 w21 hr22 hf23 hF24
  have h25 := ((h17.memMono (L' := []) (List.Sublist.cons _ List.Sublist.slnil)).grow hf23).put (d := some 7) (v := .slice o18 ops.length c19) (T' := [(7, .slice o18 ops.length c19), (5, .slice (some ⟨b10, 0, none⟩) 0 0), (0, .slice (some ad) ops.length c), (2, .slice none 0 0), (6, .slice (some ad) ops.length c)]) rfl
  clear h17
  refine nd_batch tabOk tabZ_ok [(3, {})] [0, 2] (T' := [(0, .slice (some ad) ops.length c), (2, .slice o18 ops.length c19)]) (φ := True) (rest := []) h25 (by kernel_rfl) rfl trivial fun a26 h27 => ?_
  clear h25
  refine nd_done ?_
  refine hK9 _ _ ?_
  clear hK9
  refine wp_ret ?_
  try simp only [Exit.then, Exit.inBlock]
  try rw [if_pos trivial]
  exact s_ret tabOk tabZ_ok h27 [(.tmp 2, {})] (vs := [.slice o18 ops.length c19]) (φ := True) rfl (by kernel_rfl) trivial ⟨o18, c19, F20, rfl, hr22, h27.frame, fun x hx => (hF24 x hx).elim (fun h => by rw [h]; exact hnb) (fun h => Nat.le_trans hsz h)⟩

theorem cloneO_none (c : Nat) (w : World) :
    Calls Tryd.prog 67 #[.slice none 0 c] w fun e w' => ∃ o' c' F', e = .returned (.slice o' 0 c') ∧ (rl opC 35 11 [] o' c' F').at w' ∧ Fr [] w w' ∧ ∀ b ∈ F', w.heap.size ≤ b := by
  refine enter0 (n := 8) (K := []) (T := [(0, .slice none 0 c)]) (L := []) (args := [.slice none 0 c]) Tryd.func67 rfl rfl rfl rfl knil (by simp) knil ?_
  intro a h
  refine wp_seq_k fun K1 hK1 => ?_
  refine nd_start (l := [0]) rfl ?_
  refine nd_batch tabOk tabZ_ok [(0, {})] [0, 2] (T' := [(0, .slice none 0 c), (2, .slice none 0 0)]) (φ := True) (rest := []) h (by kernel_rfl) rfl trivial fun a2 h3 => ?_
  clear h
  refine nd_done ?_
  refine hK1 _ _ ?_
  clear hK1
  refine wp_seq_k fun K4 hK4 => ?_
  refine wp_seq_k fun K5 hK5 => ?_
  refine nd_start (l := [0, 1]) rfl ?_
  refine nd_batch tabOk tabZ_ok [(0, {})] [0, 2, 3] (T' := [(0, .slice none 0 c), (2, .slice none 0 0), (3, .slice none 0 c)]) (φ := True) (rest := [1]) h3 (by kernel_rfl) rfl trivial fun a6 h7 => ?_
  clear h3
  refine nd_op ?_
  refine op_pure (v := .bool true) h7 rfl rfl (pure_slicenil22 h7.slots rfl rfl rfl) ?_
  have h8 := h7.put (d := some 4) (v := .bool true) (T' := [(4, .bool true), (0, .slice none 0 c), (2, .slice none 0 0), (3, .slice none 0 c)]) rfl
  clear h7
  refine nd_done ?_
  refine hK5 _ _ ?_
  clear hK5
  refine c_true h8 rfl ?_
  refine wp_seq_k fun K9 hK9 => ?_
  refine nd_start (l := [0]) rfl ?_
  refine nd_batch tabOk tabZ_ok [(0, {})] [0, 2] (T' := [(0, .slice none 0 c), (2, .slice none 0 0)]) (φ := True) (rest := []) h8 (by kernel_rfl) rfl trivial fun a10 h11 => ?_
  clear h8
  refine nd_done ?_
  refine hK9 _ _ ?_
  clear hK9
  refine wp_ret ?_
  try simp only [Exit.then, Exit.inBlock]
  try rw [if_pos trivial]
  exact s_ret tabOk tabZ_ok h11 [(.tmp 2, {})] (vs := [.slice none 0 0]) (φ := True) rfl (by kernel_rfl) trivial ⟨none, 0, [], rfl, rl_nil _ _ _ _, h11.frame, fun _ hq => by cases hq⟩

theorem cloneO_ok (ops : List OpV) (hl : ops.length ≤ 65536) (o : Option Addr) (c : Nat) (w : World) (hscr : Scr w o ops) :
    Calls Tryd.prog 67 #[.slice o ops.length c] w fun e w' => ∃ o' c' F', e = .returned (.slice o' ops.length c') ∧ (rl opC 35 11 ops o' c' F').at w' ∧ Fr [] w w' ∧ ∀ b ∈ F', w.heap.size ≤ b := by
  cases o with
  | some ad => exact cloneO_some ops hl ad c w hscr
  | none =>
    cases ops with
    | nil => exact cloneO_none c w
    | cons x r => obtain ⟨b, k, h1, _⟩ := hscr.get (i := 0) (x := x) rfl; cases h1

theorem swap_some (ops : List OpV) (h0 : 0 < ops.length) (hl : ops.length ≤ 65536) (o : Option Addr) (c : Nat) (w : World) (hscr : Scr w o ops) :
    Calls Tryd.prog 34 #[.slice o ops.length c] w fun e w' => ∃ xs o' c' F', e = .returned (.slice o' xs.length c') ∧ xs.length = ops.length ∧ (∀ x ∈ xs, x ∈ ops) ∧ (rl opC 35 11 xs o' c' F').at w' ∧ Fr [] w w' ∧ ∀ b ∈ F', w.heap.size ≤ b := by
  refine enter0 (n := 31) (K := []) (T := [(0, .slice o ops.length c)]) (L := []) (args := [.slice o ops.length c]) Tryd.func34 rfl rfl rfl rfl knil (by simp) knil ?_
  intro a h
  refine wp_seq_k fun K1 hK1 => ?_
  refine nd_start (l := [0]) rfl ?_
  refine nd_batch tabOk tabZ_ok [(0, {})] [0, 2] (T' := [(0, .slice o ops.length c), (2, .slice none 0 0)]) (φ := True) (rest := []) h (by kernel_rfl) rfl trivial fun a2 h3 => ?_
  clear h
  refine nd_done ?_
  refine hK1 _ _ ?_
  clear hK1
  refine wp_seq_k fun K4 hK4 => ?_
  refine nd_start (l := [0, 1, 2]) rfl ?_
  refine nd_batch tabOk tabZ_ok [(0, {})] [0, 2, 5] (T' := [(0, .slice o ops.length c), (2, .slice none 0 0), (5, .slice o ops.length c)]) (φ := True) (rest := [1, 2]) h3 (by kernel_rfl) rfl trivial fun a5 h6 => ?_
  clear h3
  refine nd_op ?_
  refine op_call h6 rfl rfl rfl (callOk Tryd.func67 (by decide) rfl) (args := [.slice o ops.length c]) rfl (cloneO_ok ops hl o c _ (scr_fr hscr h6.frame)) ?_
  rintro _ w7 ⟨o1, c1, F1, rfl, hr8, hf9, hF10⟩
  refine ⟨_, rfl, ?_⟩
  have hsz1 := h6.frame.size
  obtain ⟨rb, cs, hro, hrb, hrl, hrn, hrt, hrF⟩ := Row.open_ hr8 (by show 0 < ops.length; omega)
  subst hro hrF
  have hnb := hF10 rb (by simp)
  have hrb : w7.heap[rb]? = some (Blk.obj ⟨cs, 35, false⟩) := hrb
  have hrl : cs.length = c1 * 11 := hrl
  have hrn : ops.length ≤ c1 := hrn
  have hrt : cs.take (ops.length * 11) = ops.flatMap opC := hrt
  have h11 := (h6.fresh hf9 hnb hrb).put (d := some 6) (v := .slice (some ⟨rb, 0, none⟩) ops.length c1) (T' := [(6, .slice (some ⟨rb, 0, none⟩) ops.length c1), (0, .slice o ops.length c), (2, .slice none 0 0), (5, .slice o ops.length c)]) rfl
  clear h6
  refine nd_batch tabOk tabZ_ok [(2, {})] [0, 2, 3] (T' := [(0, .slice o ops.length c), (2, .slice none 0 0), (3, .slice (some ⟨rb, 0, none⟩) ops.length c1)]) (φ := True) (rest := []) h11 (by kernel_rfl) rfl trivial fun a12 h13 => ?_
  clear h11
  refine nd_done ?_
  refine hK4 _ _ ?_
  clear hK4
  refine wp_seq_k fun K14 hK14 => ?_
  refine wp_seq_k fun K15 hK15 => ?_
  refine nd_start (l := [0]) rfl ?_
  refine nd_batch tabOk tabZ_ok [(0, {})] [0, 2, 3, 4] (T' := [(0, .slice o ops.length c), (2, .slice none 0 0), (3, .slice (some ⟨rb, 0, none⟩) ops.length c1), (4, .int .i64 0)]) (φ := True) (rest := []) h13 (by kernel_rfl) rfl trivial fun a16 h17 => ?_
  clear h13
  refine nd_done ?_
  refine hK15 _ _ ?_
  clear hK15
  refine wp_block ?_
  refine wp_loop_ghost (fun g ga gw => ∃ (cs : List Value) (xs : List OpV) (i : Int), ((g : Int) = ops.length + 2 - i) ∧ (0 ≤ i ∧ i ≤ ops.length + 1) ∧ (cs.length = c1 * 11) ∧ (xs.length = ops.length) ∧ (∀ x ∈ xs, x ∈ ops) ∧ (cs.take (xs.length * 11) = xs.flatMap opC) ∧ St ⟨31, [], w, fun _ => True, []⟩ [(0, .slice o ops.length c), (2, .slice none 0 0), (3, .slice (some ⟨rb, 0, none⟩) ops.length c1), (4, .int .i64 i)] [(rb, ⟨cs, 35, false⟩)] ga gw) (ops.length + 2) ⟨cs, ops, 0, by omega, ⟨by omega, by omega⟩, hrl, rfl, (fun _ h => h), hrt, (h17.slotsMono (restr_spec (keep := [0, 2, 3, 4]) rfl))⟩ ?_
  clear h17
  rintro g a18 w19 ⟨cs, xs, i, hi21, hi22, hi23, hi24, hi25, hi26, h20⟩
  have hig := hi21
  have hi0 := hi22
  have hcl := hi23
  have hxl := hi24
  have hxm := hi25
  have hct := hi26
  refine wp_seq_k fun K27 hK27 => ?_
  refine wp_seq_k fun K28 hK28 => ?_
  refine nd_start (l := [0, 1, 2, 3, 4]) rfl ?_
  refine nd_batch tabOk tabZ_ok [(0, {}), (1, {}), (2, {}), (3, {}), (4, {})] [0, 2, 3, 4, 11] (T' := [(0, .slice o ops.length c), (2, .slice none 0 0), (3, .slice (some ⟨rb, 0, none⟩) ops.length c1), (4, .int .i64 i), (11, .bool (decide ((i + 1) < ((ops.length : Nat) : Int))))]) (φ := inR .i64 (i + 1) ∧ True) (rest := []) h20 (by kernel_rfl) rfl ⟨⟨by omega, by omega⟩, trivial⟩ fun a29 h30 => ?_
  clear h20
  refine nd_done ?_
  refine hK28 _ _ ?_
  clear hK28
  refine c_split h30 (b := decide ((i + 1) < ((ops.length : Nat) : Int))) rfl (fun hc31 => ?_) (fun hc31 => ?_)
  ·
    have hc31f : (i + 1) < ((ops.length : Nat) : Int) := by simpa using hc31
    obtain ⟨x, hx⟩ : ∃ x, xs[i.toNat]? = some x := ⟨xs[i.toNat]'(by omega), by simp⟩
    obtain ⟨y, hy⟩ : ∃ y, xs[(i + 1).toNat]? = some y := ⟨xs[(i + 1).toNat]'(by omega), by simp⟩
    have hrx : cellsAre cs (i.toNat * 11) (opC x) := Row.read opC_len hct hx (by omega)
    have hry : cellsAre cs ((i + 1).toNat * 11) (opC y) := Row.read opC_len hct hy (by omega)
    have hs1 := take_set hcl (by omega) hct (i := i.toNat) (by omega) y
    have hs2 := take_set hs1.1 (by rw [List.length_set]; omega) hs1.2 (i := (i + 1).toNat) (by rw [List.length_set]; omega) x
    refine wp_skip ?_
    refine hK27 _ _ ?_
    clear hK27
    refine wp_seq_k fun K32 hK32 => ?_
    refine wp_block ?_
    refine dr_start (KB := [rb]) (Bi := [[0], [0], [0], [0], [0], [0], [0], [0], [0], [0], [0], [0], [0], [0], [0], [], [0], []]) mixed h30 fun w33 h34 => ?_
    clear h30
    refine dr_batch tabOk tabZ_ok (by repeat (first | with_reducible exact PF.body | with_reducible apply PF.inB | with_reducible apply PF.next)) [(0, {}), (1, {}), (2, {}), (3, {}), (4, {}), (5, {}), (6, {}), (7, {}), (8, {}), (9, {k := 0, m := 1, vs := [.int .u8 y.ev.kind, .int .u32 y.ev.pick, .int .u64 y.ev.draw, .int .u32 y.ev.addr, .int .u32 y.ev.node, .int .u32 y.ev.dst, .int .u32 y.ev.xfer, .int .u8 y.ev.ty, .int .u64 y.ev.arg, .int .u64 y.ev.badge, .slice y.xo y.ev.ws.length y.cx], p := 0}), (10, {}), (11, {}), (12, {}), (13, {k := 0, m := 1, vs := [.int .u8 x.ev.kind, .int .u32 x.ev.pick, .int .u64 x.ev.draw, .int .u32 x.ev.addr, .int .u32 x.ev.node, .int .u32 x.ev.dst, .int .u32 x.ev.xfer, .int .u8 x.ev.ty, .int .u64 x.ev.arg, .int .u64 x.ev.badge, .slice x.xo x.ev.ws.length x.cx], p := 0}), (14, {})] [0, 2, 3, 4, 16, 18, 23, 27, 28] (T' := [(0, .slice o ops.length c), (2, .slice none 0 0), (3, .slice (some ⟨rb, 0, none⟩) ops.length c1), (4, .int .i64 i), (16, .slice (some ⟨rb, 0, none⟩) ops.length c1), (18, .int .i64 (i + 1)), (23, .agg #[.int .u8 y.ev.kind, .int .u32 y.ev.pick, .int .u64 y.ev.draw, .int .u32 y.ev.addr, .int .u32 y.ev.node, .int .u32 y.ev.dst, .int .u32 y.ev.xfer, .int .u8 y.ev.ty, .int .u64 y.ev.arg, .int .u64 y.ev.badge, .slice y.xo y.ev.ws.length y.cx]), (27, .agg #[.int .u8 x.ev.kind, .int .u32 x.ev.pick, .int .u64 x.ev.draw, .int .u32 x.ev.addr, .int .u32 x.ev.node, .int .u32 x.ev.dst, .int .u32 x.ev.xfer, .int .u8 x.ev.ty, .int .u64 x.ev.arg, .int .u64 x.ev.badge, .slice x.xo x.ev.ws.length x.cx]), (28, .pointer (some ⟨rb, 0 + (i.toNat * 11), none⟩))]) (φ := inR .i64 (i + 1) ∧ inR .i64 (i + 1) ∧ (0 ≤ (i + 1) ∧ (i + 1) < ((ops.length : Nat) : Int)) ∧ (rb = rb ∧ cellsAre cs (0 + (((i + 1).toNat) * 11)) [.int .u8 y.ev.kind, .int .u32 y.ev.pick, .int .u64 y.ev.draw, .int .u32 y.ev.addr, .int .u32 y.ev.node, .int .u32 y.ev.dst, .int .u32 y.ev.xfer, .int .u8 y.ev.ty, .int .u64 y.ev.arg, .int .u64 y.ev.badge, .slice y.xo y.ev.ws.length y.cx]) ∧ (0 ≤ i ∧ i < ((ops.length : Nat) : Int)) ∧ (rb = rb ∧ cellsAre cs (0 + (i.toNat * 11)) [.int .u8 x.ev.kind, .int .u32 x.ev.pick, .int .u64 x.ev.draw, .int .u32 x.ev.addr, .int .u32 x.ev.node, .int .u32 x.ev.dst, .int .u32 x.ev.xfer, .int .u8 x.ev.ty, .int .u64 x.ev.arg, .int .u64 x.ev.badge, .slice x.xo x.ev.ws.length x.cx]) ∧ (0 ≤ i ∧ i < ((ops.length : Nat) : Int)) ∧ True) (fuel := 3) h34 (by kernel_rfl) rfl (by kernel_rfl) (by kernel_rfl) ⟨trivial, trivial, trivial, trivial, trivial, trivial, trivial, trivial, trivial, rfl, trivial, trivial, trivial, rfl, trivial, trivial⟩ ⟨⟨by omega, by omega⟩, ⟨by omega, by omega⟩, ⟨by omega, by omega⟩, ⟨rfl, (by rw [Nat.zero_add]; exact hry)⟩, ⟨by omega, by omega⟩, ⟨rfl, (by rw [Nat.zero_add]; exact hrx)⟩, ⟨by omega, by omega⟩, trivial⟩ fun a36 h37 => ?_
    clear h34
    refine wpAnyK_one (i := 15) (fuel := 2) (by kernel_rfl) ?_
    refine op_store tabOk {k := 0, m := 1, vs := (splice cs (i.toNat * 11) (opC y))} (L' := [(rb, ⟨(splice cs (i.toNat * 11) (opC y)), 35, false⟩)]) (φ := rb = rb ∧ Nat.ble (0 + (i.toNat * 11) + 11) cs.length = true ∧ splice cs (0 + (i.toNat * 11)) [.int .u8 y.ev.kind, .int .u32 y.ev.pick, .int .u64 y.ev.draw, .int .u32 y.ev.addr, .int .u32 y.ev.node, .int .u32 y.ev.dst, .int .u32 y.ev.xfer, .int .u8 y.ev.ty, .int .u64 y.ev.arg, .int .u64 y.ev.badge, .slice y.xo y.ev.ws.length y.cx] = (splice cs (i.toNat * 11) (opC y))) h37 rfl rfl rfl (by kernel_rfl) ⟨rfl, (Nat.ble_eq_true_of_le (by first | (rw [splice_length]; omega) | omega)), (by rw [Nat.zero_add]; rfl)⟩ fun w38 h39 => ?_
    have hkh39 := h37.known
    refine ⟨keepNil, ?_⟩
    clear h37
    refine dr_batch tabOk tabZ_ok (by repeat (first | with_reducible exact PF.body | with_reducible apply PF.inB | with_reducible apply PF.next)) [(16, {})] [0, 2, 3, 4, 27, 29] (T' := [(0, .slice o ops.length c), (2, .slice none 0 0), (3, .slice (some ⟨rb, 0, none⟩) ops.length c1), (4, .int .i64 i), (27, .agg #[.int .u8 x.ev.kind, .int .u32 x.ev.pick, .int .u64 x.ev.draw, .int .u32 x.ev.addr, .int .u32 x.ev.node, .int .u32 x.ev.dst, .int .u32 x.ev.xfer, .int .u8 x.ev.ty, .int .u64 x.ev.arg, .int .u64 x.ev.badge, .slice x.xo x.ev.ws.length x.cx]), (29, .pointer (some ⟨rb, 0 + (((i + 1).toNat) * 11), none⟩))]) (φ := (0 ≤ (i + 1) ∧ (i + 1) < ((ops.length : Nat) : Int)) ∧ True) (fuel := 1) h39 (by kernel_rfl) rfl (by kernel_rfl) (by kernel_rfl) ⟨trivial, trivial⟩ ⟨⟨by omega, by omega⟩, trivial⟩ fun a40 h41 => ?_
    clear h39
    refine wpAnyK_one (i := 17) (fuel := 0) (by kernel_rfl) ?_
    refine op_store tabOk {k := 0, m := 1, vs := (splice (splice cs (i.toNat * 11) (opC y)) ((i + 1).toNat * 11) (opC x))} (L' := [(rb, ⟨(splice (splice cs (i.toNat * 11) (opC y)) ((i + 1).toNat * 11) (opC x)), 35, false⟩)]) (φ := rb = rb ∧ Nat.ble (0 + (((i + 1).toNat) * 11) + 11) (splice cs (i.toNat * 11) (opC y)).length = true ∧ splice (splice cs (i.toNat * 11) (opC y)) (0 + (((i + 1).toNat) * 11)) [.int .u8 x.ev.kind, .int .u32 x.ev.pick, .int .u64 x.ev.draw, .int .u32 x.ev.addr, .int .u32 x.ev.node, .int .u32 x.ev.dst, .int .u32 x.ev.xfer, .int .u8 x.ev.ty, .int .u64 x.ev.arg, .int .u64 x.ev.badge, .slice x.xo x.ev.ws.length x.cx] = (splice (splice cs (i.toNat * 11) (opC y)) ((i + 1).toNat * 11) (opC x))) h41 rfl rfl rfl (by kernel_rfl) ⟨rfl, (Nat.ble_eq_true_of_le (by first | (rw [splice_length]; omega) | omega)), (by rw [Nat.zero_add]; rfl)⟩ fun w42 h43 => ?_
    have hkh43 := h41.known
    refine ⟨keepNil, ?_⟩
    clear h41
    refine wpAnyK_done (by kernel_rfl) ?_ _
    refine hK32 _ _ ?_
    clear hK32
    refine nd_start (l := [0, 1, 2]) rfl ?_
    refine nd_batch tabOk tabZ_ok [(0, {}), (1, {}), (2, {})] [0, 2, 3, 4] (T' := [(0, .slice o ops.length c), (2, .slice none 0 0), (3, .slice (some ⟨rb, 0, none⟩) ops.length c1), (4, .int .i64 (i + 2))]) (φ := inR .i64 (i + 2) ∧ True) (rest := []) h43 (by kernel_rfl) rfl ⟨⟨by omega, by omega⟩, trivial⟩ fun a44 h45 => ?_
    clear h43
    refine nd_done ?_
    exact ⟨(g - 2), by omega, (splice (splice cs (i.toNat * 11) (opC y)) ((i + 1).toNat * 11) (opC x)), ((xs.set i.toNat y).set (i + 1).toNat x), (i + 2), by omega, ⟨by omega, by omega⟩, hs2.1, (by rw [List.length_set, List.length_set]; exact hxl), (set_mem (set_mem hxm (hxm _ (List.mem_of_getElem? hy))) (hxm _ (List.mem_of_getElem? hx))), hs2.2, (h45.slotsMono (restr_spec (keep := [0, 2, 3, 4]) rfl))⟩
  ·
    have hc31f : ¬ (i + 1) < ((ops.length : Nat) : Int) := by simpa using hc31
    refine wp_exit ?_
    refine hK14 _ _ ?_
    clear hK14
    refine wp_seq_k fun K46 hK46 => ?_
    refine nd_start (l := [0, 1]) rfl ?_
    refine nd_batch tabOk tabZ_ok [(0, {}), (1, {})] [0, 3, 4, 2] (T' := [(0, .slice o ops.length c), (3, .slice (some ⟨rb, 0, none⟩) ops.length c1), (4, .int .i64 i), (2, .slice (some ⟨rb, 0, none⟩) ops.length c1)]) (φ := True) (rest := []) h30 (by kernel_rfl) rfl trivial fun a47 h48 => ?_
    clear h30
    refine nd_done ?_
    refine hK46 _ _ ?_
    clear hK46
    refine wp_ret ?_
    try simp only [Exit.then, Exit.inBlock]
    try rw [if_pos trivial]
    exact s_ret tabOk tabZ_ok h48 [(.tmp 2, {})] (vs := [.slice (some ⟨rb, 0, none⟩) ops.length c1]) (φ := True) rfl (by kernel_rfl) trivial ⟨xs, some ⟨rb, 0, none⟩, c1, [rb], (by rw [hxl]; rfl), hxl, hxm, ⟨flat_len11 xs, .inr ⟨rb, cs, rfl, h48.kn (k := 0) (blk := ⟨cs, 35, false⟩) rfl, hcl, (show xs.length ≤ c1 by omega), hct, rfl⟩⟩, h48.frame, fun b hb => by simp at hb; rw [hb]; exact Nat.le_trans hsz1 hnb⟩

theorem swap_none (ops : List OpV) (h0 : ops.length = 0) (hl : ops.length ≤ 65536) (o : Option Addr) (c : Nat) (w : World) (hscr : Scr w o ops) :
    Calls Tryd.prog 34 #[.slice o ops.length c] w fun e w' => ∃ xs o' c' F', e = .returned (.slice o' xs.length c') ∧ xs.length = ops.length ∧ (∀ x ∈ xs, x ∈ ops) ∧ (rl opC 35 11 xs o' c' F').at w' ∧ Fr [] w w' ∧ ∀ b ∈ F', w.heap.size ≤ b := by
  refine enter0 (n := 31) (K := []) (T := [(0, .slice o ops.length c)]) (L := []) (args := [.slice o ops.length c]) Tryd.func34 rfl rfl rfl rfl knil (by simp) knil ?_
  intro a h
  refine wp_seq_k fun K1 hK1 => ?_
  refine nd_start (l := [0]) rfl ?_
  refine nd_batch tabOk tabZ_ok [(0, {})] [0, 2] (T' := [(0, .slice o ops.length c), (2, .slice none 0 0)]) (φ := True) (rest := []) h (by kernel_rfl) rfl trivial fun a2 h3 => ?_
  clear h
  refine nd_done ?_
  refine hK1 _ _ ?_
  clear hK1
  refine wp_seq_k fun K4 hK4 => ?_
  refine nd_start (l := [0, 1, 2]) rfl ?_
  refine nd_batch tabOk tabZ_ok [(0, {})] [0, 2, 5] (T' := [(0, .slice o ops.length c), (2, .slice none 0 0), (5, .slice o ops.length c)]) (φ := True) (rest := [1, 2]) h3 (by kernel_rfl) rfl trivial fun a5 h6 => ?_
  clear h3
  refine nd_op ?_
  have h12a := h6.slotsMono (restr_spec (keep := [0, 2, 5]) rfl)
  have h12 := h12a.pc0
  clear h6 h12a
  refine op_call h12 rfl rfl rfl (callOk Tryd.func67 (by decide) rfl) (args := [.slice o ops.length c]) rfl (cloneO_ok ops hl o c _ (scr_fr hscr h12.frame)) ?_
  rintro _ w7 ⟨o1, c1, F1, rfl, hr8, hf9, hF10⟩
  refine ⟨_, rfl, ?_⟩
  have h13 := (h12.pcAdd (p' := pRow (rl opC 35 11 ops o1 c1 F1)) (ps' := [pRow (rl opC 35 11 ops o1 c1 F1)]) (pRow_ok hr8) hf9 hF10 rfl).put (d := some 6) (v := .slice o1 ops.length c1) (T' := [(6, .slice o1 ops.length c1), (0, .slice o ops.length c), (2, .slice none 0 0), (5, .slice o ops.length c)]) rfl
  have hszh13 : w.heap.size ≤ _ := h12.frame.size
  clear h12
  refine nd_batch tabOk tabZ_ok [(2, {})] [0, 2, 3] (T' := [(0, .slice o ops.length c), (2, .slice none 0 0), (3, .slice o1 ops.length c1)]) (φ := True) (rest := []) h13 (by kernel_rfl) rfl trivial fun a14 h15 => ?_
  clear h13
  refine nd_done ?_
  refine hK4 _ _ ?_
  clear hK4
  refine wp_seq_k fun K16 hK16 => ?_
  refine wp_seq_k fun K17 hK17 => ?_
  refine nd_start (l := [0]) rfl ?_
  refine nd_batch tabOk tabZ_ok [(0, {})] [0, 2, 3, 4] (T' := [(0, .slice o ops.length c), (2, .slice none 0 0), (3, .slice o1 ops.length c1), (4, .int .i64 0)]) (φ := True) (rest := []) h15 (by kernel_rfl) rfl trivial fun a18 h19 => ?_
  clear h15
  refine nd_done ?_
  refine hK17 _ _ ?_
  clear hK17
  refine wp_block ?_
  refine wp_loop_ghost (fun g ga gw => ∃ (i : Int), (i = 0) ∧ St ⟨31, [], w, Pk w.heap.size [pRow (rl opC 35 11 ops o1 c1 F1)], Pf [pRow (rl opC 35 11 ops o1 c1 F1)]⟩ [(0, .slice o ops.length c), (2, .slice none 0 0), (3, .slice o1 ops.length c1), (4, .int .i64 i)] [] ga gw) 0 ⟨0, rfl, (h19.slotsMono (restr_spec (keep := [0, 2, 3, 4]) rfl))⟩ ?_
  clear h19
  rintro g a20 w21 ⟨i, hi23, h22⟩
  have hi0 := hi23
  refine wp_seq_k fun K24 hK24 => ?_
  refine wp_seq_k fun K25 hK25 => ?_
  refine nd_start (l := [0, 1, 2, 3, 4]) rfl ?_
  refine nd_batch tabOk tabZ_ok [(0, {}), (1, {}), (2, {}), (3, {}), (4, {})] [0, 2, 3, 4, 11] (T' := [(0, .slice o ops.length c), (2, .slice none 0 0), (3, .slice o1 ops.length c1), (4, .int .i64 i), (11, .bool (decide ((i + 1) < ((ops.length : Nat) : Int))))]) (φ := inR .i64 (i + 1) ∧ True) (rest := []) h22 (by kernel_rfl) rfl ⟨⟨by omega, by omega⟩, trivial⟩ fun a26 h27 => ?_
  clear h22
  refine nd_done ?_
  refine hK25 _ _ ?_
  clear hK25
  refine c_split h27 (b := decide ((i + 1) < ((ops.length : Nat) : Int))) rfl (fun hc28 => ?_) (fun hc28 => ?_)
  ·
    have hc28f : (i + 1) < ((ops.length : Nat) : Int) := by simpa using hc28
    omega
  ·
    have hc28f : ¬ (i + 1) < ((ops.length : Nat) : Int) := by simpa using hc28
    refine wp_exit ?_
    refine hK16 _ _ ?_
    clear hK16
    refine wp_seq_k fun K29 hK29 => ?_
    refine nd_start (l := [0, 1]) rfl ?_
    refine nd_batch tabOk tabZ_ok [(0, {}), (1, {})] [0, 3, 4, 2] (T' := [(0, .slice o ops.length c), (3, .slice o1 ops.length c1), (4, .int .i64 i), (2, .slice o1 ops.length c1)]) (φ := True) (rest := []) h27 (by kernel_rfl) rfl trivial fun a30 h31 => ?_
    clear h27
    refine nd_done ?_
    refine hK29 _ _ ?_
    clear hK29
    refine wp_ret ?_
    try simp only [Exit.then, Exit.inBlock]
    try rw [if_pos trivial]
    exact s_ret tabOk tabZ_ok h31 [(.tmp 2, {})] (vs := [.slice o1 ops.length c1]) (φ := True) rfl (by kernel_rfl) trivial ⟨ops, o1, c1, F1, rfl, rfl, fun _ h => h, (h31.inv.get (j := 0) (p := pRow (rl opC 35 11 ops o1 c1 F1)) rfl), h31.frame, h31.inv.newOf (j := 0) (p := pRow (rl opC 35 11 ops o1 c1 F1)) rfl⟩

theorem swap_ok (ops : List OpV) (hl : ops.length ≤ 65536) (o : Option Addr) (c : Nat) (w : World) (hscr : Scr w o ops) :
    Calls Tryd.prog 34 #[.slice o ops.length c] w fun e w' => ∃ xs o' c' F', e = .returned (.slice o' xs.length c') ∧ xs.length = ops.length ∧ (∀ x ∈ xs, x ∈ ops) ∧ (rl opC 35 11 xs o' c' F').at w' ∧ Fr [] w w' ∧ ∀ b ∈ F', w.heap.size ≤ b := by
  rcases Nat.eq_zero_or_pos ops.length with h0 | h0
  · exact swap_none ops h0 hl o c w hscr
  · exact swap_some ops h0 hl o c w hscr

end Go.Proofs.Qxb6500918aDoor
