/-
  Parse. (Made by program: a symbolic walk that prints its steps.)
-/
import Derived.Test.Qxb6500919aFmtV2
namespace Go.Proofs.Qxb6500919aFmt
open Go.Sx Go.Rp Go.Extern.Stop Go.Stop Go.Extern
set_option maxRecDepth 100000
set_option maxHeartbeats 4000000
set_option linter.unusedVariables false
set_option linter.unusedSimpArgs false

theorem numB_ok {B : Nat} {l : List UInt8} {v : Nat} (h : Lib.parseUintB B l = .ok v) : numB B l = some (v : Int) := by simp [numB, h]
theorem numB_none {B : Nat} {l : List UInt8} (h : ∀ v, Lib.parseUintB B l ≠ .ok v) : numB B l = none := by
  unfold numB
  split
  · rename_i v hv; exact absurd hv (h v)
  · rfl
theorem numI_ok {l : List UInt8} {v : Int} (h : Lib.atoiAll l = .ok v) : numI l = some v := by simp [numI, h]
theorem numI_none {l : List UInt8} (h : ∀ v, Lib.atoiAll l ≠ .ok v) : numI l = none := by
  unfold numI
  split
  · rename_i v hv; exact absurd hv (h v)
  · rfl
theorem len1 {α : Type} {l : List α} (h : l.length = 1) : ∃ a, l = [a] := List.length_eq_one_iff.1 h
theorem len2 {α : Type} {l : List α} (h : l.length = 2) : ∃ a b, l = [a, b] := by
  match l, h with
  | [a, b], _ => exact ⟨a, b, rfl⟩
theorem len3 {α : Type} {l : List α} (h : l.length = 3) : ∃ a b c, l = [a, b, c] := by
  match l, h with
  | [a, b, c], _ => exact ⟨a, b, c, rfl⟩
theorem parseW_none {k : Nat} {xs : List (List UInt8)} (h : xs.length ≠ verbN k) : parseW k xs = none := by
  match xs, h with
  | [], h => simp [parseW]; simp at h; omega
  | [a], h => simp [parseW]; simp at h; omega
  | [a, b], h => simp [parseW]; simp at h; omega
  | [a, b, c], h => simp [parseW]; simp at h; omega
  | _ :: _ :: _ :: _ :: _, _ => rfl

theorem fieldsGo_len : ∀ (l cur : List UInt8) {y : List UInt8}, y ∈ Lib.fieldsGo cur l → y.length ≤ cur.length + l.length
  | [], cur, y, h => by
    simp only [Lib.fieldsGo] at h
    split at h
    · cases h
    · simp at h; subst h; simp
  | b :: l, cur, y, h => by
    simp only [Lib.fieldsGo] at h
    split at h
    · split at h
      · have := fieldsGo_len l [] h; simp at this ⊢; omega
      · rcases List.mem_cons.1 h with rfl | h
        · simp
        · have := fieldsGo_len l [] h; simp at this ⊢; omega
    · have := fieldsGo_len l (cur ++ [b]) h; simp at this ⊢; omega

theorem fieldsGo_num : ∀ (l cur : List UInt8), (Lib.fieldsGo cur l).length ≤ l.length + 1
  | [], cur => by
    simp only [Lib.fieldsGo]
    split <;> simp
  | b :: l, cur => by
    simp only [Lib.fieldsGo]
    split
    · split
      · have := fieldsGo_num l []; simp at this ⊢; omega
      · have := fieldsGo_num l []; simp at this ⊢; omega
    · have := fieldsGo_num l (cur ++ [b]); simp at this ⊢; omega

theorem fields_len (l : List UInt8) {y : List UInt8} (h : y ∈ Lib.fields l) : y.length ≤ l.length := by
  have := fieldsGo_len l [] h; simpa using this

theorem parse_ok (l : List UInt8) (hl : l.length ≤ 1000000) (ha : ∀ b ∈ l, b.toNat < 128) (w : World) (hg : GV w) :
    Calls Tryf.prog 7 #[.string (bs l)] w fun e w' => Fr [] w w' ∧ ((∃ op, parseP l = some op ∧ e = .returned (.tuple #[.agg (opC op).toArray, .nilIface])) ∨ (parseP l = none ∧ ∃ t p, e = .returned (.tuple #[.agg (opC zop).toArray, .iface t p]))) := by
  rcases hw : Lib.fields l with _ | ⟨x, xs⟩
  ·
    refine enter0 (n := 149) (K := []) (T := [(0, .string (bs l))]) (L := []) (args := [.string (bs l)]) Tryf.func7 rfl rfl rfl rfl knil (by simp) knil ?_
    intro a h
    refine wp_seq_k fun K1 hK1 => ?_
    refine nd_start (l := [0, 1]) rfl ?_
    refine nd_op ?_
    refine op_new tabOk2 (cells := [.int .u8 0, .int .i64 0, .int .i64 0, .int .u8 0, .int .u32 0, .int .u64 0]) (ty := 33) (ln := none) (L1 := fun b2 => [(b2, ⟨[.int .u8 0, .int .i64 0, .int .i64 0, .int .u8 0, .int .u32 0, .int .u64 0], 33, false⟩)]) h rfl rfl rfl rfl (by kernel_rfl) (fun _ => rfl) fun b2 w3 a4 h5 hf6 hn7 => ?_
    clear h
    refine nd_batch tabOk2 tabZ_ok2 [(1, {})] [2, 0, 3] (T' := [(2, .pointer (some ⟨b2, 0, none⟩)), (0, .string (bs l)), (3, .nilIface)]) (φ := True) (rest := []) h5 (by kernel_rfl) rfl trivial fun a8 h9 => ?_
    clear h5
    refine nd_done ?_
    refine hK1 _ _ ?_
    clear hK1
    refine wp_seq_k fun K10 hK10 => ?_
    refine nd_start (l := [0, 1, 2]) rfl ?_
    refine nd_batch tabOk2 tabZ_ok2 [(0, {})] [2, 0, 3, 17] (T' := [(2, .pointer (some ⟨b2, 0, none⟩)), (0, .string (bs l)), (3, .nilIface), (17, .string (bs l))]) (φ := True) (rest := [1, 2]) h9 (by kernel_rfl) rfl trivial fun a11 h12 => ?_
    clear h9
    refine nd_op ?_
    refine op_call h12 rfl rfl rfl (callOk Tryf.func18 (by decide) rfl) (args := [.string (bs l)]) rfl (by have hq := fields_ok l hl ha _ (hg.fr h12.frame).lib; rw [hw] at hq; exact hq) ?_
    rintro _ w17 ⟨b13, rfl, hb14, hf15, hn16⟩
    refine ⟨_, rfl, ?_⟩
    have h18q : St _ _ [(b2, ⟨[.int .u8 0, .int .i64 0, .int .i64 0, .int .u8 0, .int .u32 0, .int .u64 0], 33, false⟩), (b13, ⟨[], 9, false⟩)] _ _ := h12.fresh hf15 hn16 hb14
    have h18 := h18q.put (d := some 18) (v := .slice (some ⟨b13, 0, none⟩) 0 0) (T' := [(18, .slice (some ⟨b13, 0, none⟩) 0 0), (2, .pointer (some ⟨b2, 0, none⟩)), (0, .string (bs l)), (3, .nilIface), (17, .string (bs l))]) rfl
    clear h12 h18q
    refine nd_batch tabOk2 tabZ_ok2 [(2, {})] [2, 0, 3, 4] (T' := [(2, .pointer (some ⟨b2, 0, none⟩)), (0, .string (bs l)), (3, .nilIface), (4, .slice (some ⟨b13, 0, none⟩) 0 0)]) (φ := True) (rest := []) h18 (by kernel_rfl) rfl trivial fun a19 h20 => ?_
    clear h18
    refine nd_done ?_
    refine hK10 _ _ ?_
    clear hK10
    refine wp_seq_k fun K21 hK21 => ?_
    refine wp_seq_k fun K22 hK22 => ?_
    refine nd_start (l := [0, 1, 2]) rfl ?_
    refine nd_batch tabOk2 tabZ_ok2 [(0, {}), (1, {}), (2, {})] [2, 0, 3, 4, 21] (T' := [(2, .pointer (some ⟨b2, 0, none⟩)), (0, .string (bs l)), (3, .nilIface), (4, .slice (some ⟨b13, 0, none⟩) 0 0), (21, .bool true)]) (φ := True) (rest := []) h20 (by kernel_rfl) rfl trivial fun a23 h24 => ?_
    clear h20
    refine nd_done ?_
    refine hK22 _ _ ?_
    clear hK22
    refine c_true h24 rfl ?_
    refine wp_seq_k fun K25 hK25 => ?_
    refine nd_start (l := [0, 1, 2, 3, 4, 5]) rfl ?_
    refine nd_batch tabOk2 tabZ_ok2 [(0, {}), (1, {})] [2, 0, 3, 4, 22, 23] (T' := [(2, .pointer (some ⟨b2, 0, none⟩)), (0, .string (bs l)), (3, .nilIface), (4, .slice (some ⟨b13, 0, none⟩) 0 0), (22, .agg #[.int .u8 0, .int .i64 0, .int .i64 0, .int .u8 0, .int .u32 0, .int .u64 0]), (23, .agg #[.int .i64 0, .string (bs ([101, 109, 112, 116, 121, 32, 99, 111, 109, 109, 97, 110, 100]))])]) (φ := True) (rest := [2, 3, 4, 5]) h24 (by kernel_rfl) rfl trivial fun a26 h27 => ?_
    clear h24
    refine nd_op ?_
    refine op_new tabOk2 (cells := [.int .i64 0, .string (bs ([101, 109, 112, 116, 121, 32, 99, 111, 109, 109, 97, 110, 100]))]) (ty := 69) (ln := none) (L1 := fun b28 => [(b2, ⟨[.int .u8 0, .int .i64 0, .int .i64 0, .int .u8 0, .int .u32 0, .int .u64 0], 33, false⟩), (b13, ⟨[], 9, false⟩), (b28, ⟨[.int .i64 0, .string (bs ([101, 109, 112, 116, 121, 32, 99, 111, 109, 109, 97, 110, 100]))], 69, false⟩)]) h27 rfl rfl rfl rfl (by kernel_rfl) (fun _ => rfl) fun b28 w29 a30 h31 hf32 hn33 => ?_
    clear h27
    refine nd_op ?_
    refine op_pure (v := .iface 67 (.pointer (some ⟨b28, 0, none⟩))) h31 rfl rfl (pure_iface tabOk2 h31.slots rfl rfl rfl (by intro fs hq; cases hq) (by intro fs hq; cases hq)) ?_
    have h34 := h31.put (d := some 25) (v := .iface 67 (.pointer (some ⟨b28, 0, none⟩))) (T' := [(25, .iface 67 (.pointer (some ⟨b28, 0, none⟩))), (24, .pointer (some ⟨b28, 0, none⟩)), (2, .pointer (some ⟨b2, 0, none⟩)), (0, .string (bs l)), (3, .nilIface), (4, .slice (some ⟨b13, 0, none⟩) 0 0), (22, .agg #[.int .u8 0, .int .i64 0, .int .i64 0, .int .u8 0, .int .u32 0, .int .u64 0]), (23, .agg #[.int .i64 0, .string (bs ([101, 109, 112, 116, 121, 32, 99, 111, 109, 109, 97, 110, 100]))])]) rfl
    clear h31
    refine nd_op ?_
    refine op_store tabOk2 {k := 0} (L' := [(b2, ⟨[.int .u8 0, .int .i64 0, .int .i64 0, .int .u8 0, .int .u32 0, .int .u64 0], 33, false⟩), (b13, ⟨[], 9, false⟩), (b28, ⟨[.int .i64 0, .string (bs ([101, 109, 112, 116, 121, 32, 99, 111, 109, 109, 97, 110, 100]))], 69, false⟩)]) (φ := b2 = b2 ∧ Nat.ble (0 + 6) 6 = true) h34 rfl rfl rfl (by kernel_rfl) ⟨rfl, rfl⟩ fun w35 h36 => ?_
    clear h34
    refine nd_batch tabOk2 tabZ_ok2 [(5, {})] [2, 0, 4, 3] (T' := [(2, .pointer (some ⟨b2, 0, none⟩)), (0, .string (bs l)), (4, .slice (some ⟨b13, 0, none⟩) 0 0), (3, .iface 67 (.pointer (some ⟨b28, 0, none⟩)))]) (φ := True) (rest := []) h36 (by kernel_rfl) rfl trivial fun a37 h38 => ?_
    clear h36
    refine nd_done ?_
    refine hK25 _ _ ?_
    clear hK25
    refine wp_ret ?_
    try simp only [Exit.then, Exit.inBlock]
    try rw [if_pos trivial]
    exact s_ret tabOk2 tabZ_ok2 h38 [(.cell 2 33, {k := 0}), (.tmp 3, {})] (vs := [.agg #[.int .u8 0, .int .i64 0, .int .i64 0, .int .u8 0, .int .u32 0, .int .u64 0], .iface 67 (.pointer (some ⟨b28, 0, none⟩))]) (φ := (b2 = b2 ∧ Nat.ble (0 + 6) 6 = true) ∧ True) rfl (by kernel_rfl) ⟨⟨rfl, rfl⟩, trivial⟩ ⟨h38.frame, .inr ⟨by simp [parseP, hw], _, _, rfl⟩⟩
  ·
    have hxl : xs.length ≤ 1000000 := by have h1 := fieldsGo_num l []; have h2 : (Lib.fieldsGo [] l).length = (x :: xs).length := congrArg List.length hw; simp at h2; omega
    refine enter0 (n := 149) (K := []) (T := [(0, .string (bs l))]) (L := []) (args := [.string (bs l)]) Tryf.func7 rfl rfl rfl rfl knil (by simp) knil ?_
    intro a h
    refine wp_seq_k fun K1 hK1 => ?_
    refine nd_start (l := [0, 1]) rfl ?_
    refine nd_op ?_
    refine op_new tabOk2 (cells := [.int .u8 0, .int .i64 0, .int .i64 0, .int .u8 0, .int .u32 0, .int .u64 0]) (ty := 33) (ln := none) (L1 := fun b2 => [(b2, ⟨[.int .u8 0, .int .i64 0, .int .i64 0, .int .u8 0, .int .u32 0, .int .u64 0], 33, false⟩)]) h rfl rfl rfl rfl (by kernel_rfl) (fun _ => rfl) fun b2 w3 a4 h5 hf6 hn7 => ?_
    clear h
    refine nd_batch tabOk2 tabZ_ok2 [(1, {})] [2, 0, 3] (T' := [(2, .pointer (some ⟨b2, 0, none⟩)), (0, .string (bs l)), (3, .nilIface)]) (φ := True) (rest := []) h5 (by kernel_rfl) rfl trivial fun a8 h9 => ?_
    clear h5
    refine nd_done ?_
    refine hK1 _ _ ?_
    clear hK1
    refine wp_seq_k fun K10 hK10 => ?_
    refine nd_start (l := [0, 1, 2]) rfl ?_
    refine nd_batch tabOk2 tabZ_ok2 [(0, {})] [2, 0, 3, 17] (T' := [(2, .pointer (some ⟨b2, 0, none⟩)), (0, .string (bs l)), (3, .nilIface), (17, .string (bs l))]) (φ := True) (rest := [1, 2]) h9 (by kernel_rfl) rfl trivial fun a11 h12 => ?_
    clear h9
    refine nd_op ?_
    refine op_call h12 rfl rfl rfl (callOk Tryf.func18 (by decide) rfl) (args := [.string (bs l)]) rfl (by have hq := fields_ok l hl ha _ (hg.fr h12.frame).lib; rw [hw] at hq; exact hq) ?_
    rintro _ w17 ⟨b13, rfl, hb14, hf15, hn16⟩
    refine ⟨_, rfl, ?_⟩
    have h18q : St _ _ [(b2, ⟨[.int .u8 0, .int .i64 0, .int .i64 0, .int .u8 0, .int .u32 0, .int .u64 0], 33, false⟩), (b13, ⟨(Value.string (bs x) :: xs.map (fun x => Value.string (bs x))), 9, false⟩)] _ _ := h12.fresh hf15 hn16 hb14
    have h18 := h18q.put (d := some 18) (v := .slice (some ⟨b13, 0, none⟩) (xs.length + 1) (xs.length + 1)) (T' := [(18, .slice (some ⟨b13, 0, none⟩) (xs.length + 1) (xs.length + 1)), (2, .pointer (some ⟨b2, 0, none⟩)), (0, .string (bs l)), (3, .nilIface), (17, .string (bs l))]) rfl
    clear h12 h18q
    refine nd_batch tabOk2 tabZ_ok2 [(2, {})] [2, 0, 3, 4] (T' := [(2, .pointer (some ⟨b2, 0, none⟩)), (0, .string (bs l)), (3, .nilIface), (4, .slice (some ⟨b13, 0, none⟩) (xs.length + 1) (xs.length + 1))]) (φ := True) (rest := []) h18 (by kernel_rfl) rfl trivial fun a19 h20 => ?_
    clear h18
    refine nd_done ?_
    refine hK10 _ _ ?_
    clear hK10
    refine wp_seq_k fun K21 hK21 => ?_
    refine wp_seq_k fun K22 hK22 => ?_
    refine nd_start (l := [0, 1, 2]) rfl ?_
    refine nd_batch tabOk2 tabZ_ok2 [(0, {}), (1, {}), (2, {f := 1})] [2, 0, 3, 4, 21] (T' := [(2, .pointer (some ⟨b2, 0, none⟩)), (0, .string (bs l)), (3, .nilIface), (4, .slice (some ⟨b13, 0, none⟩) (xs.length + 1) (xs.length + 1)), (21, .bool false)]) (φ := (((((xs.length + 1) : Nat) : Int) == 0)) = false ∧ True) (rest := []) h20 (by kernel_rfl) rfl ⟨(beq_eq_false_iff_ne.2 (by omega)), trivial⟩ fun a23 h24 => ?_
    clear h20
    refine nd_done ?_
    refine hK22 _ _ ?_
    clear hK22
    refine c_false h24 rfl ?_
    refine wp_skip ?_
    refine hK21 _ _ ?_
    clear hK21
    refine wp_seq_k fun K25 hK25 => ?_
    refine nd_start (l := [0]) rfl ?_
    refine nd_batch tabOk2 tabZ_ok2 [(0, {})] [2, 0, 3, 4, 5] (T' := [(2, .pointer (some ⟨b2, 0, none⟩)), (0, .string (bs l)), (3, .nilIface), (4, .slice (some ⟨b13, 0, none⟩) (xs.length + 1) (xs.length + 1)), (5, .int .u8 9)]) (φ := True) (rest := []) h24 (by kernel_rfl) rfl trivial fun a26 h27 => ?_
    clear h24
    refine nd_done ?_
    refine hK25 _ _ ?_
    clear hK25
    refine wp_seq_k fun K28 hK28 => ?_
    refine wp_seq_k fun K29 hK29 => ?_
    refine nd_start (l := [0, 1]) rfl ?_
    refine nd_op ?_
    refine op_now (v := .agg verbsC.toArray) h27 rfl rfl (run_cells tabOk2 h27.slots rfl rfl rfl rfl rfl (hg.fr h27.frame).table) ?_
    have h30 := h27.put (d := some 26) (v := .agg verbsC.toArray) (T' := [(26, .agg verbsC.toArray), (2, .pointer (some ⟨b2, 0, none⟩)), (0, .string (bs l)), (3, .nilIface), (4, .slice (some ⟨b13, 0, none⟩) (xs.length + 1) (xs.length + 1)), (5, .int .u8 9)]) rfl
    clear h27
    refine nd_batch tabOk2 tabZ_ok2 [(1, {})] [26, 2, 0, 3, 4, 5, 27] (T' := [(26, .agg verbsC.toArray), (2, .pointer (some ⟨b2, 0, none⟩)), (0, .string (bs l)), (3, .nilIface), (4, .slice (some ⟨b13, 0, none⟩) (xs.length + 1) (xs.length + 1)), (5, .int .u8 9), (27, .int .i64 0)]) (φ := True) (rest := []) h30 (by kernel_rfl) rfl trivial fun a31 h32 => ?_
    clear h30
    refine nd_done ?_
    refine hK29 _ _ ?_
    clear hK29
    refine wp_block ?_
    have h33e : St ⟨149, [], w, fun _ => True, []⟩ [(26, .agg verbsC.toArray), (2, .pointer (some ⟨b2, 0, none⟩)), (0, .string (bs l)), (3, .nilIface), (4, .slice (some ⟨b13, 0, none⟩) (xs.length + 1) (xs.length + 1)), (5, .int .u8 ((kindP 0 x : Nat) : Int)), (27, .int .i64 ((0 : Nat) : Int))] [(b2, ⟨[.int .u8 0, .int .i64 0, .int .i64 0, .int .u8 0, .int .u32 0, .int .u64 0], 33, false⟩), (b13, ⟨(Value.string (bs x) :: xs.map (fun x => Value.string (bs x))), 9, false⟩)] _ _ := (h32.slotsMono (restr_spec (keep := [26, 2, 0, 3, 4, 5, 27]) rfl))
    clear h32
    refine wp_loop_ghost (fun g ga gw => ∃ (i : Nat), (i + g = 9) ∧ St ⟨149, [], w, fun _ => True, []⟩ [(26, .agg verbsC.toArray), (2, .pointer (some ⟨b2, 0, none⟩)), (0, .string (bs l)), (3, .nilIface), (4, .slice (some ⟨b13, 0, none⟩) (xs.length + 1) (xs.length + 1)), (5, .int .u8 ((kindP i x : Nat) : Int)), (27, .int .i64 ((i : Nat) : Int))] [(b2, ⟨[.int .u8 0, .int .i64 0, .int .i64 0, .int .u8 0, .int .u32 0, .int .u64 0], 33, false⟩), (b13, ⟨(Value.string (bs x) :: xs.map (fun x => Value.string (bs x))), 9, false⟩)] ga gw) 9 ⟨0, rfl, (h33e.slotsMono (restr_spec (keep := [26, 2, 0, 3, 4, 5, 27]) rfl))⟩ ?_
    clear h33e
    rintro g a34 w35 ⟨i, hi37, h36⟩
    refine wp_seq_k fun K38 hK38 => ?_
    refine nd_start (l := [0]) rfl ?_
    refine nd_batch tabOk2 tabZ_ok2 [(0, {})] [26, 2, 0, 3, 4, 5, 27, 28] (T' := [(26, .agg verbsC.toArray), (2, .pointer (some ⟨b2, 0, none⟩)), (0, .string (bs l)), (3, .nilIface), (4, .slice (some ⟨b13, 0, none⟩) (xs.length + 1) (xs.length + 1)), (5, .int .u8 ((kindP i x : Nat) : Int)), (27, .int .i64 ((i : Nat) : Int)), (28, .bool (decide (((i : Nat) : Int) < 9)))]) (φ := True) (rest := []) h36 (by kernel_rfl) rfl trivial fun a39 h40 => ?_
    clear h36
    refine nd_done ?_
    refine hK38 _ _ ?_
    clear hK38
    refine wp_seq_k fun K41 hK41 => ?_
    refine c_split h40 (b := decide (((i : Nat) : Int) < 9)) rfl (fun hc42 => ?_) (fun hc42 => ?_)
    ·
      have hc42f : ((i : Nat) : Int) < 9 := by simpa using hc42
      refine wp_skip ?_
      refine hK41 _ _ ?_
      clear hK41
      refine wp_seq_k fun K43 hK43 => ?_
      refine wp_block ?_
      refine wp_seq_k fun K44 hK44 => ?_
      refine nd_start (l := [0, 1, 2, 3, 4]) rfl ?_
      refine nd_batch tabOk2 tabZ_ok2 [(0, {})] [26, 2, 0, 3, 4, 5, 27, 29] (T' := [(26, .agg verbsC.toArray), (2, .pointer (some ⟨b2, 0, none⟩)), (0, .string (bs l)), (3, .nilIface), (4, .slice (some ⟨b13, 0, none⟩) (xs.length + 1) (xs.length + 1)), (5, .int .u8 ((kindP i x : Nat) : Int)), (27, .int .i64 ((i : Nat) : Int)), (29, .int .i64 ((i : Nat) : Int))]) (φ := True) (rest := [1, 2, 3, 4]) h40 (by kernel_rfl) rfl trivial fun a45 h46 => ?_
      clear h40
      refine nd_op ?_
      refine op_pure (v := .agg #[.string (bs (verbW i)), .int .i64 ((verbN i : Nat) : Int)]) h46 rfl rfl (idx_verbs (k := i) h46.slots rfl rfl rfl (by omega)) ?_
      have h47 := h46.put (d := some 30) (v := .agg #[.string (bs (verbW i)), .int .i64 ((verbN i : Nat) : Int)]) (T' := [(30, .agg #[.string (bs (verbW i)), .int .i64 ((verbN i : Nat) : Int)]), (26, .agg verbsC.toArray), (2, .pointer (some ⟨b2, 0, none⟩)), (0, .string (bs l)), (3, .nilIface), (4, .slice (some ⟨b13, 0, none⟩) (xs.length + 1) (xs.length + 1)), (5, .int .u8 ((kindP i x : Nat) : Int)), (27, .int .i64 ((i : Nat) : Int)), (29, .int .i64 ((i : Nat) : Int))]) rfl
      clear h46
      refine nd_op ?_
      refine op_new tabOk2 (cells := [.string ByteArray.empty, .int .i64 0]) (ty := 61) (ln := none) (L1 := fun b48 => [(b2, ⟨[.int .u8 0, .int .i64 0, .int .i64 0, .int .u8 0, .int .u32 0, .int .u64 0], 33, false⟩), (b13, ⟨(Value.string (bs x) :: xs.map (fun x => Value.string (bs x))), 9, false⟩), (b48, ⟨[.string ByteArray.empty, .int .i64 0], 61, false⟩)]) h47 rfl rfl rfl rfl (by kernel_rfl) (fun _ => rfl) fun b48 w49 a50 h51 hf52 hn53 => ?_
      clear h47
      refine nd_batch tabOk2 tabZ_ok2 [(3, {})] [7, 30, 26, 2, 0, 3, 4, 5, 27, 6] (T' := [(7, .pointer (some ⟨b48, 0, none⟩)), (30, .agg #[.string (bs (verbW i)), .int .i64 ((verbN i : Nat) : Int)]), (26, .agg verbsC.toArray), (2, .pointer (some ⟨b2, 0, none⟩)), (0, .string (bs l)), (3, .nilIface), (4, .slice (some ⟨b13, 0, none⟩) (xs.length + 1) (xs.length + 1)), (5, .int .u8 ((kindP i x : Nat) : Int)), (27, .int .i64 ((i : Nat) : Int)), (6, .int .i64 ((i : Nat) : Int))]) (φ := True) (rest := [4]) h51 (by kernel_rfl) rfl trivial fun a54 h55 => ?_
      clear h51
      refine nd_op ?_
      refine op_store tabOk2 {k := 2} (L' := [(b2, ⟨[.int .u8 0, .int .i64 0, .int .i64 0, .int .u8 0, .int .u32 0, .int .u64 0], 33, false⟩), (b13, ⟨(Value.string (bs x) :: xs.map (fun x => Value.string (bs x))), 9, false⟩), (b48, ⟨[.string (bs (verbW i)), .int .i64 ((verbN i : Nat) : Int)], 61, false⟩)]) (φ := b48 = b48 ∧ Nat.ble (0 + 2) 2 = true) h55 rfl rfl rfl (by kernel_rfl) ⟨rfl, rfl⟩ fun w56 h57 => ?_
      clear h55
      refine nd_done ?_
      refine hK44 _ _ ?_
      clear hK44
      refine wp_seq_k fun K58 hK58 => ?_
      refine dr_start (KB := [b2, b13, b48]) (Bi := [[0, 1, 2], [0, 1, 2], [0, 1, 2], [0, 1, 2], [0, 1, 2], [0, 1, 2]]) mixed h57 fun w59 h60 => ?_
      clear h57
      refine dr_batch tabOk2 tabZ_ok2 (by repeat (first | with_reducible exact PF.body | with_reducible apply PF.inB | with_reducible apply PF.next)) [(0, {}), (1, {k := 2, p := 2}), (2, {}), (3, {}), (4, {k := 1, m := 1, vs := [.string (bs x)], p := 1})] [7, 26, 2, 0, 3, 4, 5, 27, 6, 32, 35] (T' := [(7, .pointer (some ⟨b48, 0, none⟩)), (26, .agg verbsC.toArray), (2, .pointer (some ⟨b2, 0, none⟩)), (0, .string (bs l)), (3, .nilIface), (4, .slice (some ⟨b13, 0, none⟩) (xs.length + 1) (xs.length + 1)), (5, .int .u8 ((kindP i x : Nat) : Int)), (27, .int .i64 ((i : Nat) : Int)), (6, .int .i64 ((i : Nat) : Int)), (32, .string (bs (verbW i))), (35, .string (bs x))]) (φ := (b48 = b48 ∧ Nat.ble (0 + 1) 2 = true) ∧ (0 ≤ (0 : Int) ∧ (0 : Int) < (((xs.length + 1) : Nat) : Int)) ∧ (b13 = b13 ∧ cellsAre (Value.string (bs x) :: xs.map (fun x => Value.string (bs x))) 0 [.string (bs x)]) ∧ True) (fuel := 1) h60 (by kernel_rfl) rfl (by kernel_rfl) (by kernel_rfl) ⟨trivial, rfl, trivial, trivial, rfl, trivial⟩ ⟨⟨rfl, rfl⟩, ⟨by omega, by omega⟩, ⟨rfl, ⟨rfl, trivial⟩⟩, trivial⟩ fun a62 h63 => ?_
      clear h60
      refine dr_pure (i := 5) (v := .bool ((verbW i) == x)) (fuel := 0) (by repeat (first | with_reducible exact PF.body | with_reducible apply PF.inB | with_reducible apply PF.next)) h63 rfl rfl rfl (by kernel_rfl) (by kernel_rfl) (by kernel_rfl) (ps_eql h63.slots rfl rfl rfl) ?_
      have h64 := h63.put (d := some 36) (v := .bool ((verbW i) == x)) (T' := [(36, .bool ((verbW i) == x)), (7, .pointer (some ⟨b48, 0, none⟩)), (26, .agg verbsC.toArray), (2, .pointer (some ⟨b2, 0, none⟩)), (0, .string (bs l)), (3, .nilIface), (4, .slice (some ⟨b13, 0, none⟩) (xs.length + 1) (xs.length + 1)), (5, .int .u8 ((kindP i x : Nat) : Int)), (27, .int .i64 ((i : Nat) : Int)), (6, .int .i64 ((i : Nat) : Int)), (32, .string (bs (verbW i))), (35, .string (bs x))]) rfl
      clear h63
      refine wpAnyK_done (by kernel_rfl) ?_ _
      refine hK58 _ _ ?_
      clear hK58
      refine c_split h64 (b := ((verbW i) == x)) rfl (fun hc65 => ?_) (fun hc65 => ?_)
      ·
        have hc65f : (verbW i) = x := by simpa using hc65
        refine nd_start (l := [0, 1, 2]) rfl ?_
        refine nd_batch tabOk2 tabZ_ok2 [(0, {}), (1, {}), (2, {})] [7, 26, 2, 0, 3, 4, 27, 6, 5] (T' := [(7, .pointer (some ⟨b48, 0, none⟩)), (26, .agg verbsC.toArray), (2, .pointer (some ⟨b2, 0, none⟩)), (0, .string (bs l)), (3, .nilIface), (4, .slice (some ⟨b13, 0, none⟩) (xs.length + 1) (xs.length + 1)), (27, .int .i64 ((i : Nat) : Int)), (6, .int .i64 ((i : Nat) : Int)), (5, .int .u8 ((i : Nat) : Int))]) (φ := inR .u8 ((i : Nat) : Int) ∧ True) (rest := []) h64 (by kernel_rfl) rfl ⟨⟨by omega, by omega⟩, trivial⟩ fun a66 h67 => ?_
        clear h64
        refine nd_done ?_
        refine hK43 _ _ ?_
        clear hK43
        refine nd_start (l := [0, 1]) rfl ?_
        refine nd_batch tabOk2 tabZ_ok2 [(0, {}), (1, {})] [7, 26, 2, 0, 3, 4, 6, 5, 27] (T' := [(7, .pointer (some ⟨b48, 0, none⟩)), (26, .agg verbsC.toArray), (2, .pointer (some ⟨b2, 0, none⟩)), (0, .string (bs l)), (3, .nilIface), (4, .slice (some ⟨b13, 0, none⟩) (xs.length + 1) (xs.length + 1)), (6, .int .i64 ((i : Nat) : Int)), (5, .int .u8 ((i : Nat) : Int)), (27, .int .i64 (((i : Nat) : Int) + 1))]) (φ := inR .i64 (((i : Nat) : Int) + 1) ∧ True) (rest := []) h67 (by kernel_rfl) rfl ⟨⟨by omega, by omega⟩, trivial⟩ fun a68 h69 => ?_
        clear h67
        refine nd_done ?_
        have h70 := h69.memMono (L' := [(b2, ⟨[.int .u8 0, .int .i64 0, .int .i64 0, .int .u8 0, .int .u32 0, .int .u64 0], 33, false⟩), (b13, ⟨(Value.string (bs x) :: xs.map (fun x => Value.string (bs x))), 9, false⟩)]) (List.Sublist.cons_cons _ (List.Sublist.cons_cons _ (List.Sublist.cons _ List.Sublist.slnil)))
        clear h69
        have hK71 : kindP (i + 1) x = i := by simp [kindP, hc65f]
        have hI72 : ((i + 1 : Nat) : Int) = ((i : Nat) : Int) + 1 := rfl
        have h73 := (show ∀ a w1, St ⟨149, [], w, fun _ => True, []⟩ [(26, .agg verbsC.toArray), (2, .pointer (some ⟨b2, 0, none⟩)), (0, .string (bs l)), (3, .nilIface), (4, .slice (some ⟨b13, 0, none⟩) (xs.length + 1) (xs.length + 1)), (5, .int .u8 ((i : Nat) : Int)), (27, .int .i64 (((i : Nat) : Int) + 1))] [(b2, ⟨[.int .u8 0, .int .i64 0, .int .i64 0, .int .u8 0, .int .u32 0, .int .u64 0], 33, false⟩), (b13, ⟨(Value.string (bs x) :: xs.map (fun x => Value.string (bs x))), 9, false⟩)] a w1 → St ⟨149, [], w, fun _ => True, []⟩ [(26, .agg verbsC.toArray), (2, .pointer (some ⟨b2, 0, none⟩)), (0, .string (bs l)), (3, .nilIface), (4, .slice (some ⟨b13, 0, none⟩) (xs.length + 1) (xs.length + 1)), (5, .int .u8 ((kindP (i + 1) x : Nat) : Int)), (27, .int .i64 (((i + 1) : Nat) : Int))] [(b2, ⟨[.int .u8 0, .int .i64 0, .int .i64 0, .int .u8 0, .int .u32 0, .int .u64 0], 33, false⟩), (b13, ⟨(Value.string (bs x) :: xs.map (fun x => Value.string (bs x))), 9, false⟩)] a w1 from fun a w1 hq => by rw [hK71, hI72]; exact hq) _ _ (h70.slotsMono (restr_spec (keep := [26, 2, 0, 3, 4, 5, 27]) rfl))
        clear h70
        exact ⟨(g - 1), (by omega), i + 1, by omega, (h73.slotsMono (restr_spec (keep := [26, 2, 0, 3, 4, 5, 27]) rfl))⟩
      ·
        have hc65f : (verbW i) ≠ x := by simpa using hc65
        refine wp_skip ?_
        refine hK43 _ _ ?_
        clear hK43
        refine nd_start (l := [0, 1]) rfl ?_
        refine nd_batch tabOk2 tabZ_ok2 [(0, {}), (1, {})] [7, 26, 2, 0, 3, 4, 5, 6, 27] (T' := [(7, .pointer (some ⟨b48, 0, none⟩)), (26, .agg verbsC.toArray), (2, .pointer (some ⟨b2, 0, none⟩)), (0, .string (bs l)), (3, .nilIface), (4, .slice (some ⟨b13, 0, none⟩) (xs.length + 1) (xs.length + 1)), (5, .int .u8 ((kindP i x : Nat) : Int)), (6, .int .i64 ((i : Nat) : Int)), (27, .int .i64 (((i : Nat) : Int) + 1))]) (φ := inR .i64 (((i : Nat) : Int) + 1) ∧ True) (rest := []) h64 (by kernel_rfl) rfl ⟨⟨by omega, by omega⟩, trivial⟩ fun a74 h75 => ?_
        clear h64
        refine nd_done ?_
        have h76 := h75.memMono (L' := [(b2, ⟨[.int .u8 0, .int .i64 0, .int .i64 0, .int .u8 0, .int .u32 0, .int .u64 0], 33, false⟩), (b13, ⟨(Value.string (bs x) :: xs.map (fun x => Value.string (bs x))), 9, false⟩)]) (List.Sublist.cons_cons _ (List.Sublist.cons_cons _ (List.Sublist.cons _ List.Sublist.slnil)))
        clear h75
        have hK77 : kindP (i + 1) x = kindP i x := by simp [kindP, hc65f]
        have hI78 : ((i + 1 : Nat) : Int) = ((i : Nat) : Int) + 1 := rfl
        have h79 := (show ∀ a w1, St ⟨149, [], w, fun _ => True, []⟩ [(26, .agg verbsC.toArray), (2, .pointer (some ⟨b2, 0, none⟩)), (0, .string (bs l)), (3, .nilIface), (4, .slice (some ⟨b13, 0, none⟩) (xs.length + 1) (xs.length + 1)), (5, .int .u8 ((kindP i x : Nat) : Int)), (27, .int .i64 (((i : Nat) : Int) + 1))] [(b2, ⟨[.int .u8 0, .int .i64 0, .int .i64 0, .int .u8 0, .int .u32 0, .int .u64 0], 33, false⟩), (b13, ⟨(Value.string (bs x) :: xs.map (fun x => Value.string (bs x))), 9, false⟩)] a w1 → St ⟨149, [], w, fun _ => True, []⟩ [(26, .agg verbsC.toArray), (2, .pointer (some ⟨b2, 0, none⟩)), (0, .string (bs l)), (3, .nilIface), (4, .slice (some ⟨b13, 0, none⟩) (xs.length + 1) (xs.length + 1)), (5, .int .u8 ((kindP (i + 1) x : Nat) : Int)), (27, .int .i64 (((i + 1) : Nat) : Int))] [(b2, ⟨[.int .u8 0, .int .i64 0, .int .i64 0, .int .u8 0, .int .u32 0, .int .u64 0], 33, false⟩), (b13, ⟨(Value.string (bs x) :: xs.map (fun x => Value.string (bs x))), 9, false⟩)] a w1 from fun a w1 hq => by rw [hK77, hI78]; exact hq) _ _ (h76.slotsMono (restr_spec (keep := [26, 2, 0, 3, 4, 5, 27]) rfl))
        clear h76
        exact ⟨(g - 1), (by omega), i + 1, by omega, (h79.slotsMono (restr_spec (keep := [26, 2, 0, 3, 4, 5, 27]) rfl))⟩
    ·
      have hc42f : ¬ ((i : Nat) : Int) < 9 := by simpa using hc42
      obtain rfl : i = 9 := by omega
      refine wp_exit ?_
      refine hK28 _ _ ?_
      clear hK28
      refine wp_seq_k fun K80 hK80 => ?_
      refine wp_seq_k fun K81 hK81 => ?_
      refine nd_start (l := [0, 1]) rfl ?_
      refine nd_batch tabOk2 tabZ_ok2 [(0, {}), (1, {})] [26, 2, 0, 3, 4, 5, 27, 41] (T' := [(26, .agg verbsC.toArray), (2, .pointer (some ⟨b2, 0, none⟩)), (0, .string (bs l)), (3, .nilIface), (4, .slice (some ⟨b13, 0, none⟩) (xs.length + 1) (xs.length + 1)), (5, .int .u8 ((kindP 9 x : Nat) : Int)), (27, .int .i64 ((9 : Nat) : Int)), (41, .bool (((kindP 9 x : Nat) : Int) == 9))]) (φ := True) (rest := []) h40 (by kernel_rfl) rfl trivial fun a82 h83 => ?_
      clear h40
      refine nd_done ?_
      refine hK81 _ _ ?_
      clear hK81
      refine c_split h83 (b := (((kindP 9 x : Nat) : Int) == 9)) rfl (fun hc84 => ?_) (fun hc84 => ?_)
      ·
        have hc84f : ((kindP 9 x : Nat) : Int) = 9 := by simpa using hc84
        have hnone : parseP l = none := by simp [parseP, hw, show kindP 9 x = 9 by omega]
        refine wp_seq_k fun K85 hK85 => ?_
        refine nd_start (l := [0, 1, 2, 3, 4, 5]) rfl ?_
        refine nd_batch tabOk2 tabZ_ok2 [(0, {}), (1, {})] [26, 2, 0, 3, 4, 5, 27, 42, 43] (T' := [(26, .agg verbsC.toArray), (2, .pointer (some ⟨b2, 0, none⟩)), (0, .string (bs l)), (3, .nilIface), (4, .slice (some ⟨b13, 0, none⟩) (xs.length + 1) (xs.length + 1)), (5, .int .u8 ((kindP 9 x : Nat) : Int)), (27, .int .i64 ((9 : Nat) : Int)), (42, .agg #[.int .u8 0, .int .i64 0, .int .i64 0, .int .u8 0, .int .u32 0, .int .u64 0]), (43, .agg #[.int .i64 0, .string (bs ([117, 110, 107, 110, 111, 119, 110, 32, 118, 101, 114, 98]))])]) (φ := True) (rest := [2, 3, 4, 5]) h83 (by kernel_rfl) rfl trivial fun a86 h87 => ?_
        clear h83
        refine nd_op ?_
        refine op_new tabOk2 (cells := [.int .i64 0, .string (bs ([117, 110, 107, 110, 111, 119, 110, 32, 118, 101, 114, 98]))]) (ty := 69) (ln := none) (L1 := fun b88 => [(b2, ⟨[.int .u8 0, .int .i64 0, .int .i64 0, .int .u8 0, .int .u32 0, .int .u64 0], 33, false⟩), (b13, ⟨(Value.string (bs x) :: xs.map (fun x => Value.string (bs x))), 9, false⟩), (b88, ⟨[.int .i64 0, .string (bs ([117, 110, 107, 110, 111, 119, 110, 32, 118, 101, 114, 98]))], 69, false⟩)]) h87 rfl rfl rfl rfl (by kernel_rfl) (fun _ => rfl) fun b88 w89 a90 h91 hf92 hn93 => ?_
        clear h87
        refine nd_op ?_
        refine op_pure (v := .iface 67 (.pointer (some ⟨b88, 0, none⟩))) h91 rfl rfl (pure_iface tabOk2 h91.slots rfl rfl rfl (by intro fs hq; cases hq) (by intro fs hq; cases hq)) ?_
        have h94 := h91.put (d := some 45) (v := .iface 67 (.pointer (some ⟨b88, 0, none⟩))) (T' := [(45, .iface 67 (.pointer (some ⟨b88, 0, none⟩))), (44, .pointer (some ⟨b88, 0, none⟩)), (26, .agg verbsC.toArray), (2, .pointer (some ⟨b2, 0, none⟩)), (0, .string (bs l)), (3, .nilIface), (4, .slice (some ⟨b13, 0, none⟩) (xs.length + 1) (xs.length + 1)), (5, .int .u8 ((kindP 9 x : Nat) : Int)), (27, .int .i64 ((9 : Nat) : Int)), (42, .agg #[.int .u8 0, .int .i64 0, .int .i64 0, .int .u8 0, .int .u32 0, .int .u64 0]), (43, .agg #[.int .i64 0, .string (bs ([117, 110, 107, 110, 111, 119, 110, 32, 118, 101, 114, 98]))])]) rfl
        clear h91
        refine nd_op ?_
        refine op_store tabOk2 {k := 0} (L' := [(b2, ⟨[.int .u8 0, .int .i64 0, .int .i64 0, .int .u8 0, .int .u32 0, .int .u64 0], 33, false⟩), (b13, ⟨(Value.string (bs x) :: xs.map (fun x => Value.string (bs x))), 9, false⟩), (b88, ⟨[.int .i64 0, .string (bs ([117, 110, 107, 110, 111, 119, 110, 32, 118, 101, 114, 98]))], 69, false⟩)]) (φ := b2 = b2 ∧ Nat.ble (0 + 6) 6 = true) h94 rfl rfl rfl (by kernel_rfl) ⟨rfl, rfl⟩ fun w95 h96 => ?_
        clear h94
        refine nd_batch tabOk2 tabZ_ok2 [(5, {})] [26, 2, 0, 4, 5, 27, 3] (T' := [(26, .agg verbsC.toArray), (2, .pointer (some ⟨b2, 0, none⟩)), (0, .string (bs l)), (4, .slice (some ⟨b13, 0, none⟩) (xs.length + 1) (xs.length + 1)), (5, .int .u8 ((kindP 9 x : Nat) : Int)), (27, .int .i64 ((9 : Nat) : Int)), (3, .iface 67 (.pointer (some ⟨b88, 0, none⟩)))]) (φ := True) (rest := []) h96 (by kernel_rfl) rfl trivial fun a97 h98 => ?_
        clear h96
        refine nd_done ?_
        refine hK85 _ _ ?_
        clear hK85
        refine wp_ret ?_
        try simp only [Exit.then, Exit.inBlock]
        try rw [if_pos trivial]
        exact s_ret tabOk2 tabZ_ok2 h98 [(.cell 2 33, {k := 0}), (.tmp 3, {})] (vs := [.agg #[.int .u8 0, .int .i64 0, .int .i64 0, .int .u8 0, .int .u32 0, .int .u64 0], .iface 67 (.pointer (some ⟨b88, 0, none⟩))]) (φ := (b2 = b2 ∧ Nat.ble (0 + 6) 6 = true) ∧ True) rfl (by kernel_rfl) ⟨⟨rfl, rfl⟩, trivial⟩ ⟨h98.frame, .inr ⟨hnone, _, _, rfl⟩⟩
      ·
        have hc84f : ((kindP 9 x : Nat) : Int) ≠ 9 := by simpa using hc84
        obtain ⟨kd, hkd⟩ : ∃ kd, kindP 9 x = kd := ⟨_, rfl⟩
        have h99 := h83
        rw [hkd] at h99
        clear h83
        have hvl := verbN_le kd
        have hkd9 : kd < 9 := by have h1 := kindP_le 9 x (Nat.le_refl _); rw [hkd] at hc84f h1; omega
        refine wp_skip ?_
        refine hK80 _ _ ?_
        clear hK80
        refine wp_seq_k fun K100 hK100 => ?_
        refine wp_seq_k fun K101 hK101 => ?_
        refine nd_start (l := [0, 1, 2, 3, 4, 5, 6, 7]) rfl ?_
        refine nd_batch tabOk2 tabZ_ok2 [(0, {}), (1, {}), (2, {}), (3, {}), (4, {}), (5, {})] [26, 2, 0, 3, 4, 5, 27, 48, 51] (T' := [(26, .agg verbsC.toArray), (2, .pointer (some ⟨b2, 0, none⟩)), (0, .string (bs l)), (3, .nilIface), (4, .slice (some ⟨b13, 0, none⟩) (xs.length + 1) (xs.length + 1)), (5, .int .u8 ((kd : Nat) : Int)), (27, .int .i64 ((9 : Nat) : Int)), (48, .int .i64 ((((xs.length + 1) : Nat) : Int) - 1)), (51, .pointer (some ⟨0, 0 + (kd * 2) + 1, none⟩))]) (φ := inR .i64 ((((xs.length + 1) : Nat) : Int) - 1) ∧ (0 ≤ ((kd : Nat) : Int) ∧ ((kd : Nat) : Int) < 9) ∧ True) (rest := [6, 7]) h99 (by kernel_rfl) rfl ⟨⟨by omega, by omega⟩, ⟨by omega, by omega⟩, trivial⟩ fun a102 h103 => ?_
        clear h99
        refine nd_op ?_
        refine op_now (v := .int .i64 ((verbN kd : Nat) : Int)) h103 rfl rfl (run_cell tabOk2 h103.slots rfl rfl rfl rfl ((hg.fr h103.frame).args (k := kd) (by omega) rfl (by omega))) ?_
        have h104 := h103.put (d := some 52) (v := .int .i64 ((verbN kd : Nat) : Int)) (T' := [(52, .int .i64 ((verbN kd : Nat) : Int)), (26, .agg verbsC.toArray), (2, .pointer (some ⟨b2, 0, none⟩)), (0, .string (bs l)), (3, .nilIface), (4, .slice (some ⟨b13, 0, none⟩) (xs.length + 1) (xs.length + 1)), (5, .int .u8 ((kd : Nat) : Int)), (27, .int .i64 ((9 : Nat) : Int)), (48, .int .i64 ((((xs.length + 1) : Nat) : Int) - 1)), (51, .pointer (some ⟨0, 0 + (kd * 2) + 1, none⟩))]) rfl
        clear h103
        refine nd_batch tabOk2 tabZ_ok2 [(7, {})] [26, 2, 0, 3, 4, 5, 27, 53] (T' := [(26, .agg verbsC.toArray), (2, .pointer (some ⟨b2, 0, none⟩)), (0, .string (bs l)), (3, .nilIface), (4, .slice (some ⟨b13, 0, none⟩) (xs.length + 1) (xs.length + 1)), (5, .int .u8 ((kd : Nat) : Int)), (27, .int .i64 ((9 : Nat) : Int)), (53, .bool (((((xs.length + 1) : Nat) : Int) - 1) != ((verbN kd : Nat) : Int)))]) (φ := True) (rest := []) h104 (by kernel_rfl) rfl trivial fun a105 h106 => ?_
        clear h104
        refine nd_done ?_
        refine hK101 _ _ ?_
        clear hK101
        refine c_split h106 (b := (((((xs.length + 1) : Nat) : Int) - 1) != ((verbN kd : Nat) : Int))) rfl (fun hc107 => ?_) (fun hc107 => ?_)
        ·
          have hc107f : ((((xs.length + 1) : Nat) : Int) - 1) ≠ ((verbN kd : Nat) : Int) := by simpa using hc107
          have hnone : parseP l = none := by simp only [parseP, hw, hkd]; rw [if_neg (by omega)]; exact parseW_none (by omega)
          refine wp_seq_k fun K108 hK108 => ?_
          refine dr_start (KB := [b2, b13]) (Bi := [[0, 1], [0, 1], [0, 1], [0, 1], [0, 1], [0, 1], [], [0, 1], [0, 1], [0, 1], [0, 1], [0, 1], [], [0, 1]]) mixed h106 fun w109 h110 => ?_
          clear h106
          refine dr_batch tabOk2 tabZ_ok2 (by repeat (first | with_reducible exact PF.body | with_reducible apply PF.inB | with_reducible apply PF.next)) [(0, {}), (1, {}), (2, {}), (3, {}), (4, {}), (5, {})] [26, 2, 0, 3, 4, 5, 27, 54, 56, 59] (T' := [(26, .agg verbsC.toArray), (2, .pointer (some ⟨b2, 0, none⟩)), (0, .string (bs l)), (3, .nilIface), (4, .slice (some ⟨b13, 0, none⟩) (xs.length + 1) (xs.length + 1)), (5, .int .u8 ((kd : Nat) : Int)), (27, .int .i64 ((9 : Nat) : Int)), (54, .agg #[.int .u8 0, .int .i64 0, .int .i64 0, .int .u8 0, .int .u32 0, .int .u64 0]), (56, .int .i64 (((xs.length + 1) : Nat) : Int)), (59, .pointer (some ⟨0, 0 + (kd * 2) + 1, none⟩))]) (φ := (0 ≤ ((kd : Nat) : Int) ∧ ((kd : Nat) : Int) < 9) ∧ True) (fuel := 8) h110 (by kernel_rfl) rfl (by kernel_rfl) (by kernel_rfl) ⟨trivial, trivial, trivial, trivial, trivial, trivial, trivial⟩ ⟨⟨by omega, by omega⟩, trivial⟩ fun a112 h113 => ?_
          clear h110
          refine wpAnyK_two (i := 6) (j := 12) (fuel := 7) (by kernel_rfl) ?_ ?_
          ·
            refine op_now (v := .int .i64 ((verbN kd : Nat) : Int)) h113 rfl rfl (run_cell tabOk2 h113.slots rfl rfl rfl rfl ((hg.fr h113.frame).args (k := kd) (by omega) rfl (by omega))) ?_
            refine ⟨Keep.refl _ _, ?_⟩
            have h114 := h113.put (d := some 60) (v := .int .i64 ((verbN kd : Nat) : Int)) (T' := [(60, .int .i64 ((verbN kd : Nat) : Int)), (26, .agg verbsC.toArray), (2, .pointer (some ⟨b2, 0, none⟩)), (0, .string (bs l)), (3, .nilIface), (4, .slice (some ⟨b13, 0, none⟩) (xs.length + 1) (xs.length + 1)), (5, .int .u8 ((kd : Nat) : Int)), (27, .int .i64 ((9 : Nat) : Int)), (54, .agg #[.int .u8 0, .int .i64 0, .int .i64 0, .int .u8 0, .int .u32 0, .int .u64 0]), (56, .int .i64 (((xs.length + 1) : Nat) : Int)), (59, .pointer (some ⟨0, 0 + (kd * 2) + 1, none⟩))]) rfl
            clear h113
            refine dr_batch tabOk2 tabZ_ok2 (by repeat (first | with_reducible exact PF.body | with_reducible apply PF.inB | with_reducible apply PF.next)) [(7, {}), (8, {}), (9, {})] [26, 2, 0, 3, 4, 5, 27, 54, 63] (T' := [(26, .agg verbsC.toArray), (2, .pointer (some ⟨b2, 0, none⟩)), (0, .string (bs l)), (3, .nilIface), (4, .slice (some ⟨b13, 0, none⟩) (xs.length + 1) (xs.length + 1)), (5, .int .u8 ((kd : Nat) : Int)), (27, .int .i64 ((9 : Nat) : Int)), (54, .agg #[.int .u8 0, .int .i64 0, .int .i64 0, .int .u8 0, .int .u32 0, .int .u64 0]), (63, .agg #[.int .i64 (if (((verbN kd : Nat) : Int) + 1) < (((xs.length + 1) : Nat) : Int) then (((verbN kd : Nat) : Int) + 1) else (((xs.length + 1) : Nat) : Int)), .string (bs ([119, 114, 111, 110, 103, 32, 110, 117, 109, 98, 101, 114, 32, 111, 102, 32, 97, 114, 103, 117, 109, 101, 110, 116, 115]))])]) (φ := inR .i64 (((verbN kd : Nat) : Int) + 1) ∧ True) (fuel := 4) h114 (by kernel_rfl) rfl (by kernel_rfl) (by kernel_rfl) ⟨trivial, trivial, trivial, trivial⟩ ⟨⟨by omega, by omega⟩, trivial⟩ fun a115 h116 => ?_
            clear h114
            refine wpAnyK_two (i := 10) (j := 12) (fuel := 3) (by kernel_rfl) ?_ ?_
            ·
              refine op_new tabOk2 (cells := [.int .i64 (if (((verbN kd : Nat) : Int) + 1) < (((xs.length + 1) : Nat) : Int) then (((verbN kd : Nat) : Int) + 1) else (((xs.length + 1) : Nat) : Int)), .string (bs ([119, 114, 111, 110, 103, 32, 110, 117, 109, 98, 101, 114, 32, 111, 102, 32, 97, 114, 103, 117, 109, 101, 110, 116, 115]))]) (ty := 69) (ln := none) (L1 := fun b117 => [(b2, ⟨[.int .u8 0, .int .i64 0, .int .i64 0, .int .u8 0, .int .u32 0, .int .u64 0], 33, false⟩), (b13, ⟨(Value.string (bs x) :: xs.map (fun x => Value.string (bs x))), 9, false⟩), (b117, ⟨[.int .i64 (if (((verbN kd : Nat) : Int) + 1) < (((xs.length + 1) : Nat) : Int) then (((verbN kd : Nat) : Int) + 1) else (((xs.length + 1) : Nat) : Int)), .string (bs ([119, 114, 111, 110, 103, 32, 110, 117, 109, 98, 101, 114, 32, 111, 102, 32, 97, 114, 103, 117, 109, 101, 110, 116, 115]))], 69, false⟩)]) h116 rfl rfl rfl rfl (by kernel_rfl) (fun _ => rfl) fun b117 w118 a119 h120 hf121 hn122 => ?_
              refine ⟨(h116.keepFr hf121 (kcons (by simp) (kcons (by simp) knil))), ?_⟩
              clear h116
              refine dr_pure (i := 11) (v := .iface 67 (.pointer (some ⟨b117, 0, none⟩))) (fuel := 2) (by repeat (first | with_reducible exact PF.body | with_reducible apply PF.inB | with_reducible apply PF.next)) h120 rfl rfl rfl (by kernel_rfl) (by kernel_rfl) (by kernel_rfl) (pure_iface tabOk2 h120.slots rfl rfl rfl (by intro fs hq; cases hq) (by intro fs hq; cases hq)) ?_
              have h123 := h120.put (d := some 65) (v := .iface 67 (.pointer (some ⟨b117, 0, none⟩))) (T' := [(65, .iface 67 (.pointer (some ⟨b117, 0, none⟩))), (64, .pointer (some ⟨b117, 0, none⟩)), (26, .agg verbsC.toArray), (2, .pointer (some ⟨b2, 0, none⟩)), (0, .string (bs l)), (3, .nilIface), (4, .slice (some ⟨b13, 0, none⟩) (xs.length + 1) (xs.length + 1)), (5, .int .u8 ((kd : Nat) : Int)), (27, .int .i64 ((9 : Nat) : Int)), (54, .agg #[.int .u8 0, .int .i64 0, .int .i64 0, .int .u8 0, .int .u32 0, .int .u64 0]), (63, .agg #[.int .i64 (if (((verbN kd : Nat) : Int) + 1) < (((xs.length + 1) : Nat) : Int) then (((verbN kd : Nat) : Int) + 1) else (((xs.length + 1) : Nat) : Int)), .string (bs ([119, 114, 111, 110, 103, 32, 110, 117, 109, 98, 101, 114, 32, 111, 102, 32, 97, 114, 103, 117, 109, 101, 110, 116, 115]))])]) rfl
              clear h120
              refine wpAnyK_one (i := 12) (fuel := 1) (by kernel_rfl) ?_
              refine op_store tabOk2 {k := 0} (L' := [(b2, ⟨[.int .u8 0, .int .i64 0, .int .i64 0, .int .u8 0, .int .u32 0, .int .u64 0], 33, false⟩), (b13, ⟨(Value.string (bs x) :: xs.map (fun x => Value.string (bs x))), 9, false⟩), (b117, ⟨[.int .i64 (if (((verbN kd : Nat) : Int) + 1) < (((xs.length + 1) : Nat) : Int) then (((verbN kd : Nat) : Int) + 1) else (((xs.length + 1) : Nat) : Int)), .string (bs ([119, 114, 111, 110, 103, 32, 110, 117, 109, 98, 101, 114, 32, 111, 102, 32, 97, 114, 103, 117, 109, 101, 110, 116, 115]))], 69, false⟩)]) (φ := b2 = b2 ∧ Nat.ble (0 + 6) 6 = true) h123 rfl rfl rfl (by kernel_rfl) ⟨rfl, rfl⟩ fun w124 h125 => ?_
              have hkh125 := h123.known
              refine ⟨keepNil, ?_⟩
              clear h123
              refine dr_batch tabOk2 tabZ_ok2 (by repeat (first | with_reducible exact PF.body | with_reducible apply PF.inB | with_reducible apply PF.next)) [(13, {})] [26, 2, 0, 4, 5, 27, 3] (T' := [(26, .agg verbsC.toArray), (2, .pointer (some ⟨b2, 0, none⟩)), (0, .string (bs l)), (4, .slice (some ⟨b13, 0, none⟩) (xs.length + 1) (xs.length + 1)), (5, .int .u8 ((kd : Nat) : Int)), (27, .int .i64 ((9 : Nat) : Int)), (3, .iface 67 (.pointer (some ⟨b117, 0, none⟩)))]) (φ := True) (fuel := 0) h125 (by kernel_rfl) rfl (by kernel_rfl) (by kernel_rfl) ⟨trivial, trivial⟩ trivial fun a126 h127 => ?_
              clear h125
              refine wpAnyK_done (by kernel_rfl) ?_ _
              refine hK108 _ _ ?_
              clear hK108
              refine wp_ret ?_
              try simp only [Exit.then, Exit.inBlock]
              try rw [if_pos trivial]
              exact s_ret tabOk2 tabZ_ok2 h127 [(.cell 2 33, {k := 0}), (.tmp 3, {})] (vs := [.agg #[.int .u8 0, .int .i64 0, .int .i64 0, .int .u8 0, .int .u32 0, .int .u64 0], .iface 67 (.pointer (some ⟨b117, 0, none⟩))]) (φ := (b2 = b2 ∧ Nat.ble (0 + 6) 6 = true) ∧ True) rfl (by kernel_rfl) ⟨⟨rfl, rfl⟩, trivial⟩ ⟨h127.frame, .inr ⟨hnone, _, _, rfl⟩⟩
            ·
              refine op_store tabOk2 {k := 0} (L' := [(b2, ⟨[.int .u8 0, .int .i64 0, .int .i64 0, .int .u8 0, .int .u32 0, .int .u64 0], 33, false⟩), (b13, ⟨(Value.string (bs x) :: xs.map (fun x => Value.string (bs x))), 9, false⟩)]) (φ := b2 = b2 ∧ Nat.ble (0 + 6) 6 = true) h116 rfl rfl rfl (by kernel_rfl) ⟨rfl, rfl⟩ fun w128 h129 => ?_
              have hkh129 := h116.known
              refine ⟨keepNil, ?_⟩
              clear h116
              refine wpAnyK_one (i := 10) (fuel := 2) (by kernel_rfl) ?_
              refine op_new tabOk2 (cells := [.int .i64 (if (((verbN kd : Nat) : Int) + 1) < (((xs.length + 1) : Nat) : Int) then (((verbN kd : Nat) : Int) + 1) else (((xs.length + 1) : Nat) : Int)), .string (bs ([119, 114, 111, 110, 103, 32, 110, 117, 109, 98, 101, 114, 32, 111, 102, 32, 97, 114, 103, 117, 109, 101, 110, 116, 115]))]) (ty := 69) (ln := none) (L1 := fun b130 => [(b2, ⟨[.int .u8 0, .int .i64 0, .int .i64 0, .int .u8 0, .int .u32 0, .int .u64 0], 33, false⟩), (b13, ⟨(Value.string (bs x) :: xs.map (fun x => Value.string (bs x))), 9, false⟩), (b130, ⟨[.int .i64 (if (((verbN kd : Nat) : Int) + 1) < (((xs.length + 1) : Nat) : Int) then (((verbN kd : Nat) : Int) + 1) else (((xs.length + 1) : Nat) : Int)), .string (bs ([119, 114, 111, 110, 103, 32, 110, 117, 109, 98, 101, 114, 32, 111, 102, 32, 97, 114, 103, 117, 109, 101, 110, 116, 115]))], 69, false⟩)]) h129 rfl rfl rfl rfl (by kernel_rfl) (fun _ => rfl) fun b130 w131 a132 h133 hf134 hn135 => ?_
              refine ⟨(h129.keepFr hf134 (kcons (by simp) (kcons (by simp) knil))), ?_⟩
              clear h129
              refine dr_pure (i := 11) (v := .iface 67 (.pointer (some ⟨b130, 0, none⟩))) (fuel := 1) (by repeat (first | with_reducible exact PF.body | with_reducible apply PF.inB | with_reducible apply PF.next)) h133 rfl rfl rfl (by kernel_rfl) (by kernel_rfl) (by kernel_rfl) (pure_iface tabOk2 h133.slots rfl rfl rfl (by intro fs hq; cases hq) (by intro fs hq; cases hq)) ?_
              have h136 := h133.put (d := some 65) (v := .iface 67 (.pointer (some ⟨b130, 0, none⟩))) (T' := [(65, .iface 67 (.pointer (some ⟨b130, 0, none⟩))), (64, .pointer (some ⟨b130, 0, none⟩)), (26, .agg verbsC.toArray), (2, .pointer (some ⟨b2, 0, none⟩)), (0, .string (bs l)), (3, .nilIface), (4, .slice (some ⟨b13, 0, none⟩) (xs.length + 1) (xs.length + 1)), (5, .int .u8 ((kd : Nat) : Int)), (27, .int .i64 ((9 : Nat) : Int)), (54, .agg #[.int .u8 0, .int .i64 0, .int .i64 0, .int .u8 0, .int .u32 0, .int .u64 0]), (63, .agg #[.int .i64 (if (((verbN kd : Nat) : Int) + 1) < (((xs.length + 1) : Nat) : Int) then (((verbN kd : Nat) : Int) + 1) else (((xs.length + 1) : Nat) : Int)), .string (bs ([119, 114, 111, 110, 103, 32, 110, 117, 109, 98, 101, 114, 32, 111, 102, 32, 97, 114, 103, 117, 109, 101, 110, 116, 115]))])]) rfl
              clear h133
              refine dr_batch tabOk2 tabZ_ok2 (by repeat (first | with_reducible exact PF.body | with_reducible apply PF.inB | with_reducible apply PF.next)) [(13, {})] [26, 2, 0, 4, 5, 27, 3] (T' := [(26, .agg verbsC.toArray), (2, .pointer (some ⟨b2, 0, none⟩)), (0, .string (bs l)), (4, .slice (some ⟨b13, 0, none⟩) (xs.length + 1) (xs.length + 1)), (5, .int .u8 ((kd : Nat) : Int)), (27, .int .i64 ((9 : Nat) : Int)), (3, .iface 67 (.pointer (some ⟨b130, 0, none⟩)))]) (φ := True) (fuel := 0) h136 (by kernel_rfl) rfl (by kernel_rfl) (by kernel_rfl) ⟨trivial, trivial⟩ trivial fun a137 h138 => ?_
              clear h136
              refine wpAnyK_done (by kernel_rfl) ?_ _
              refine hK108 _ _ ?_
              clear hK108
              refine wp_ret ?_
              try simp only [Exit.then, Exit.inBlock]
              try rw [if_pos trivial]
              exact s_ret tabOk2 tabZ_ok2 h138 [(.cell 2 33, {k := 0}), (.tmp 3, {})] (vs := [.agg #[.int .u8 0, .int .i64 0, .int .i64 0, .int .u8 0, .int .u32 0, .int .u64 0], .iface 67 (.pointer (some ⟨b130, 0, none⟩))]) (φ := (b2 = b2 ∧ Nat.ble (0 + 6) 6 = true) ∧ True) rfl (by kernel_rfl) ⟨⟨rfl, rfl⟩, trivial⟩ ⟨h138.frame, .inr ⟨hnone, _, _, rfl⟩⟩
          ·
            refine op_store tabOk2 {k := 0} (L' := [(b2, ⟨[.int .u8 0, .int .i64 0, .int .i64 0, .int .u8 0, .int .u32 0, .int .u64 0], 33, false⟩), (b13, ⟨(Value.string (bs x) :: xs.map (fun x => Value.string (bs x))), 9, false⟩)]) (φ := b2 = b2 ∧ Nat.ble (0 + 6) 6 = true) h113 rfl rfl rfl (by kernel_rfl) ⟨rfl, rfl⟩ fun w139 h140 => ?_
            have hkh140 := h113.known
            refine ⟨keepNil, ?_⟩
            clear h113
            refine wpAnyK_one (i := 6) (fuel := 6) (by kernel_rfl) ?_
            refine op_now (v := .int .i64 ((verbN kd : Nat) : Int)) h140 rfl rfl (run_cell tabOk2 h140.slots rfl rfl rfl rfl ((hg.fr h140.frame).args (k := kd) (by omega) rfl (by omega))) ?_
            refine ⟨Keep.refl _ _, ?_⟩
            have h141 := h140.put (d := some 60) (v := .int .i64 ((verbN kd : Nat) : Int)) (T' := [(60, .int .i64 ((verbN kd : Nat) : Int)), (26, .agg verbsC.toArray), (2, .pointer (some ⟨b2, 0, none⟩)), (0, .string (bs l)), (3, .nilIface), (4, .slice (some ⟨b13, 0, none⟩) (xs.length + 1) (xs.length + 1)), (5, .int .u8 ((kd : Nat) : Int)), (27, .int .i64 ((9 : Nat) : Int)), (54, .agg #[.int .u8 0, .int .i64 0, .int .i64 0, .int .u8 0, .int .u32 0, .int .u64 0]), (56, .int .i64 (((xs.length + 1) : Nat) : Int)), (59, .pointer (some ⟨0, 0 + (kd * 2) + 1, none⟩))]) rfl
            clear h140
            refine dr_batch tabOk2 tabZ_ok2 (by repeat (first | with_reducible exact PF.body | with_reducible apply PF.inB | with_reducible apply PF.next)) [(7, {}), (8, {}), (9, {})] [26, 2, 0, 3, 4, 5, 27, 63] (T' := [(26, .agg verbsC.toArray), (2, .pointer (some ⟨b2, 0, none⟩)), (0, .string (bs l)), (3, .nilIface), (4, .slice (some ⟨b13, 0, none⟩) (xs.length + 1) (xs.length + 1)), (5, .int .u8 ((kd : Nat) : Int)), (27, .int .i64 ((9 : Nat) : Int)), (63, .agg #[.int .i64 (if (((verbN kd : Nat) : Int) + 1) < (((xs.length + 1) : Nat) : Int) then (((verbN kd : Nat) : Int) + 1) else (((xs.length + 1) : Nat) : Int)), .string (bs ([119, 114, 111, 110, 103, 32, 110, 117, 109, 98, 101, 114, 32, 111, 102, 32, 97, 114, 103, 117, 109, 101, 110, 116, 115]))])]) (φ := inR .i64 (((verbN kd : Nat) : Int) + 1) ∧ True) (fuel := 3) h141 (by kernel_rfl) rfl (by kernel_rfl) (by kernel_rfl) ⟨trivial, trivial, trivial, trivial⟩ ⟨⟨by omega, by omega⟩, trivial⟩ fun a142 h143 => ?_
            clear h141
            refine wpAnyK_one (i := 10) (fuel := 2) (by kernel_rfl) ?_
            refine op_new tabOk2 (cells := [.int .i64 (if (((verbN kd : Nat) : Int) + 1) < (((xs.length + 1) : Nat) : Int) then (((verbN kd : Nat) : Int) + 1) else (((xs.length + 1) : Nat) : Int)), .string (bs ([119, 114, 111, 110, 103, 32, 110, 117, 109, 98, 101, 114, 32, 111, 102, 32, 97, 114, 103, 117, 109, 101, 110, 116, 115]))]) (ty := 69) (ln := none) (L1 := fun b144 => [(b2, ⟨[.int .u8 0, .int .i64 0, .int .i64 0, .int .u8 0, .int .u32 0, .int .u64 0], 33, false⟩), (b13, ⟨(Value.string (bs x) :: xs.map (fun x => Value.string (bs x))), 9, false⟩), (b144, ⟨[.int .i64 (if (((verbN kd : Nat) : Int) + 1) < (((xs.length + 1) : Nat) : Int) then (((verbN kd : Nat) : Int) + 1) else (((xs.length + 1) : Nat) : Int)), .string (bs ([119, 114, 111, 110, 103, 32, 110, 117, 109, 98, 101, 114, 32, 111, 102, 32, 97, 114, 103, 117, 109, 101, 110, 116, 115]))], 69, false⟩)]) h143 rfl rfl rfl rfl (by kernel_rfl) (fun _ => rfl) fun b144 w145 a146 h147 hf148 hn149 => ?_
            refine ⟨(h143.keepFr hf148 (kcons (by simp) (kcons (by simp) knil))), ?_⟩
            clear h143
            refine dr_pure (i := 11) (v := .iface 67 (.pointer (some ⟨b144, 0, none⟩))) (fuel := 1) (by repeat (first | with_reducible exact PF.body | with_reducible apply PF.inB | with_reducible apply PF.next)) h147 rfl rfl rfl (by kernel_rfl) (by kernel_rfl) (by kernel_rfl) (pure_iface tabOk2 h147.slots rfl rfl rfl (by intro fs hq; cases hq) (by intro fs hq; cases hq)) ?_
            have h150 := h147.put (d := some 65) (v := .iface 67 (.pointer (some ⟨b144, 0, none⟩))) (T' := [(65, .iface 67 (.pointer (some ⟨b144, 0, none⟩))), (64, .pointer (some ⟨b144, 0, none⟩)), (26, .agg verbsC.toArray), (2, .pointer (some ⟨b2, 0, none⟩)), (0, .string (bs l)), (3, .nilIface), (4, .slice (some ⟨b13, 0, none⟩) (xs.length + 1) (xs.length + 1)), (5, .int .u8 ((kd : Nat) : Int)), (27, .int .i64 ((9 : Nat) : Int)), (63, .agg #[.int .i64 (if (((verbN kd : Nat) : Int) + 1) < (((xs.length + 1) : Nat) : Int) then (((verbN kd : Nat) : Int) + 1) else (((xs.length + 1) : Nat) : Int)), .string (bs ([119, 114, 111, 110, 103, 32, 110, 117, 109, 98, 101, 114, 32, 111, 102, 32, 97, 114, 103, 117, 109, 101, 110, 116, 115]))])]) rfl
            clear h147
            refine dr_batch tabOk2 tabZ_ok2 (by repeat (first | with_reducible exact PF.body | with_reducible apply PF.inB | with_reducible apply PF.next)) [(13, {})] [26, 2, 0, 4, 5, 27, 3] (T' := [(26, .agg verbsC.toArray), (2, .pointer (some ⟨b2, 0, none⟩)), (0, .string (bs l)), (4, .slice (some ⟨b13, 0, none⟩) (xs.length + 1) (xs.length + 1)), (5, .int .u8 ((kd : Nat) : Int)), (27, .int .i64 ((9 : Nat) : Int)), (3, .iface 67 (.pointer (some ⟨b144, 0, none⟩)))]) (φ := True) (fuel := 0) h150 (by kernel_rfl) rfl (by kernel_rfl) (by kernel_rfl) ⟨trivial, trivial⟩ trivial fun a151 h152 => ?_
            clear h150
            refine wpAnyK_done (by kernel_rfl) ?_ _
            refine hK108 _ _ ?_
            clear hK108
            refine wp_ret ?_
            try simp only [Exit.then, Exit.inBlock]
            try rw [if_pos trivial]
            exact s_ret tabOk2 tabZ_ok2 h152 [(.cell 2 33, {k := 0}), (.tmp 3, {})] (vs := [.agg #[.int .u8 0, .int .i64 0, .int .i64 0, .int .u8 0, .int .u32 0, .int .u64 0], .iface 67 (.pointer (some ⟨b144, 0, none⟩))]) (φ := (b2 = b2 ∧ Nat.ble (0 + 6) 6 = true) ∧ True) rfl (by kernel_rfl) ⟨⟨rfl, rfl⟩, trivial⟩ ⟨h152.frame, .inr ⟨hnone, _, _, rfl⟩⟩
        ·
          have hc107f : ((((xs.length + 1) : Nat) : Int) - 1) = ((verbN kd : Nat) : Int) := by simpa using hc107
          have hlen : xs.length = verbN kd := by omega
          rcases (show verbN kd = 0 ∨ verbN kd = 1 ∨ verbN kd = 2 ∨ verbN kd = 3 from by have := verbN_le kd; omega) with hv | hv | hv | hv
          ·
            obtain rfl : xs = [] := List.length_eq_zero_iff.1 (by omega)
            have hkd0 : kd ≠ 0 := by intro hq; subst hq; simp [verbN] at hv
            have h153 : St ⟨149, [], w, fun _ => True, []⟩ [(26, .agg verbsC.toArray), (2, .pointer (some ⟨b2, 0, none⟩)), (0, .string (bs l)), (3, .nilIface), (4, .slice (some ⟨b13, 0, none⟩) 1 1), (5, .int .u8 ((kd : Nat) : Int)), (27, .int .i64 ((9 : Nat) : Int))] [(b2, ⟨[.int .u8 0, .int .i64 0, .int .i64 0, .int .u8 0, .int .u32 0, .int .u64 0], 33, false⟩), (b13, ⟨[.string (bs x)], 9, false⟩)] _ _ := (h106.slotsMono (restr_spec (keep := [26, 2, 0, 3, 4, 5, 27]) rfl))
            clear h106
            refine wp_skip ?_
            refine hK100 _ _ ?_
            clear hK100
            refine wp_seq_k fun K154 hK154 => ?_
            refine nd_start (l := [0, 1, 2, 3]) rfl ?_
            refine nd_batch tabOk2 tabZ_ok2 [(0, {}), (1, {})] [26, 2, 0, 3, 4, 5, 27, 67] (T' := [(26, .agg verbsC.toArray), (2, .pointer (some ⟨b2, 0, none⟩)), (0, .string (bs l)), (3, .nilIface), (4, .slice (some ⟨b13, 0, none⟩) 1 1), (5, .int .u8 ((kd : Nat) : Int)), (27, .int .i64 ((9 : Nat) : Int)), (67, .agg #[.int .u8 ((kd : Nat) : Int), .int .i64 0, .int .i64 0, .int .u8 0, .int .u32 0, .int .u64 0])]) (φ := True) (rest := [2, 3]) h153 (by kernel_rfl) rfl trivial fun a155 h156 => ?_
            clear h153
            refine nd_op ?_
            refine op_new tabOk2 (cells := [.int .u8 0, .int .i64 0, .int .i64 0, .int .u8 0, .int .u32 0, .int .u64 0]) (ty := 33) (ln := none) (L1 := fun b157 => [(b2, ⟨[.int .u8 0, .int .i64 0, .int .i64 0, .int .u8 0, .int .u32 0, .int .u64 0], 33, false⟩), (b13, ⟨[.string (bs x)], 9, false⟩), (b157, ⟨[.int .u8 0, .int .i64 0, .int .i64 0, .int .u8 0, .int .u32 0, .int .u64 0], 33, false⟩)]) h156 rfl rfl rfl rfl (by kernel_rfl) (fun _ => rfl) fun b157 w158 a159 h160 hf161 hn162 => ?_
            clear h156
            refine nd_op ?_
            refine op_store tabOk2 {k := 2} (L' := [(b2, ⟨[.int .u8 0, .int .i64 0, .int .i64 0, .int .u8 0, .int .u32 0, .int .u64 0], 33, false⟩), (b13, ⟨[.string (bs x)], 9, false⟩), (b157, ⟨[.int .u8 ((kd : Nat) : Int), .int .i64 0, .int .i64 0, .int .u8 0, .int .u32 0, .int .u64 0], 33, false⟩)]) (φ := b157 = b157 ∧ Nat.ble (0 + 6) 6 = true) h160 rfl rfl rfl (by kernel_rfl) ⟨rfl, rfl⟩ fun w163 h164 => ?_
            clear h160
            refine nd_done ?_
            refine hK154 _ _ ?_
            clear hK154
            refine wp_seq_k fun K165 hK165 => ?_
            refine wp_seq_k fun K166 hK166 => ?_
            refine nd_start (l := [0, 1]) rfl ?_
            refine nd_batch tabOk2 tabZ_ok2 [(0, {}), (1, {f := 1})] [8, 26, 2, 0, 3, 4, 5, 27, 69] (T' := [(8, .pointer (some ⟨b157, 0, none⟩)), (26, .agg verbsC.toArray), (2, .pointer (some ⟨b2, 0, none⟩)), (0, .string (bs l)), (3, .nilIface), (4, .slice (some ⟨b13, 0, none⟩) 1 1), (5, .int .u8 ((kd : Nat) : Int)), (27, .int .i64 ((9 : Nat) : Int)), (69, .bool false)]) (φ := ((((kd : Nat) : Int) == 0)) = false ∧ True) (rest := []) h164 (by kernel_rfl) rfl ⟨(beq_eq_false_iff_ne.2 (by omega)), trivial⟩ fun a167 h168 => ?_
            clear h164
            refine nd_done ?_
            refine hK166 _ _ ?_
            clear hK166
            refine c_false h168 rfl ?_
            refine wp_skip ?_
            refine hK165 _ _ ?_
            clear hK165
            refine wp_seq_k fun K169 hK169 => ?_
            refine wp_seq_k fun K170 hK170 => ?_
            refine nd_start (l := [0, 1, 2, 3, 4, 5, 6, 7, 8, 9]) rfl ?_
            refine nd_batch tabOk2 tabZ_ok2 [(0, {}), (1, {})] [8, 26, 2, 0, 3, 4, 5, 27, 113, 114] (T' := [(8, .pointer (some ⟨b157, 0, none⟩)), (26, .agg verbsC.toArray), (2, .pointer (some ⟨b2, 0, none⟩)), (0, .string (bs l)), (3, .nilIface), (4, .slice (some ⟨b13, 0, none⟩) 1 1), (5, .int .u8 ((kd : Nat) : Int)), (27, .int .i64 ((9 : Nat) : Int)), (113, .pointer (some ⟨b157, 1, none⟩)), (114, .pointer (some ⟨b157, 2, none⟩))]) (φ := True) (rest := [2, 3, 4, 5, 6, 7, 8, 9]) h168 (by kernel_rfl) rfl trivial fun a171 h172 => ?_
            clear h168
            refine nd_op ?_
            refine op_new tabOk2 (cells := [.pointer (some ⟨b157, 1, none⟩), .pointer (some ⟨b157, 2, none⟩)]) (ty := 74) (ln := (some 2)) (L1 := fun b173 => [(b2, ⟨[.int .u8 0, .int .i64 0, .int .i64 0, .int .u8 0, .int .u32 0, .int .u64 0], 33, false⟩), (b13, ⟨[.string (bs x)], 9, false⟩), (b157, ⟨[.int .u8 ((kd : Nat) : Int), .int .i64 0, .int .i64 0, .int .u8 0, .int .u32 0, .int .u64 0], 33, false⟩), (b173, ⟨[.pointer (some ⟨b157, 1, none⟩), .pointer (some ⟨b157, 2, none⟩)], 74, false⟩)]) h172 rfl rfl rfl rfl (by kernel_rfl) (fun _ => rfl) fun b173 w174 a175 h176 hf177 hn178 => ?_
            clear h172
            refine nd_batch tabOk2 tabZ_ok2 [(3, {}), (4, {}), (5, {})] [115, 8, 26, 2, 0, 3, 4, 5, 27, 118] (T' := [(115, .slice (some ⟨b173, 0, none⟩) 2 2), (8, .pointer (some ⟨b157, 0, none⟩)), (26, .agg verbsC.toArray), (2, .pointer (some ⟨b2, 0, none⟩)), (0, .string (bs l)), (3, .nilIface), (4, .slice (some ⟨b13, 0, none⟩) 1 1), (5, .int .u8 ((kd : Nat) : Int)), (27, .int .i64 ((9 : Nat) : Int)), (118, .pointer (some ⟨0, 0 + (kd * 2) + 1, none⟩))]) (φ := (0 ≤ ((kd : Nat) : Int) ∧ ((kd : Nat) : Int) < 9) ∧ True) (rest := [6, 7, 8, 9]) h176 (by kernel_rfl) rfl ⟨⟨by omega, by omega⟩, trivial⟩ fun a179 h180 => ?_
            clear h176
            refine nd_op ?_
            refine op_now (v := .int .i64 0) h180 rfl rfl (run_cell tabOk2 h180.slots rfl rfl rfl rfl (by have hq := (hg.fr h180.frame).args (k := kd) (by omega) (b := 0) (o := 0 + (kd * 2) + 1) rfl (by omega); rw [hv] at hq; exact hq)) ?_
            have h181 := h180.put (d := some 119) (v := .int .i64 0) (T' := [(119, .int .i64 0), (115, .slice (some ⟨b173, 0, none⟩) 2 2), (8, .pointer (some ⟨b157, 0, none⟩)), (26, .agg verbsC.toArray), (2, .pointer (some ⟨b2, 0, none⟩)), (0, .string (bs l)), (3, .nilIface), (4, .slice (some ⟨b13, 0, none⟩) 1 1), (5, .int .u8 ((kd : Nat) : Int)), (27, .int .i64 ((9 : Nat) : Int)), (118, .pointer (some ⟨0, 0 + (kd * 2) + 1, none⟩))]) rfl
            clear h180
            refine nd_batch tabOk2 tabZ_ok2 [(7, {}), (8, {}), (9, {})] [8, 26, 2, 0, 3, 4, 5, 27, 120, 121, 122] (T' := [(8, .pointer (some ⟨b157, 0, none⟩)), (26, .agg verbsC.toArray), (2, .pointer (some ⟨b2, 0, none⟩)), (0, .string (bs l)), (3, .nilIface), (4, .slice (some ⟨b13, 0, none⟩) 1 1), (5, .int .u8 ((kd : Nat) : Int)), (27, .int .i64 ((9 : Nat) : Int)), (120, .slice (some ⟨b173, 0, none⟩) 0 2), (121, .int .i64 0), (122, .int .i64 0)]) (φ := (0 ≤ (0 : Int) ∧ (0 : Int) ≤ ((2 : Nat) : Int)) ∧ True) (rest := []) h181 (by kernel_rfl) rfl ⟨⟨by omega, by omega⟩, trivial⟩ fun a182 h183 => ?_
            clear h181
            refine nd_done ?_
            refine hK170 _ _ ?_
            clear hK170
            refine wp_block ?_
            refine wp_loop_rounds 1 ?_
            refine rounds_step ?_
            refine wp_seq_k fun K184 hK184 => ?_
            refine nd_start (l := [0]) rfl ?_
            refine nd_batch tabOk2 tabZ_ok2 [(0, {})] [8, 26, 2, 0, 3, 4, 5, 27, 120, 121, 122, 123] (T' := [(8, .pointer (some ⟨b157, 0, none⟩)), (26, .agg verbsC.toArray), (2, .pointer (some ⟨b2, 0, none⟩)), (0, .string (bs l)), (3, .nilIface), (4, .slice (some ⟨b13, 0, none⟩) 1 1), (5, .int .u8 ((kd : Nat) : Int)), (27, .int .i64 ((9 : Nat) : Int)), (120, .slice (some ⟨b173, 0, none⟩) 0 2), (121, .int .i64 0), (122, .int .i64 0), (123, .bool false)]) (φ := True) (rest := []) h183 (by kernel_rfl) rfl trivial fun a185 h186 => ?_
            clear h183
            refine nd_done ?_
            refine hK184 _ _ ?_
            clear hK184
            refine wp_seq_k fun K187 hK187 => ?_
            refine c_false h186 rfl ?_
            refine wp_exit ?_
            refine hK169 _ _ ?_
            clear hK169
            refine wp_seq_k fun K188 hK188 => ?_
            refine nd_start (l := [0, 1, 2]) rfl ?_
            refine nd_batch tabOk2 tabZ_ok2 [(0, {k := 2})] [8, 26, 2, 0, 3, 4, 5, 27, 120, 121, 122, 148] (T' := [(8, .pointer (some ⟨b157, 0, none⟩)), (26, .agg verbsC.toArray), (2, .pointer (some ⟨b2, 0, none⟩)), (0, .string (bs l)), (3, .nilIface), (4, .slice (some ⟨b13, 0, none⟩) 1 1), (5, .int .u8 ((kd : Nat) : Int)), (27, .int .i64 ((9 : Nat) : Int)), (120, .slice (some ⟨b173, 0, none⟩) 0 2), (121, .int .i64 0), (122, .int .i64 0), (148, .agg #[.int .u8 ((kd : Nat) : Int), .int .i64 0, .int .i64 0, .int .u8 0, .int .u32 0, .int .u64 0])]) (φ := (b157 = b157 ∧ Nat.ble (0 + 6) 6 = true) ∧ True) (rest := [1, 2]) h186 (by kernel_rfl) rfl ⟨⟨rfl, rfl⟩, trivial⟩ fun a189 h190 => ?_
            clear h186
            refine nd_op ?_
            refine op_store tabOk2 {k := 0} (L' := [(b2, ⟨[.int .u8 ((kd : Nat) : Int), .int .i64 0, .int .i64 0, .int .u8 0, .int .u32 0, .int .u64 0], 33, false⟩), (b13, ⟨[.string (bs x)], 9, false⟩), (b157, ⟨[.int .u8 ((kd : Nat) : Int), .int .i64 0, .int .i64 0, .int .u8 0, .int .u32 0, .int .u64 0], 33, false⟩), (b173, ⟨[.pointer (some ⟨b157, 1, none⟩), .pointer (some ⟨b157, 2, none⟩)], 74, false⟩)]) (φ := b2 = b2 ∧ Nat.ble (0 + 6) 6 = true) h190 rfl rfl rfl (by kernel_rfl) ⟨rfl, rfl⟩ fun w191 h192 => ?_
            clear h190
            refine nd_batch tabOk2 tabZ_ok2 [(2, {})] [8, 26, 2, 0, 4, 5, 27, 120, 121, 122, 3] (T' := [(8, .pointer (some ⟨b157, 0, none⟩)), (26, .agg verbsC.toArray), (2, .pointer (some ⟨b2, 0, none⟩)), (0, .string (bs l)), (4, .slice (some ⟨b13, 0, none⟩) 1 1), (5, .int .u8 ((kd : Nat) : Int)), (27, .int .i64 ((9 : Nat) : Int)), (120, .slice (some ⟨b173, 0, none⟩) 0 2), (121, .int .i64 0), (122, .int .i64 0), (3, .nilIface)]) (φ := True) (rest := []) h192 (by kernel_rfl) rfl trivial fun a193 h194 => ?_
            clear h192
            refine nd_done ?_
            refine hK188 _ _ ?_
            clear hK188
            refine wp_ret ?_
            try simp only [Exit.then, Exit.inBlock]
            try rw [if_pos trivial]
            exact s_ret tabOk2 tabZ_ok2 h194 [(.cell 2 33, {k := 0}), (.tmp 3, {})] (vs := [.agg #[.int .u8 ((kd : Nat) : Int), .int .i64 0, .int .i64 0, .int .u8 0, .int .u32 0, .int .u64 0], .nilIface]) (φ := (b2 = b2 ∧ Nat.ble (0 + 6) 6 = true) ∧ True) rfl (by kernel_rfl) ⟨⟨rfl, rfl⟩, trivial⟩ ⟨h194.frame, .inl ⟨⟨((kd : Nat) : Int), 0, 0, ⟨0, 0, 0⟩⟩, by simp [parseP, hw, hkd, parseW, hv, show kd ≠ 9 by omega, ], rfl⟩⟩
          ·
            obtain ⟨y0, rfl⟩ : ∃ y0, xs = [y0] := len1 (by omega)
            have hkd0 : kd ≠ 0 := by intro hq; subst hq; simp [verbN] at hv
            have hly0 : y0.length ≤ 1000000 := Nat.le_trans (fields_len l (by rw [hw]; simp)) hl
            have h195 : St ⟨149, [], w, fun _ => True, []⟩ [(26, .agg verbsC.toArray), (2, .pointer (some ⟨b2, 0, none⟩)), (0, .string (bs l)), (3, .nilIface), (4, .slice (some ⟨b13, 0, none⟩) 2 2), (5, .int .u8 ((kd : Nat) : Int)), (27, .int .i64 ((9 : Nat) : Int))] [(b2, ⟨[.int .u8 0, .int .i64 0, .int .i64 0, .int .u8 0, .int .u32 0, .int .u64 0], 33, false⟩), (b13, ⟨[.string (bs x), .string (bs y0)], 9, false⟩)] _ _ := (h106.slotsMono (restr_spec (keep := [26, 2, 0, 3, 4, 5, 27]) rfl))
            clear h106
            refine wp_skip ?_
            refine hK100 _ _ ?_
            clear hK100
            refine wp_seq_k fun K196 hK196 => ?_
            refine nd_start (l := [0, 1, 2, 3]) rfl ?_
            refine nd_batch tabOk2 tabZ_ok2 [(0, {}), (1, {})] [26, 2, 0, 3, 4, 5, 27, 67] (T' := [(26, .agg verbsC.toArray), (2, .pointer (some ⟨b2, 0, none⟩)), (0, .string (bs l)), (3, .nilIface), (4, .slice (some ⟨b13, 0, none⟩) 2 2), (5, .int .u8 ((kd : Nat) : Int)), (27, .int .i64 ((9 : Nat) : Int)), (67, .agg #[.int .u8 ((kd : Nat) : Int), .int .i64 0, .int .i64 0, .int .u8 0, .int .u32 0, .int .u64 0])]) (φ := True) (rest := [2, 3]) h195 (by kernel_rfl) rfl trivial fun a197 h198 => ?_
            clear h195
            refine nd_op ?_
            refine op_new tabOk2 (cells := [.int .u8 0, .int .i64 0, .int .i64 0, .int .u8 0, .int .u32 0, .int .u64 0]) (ty := 33) (ln := none) (L1 := fun b199 => [(b2, ⟨[.int .u8 0, .int .i64 0, .int .i64 0, .int .u8 0, .int .u32 0, .int .u64 0], 33, false⟩), (b13, ⟨[.string (bs x), .string (bs y0)], 9, false⟩), (b199, ⟨[.int .u8 0, .int .i64 0, .int .i64 0, .int .u8 0, .int .u32 0, .int .u64 0], 33, false⟩)]) h198 rfl rfl rfl rfl (by kernel_rfl) (fun _ => rfl) fun b199 w200 a201 h202 hf203 hn204 => ?_
            clear h198
            refine nd_op ?_
            refine op_store tabOk2 {k := 2} (L' := [(b2, ⟨[.int .u8 0, .int .i64 0, .int .i64 0, .int .u8 0, .int .u32 0, .int .u64 0], 33, false⟩), (b13, ⟨[.string (bs x), .string (bs y0)], 9, false⟩), (b199, ⟨[.int .u8 ((kd : Nat) : Int), .int .i64 0, .int .i64 0, .int .u8 0, .int .u32 0, .int .u64 0], 33, false⟩)]) (φ := b199 = b199 ∧ Nat.ble (0 + 6) 6 = true) h202 rfl rfl rfl (by kernel_rfl) ⟨rfl, rfl⟩ fun w205 h206 => ?_
            clear h202
            refine nd_done ?_
            refine hK196 _ _ ?_
            clear hK196
            refine wp_seq_k fun K207 hK207 => ?_
            refine wp_seq_k fun K208 hK208 => ?_
            refine nd_start (l := [0, 1]) rfl ?_
            refine nd_batch tabOk2 tabZ_ok2 [(0, {}), (1, {f := 1})] [8, 26, 2, 0, 3, 4, 5, 27, 69] (T' := [(8, .pointer (some ⟨b199, 0, none⟩)), (26, .agg verbsC.toArray), (2, .pointer (some ⟨b2, 0, none⟩)), (0, .string (bs l)), (3, .nilIface), (4, .slice (some ⟨b13, 0, none⟩) 2 2), (5, .int .u8 ((kd : Nat) : Int)), (27, .int .i64 ((9 : Nat) : Int)), (69, .bool false)]) (φ := ((((kd : Nat) : Int) == 0)) = false ∧ True) (rest := []) h206 (by kernel_rfl) rfl ⟨(beq_eq_false_iff_ne.2 (by omega)), trivial⟩ fun a209 h210 => ?_
            clear h206
            refine nd_done ?_
            refine hK208 _ _ ?_
            clear hK208
            refine c_false h210 rfl ?_
            refine wp_skip ?_
            refine hK207 _ _ ?_
            clear hK207
            refine wp_seq_k fun K211 hK211 => ?_
            refine wp_seq_k fun K212 hK212 => ?_
            refine nd_start (l := [0, 1, 2, 3, 4, 5, 6, 7, 8, 9]) rfl ?_
            refine nd_batch tabOk2 tabZ_ok2 [(0, {}), (1, {})] [8, 26, 2, 0, 3, 4, 5, 27, 113, 114] (T' := [(8, .pointer (some ⟨b199, 0, none⟩)), (26, .agg verbsC.toArray), (2, .pointer (some ⟨b2, 0, none⟩)), (0, .string (bs l)), (3, .nilIface), (4, .slice (some ⟨b13, 0, none⟩) 2 2), (5, .int .u8 ((kd : Nat) : Int)), (27, .int .i64 ((9 : Nat) : Int)), (113, .pointer (some ⟨b199, 1, none⟩)), (114, .pointer (some ⟨b199, 2, none⟩))]) (φ := True) (rest := [2, 3, 4, 5, 6, 7, 8, 9]) h210 (by kernel_rfl) rfl trivial fun a213 h214 => ?_
            clear h210
            refine nd_op ?_
            refine op_new tabOk2 (cells := [.pointer (some ⟨b199, 1, none⟩), .pointer (some ⟨b199, 2, none⟩)]) (ty := 74) (ln := (some 2)) (L1 := fun b215 => [(b2, ⟨[.int .u8 0, .int .i64 0, .int .i64 0, .int .u8 0, .int .u32 0, .int .u64 0], 33, false⟩), (b13, ⟨[.string (bs x), .string (bs y0)], 9, false⟩), (b199, ⟨[.int .u8 ((kd : Nat) : Int), .int .i64 0, .int .i64 0, .int .u8 0, .int .u32 0, .int .u64 0], 33, false⟩), (b215, ⟨[.pointer (some ⟨b199, 1, none⟩), .pointer (some ⟨b199, 2, none⟩)], 74, false⟩)]) h214 rfl rfl rfl rfl (by kernel_rfl) (fun _ => rfl) fun b215 w216 a217 h218 hf219 hn220 => ?_
            clear h214
            refine nd_batch tabOk2 tabZ_ok2 [(3, {}), (4, {}), (5, {})] [115, 8, 26, 2, 0, 3, 4, 5, 27, 118] (T' := [(115, .slice (some ⟨b215, 0, none⟩) 2 2), (8, .pointer (some ⟨b199, 0, none⟩)), (26, .agg verbsC.toArray), (2, .pointer (some ⟨b2, 0, none⟩)), (0, .string (bs l)), (3, .nilIface), (4, .slice (some ⟨b13, 0, none⟩) 2 2), (5, .int .u8 ((kd : Nat) : Int)), (27, .int .i64 ((9 : Nat) : Int)), (118, .pointer (some ⟨0, 0 + (kd * 2) + 1, none⟩))]) (φ := (0 ≤ ((kd : Nat) : Int) ∧ ((kd : Nat) : Int) < 9) ∧ True) (rest := [6, 7, 8, 9]) h218 (by kernel_rfl) rfl ⟨⟨by omega, by omega⟩, trivial⟩ fun a221 h222 => ?_
            clear h218
            refine nd_op ?_
            refine op_now (v := .int .i64 1) h222 rfl rfl (run_cell tabOk2 h222.slots rfl rfl rfl rfl (by have hq := (hg.fr h222.frame).args (k := kd) (by omega) (b := 0) (o := 0 + (kd * 2) + 1) rfl (by omega); rw [hv] at hq; exact hq)) ?_
            have h223 := h222.put (d := some 119) (v := .int .i64 1) (T' := [(119, .int .i64 1), (115, .slice (some ⟨b215, 0, none⟩) 2 2), (8, .pointer (some ⟨b199, 0, none⟩)), (26, .agg verbsC.toArray), (2, .pointer (some ⟨b2, 0, none⟩)), (0, .string (bs l)), (3, .nilIface), (4, .slice (some ⟨b13, 0, none⟩) 2 2), (5, .int .u8 ((kd : Nat) : Int)), (27, .int .i64 ((9 : Nat) : Int)), (118, .pointer (some ⟨0, 0 + (kd * 2) + 1, none⟩))]) rfl
            clear h222
            refine nd_batch tabOk2 tabZ_ok2 [(7, {}), (8, {}), (9, {})] [8, 26, 2, 0, 3, 4, 5, 27, 120, 121, 122] (T' := [(8, .pointer (some ⟨b199, 0, none⟩)), (26, .agg verbsC.toArray), (2, .pointer (some ⟨b2, 0, none⟩)), (0, .string (bs l)), (3, .nilIface), (4, .slice (some ⟨b13, 0, none⟩) 2 2), (5, .int .u8 ((kd : Nat) : Int)), (27, .int .i64 ((9 : Nat) : Int)), (120, .slice (some ⟨b215, 0, none⟩) 1 2), (121, .int .i64 1), (122, .int .i64 0)]) (φ := (0 ≤ (1 : Int) ∧ (1 : Int) ≤ ((2 : Nat) : Int)) ∧ True) (rest := []) h223 (by kernel_rfl) rfl ⟨⟨by omega, by omega⟩, trivial⟩ fun a224 h225 => ?_
            clear h223
            refine nd_done ?_
            refine hK212 _ _ ?_
            clear hK212
            refine wp_block ?_
            refine wp_loop_rounds 2 ?_
            refine rounds_step ?_
            refine wp_seq_k fun K226 hK226 => ?_
            refine nd_start (l := [0]) rfl ?_
            refine nd_batch tabOk2 tabZ_ok2 [(0, {})] [8, 26, 2, 0, 3, 4, 5, 27, 120, 121, 122, 123] (T' := [(8, .pointer (some ⟨b199, 0, none⟩)), (26, .agg verbsC.toArray), (2, .pointer (some ⟨b2, 0, none⟩)), (0, .string (bs l)), (3, .nilIface), (4, .slice (some ⟨b13, 0, none⟩) 2 2), (5, .int .u8 ((kd : Nat) : Int)), (27, .int .i64 ((9 : Nat) : Int)), (120, .slice (some ⟨b215, 0, none⟩) 1 2), (121, .int .i64 1), (122, .int .i64 0), (123, .bool true)]) (φ := True) (rest := []) h225 (by kernel_rfl) rfl trivial fun a227 h228 => ?_
            clear h225
            refine nd_done ?_
            refine hK226 _ _ ?_
            clear hK226
            refine wp_seq_k fun K229 hK229 => ?_
            refine c_true h228 rfl ?_
            refine wp_skip ?_
            refine hK229 _ _ ?_
            clear hK229
            refine wp_seq_k fun K230 hK230 => ?_
            refine wp_block ?_
            refine wp_seq_k fun K231 hK231 => ?_
            refine nd_start (l := [0, 1, 2, 3, 4]) rfl ?_
            refine nd_batch tabOk2 tabZ_ok2 [(0, {}), (1, {}), (2, {k := 3}), (3, {}), (4, {})] [8, 26, 2, 0, 3, 4, 5, 27, 120, 121, 122, 13, 14] (T' := [(8, .pointer (some ⟨b199, 0, none⟩)), (26, .agg verbsC.toArray), (2, .pointer (some ⟨b2, 0, none⟩)), (0, .string (bs l)), (3, .nilIface), (4, .slice (some ⟨b13, 0, none⟩) 2 2), (5, .int .u8 ((kd : Nat) : Int)), (27, .int .i64 ((9 : Nat) : Int)), (120, .slice (some ⟨b215, 0, none⟩) 1 2), (121, .int .i64 1), (122, .int .i64 0), (13, .int .i64 0), (14, .pointer (some ⟨b199, 1, none⟩))]) (φ := (0 ≤ (0 : Int) ∧ (0 : Int) < 1) ∧ (b215 = b215 ∧ Nat.ble (0 + 1) 2 = true) ∧ True) (rest := []) h228 (by kernel_rfl) rfl ⟨⟨by decide, by decide⟩, ⟨rfl, rfl⟩, trivial⟩ fun a232 h233 => ?_
            clear h228
            refine nd_done ?_
            refine hK231 _ _ ?_
            clear hK231
            refine wp_seq_k fun K234 hK234 => ?_
            refine nd_start (l := [0, 1, 2, 3, 4, 5, 6, 7, 8, 9, 10]) rfl ?_
            refine nd_batch tabOk2 tabZ_ok2 [(0, {}), (1, {}), (2, {}), (3, {}), (4, {k := 1})] [8, 26, 2, 0, 3, 4, 5, 27, 120, 121, 122, 13, 14, 132] (T' := [(8, .pointer (some ⟨b199, 0, none⟩)), (26, .agg verbsC.toArray), (2, .pointer (some ⟨b2, 0, none⟩)), (0, .string (bs l)), (3, .nilIface), (4, .slice (some ⟨b13, 0, none⟩) 2 2), (5, .int .u8 ((kd : Nat) : Int)), (27, .int .i64 ((9 : Nat) : Int)), (120, .slice (some ⟨b215, 0, none⟩) 1 2), (121, .int .i64 1), (122, .int .i64 0), (13, .int .i64 0), (14, .pointer (some ⟨b199, 1, none⟩)), (132, .string (bs y0))]) (φ := inR .i64 1 ∧ (0 ≤ (1 : Int) ∧ (1 : Int) < 2) ∧ (b13 = b13 ∧ Nat.ble (1 + 1) 2 = true) ∧ True) (rest := [5, 6, 7, 8, 9, 10]) h233 (by kernel_rfl) rfl ⟨⟨by decide, by decide⟩, ⟨by decide, by decide⟩, ⟨rfl, rfl⟩, trivial⟩ fun a235 h236 => ?_
            clear h233
            refine nd_op ?_
            refine op_call h236 rfl rfl rfl (callOk Tryf.func20 (by decide) rfl) (args := [.string (bs y0)]) rfl (atoi_ok y0 hly0 _ (hg.fr h236.frame).lib) ?_
            rintro _ w237 ⟨hf238, ⟨v239, hv240, rfl⟩ | ⟨hv240, v239, t, p, rfl⟩⟩
            ·
              refine ⟨_, rfl, ?_⟩
              have hn0 : numI y0 = some v239 := numI_ok hv240
              have h241 := (h236.grow hf238).put (d := some 133) (v := .tuple #[.int .i64 v239, .nilIface]) (T' := [(133, .tuple #[.int .i64 v239, .nilIface]), (8, .pointer (some ⟨b199, 0, none⟩)), (26, .agg verbsC.toArray), (2, .pointer (some ⟨b2, 0, none⟩)), (0, .string (bs l)), (3, .nilIface), (4, .slice (some ⟨b13, 0, none⟩) 2 2), (5, .int .u8 ((kd : Nat) : Int)), (27, .int .i64 ((9 : Nat) : Int)), (120, .slice (some ⟨b215, 0, none⟩) 1 2), (121, .int .i64 1), (122, .int .i64 0), (13, .int .i64 0), (14, .pointer (some ⟨b199, 1, none⟩)), (132, .string (bs y0))]) rfl
              clear h236
              refine nd_batch tabOk2 tabZ_ok2 [(6, {}), (7, {}), (8, {}), (9, {}), (10, {})] [8, 26, 2, 0, 3, 4, 5, 27, 120, 121, 122, 13, 14, 15, 16] (T' := [(8, .pointer (some ⟨b199, 0, none⟩)), (26, .agg verbsC.toArray), (2, .pointer (some ⟨b2, 0, none⟩)), (0, .string (bs l)), (3, .nilIface), (4, .slice (some ⟨b13, 0, none⟩) 2 2), (5, .int .u8 ((kd : Nat) : Int)), (27, .int .i64 ((9 : Nat) : Int)), (120, .slice (some ⟨b215, 0, none⟩) 1 2), (121, .int .i64 1), (122, .int .i64 0), (13, .int .i64 0), (14, .pointer (some ⟨b199, 1, none⟩)), (15, .int .i64 v239), (16, .nilIface)]) (φ := True) (rest := []) h241 (by kernel_rfl) rfl trivial fun a242 h243 => ?_
              clear h241
              refine nd_done ?_
              refine hK234 _ _ ?_
              clear hK234
              refine wp_seq_k fun K244 hK244 => ?_
              refine wp_seq_k fun K245 hK245 => ?_
              refine nd_start (l := [0, 1]) rfl ?_
              refine nd_batch tabOk2 tabZ_ok2 [(0, {})] [8, 26, 2, 0, 3, 4, 5, 27, 120, 121, 122, 13, 14, 15, 16, 136] (T' := [(8, .pointer (some ⟨b199, 0, none⟩)), (26, .agg verbsC.toArray), (2, .pointer (some ⟨b2, 0, none⟩)), (0, .string (bs l)), (3, .nilIface), (4, .slice (some ⟨b13, 0, none⟩) 2 2), (5, .int .u8 ((kd : Nat) : Int)), (27, .int .i64 ((9 : Nat) : Int)), (120, .slice (some ⟨b215, 0, none⟩) 1 2), (121, .int .i64 1), (122, .int .i64 0), (13, .int .i64 0), (14, .pointer (some ⟨b199, 1, none⟩)), (15, .int .i64 v239), (16, .nilIface), (136, .nilIface)]) (φ := True) (rest := [1]) h243 (by kernel_rfl) rfl trivial fun a246 h247 => ?_
              clear h243
              refine nd_op ?_
              refine op_pure (v := .bool false) h247 rfl rfl (p_nilne h247.slots rfl rfl (.inl rfl) iface37) ?_
              have h248 := h247.put (d := some 137) (v := .bool false) (T' := [(137, .bool false), (8, .pointer (some ⟨b199, 0, none⟩)), (26, .agg verbsC.toArray), (2, .pointer (some ⟨b2, 0, none⟩)), (0, .string (bs l)), (3, .nilIface), (4, .slice (some ⟨b13, 0, none⟩) 2 2), (5, .int .u8 ((kd : Nat) : Int)), (27, .int .i64 ((9 : Nat) : Int)), (120, .slice (some ⟨b215, 0, none⟩) 1 2), (121, .int .i64 1), (122, .int .i64 0), (13, .int .i64 0), (14, .pointer (some ⟨b199, 1, none⟩)), (15, .int .i64 v239), (16, .nilIface), (136, .nilIface)]) rfl
              clear h247
              refine nd_done ?_
              refine hK245 _ _ ?_
              clear hK245
              refine c_false h248 rfl ?_
              refine wp_skip ?_
              refine hK244 _ _ ?_
              clear hK244
              refine nd_start (l := [0, 1, 2, 3]) rfl ?_
              refine nd_batch tabOk2 tabZ_ok2 [(0, {}), (1, {}), (2, {})] [8, 26, 2, 0, 3, 4, 5, 27, 120, 121, 122, 13, 14, 15, 16, 145, 146] (T' := [(8, .pointer (some ⟨b199, 0, none⟩)), (26, .agg verbsC.toArray), (2, .pointer (some ⟨b2, 0, none⟩)), (0, .string (bs l)), (3, .nilIface), (4, .slice (some ⟨b13, 0, none⟩) 2 2), (5, .int .u8 ((kd : Nat) : Int)), (27, .int .i64 ((9 : Nat) : Int)), (120, .slice (some ⟨b215, 0, none⟩) 1 2), (121, .int .i64 1), (122, .int .i64 0), (13, .int .i64 0), (14, .pointer (some ⟨b199, 1, none⟩)), (15, .int .i64 v239), (16, .nilIface), (145, .int .i64 v239), (146, .pointer (some ⟨b199, 1, none⟩))]) (φ := True) (rest := [3]) h248 (by kernel_rfl) rfl trivial fun a249 h250 => ?_
              clear h248
              refine nd_op ?_
              refine op_store tabOk2 {k := 2} (L' := [(b2, ⟨[.int .u8 0, .int .i64 0, .int .i64 0, .int .u8 0, .int .u32 0, .int .u64 0], 33, false⟩), (b13, ⟨[.string (bs x), .string (bs y0)], 9, false⟩), (b199, ⟨[.int .u8 ((kd : Nat) : Int), .int .i64 v239, .int .i64 0, .int .u8 0, .int .u32 0, .int .u64 0], 33, false⟩), (b215, ⟨[.pointer (some ⟨b199, 1, none⟩), .pointer (some ⟨b199, 2, none⟩)], 74, false⟩)]) (φ := b199 = b199 ∧ Nat.ble (1 + 1) 6 = true) h250 rfl rfl rfl (by kernel_rfl) ⟨rfl, rfl⟩ fun w251 h252 => ?_
              clear h250
              refine nd_done ?_
              refine hK230 _ _ ?_
              clear hK230
              refine nd_start (l := [0, 1]) rfl ?_
              refine nd_batch tabOk2 tabZ_ok2 [(0, {}), (1, {})] [8, 26, 2, 0, 3, 4, 5, 27, 120, 121, 13, 14, 15, 16, 122] (T' := [(8, .pointer (some ⟨b199, 0, none⟩)), (26, .agg verbsC.toArray), (2, .pointer (some ⟨b2, 0, none⟩)), (0, .string (bs l)), (3, .nilIface), (4, .slice (some ⟨b13, 0, none⟩) 2 2), (5, .int .u8 ((kd : Nat) : Int)), (27, .int .i64 ((9 : Nat) : Int)), (120, .slice (some ⟨b215, 0, none⟩) 1 2), (121, .int .i64 1), (13, .int .i64 0), (14, .pointer (some ⟨b199, 1, none⟩)), (15, .int .i64 v239), (16, .nilIface), (122, .int .i64 1)]) (φ := inR .i64 1 ∧ True) (rest := []) h252 (by kernel_rfl) rfl ⟨⟨by decide, by decide⟩, trivial⟩ fun a253 h254 => ?_
              clear h252
              refine nd_done ?_
              refine rounds_step ?_
              refine wp_seq_k fun K255 hK255 => ?_
              refine nd_start (l := [0]) rfl ?_
              refine nd_batch tabOk2 tabZ_ok2 [(0, {})] [8, 26, 2, 0, 3, 4, 5, 27, 120, 121, 13, 14, 15, 16, 122, 123] (T' := [(8, .pointer (some ⟨b199, 0, none⟩)), (26, .agg verbsC.toArray), (2, .pointer (some ⟨b2, 0, none⟩)), (0, .string (bs l)), (3, .nilIface), (4, .slice (some ⟨b13, 0, none⟩) 2 2), (5, .int .u8 ((kd : Nat) : Int)), (27, .int .i64 ((9 : Nat) : Int)), (120, .slice (some ⟨b215, 0, none⟩) 1 2), (121, .int .i64 1), (13, .int .i64 0), (14, .pointer (some ⟨b199, 1, none⟩)), (15, .int .i64 v239), (16, .nilIface), (122, .int .i64 1), (123, .bool false)]) (φ := True) (rest := []) h254 (by kernel_rfl) rfl trivial fun a256 h257 => ?_
              clear h254
              refine nd_done ?_
              refine hK255 _ _ ?_
              clear hK255
              refine wp_seq_k fun K258 hK258 => ?_
              refine c_false h257 rfl ?_
              refine wp_exit ?_
              refine hK211 _ _ ?_
              clear hK211
              refine wp_seq_k fun K259 hK259 => ?_
              refine nd_start (l := [0, 1, 2]) rfl ?_
              refine nd_batch tabOk2 tabZ_ok2 [(0, {k := 2})] [8, 26, 2, 0, 3, 4, 5, 27, 120, 121, 13, 14, 15, 16, 122, 148] (T' := [(8, .pointer (some ⟨b199, 0, none⟩)), (26, .agg verbsC.toArray), (2, .pointer (some ⟨b2, 0, none⟩)), (0, .string (bs l)), (3, .nilIface), (4, .slice (some ⟨b13, 0, none⟩) 2 2), (5, .int .u8 ((kd : Nat) : Int)), (27, .int .i64 ((9 : Nat) : Int)), (120, .slice (some ⟨b215, 0, none⟩) 1 2), (121, .int .i64 1), (13, .int .i64 0), (14, .pointer (some ⟨b199, 1, none⟩)), (15, .int .i64 v239), (16, .nilIface), (122, .int .i64 1), (148, .agg #[.int .u8 ((kd : Nat) : Int), .int .i64 v239, .int .i64 0, .int .u8 0, .int .u32 0, .int .u64 0])]) (φ := (b199 = b199 ∧ Nat.ble (0 + 6) 6 = true) ∧ True) (rest := [1, 2]) h257 (by kernel_rfl) rfl ⟨⟨rfl, rfl⟩, trivial⟩ fun a260 h261 => ?_
              clear h257
              refine nd_op ?_
              refine op_store tabOk2 {k := 0} (L' := [(b2, ⟨[.int .u8 ((kd : Nat) : Int), .int .i64 v239, .int .i64 0, .int .u8 0, .int .u32 0, .int .u64 0], 33, false⟩), (b13, ⟨[.string (bs x), .string (bs y0)], 9, false⟩), (b199, ⟨[.int .u8 ((kd : Nat) : Int), .int .i64 v239, .int .i64 0, .int .u8 0, .int .u32 0, .int .u64 0], 33, false⟩), (b215, ⟨[.pointer (some ⟨b199, 1, none⟩), .pointer (some ⟨b199, 2, none⟩)], 74, false⟩)]) (φ := b2 = b2 ∧ Nat.ble (0 + 6) 6 = true) h261 rfl rfl rfl (by kernel_rfl) ⟨rfl, rfl⟩ fun w262 h263 => ?_
              clear h261
              refine nd_batch tabOk2 tabZ_ok2 [(2, {})] [8, 26, 2, 0, 4, 5, 27, 120, 121, 13, 14, 15, 16, 122, 3] (T' := [(8, .pointer (some ⟨b199, 0, none⟩)), (26, .agg verbsC.toArray), (2, .pointer (some ⟨b2, 0, none⟩)), (0, .string (bs l)), (4, .slice (some ⟨b13, 0, none⟩) 2 2), (5, .int .u8 ((kd : Nat) : Int)), (27, .int .i64 ((9 : Nat) : Int)), (120, .slice (some ⟨b215, 0, none⟩) 1 2), (121, .int .i64 1), (13, .int .i64 0), (14, .pointer (some ⟨b199, 1, none⟩)), (15, .int .i64 v239), (16, .nilIface), (122, .int .i64 1), (3, .nilIface)]) (φ := True) (rest := []) h263 (by kernel_rfl) rfl trivial fun a264 h265 => ?_
              clear h263
              refine nd_done ?_
              refine hK259 _ _ ?_
              clear hK259
              refine wp_ret ?_
              try simp only [Exit.then, Exit.inBlock]
              try rw [if_pos trivial]
              exact s_ret tabOk2 tabZ_ok2 h265 [(.cell 2 33, {k := 0}), (.tmp 3, {})] (vs := [.agg #[.int .u8 ((kd : Nat) : Int), .int .i64 v239, .int .i64 0, .int .u8 0, .int .u32 0, .int .u64 0], .nilIface]) (φ := (b2 = b2 ∧ Nat.ble (0 + 6) 6 = true) ∧ True) rfl (by kernel_rfl) ⟨⟨rfl, rfl⟩, trivial⟩ ⟨h265.frame, .inl ⟨⟨((kd : Nat) : Int), v239, 0, ⟨0, 0, 0⟩⟩, by simp [parseP, hw, hkd, parseW, hv, show kd ≠ 9 by omega, hn0], rfl⟩⟩
            ·
              refine ⟨_, rfl, ?_⟩
              have hn0 : numI y0 = none := numI_none hv240
              have h266 := (h236.grow hf238).put (d := some 133) (v := .tuple #[.int .i64 v239, .iface t (p)]) (T' := [(133, .tuple #[.int .i64 v239, .iface t (p)]), (8, .pointer (some ⟨b199, 0, none⟩)), (26, .agg verbsC.toArray), (2, .pointer (some ⟨b2, 0, none⟩)), (0, .string (bs l)), (3, .nilIface), (4, .slice (some ⟨b13, 0, none⟩) 2 2), (5, .int .u8 ((kd : Nat) : Int)), (27, .int .i64 ((9 : Nat) : Int)), (120, .slice (some ⟨b215, 0, none⟩) 1 2), (121, .int .i64 1), (122, .int .i64 0), (13, .int .i64 0), (14, .pointer (some ⟨b199, 1, none⟩)), (132, .string (bs y0))]) rfl
              clear h236
              have hnone : parseP l = none := by simp [parseP, hw, hkd, parseW, hv, show kd ≠ 9 by omega, hn0]
              refine nd_batch tabOk2 tabZ_ok2 [(6, {}), (7, {}), (8, {}), (9, {}), (10, {})] [8, 26, 2, 0, 3, 4, 5, 27, 120, 121, 122, 13, 14, 15, 16] (T' := [(8, .pointer (some ⟨b199, 0, none⟩)), (26, .agg verbsC.toArray), (2, .pointer (some ⟨b2, 0, none⟩)), (0, .string (bs l)), (3, .nilIface), (4, .slice (some ⟨b13, 0, none⟩) 2 2), (5, .int .u8 ((kd : Nat) : Int)), (27, .int .i64 ((9 : Nat) : Int)), (120, .slice (some ⟨b215, 0, none⟩) 1 2), (121, .int .i64 1), (122, .int .i64 0), (13, .int .i64 0), (14, .pointer (some ⟨b199, 1, none⟩)), (15, .int .i64 v239), (16, .iface t (p))]) (φ := True) (rest := []) h266 (by kernel_rfl) rfl trivial fun a267 h268 => ?_
              clear h266
              refine nd_done ?_
              refine hK234 _ _ ?_
              clear hK234
              refine wp_seq_k fun K269 hK269 => ?_
              refine wp_seq_k fun K270 hK270 => ?_
              refine nd_start (l := [0, 1]) rfl ?_
              refine nd_batch tabOk2 tabZ_ok2 [(0, {})] [8, 26, 2, 0, 3, 4, 5, 27, 120, 121, 122, 13, 14, 15, 16, 136] (T' := [(8, .pointer (some ⟨b199, 0, none⟩)), (26, .agg verbsC.toArray), (2, .pointer (some ⟨b2, 0, none⟩)), (0, .string (bs l)), (3, .nilIface), (4, .slice (some ⟨b13, 0, none⟩) 2 2), (5, .int .u8 ((kd : Nat) : Int)), (27, .int .i64 ((9 : Nat) : Int)), (120, .slice (some ⟨b215, 0, none⟩) 1 2), (121, .int .i64 1), (122, .int .i64 0), (13, .int .i64 0), (14, .pointer (some ⟨b199, 1, none⟩)), (15, .int .i64 v239), (16, .iface t (p)), (136, .iface t (p))]) (φ := True) (rest := [1]) h268 (by kernel_rfl) rfl trivial fun a271 h272 => ?_
              clear h268
              refine nd_op ?_
              refine op_pure (v := .bool true) h272 rfl rfl (p_nilne h272.slots rfl rfl (.inr ⟨_, _, rfl⟩) iface37) ?_
              have h273 := h272.put (d := some 137) (v := .bool true) (T' := [(137, .bool true), (8, .pointer (some ⟨b199, 0, none⟩)), (26, .agg verbsC.toArray), (2, .pointer (some ⟨b2, 0, none⟩)), (0, .string (bs l)), (3, .nilIface), (4, .slice (some ⟨b13, 0, none⟩) 2 2), (5, .int .u8 ((kd : Nat) : Int)), (27, .int .i64 ((9 : Nat) : Int)), (120, .slice (some ⟨b215, 0, none⟩) 1 2), (121, .int .i64 1), (122, .int .i64 0), (13, .int .i64 0), (14, .pointer (some ⟨b199, 1, none⟩)), (15, .int .i64 v239), (16, .iface t (p)), (136, .iface t (p))]) rfl
              clear h272
              refine nd_done ?_
              refine hK270 _ _ ?_
              clear hK270
              refine c_true h273 rfl ?_
              refine wp_seq_k fun K274 hK274 => ?_
              refine nd_start (l := [0, 1, 2, 3, 4, 5, 6, 7]) rfl ?_
              refine nd_batch tabOk2 tabZ_ok2 [(0, {}), (1, {}), (2, {}), (3, {})] [8, 26, 2, 0, 3, 4, 5, 27, 120, 121, 122, 13, 14, 15, 16, 138, 141] (T' := [(8, .pointer (some ⟨b199, 0, none⟩)), (26, .agg verbsC.toArray), (2, .pointer (some ⟨b2, 0, none⟩)), (0, .string (bs l)), (3, .nilIface), (4, .slice (some ⟨b13, 0, none⟩) 2 2), (5, .int .u8 ((kd : Nat) : Int)), (27, .int .i64 ((9 : Nat) : Int)), (120, .slice (some ⟨b215, 0, none⟩) 1 2), (121, .int .i64 1), (122, .int .i64 0), (13, .int .i64 0), (14, .pointer (some ⟨b199, 1, none⟩)), (15, .int .i64 v239), (16, .iface t (p)), (138, .agg #[.int .u8 0, .int .i64 0, .int .i64 0, .int .u8 0, .int .u32 0, .int .u64 0]), (141, .agg #[.int .i64 1, .string (bs ([110, 111, 116, 32, 97, 32, 110, 117, 109, 98, 101, 114, 32, 105, 110, 32, 114, 97, 110, 103, 101]))])]) (φ := inR .i64 1 ∧ True) (rest := [4, 5, 6, 7]) h273 (by kernel_rfl) rfl ⟨⟨by decide, by decide⟩, trivial⟩ fun a275 h276 => ?_
              clear h273
              refine nd_op ?_
              refine op_new tabOk2 (cells := [.int .i64 1, .string (bs ([110, 111, 116, 32, 97, 32, 110, 117, 109, 98, 101, 114, 32, 105, 110, 32, 114, 97, 110, 103, 101]))]) (ty := 69) (ln := none) (L1 := fun b277 => [(b2, ⟨[.int .u8 0, .int .i64 0, .int .i64 0, .int .u8 0, .int .u32 0, .int .u64 0], 33, false⟩), (b13, ⟨[.string (bs x), .string (bs y0)], 9, false⟩), (b199, ⟨[.int .u8 ((kd : Nat) : Int), .int .i64 0, .int .i64 0, .int .u8 0, .int .u32 0, .int .u64 0], 33, false⟩), (b215, ⟨[.pointer (some ⟨b199, 1, none⟩), .pointer (some ⟨b199, 2, none⟩)], 74, false⟩), (b277, ⟨[.int .i64 1, .string (bs ([110, 111, 116, 32, 97, 32, 110, 117, 109, 98, 101, 114, 32, 105, 110, 32, 114, 97, 110, 103, 101]))], 69, false⟩)]) h276 rfl rfl rfl rfl (by kernel_rfl) (fun _ => rfl) fun b277 w278 a279 h280 hf281 hn282 => ?_
              clear h276
              refine nd_op ?_
              refine op_pure (v := .iface 67 (.pointer (some ⟨b277, 0, none⟩))) h280 rfl rfl (pure_iface tabOk2 h280.slots rfl rfl rfl (by intro fs hq; cases hq) (by intro fs hq; cases hq)) ?_
              have h283 := h280.put (d := some 143) (v := .iface 67 (.pointer (some ⟨b277, 0, none⟩))) (T' := [(143, .iface 67 (.pointer (some ⟨b277, 0, none⟩))), (142, .pointer (some ⟨b277, 0, none⟩)), (8, .pointer (some ⟨b199, 0, none⟩)), (26, .agg verbsC.toArray), (2, .pointer (some ⟨b2, 0, none⟩)), (0, .string (bs l)), (3, .nilIface), (4, .slice (some ⟨b13, 0, none⟩) 2 2), (5, .int .u8 ((kd : Nat) : Int)), (27, .int .i64 ((9 : Nat) : Int)), (120, .slice (some ⟨b215, 0, none⟩) 1 2), (121, .int .i64 1), (122, .int .i64 0), (13, .int .i64 0), (14, .pointer (some ⟨b199, 1, none⟩)), (15, .int .i64 v239), (16, .iface t (p)), (138, .agg #[.int .u8 0, .int .i64 0, .int .i64 0, .int .u8 0, .int .u32 0, .int .u64 0]), (141, .agg #[.int .i64 1, .string (bs ([110, 111, 116, 32, 97, 32, 110, 117, 109, 98, 101, 114, 32, 105, 110, 32, 114, 97, 110, 103, 101]))])]) rfl
              clear h280
              refine nd_op ?_
              refine op_store tabOk2 {k := 0} (L' := [(b2, ⟨[.int .u8 0, .int .i64 0, .int .i64 0, .int .u8 0, .int .u32 0, .int .u64 0], 33, false⟩), (b13, ⟨[.string (bs x), .string (bs y0)], 9, false⟩), (b199, ⟨[.int .u8 ((kd : Nat) : Int), .int .i64 0, .int .i64 0, .int .u8 0, .int .u32 0, .int .u64 0], 33, false⟩), (b215, ⟨[.pointer (some ⟨b199, 1, none⟩), .pointer (some ⟨b199, 2, none⟩)], 74, false⟩), (b277, ⟨[.int .i64 1, .string (bs ([110, 111, 116, 32, 97, 32, 110, 117, 109, 98, 101, 114, 32, 105, 110, 32, 114, 97, 110, 103, 101]))], 69, false⟩)]) (φ := b2 = b2 ∧ Nat.ble (0 + 6) 6 = true) h283 rfl rfl rfl (by kernel_rfl) ⟨rfl, rfl⟩ fun w284 h285 => ?_
              clear h283
              refine nd_batch tabOk2 tabZ_ok2 [(7, {})] [8, 26, 2, 0, 4, 5, 27, 120, 121, 122, 13, 14, 15, 16, 3] (T' := [(8, .pointer (some ⟨b199, 0, none⟩)), (26, .agg verbsC.toArray), (2, .pointer (some ⟨b2, 0, none⟩)), (0, .string (bs l)), (4, .slice (some ⟨b13, 0, none⟩) 2 2), (5, .int .u8 ((kd : Nat) : Int)), (27, .int .i64 ((9 : Nat) : Int)), (120, .slice (some ⟨b215, 0, none⟩) 1 2), (121, .int .i64 1), (122, .int .i64 0), (13, .int .i64 0), (14, .pointer (some ⟨b199, 1, none⟩)), (15, .int .i64 v239), (16, .iface t (p)), (3, .iface 67 (.pointer (some ⟨b277, 0, none⟩)))]) (φ := True) (rest := []) h285 (by kernel_rfl) rfl trivial fun a286 h287 => ?_
              clear h285
              refine nd_done ?_
              refine hK274 _ _ ?_
              clear hK274
              refine wp_ret ?_
              try simp only [Exit.then, Exit.inBlock]
              try rw [if_pos trivial]
              exact s_ret tabOk2 tabZ_ok2 h287 [(.cell 2 33, {k := 0}), (.tmp 3, {})] (vs := [.agg #[.int .u8 0, .int .i64 0, .int .i64 0, .int .u8 0, .int .u32 0, .int .u64 0], .iface 67 (.pointer (some ⟨b277, 0, none⟩))]) (φ := (b2 = b2 ∧ Nat.ble (0 + 6) 6 = true) ∧ True) rfl (by kernel_rfl) ⟨⟨rfl, rfl⟩, trivial⟩ ⟨h287.frame, .inr ⟨hnone, _, _, rfl⟩⟩
          ·
            obtain ⟨y0, y1, rfl⟩ : ∃ y0 y1, xs = [y0, y1] := len2 (by omega)
            have hkd0 : kd ≠ 0 := by intro hq; subst hq; simp [verbN] at hv
            have hly0 : y0.length ≤ 1000000 := Nat.le_trans (fields_len l (by rw [hw]; simp)) hl
            have hly1 : y1.length ≤ 1000000 := Nat.le_trans (fields_len l (by rw [hw]; simp)) hl
            have h288 : St ⟨149, [], w, fun _ => True, []⟩ [(26, .agg verbsC.toArray), (2, .pointer (some ⟨b2, 0, none⟩)), (0, .string (bs l)), (3, .nilIface), (4, .slice (some ⟨b13, 0, none⟩) 3 3), (5, .int .u8 ((kd : Nat) : Int)), (27, .int .i64 ((9 : Nat) : Int))] [(b2, ⟨[.int .u8 0, .int .i64 0, .int .i64 0, .int .u8 0, .int .u32 0, .int .u64 0], 33, false⟩), (b13, ⟨[.string (bs x), .string (bs y0), .string (bs y1)], 9, false⟩)] _ _ := (h106.slotsMono (restr_spec (keep := [26, 2, 0, 3, 4, 5, 27]) rfl))
            clear h106
            refine wp_skip ?_
            refine hK100 _ _ ?_
            clear hK100
            refine wp_seq_k fun K289 hK289 => ?_
            refine nd_start (l := [0, 1, 2, 3]) rfl ?_
            refine nd_batch tabOk2 tabZ_ok2 [(0, {}), (1, {})] [26, 2, 0, 3, 4, 5, 27, 67] (T' := [(26, .agg verbsC.toArray), (2, .pointer (some ⟨b2, 0, none⟩)), (0, .string (bs l)), (3, .nilIface), (4, .slice (some ⟨b13, 0, none⟩) 3 3), (5, .int .u8 ((kd : Nat) : Int)), (27, .int .i64 ((9 : Nat) : Int)), (67, .agg #[.int .u8 ((kd : Nat) : Int), .int .i64 0, .int .i64 0, .int .u8 0, .int .u32 0, .int .u64 0])]) (φ := True) (rest := [2, 3]) h288 (by kernel_rfl) rfl trivial fun a290 h291 => ?_
            clear h288
            refine nd_op ?_
            refine op_new tabOk2 (cells := [.int .u8 0, .int .i64 0, .int .i64 0, .int .u8 0, .int .u32 0, .int .u64 0]) (ty := 33) (ln := none) (L1 := fun b292 => [(b2, ⟨[.int .u8 0, .int .i64 0, .int .i64 0, .int .u8 0, .int .u32 0, .int .u64 0], 33, false⟩), (b13, ⟨[.string (bs x), .string (bs y0), .string (bs y1)], 9, false⟩), (b292, ⟨[.int .u8 0, .int .i64 0, .int .i64 0, .int .u8 0, .int .u32 0, .int .u64 0], 33, false⟩)]) h291 rfl rfl rfl rfl (by kernel_rfl) (fun _ => rfl) fun b292 w293 a294 h295 hf296 hn297 => ?_
            clear h291
            refine nd_op ?_
            refine op_store tabOk2 {k := 2} (L' := [(b2, ⟨[.int .u8 0, .int .i64 0, .int .i64 0, .int .u8 0, .int .u32 0, .int .u64 0], 33, false⟩), (b13, ⟨[.string (bs x), .string (bs y0), .string (bs y1)], 9, false⟩), (b292, ⟨[.int .u8 ((kd : Nat) : Int), .int .i64 0, .int .i64 0, .int .u8 0, .int .u32 0, .int .u64 0], 33, false⟩)]) (φ := b292 = b292 ∧ Nat.ble (0 + 6) 6 = true) h295 rfl rfl rfl (by kernel_rfl) ⟨rfl, rfl⟩ fun w298 h299 => ?_
            clear h295
            refine nd_done ?_
            refine hK289 _ _ ?_
            clear hK289
            refine wp_seq_k fun K300 hK300 => ?_
            refine wp_seq_k fun K301 hK301 => ?_
            refine nd_start (l := [0, 1]) rfl ?_
            refine nd_batch tabOk2 tabZ_ok2 [(0, {}), (1, {f := 1})] [8, 26, 2, 0, 3, 4, 5, 27, 69] (T' := [(8, .pointer (some ⟨b292, 0, none⟩)), (26, .agg verbsC.toArray), (2, .pointer (some ⟨b2, 0, none⟩)), (0, .string (bs l)), (3, .nilIface), (4, .slice (some ⟨b13, 0, none⟩) 3 3), (5, .int .u8 ((kd : Nat) : Int)), (27, .int .i64 ((9 : Nat) : Int)), (69, .bool false)]) (φ := ((((kd : Nat) : Int) == 0)) = false ∧ True) (rest := []) h299 (by kernel_rfl) rfl ⟨(beq_eq_false_iff_ne.2 (by omega)), trivial⟩ fun a302 h303 => ?_
            clear h299
            refine nd_done ?_
            refine hK301 _ _ ?_
            clear hK301
            refine c_false h303 rfl ?_
            refine wp_skip ?_
            refine hK300 _ _ ?_
            clear hK300
            refine wp_seq_k fun K304 hK304 => ?_
            refine wp_seq_k fun K305 hK305 => ?_
            refine nd_start (l := [0, 1, 2, 3, 4, 5, 6, 7, 8, 9]) rfl ?_
            refine nd_batch tabOk2 tabZ_ok2 [(0, {}), (1, {})] [8, 26, 2, 0, 3, 4, 5, 27, 113, 114] (T' := [(8, .pointer (some ⟨b292, 0, none⟩)), (26, .agg verbsC.toArray), (2, .pointer (some ⟨b2, 0, none⟩)), (0, .string (bs l)), (3, .nilIface), (4, .slice (some ⟨b13, 0, none⟩) 3 3), (5, .int .u8 ((kd : Nat) : Int)), (27, .int .i64 ((9 : Nat) : Int)), (113, .pointer (some ⟨b292, 1, none⟩)), (114, .pointer (some ⟨b292, 2, none⟩))]) (φ := True) (rest := [2, 3, 4, 5, 6, 7, 8, 9]) h303 (by kernel_rfl) rfl trivial fun a306 h307 => ?_
            clear h303
            refine nd_op ?_
            refine op_new tabOk2 (cells := [.pointer (some ⟨b292, 1, none⟩), .pointer (some ⟨b292, 2, none⟩)]) (ty := 74) (ln := (some 2)) (L1 := fun b308 => [(b2, ⟨[.int .u8 0, .int .i64 0, .int .i64 0, .int .u8 0, .int .u32 0, .int .u64 0], 33, false⟩), (b13, ⟨[.string (bs x), .string (bs y0), .string (bs y1)], 9, false⟩), (b292, ⟨[.int .u8 ((kd : Nat) : Int), .int .i64 0, .int .i64 0, .int .u8 0, .int .u32 0, .int .u64 0], 33, false⟩), (b308, ⟨[.pointer (some ⟨b292, 1, none⟩), .pointer (some ⟨b292, 2, none⟩)], 74, false⟩)]) h307 rfl rfl rfl rfl (by kernel_rfl) (fun _ => rfl) fun b308 w309 a310 h311 hf312 hn313 => ?_
            clear h307
            refine nd_batch tabOk2 tabZ_ok2 [(3, {}), (4, {}), (5, {})] [115, 8, 26, 2, 0, 3, 4, 5, 27, 118] (T' := [(115, .slice (some ⟨b308, 0, none⟩) 2 2), (8, .pointer (some ⟨b292, 0, none⟩)), (26, .agg verbsC.toArray), (2, .pointer (some ⟨b2, 0, none⟩)), (0, .string (bs l)), (3, .nilIface), (4, .slice (some ⟨b13, 0, none⟩) 3 3), (5, .int .u8 ((kd : Nat) : Int)), (27, .int .i64 ((9 : Nat) : Int)), (118, .pointer (some ⟨0, 0 + (kd * 2) + 1, none⟩))]) (φ := (0 ≤ ((kd : Nat) : Int) ∧ ((kd : Nat) : Int) < 9) ∧ True) (rest := [6, 7, 8, 9]) h311 (by kernel_rfl) rfl ⟨⟨by omega, by omega⟩, trivial⟩ fun a314 h315 => ?_
            clear h311
            refine nd_op ?_
            refine op_now (v := .int .i64 2) h315 rfl rfl (run_cell tabOk2 h315.slots rfl rfl rfl rfl (by have hq := (hg.fr h315.frame).args (k := kd) (by omega) (b := 0) (o := 0 + (kd * 2) + 1) rfl (by omega); rw [hv] at hq; exact hq)) ?_
            have h316 := h315.put (d := some 119) (v := .int .i64 2) (T' := [(119, .int .i64 2), (115, .slice (some ⟨b308, 0, none⟩) 2 2), (8, .pointer (some ⟨b292, 0, none⟩)), (26, .agg verbsC.toArray), (2, .pointer (some ⟨b2, 0, none⟩)), (0, .string (bs l)), (3, .nilIface), (4, .slice (some ⟨b13, 0, none⟩) 3 3), (5, .int .u8 ((kd : Nat) : Int)), (27, .int .i64 ((9 : Nat) : Int)), (118, .pointer (some ⟨0, 0 + (kd * 2) + 1, none⟩))]) rfl
            clear h315
            refine nd_batch tabOk2 tabZ_ok2 [(7, {}), (8, {}), (9, {})] [8, 26, 2, 0, 3, 4, 5, 27, 120, 121, 122] (T' := [(8, .pointer (some ⟨b292, 0, none⟩)), (26, .agg verbsC.toArray), (2, .pointer (some ⟨b2, 0, none⟩)), (0, .string (bs l)), (3, .nilIface), (4, .slice (some ⟨b13, 0, none⟩) 3 3), (5, .int .u8 ((kd : Nat) : Int)), (27, .int .i64 ((9 : Nat) : Int)), (120, .slice (some ⟨b308, 0, none⟩) 2 2), (121, .int .i64 2), (122, .int .i64 0)]) (φ := (0 ≤ (2 : Int) ∧ (2 : Int) ≤ ((2 : Nat) : Int)) ∧ True) (rest := []) h316 (by kernel_rfl) rfl ⟨⟨by omega, by omega⟩, trivial⟩ fun a317 h318 => ?_
            clear h316
            refine nd_done ?_
            refine hK305 _ _ ?_
            clear hK305
            refine wp_block ?_
            refine wp_loop_rounds 3 ?_
            refine rounds_step ?_
            refine wp_seq_k fun K319 hK319 => ?_
            refine nd_start (l := [0]) rfl ?_
            refine nd_batch tabOk2 tabZ_ok2 [(0, {})] [8, 26, 2, 0, 3, 4, 5, 27, 120, 121, 122, 123] (T' := [(8, .pointer (some ⟨b292, 0, none⟩)), (26, .agg verbsC.toArray), (2, .pointer (some ⟨b2, 0, none⟩)), (0, .string (bs l)), (3, .nilIface), (4, .slice (some ⟨b13, 0, none⟩) 3 3), (5, .int .u8 ((kd : Nat) : Int)), (27, .int .i64 ((9 : Nat) : Int)), (120, .slice (some ⟨b308, 0, none⟩) 2 2), (121, .int .i64 2), (122, .int .i64 0), (123, .bool true)]) (φ := True) (rest := []) h318 (by kernel_rfl) rfl trivial fun a320 h321 => ?_
            clear h318
            refine nd_done ?_
            refine hK319 _ _ ?_
            clear hK319
            refine wp_seq_k fun K322 hK322 => ?_
            refine c_true h321 rfl ?_
            refine wp_skip ?_
            refine hK322 _ _ ?_
            clear hK322
            refine wp_seq_k fun K323 hK323 => ?_
            refine wp_block ?_
            refine wp_seq_k fun K324 hK324 => ?_
            refine nd_start (l := [0, 1, 2, 3, 4]) rfl ?_
            refine nd_batch tabOk2 tabZ_ok2 [(0, {}), (1, {}), (2, {k := 3}), (3, {}), (4, {})] [8, 26, 2, 0, 3, 4, 5, 27, 120, 121, 122, 13, 14] (T' := [(8, .pointer (some ⟨b292, 0, none⟩)), (26, .agg verbsC.toArray), (2, .pointer (some ⟨b2, 0, none⟩)), (0, .string (bs l)), (3, .nilIface), (4, .slice (some ⟨b13, 0, none⟩) 3 3), (5, .int .u8 ((kd : Nat) : Int)), (27, .int .i64 ((9 : Nat) : Int)), (120, .slice (some ⟨b308, 0, none⟩) 2 2), (121, .int .i64 2), (122, .int .i64 0), (13, .int .i64 0), (14, .pointer (some ⟨b292, 1, none⟩))]) (φ := (0 ≤ (0 : Int) ∧ (0 : Int) < 2) ∧ (b308 = b308 ∧ Nat.ble (0 + 1) 2 = true) ∧ True) (rest := []) h321 (by kernel_rfl) rfl ⟨⟨by decide, by decide⟩, ⟨rfl, rfl⟩, trivial⟩ fun a325 h326 => ?_
            clear h321
            refine nd_done ?_
            refine hK324 _ _ ?_
            clear hK324
            refine wp_seq_k fun K327 hK327 => ?_
            refine nd_start (l := [0, 1, 2, 3, 4, 5, 6, 7, 8, 9, 10]) rfl ?_
            refine nd_batch tabOk2 tabZ_ok2 [(0, {}), (1, {}), (2, {}), (3, {}), (4, {k := 1})] [8, 26, 2, 0, 3, 4, 5, 27, 120, 121, 122, 13, 14, 132] (T' := [(8, .pointer (some ⟨b292, 0, none⟩)), (26, .agg verbsC.toArray), (2, .pointer (some ⟨b2, 0, none⟩)), (0, .string (bs l)), (3, .nilIface), (4, .slice (some ⟨b13, 0, none⟩) 3 3), (5, .int .u8 ((kd : Nat) : Int)), (27, .int .i64 ((9 : Nat) : Int)), (120, .slice (some ⟨b308, 0, none⟩) 2 2), (121, .int .i64 2), (122, .int .i64 0), (13, .int .i64 0), (14, .pointer (some ⟨b292, 1, none⟩)), (132, .string (bs y0))]) (φ := inR .i64 1 ∧ (0 ≤ (1 : Int) ∧ (1 : Int) < 3) ∧ (b13 = b13 ∧ Nat.ble (1 + 1) 3 = true) ∧ True) (rest := [5, 6, 7, 8, 9, 10]) h326 (by kernel_rfl) rfl ⟨⟨by decide, by decide⟩, ⟨by decide, by decide⟩, ⟨rfl, rfl⟩, trivial⟩ fun a328 h329 => ?_
            clear h326
            refine nd_op ?_
            refine op_call h329 rfl rfl rfl (callOk Tryf.func20 (by decide) rfl) (args := [.string (bs y0)]) rfl (atoi_ok y0 hly0 _ (hg.fr h329.frame).lib) ?_
            rintro _ w330 ⟨hf331, ⟨v332, hv333, rfl⟩ | ⟨hv333, v332, t, p, rfl⟩⟩
            ·
              refine ⟨_, rfl, ?_⟩
              have hn0 : numI y0 = some v332 := numI_ok hv333
              have h334 := (h329.grow hf331).put (d := some 133) (v := .tuple #[.int .i64 v332, .nilIface]) (T' := [(133, .tuple #[.int .i64 v332, .nilIface]), (8, .pointer (some ⟨b292, 0, none⟩)), (26, .agg verbsC.toArray), (2, .pointer (some ⟨b2, 0, none⟩)), (0, .string (bs l)), (3, .nilIface), (4, .slice (some ⟨b13, 0, none⟩) 3 3), (5, .int .u8 ((kd : Nat) : Int)), (27, .int .i64 ((9 : Nat) : Int)), (120, .slice (some ⟨b308, 0, none⟩) 2 2), (121, .int .i64 2), (122, .int .i64 0), (13, .int .i64 0), (14, .pointer (some ⟨b292, 1, none⟩)), (132, .string (bs y0))]) rfl
              clear h329
              refine nd_batch tabOk2 tabZ_ok2 [(6, {}), (7, {}), (8, {}), (9, {}), (10, {})] [8, 26, 2, 0, 3, 4, 5, 27, 120, 121, 122, 13, 14, 15, 16] (T' := [(8, .pointer (some ⟨b292, 0, none⟩)), (26, .agg verbsC.toArray), (2, .pointer (some ⟨b2, 0, none⟩)), (0, .string (bs l)), (3, .nilIface), (4, .slice (some ⟨b13, 0, none⟩) 3 3), (5, .int .u8 ((kd : Nat) : Int)), (27, .int .i64 ((9 : Nat) : Int)), (120, .slice (some ⟨b308, 0, none⟩) 2 2), (121, .int .i64 2), (122, .int .i64 0), (13, .int .i64 0), (14, .pointer (some ⟨b292, 1, none⟩)), (15, .int .i64 v332), (16, .nilIface)]) (φ := True) (rest := []) h334 (by kernel_rfl) rfl trivial fun a335 h336 => ?_
              clear h334
              refine nd_done ?_
              refine hK327 _ _ ?_
              clear hK327
              refine wp_seq_k fun K337 hK337 => ?_
              refine wp_seq_k fun K338 hK338 => ?_
              refine nd_start (l := [0, 1]) rfl ?_
              refine nd_batch tabOk2 tabZ_ok2 [(0, {})] [8, 26, 2, 0, 3, 4, 5, 27, 120, 121, 122, 13, 14, 15, 16, 136] (T' := [(8, .pointer (some ⟨b292, 0, none⟩)), (26, .agg verbsC.toArray), (2, .pointer (some ⟨b2, 0, none⟩)), (0, .string (bs l)), (3, .nilIface), (4, .slice (some ⟨b13, 0, none⟩) 3 3), (5, .int .u8 ((kd : Nat) : Int)), (27, .int .i64 ((9 : Nat) : Int)), (120, .slice (some ⟨b308, 0, none⟩) 2 2), (121, .int .i64 2), (122, .int .i64 0), (13, .int .i64 0), (14, .pointer (some ⟨b292, 1, none⟩)), (15, .int .i64 v332), (16, .nilIface), (136, .nilIface)]) (φ := True) (rest := [1]) h336 (by kernel_rfl) rfl trivial fun a339 h340 => ?_
              clear h336
              refine nd_op ?_
              refine op_pure (v := .bool false) h340 rfl rfl (p_nilne h340.slots rfl rfl (.inl rfl) iface37) ?_
              have h341 := h340.put (d := some 137) (v := .bool false) (T' := [(137, .bool false), (8, .pointer (some ⟨b292, 0, none⟩)), (26, .agg verbsC.toArray), (2, .pointer (some ⟨b2, 0, none⟩)), (0, .string (bs l)), (3, .nilIface), (4, .slice (some ⟨b13, 0, none⟩) 3 3), (5, .int .u8 ((kd : Nat) : Int)), (27, .int .i64 ((9 : Nat) : Int)), (120, .slice (some ⟨b308, 0, none⟩) 2 2), (121, .int .i64 2), (122, .int .i64 0), (13, .int .i64 0), (14, .pointer (some ⟨b292, 1, none⟩)), (15, .int .i64 v332), (16, .nilIface), (136, .nilIface)]) rfl
              clear h340
              refine nd_done ?_
              refine hK338 _ _ ?_
              clear hK338
              refine c_false h341 rfl ?_
              refine wp_skip ?_
              refine hK337 _ _ ?_
              clear hK337
              refine nd_start (l := [0, 1, 2, 3]) rfl ?_
              refine nd_batch tabOk2 tabZ_ok2 [(0, {}), (1, {}), (2, {})] [8, 26, 2, 0, 3, 4, 5, 27, 120, 121, 122, 13, 14, 15, 16, 145, 146] (T' := [(8, .pointer (some ⟨b292, 0, none⟩)), (26, .agg verbsC.toArray), (2, .pointer (some ⟨b2, 0, none⟩)), (0, .string (bs l)), (3, .nilIface), (4, .slice (some ⟨b13, 0, none⟩) 3 3), (5, .int .u8 ((kd : Nat) : Int)), (27, .int .i64 ((9 : Nat) : Int)), (120, .slice (some ⟨b308, 0, none⟩) 2 2), (121, .int .i64 2), (122, .int .i64 0), (13, .int .i64 0), (14, .pointer (some ⟨b292, 1, none⟩)), (15, .int .i64 v332), (16, .nilIface), (145, .int .i64 v332), (146, .pointer (some ⟨b292, 1, none⟩))]) (φ := True) (rest := [3]) h341 (by kernel_rfl) rfl trivial fun a342 h343 => ?_
              clear h341
              refine nd_op ?_
              refine op_store tabOk2 {k := 2} (L' := [(b2, ⟨[.int .u8 0, .int .i64 0, .int .i64 0, .int .u8 0, .int .u32 0, .int .u64 0], 33, false⟩), (b13, ⟨[.string (bs x), .string (bs y0), .string (bs y1)], 9, false⟩), (b292, ⟨[.int .u8 ((kd : Nat) : Int), .int .i64 v332, .int .i64 0, .int .u8 0, .int .u32 0, .int .u64 0], 33, false⟩), (b308, ⟨[.pointer (some ⟨b292, 1, none⟩), .pointer (some ⟨b292, 2, none⟩)], 74, false⟩)]) (φ := b292 = b292 ∧ Nat.ble (1 + 1) 6 = true) h343 rfl rfl rfl (by kernel_rfl) ⟨rfl, rfl⟩ fun w344 h345 => ?_
              clear h343
              refine nd_done ?_
              refine hK323 _ _ ?_
              clear hK323
              refine nd_start (l := [0, 1]) rfl ?_
              refine nd_batch tabOk2 tabZ_ok2 [(0, {}), (1, {})] [8, 26, 2, 0, 3, 4, 5, 27, 120, 121, 13, 14, 15, 16, 122] (T' := [(8, .pointer (some ⟨b292, 0, none⟩)), (26, .agg verbsC.toArray), (2, .pointer (some ⟨b2, 0, none⟩)), (0, .string (bs l)), (3, .nilIface), (4, .slice (some ⟨b13, 0, none⟩) 3 3), (5, .int .u8 ((kd : Nat) : Int)), (27, .int .i64 ((9 : Nat) : Int)), (120, .slice (some ⟨b308, 0, none⟩) 2 2), (121, .int .i64 2), (13, .int .i64 0), (14, .pointer (some ⟨b292, 1, none⟩)), (15, .int .i64 v332), (16, .nilIface), (122, .int .i64 1)]) (φ := inR .i64 1 ∧ True) (rest := []) h345 (by kernel_rfl) rfl ⟨⟨by decide, by decide⟩, trivial⟩ fun a346 h347 => ?_
              clear h345
              refine nd_done ?_
              refine rounds_step ?_
              refine wp_seq_k fun K348 hK348 => ?_
              refine nd_start (l := [0]) rfl ?_
              refine nd_batch tabOk2 tabZ_ok2 [(0, {})] [8, 26, 2, 0, 3, 4, 5, 27, 120, 121, 13, 14, 15, 16, 122, 123] (T' := [(8, .pointer (some ⟨b292, 0, none⟩)), (26, .agg verbsC.toArray), (2, .pointer (some ⟨b2, 0, none⟩)), (0, .string (bs l)), (3, .nilIface), (4, .slice (some ⟨b13, 0, none⟩) 3 3), (5, .int .u8 ((kd : Nat) : Int)), (27, .int .i64 ((9 : Nat) : Int)), (120, .slice (some ⟨b308, 0, none⟩) 2 2), (121, .int .i64 2), (13, .int .i64 0), (14, .pointer (some ⟨b292, 1, none⟩)), (15, .int .i64 v332), (16, .nilIface), (122, .int .i64 1), (123, .bool true)]) (φ := True) (rest := []) h347 (by kernel_rfl) rfl trivial fun a349 h350 => ?_
              clear h347
              refine nd_done ?_
              refine hK348 _ _ ?_
              clear hK348
              refine wp_seq_k fun K351 hK351 => ?_
              refine c_true h350 rfl ?_
              refine wp_skip ?_
              refine hK351 _ _ ?_
              clear hK351
              refine wp_seq_k fun K352 hK352 => ?_
              refine wp_block ?_
              refine wp_seq_k fun K353 hK353 => ?_
              refine nd_start (l := [0, 1, 2, 3, 4]) rfl ?_
              refine nd_batch tabOk2 tabZ_ok2 [(0, {}), (1, {}), (2, {k := 3}), (3, {}), (4, {})] [8, 26, 2, 0, 3, 4, 5, 27, 120, 121, 15, 16, 122, 13, 14] (T' := [(8, .pointer (some ⟨b292, 0, none⟩)), (26, .agg verbsC.toArray), (2, .pointer (some ⟨b2, 0, none⟩)), (0, .string (bs l)), (3, .nilIface), (4, .slice (some ⟨b13, 0, none⟩) 3 3), (5, .int .u8 ((kd : Nat) : Int)), (27, .int .i64 ((9 : Nat) : Int)), (120, .slice (some ⟨b308, 0, none⟩) 2 2), (121, .int .i64 2), (15, .int .i64 v332), (16, .nilIface), (122, .int .i64 1), (13, .int .i64 1), (14, .pointer (some ⟨b292, 2, none⟩))]) (φ := (0 ≤ (1 : Int) ∧ (1 : Int) < 2) ∧ (b308 = b308 ∧ Nat.ble (1 + 1) 2 = true) ∧ True) (rest := []) h350 (by kernel_rfl) rfl ⟨⟨by decide, by decide⟩, ⟨rfl, rfl⟩, trivial⟩ fun a354 h355 => ?_
              clear h350
              refine nd_done ?_
              refine hK353 _ _ ?_
              clear hK353
              refine wp_seq_k fun K356 hK356 => ?_
              refine nd_start (l := [0, 1, 2, 3, 4, 5, 6, 7, 8, 9, 10]) rfl ?_
              refine nd_batch tabOk2 tabZ_ok2 [(0, {}), (1, {}), (2, {}), (3, {}), (4, {k := 1})] [8, 26, 2, 0, 3, 4, 5, 27, 120, 121, 15, 16, 122, 13, 14, 132] (T' := [(8, .pointer (some ⟨b292, 0, none⟩)), (26, .agg verbsC.toArray), (2, .pointer (some ⟨b2, 0, none⟩)), (0, .string (bs l)), (3, .nilIface), (4, .slice (some ⟨b13, 0, none⟩) 3 3), (5, .int .u8 ((kd : Nat) : Int)), (27, .int .i64 ((9 : Nat) : Int)), (120, .slice (some ⟨b308, 0, none⟩) 2 2), (121, .int .i64 2), (15, .int .i64 v332), (16, .nilIface), (122, .int .i64 1), (13, .int .i64 1), (14, .pointer (some ⟨b292, 2, none⟩)), (132, .string (bs y1))]) (φ := inR .i64 2 ∧ (0 ≤ (2 : Int) ∧ (2 : Int) < 3) ∧ (b13 = b13 ∧ Nat.ble (2 + 1) 3 = true) ∧ True) (rest := [5, 6, 7, 8, 9, 10]) h355 (by kernel_rfl) rfl ⟨⟨by decide, by decide⟩, ⟨by decide, by decide⟩, ⟨rfl, rfl⟩, trivial⟩ fun a357 h358 => ?_
              clear h355
              refine nd_op ?_
              refine op_call h358 rfl rfl rfl (callOk Tryf.func20 (by decide) rfl) (args := [.string (bs y1)]) rfl (atoi_ok y1 hly1 _ (hg.fr h358.frame).lib) ?_
              rintro _ w359 ⟨hf360, ⟨v361, hv362, rfl⟩ | ⟨hv362, v361, t, p, rfl⟩⟩
              ·
                refine ⟨_, rfl, ?_⟩
                have hn1 : numI y1 = some v361 := numI_ok hv362
                have h363 := (h358.grow hf360).put (d := some 133) (v := .tuple #[.int .i64 v361, .nilIface]) (T' := [(133, .tuple #[.int .i64 v361, .nilIface]), (8, .pointer (some ⟨b292, 0, none⟩)), (26, .agg verbsC.toArray), (2, .pointer (some ⟨b2, 0, none⟩)), (0, .string (bs l)), (3, .nilIface), (4, .slice (some ⟨b13, 0, none⟩) 3 3), (5, .int .u8 ((kd : Nat) : Int)), (27, .int .i64 ((9 : Nat) : Int)), (120, .slice (some ⟨b308, 0, none⟩) 2 2), (121, .int .i64 2), (15, .int .i64 v332), (16, .nilIface), (122, .int .i64 1), (13, .int .i64 1), (14, .pointer (some ⟨b292, 2, none⟩)), (132, .string (bs y1))]) rfl
                clear h358
                refine nd_batch tabOk2 tabZ_ok2 [(6, {}), (7, {}), (8, {}), (9, {}), (10, {})] [8, 26, 2, 0, 3, 4, 5, 27, 120, 121, 122, 13, 14, 15, 16] (T' := [(8, .pointer (some ⟨b292, 0, none⟩)), (26, .agg verbsC.toArray), (2, .pointer (some ⟨b2, 0, none⟩)), (0, .string (bs l)), (3, .nilIface), (4, .slice (some ⟨b13, 0, none⟩) 3 3), (5, .int .u8 ((kd : Nat) : Int)), (27, .int .i64 ((9 : Nat) : Int)), (120, .slice (some ⟨b308, 0, none⟩) 2 2), (121, .int .i64 2), (122, .int .i64 1), (13, .int .i64 1), (14, .pointer (some ⟨b292, 2, none⟩)), (15, .int .i64 v361), (16, .nilIface)]) (φ := True) (rest := []) h363 (by kernel_rfl) rfl trivial fun a364 h365 => ?_
                clear h363
                refine nd_done ?_
                refine hK356 _ _ ?_
                clear hK356
                refine wp_seq_k fun K366 hK366 => ?_
                refine wp_seq_k fun K367 hK367 => ?_
                refine nd_start (l := [0, 1]) rfl ?_
                refine nd_batch tabOk2 tabZ_ok2 [(0, {})] [8, 26, 2, 0, 3, 4, 5, 27, 120, 121, 122, 13, 14, 15, 16, 136] (T' := [(8, .pointer (some ⟨b292, 0, none⟩)), (26, .agg verbsC.toArray), (2, .pointer (some ⟨b2, 0, none⟩)), (0, .string (bs l)), (3, .nilIface), (4, .slice (some ⟨b13, 0, none⟩) 3 3), (5, .int .u8 ((kd : Nat) : Int)), (27, .int .i64 ((9 : Nat) : Int)), (120, .slice (some ⟨b308, 0, none⟩) 2 2), (121, .int .i64 2), (122, .int .i64 1), (13, .int .i64 1), (14, .pointer (some ⟨b292, 2, none⟩)), (15, .int .i64 v361), (16, .nilIface), (136, .nilIface)]) (φ := True) (rest := [1]) h365 (by kernel_rfl) rfl trivial fun a368 h369 => ?_
                clear h365
                refine nd_op ?_
                refine op_pure (v := .bool false) h369 rfl rfl (p_nilne h369.slots rfl rfl (.inl rfl) iface37) ?_
                have h370 := h369.put (d := some 137) (v := .bool false) (T' := [(137, .bool false), (8, .pointer (some ⟨b292, 0, none⟩)), (26, .agg verbsC.toArray), (2, .pointer (some ⟨b2, 0, none⟩)), (0, .string (bs l)), (3, .nilIface), (4, .slice (some ⟨b13, 0, none⟩) 3 3), (5, .int .u8 ((kd : Nat) : Int)), (27, .int .i64 ((9 : Nat) : Int)), (120, .slice (some ⟨b308, 0, none⟩) 2 2), (121, .int .i64 2), (122, .int .i64 1), (13, .int .i64 1), (14, .pointer (some ⟨b292, 2, none⟩)), (15, .int .i64 v361), (16, .nilIface), (136, .nilIface)]) rfl
                clear h369
                refine nd_done ?_
                refine hK367 _ _ ?_
                clear hK367
                refine c_false h370 rfl ?_
                refine wp_skip ?_
                refine hK366 _ _ ?_
                clear hK366
                refine nd_start (l := [0, 1, 2, 3]) rfl ?_
                refine nd_batch tabOk2 tabZ_ok2 [(0, {}), (1, {}), (2, {})] [8, 26, 2, 0, 3, 4, 5, 27, 120, 121, 122, 13, 14, 15, 16, 145, 146] (T' := [(8, .pointer (some ⟨b292, 0, none⟩)), (26, .agg verbsC.toArray), (2, .pointer (some ⟨b2, 0, none⟩)), (0, .string (bs l)), (3, .nilIface), (4, .slice (some ⟨b13, 0, none⟩) 3 3), (5, .int .u8 ((kd : Nat) : Int)), (27, .int .i64 ((9 : Nat) : Int)), (120, .slice (some ⟨b308, 0, none⟩) 2 2), (121, .int .i64 2), (122, .int .i64 1), (13, .int .i64 1), (14, .pointer (some ⟨b292, 2, none⟩)), (15, .int .i64 v361), (16, .nilIface), (145, .int .i64 v361), (146, .pointer (some ⟨b292, 2, none⟩))]) (φ := True) (rest := [3]) h370 (by kernel_rfl) rfl trivial fun a371 h372 => ?_
                clear h370
                refine nd_op ?_
                refine op_store tabOk2 {k := 2} (L' := [(b2, ⟨[.int .u8 0, .int .i64 0, .int .i64 0, .int .u8 0, .int .u32 0, .int .u64 0], 33, false⟩), (b13, ⟨[.string (bs x), .string (bs y0), .string (bs y1)], 9, false⟩), (b292, ⟨[.int .u8 ((kd : Nat) : Int), .int .i64 v332, .int .i64 v361, .int .u8 0, .int .u32 0, .int .u64 0], 33, false⟩), (b308, ⟨[.pointer (some ⟨b292, 1, none⟩), .pointer (some ⟨b292, 2, none⟩)], 74, false⟩)]) (φ := b292 = b292 ∧ Nat.ble (2 + 1) 6 = true) h372 rfl rfl rfl (by kernel_rfl) ⟨rfl, rfl⟩ fun w373 h374 => ?_
                clear h372
                refine nd_done ?_
                refine hK352 _ _ ?_
                clear hK352
                refine nd_start (l := [0, 1]) rfl ?_
                refine nd_batch tabOk2 tabZ_ok2 [(0, {}), (1, {})] [8, 26, 2, 0, 3, 4, 5, 27, 120, 121, 13, 14, 15, 16, 122] (T' := [(8, .pointer (some ⟨b292, 0, none⟩)), (26, .agg verbsC.toArray), (2, .pointer (some ⟨b2, 0, none⟩)), (0, .string (bs l)), (3, .nilIface), (4, .slice (some ⟨b13, 0, none⟩) 3 3), (5, .int .u8 ((kd : Nat) : Int)), (27, .int .i64 ((9 : Nat) : Int)), (120, .slice (some ⟨b308, 0, none⟩) 2 2), (121, .int .i64 2), (13, .int .i64 1), (14, .pointer (some ⟨b292, 2, none⟩)), (15, .int .i64 v361), (16, .nilIface), (122, .int .i64 2)]) (φ := inR .i64 2 ∧ True) (rest := []) h374 (by kernel_rfl) rfl ⟨⟨by decide, by decide⟩, trivial⟩ fun a375 h376 => ?_
                clear h374
                refine nd_done ?_
                refine rounds_step ?_
                refine wp_seq_k fun K377 hK377 => ?_
                refine nd_start (l := [0]) rfl ?_
                refine nd_batch tabOk2 tabZ_ok2 [(0, {})] [8, 26, 2, 0, 3, 4, 5, 27, 120, 121, 13, 14, 15, 16, 122, 123] (T' := [(8, .pointer (some ⟨b292, 0, none⟩)), (26, .agg verbsC.toArray), (2, .pointer (some ⟨b2, 0, none⟩)), (0, .string (bs l)), (3, .nilIface), (4, .slice (some ⟨b13, 0, none⟩) 3 3), (5, .int .u8 ((kd : Nat) : Int)), (27, .int .i64 ((9 : Nat) : Int)), (120, .slice (some ⟨b308, 0, none⟩) 2 2), (121, .int .i64 2), (13, .int .i64 1), (14, .pointer (some ⟨b292, 2, none⟩)), (15, .int .i64 v361), (16, .nilIface), (122, .int .i64 2), (123, .bool false)]) (φ := True) (rest := []) h376 (by kernel_rfl) rfl trivial fun a378 h379 => ?_
                clear h376
                refine nd_done ?_
                refine hK377 _ _ ?_
                clear hK377
                refine wp_seq_k fun K380 hK380 => ?_
                refine c_false h379 rfl ?_
                refine wp_exit ?_
                refine hK304 _ _ ?_
                clear hK304
                refine wp_seq_k fun K381 hK381 => ?_
                refine nd_start (l := [0, 1, 2]) rfl ?_
                refine nd_batch tabOk2 tabZ_ok2 [(0, {k := 2})] [8, 26, 2, 0, 3, 4, 5, 27, 120, 121, 13, 14, 15, 16, 122, 148] (T' := [(8, .pointer (some ⟨b292, 0, none⟩)), (26, .agg verbsC.toArray), (2, .pointer (some ⟨b2, 0, none⟩)), (0, .string (bs l)), (3, .nilIface), (4, .slice (some ⟨b13, 0, none⟩) 3 3), (5, .int .u8 ((kd : Nat) : Int)), (27, .int .i64 ((9 : Nat) : Int)), (120, .slice (some ⟨b308, 0, none⟩) 2 2), (121, .int .i64 2), (13, .int .i64 1), (14, .pointer (some ⟨b292, 2, none⟩)), (15, .int .i64 v361), (16, .nilIface), (122, .int .i64 2), (148, .agg #[.int .u8 ((kd : Nat) : Int), .int .i64 v332, .int .i64 v361, .int .u8 0, .int .u32 0, .int .u64 0])]) (φ := (b292 = b292 ∧ Nat.ble (0 + 6) 6 = true) ∧ True) (rest := [1, 2]) h379 (by kernel_rfl) rfl ⟨⟨rfl, rfl⟩, trivial⟩ fun a382 h383 => ?_
                clear h379
                refine nd_op ?_
                refine op_store tabOk2 {k := 0} (L' := [(b2, ⟨[.int .u8 ((kd : Nat) : Int), .int .i64 v332, .int .i64 v361, .int .u8 0, .int .u32 0, .int .u64 0], 33, false⟩), (b13, ⟨[.string (bs x), .string (bs y0), .string (bs y1)], 9, false⟩), (b292, ⟨[.int .u8 ((kd : Nat) : Int), .int .i64 v332, .int .i64 v361, .int .u8 0, .int .u32 0, .int .u64 0], 33, false⟩), (b308, ⟨[.pointer (some ⟨b292, 1, none⟩), .pointer (some ⟨b292, 2, none⟩)], 74, false⟩)]) (φ := b2 = b2 ∧ Nat.ble (0 + 6) 6 = true) h383 rfl rfl rfl (by kernel_rfl) ⟨rfl, rfl⟩ fun w384 h385 => ?_
                clear h383
                refine nd_batch tabOk2 tabZ_ok2 [(2, {})] [8, 26, 2, 0, 4, 5, 27, 120, 121, 13, 14, 15, 16, 122, 3] (T' := [(8, .pointer (some ⟨b292, 0, none⟩)), (26, .agg verbsC.toArray), (2, .pointer (some ⟨b2, 0, none⟩)), (0, .string (bs l)), (4, .slice (some ⟨b13, 0, none⟩) 3 3), (5, .int .u8 ((kd : Nat) : Int)), (27, .int .i64 ((9 : Nat) : Int)), (120, .slice (some ⟨b308, 0, none⟩) 2 2), (121, .int .i64 2), (13, .int .i64 1), (14, .pointer (some ⟨b292, 2, none⟩)), (15, .int .i64 v361), (16, .nilIface), (122, .int .i64 2), (3, .nilIface)]) (φ := True) (rest := []) h385 (by kernel_rfl) rfl trivial fun a386 h387 => ?_
                clear h385
                refine nd_done ?_
                refine hK381 _ _ ?_
                clear hK381
                refine wp_ret ?_
                try simp only [Exit.then, Exit.inBlock]
                try rw [if_pos trivial]
                exact s_ret tabOk2 tabZ_ok2 h387 [(.cell 2 33, {k := 0}), (.tmp 3, {})] (vs := [.agg #[.int .u8 ((kd : Nat) : Int), .int .i64 v332, .int .i64 v361, .int .u8 0, .int .u32 0, .int .u64 0], .nilIface]) (φ := (b2 = b2 ∧ Nat.ble (0 + 6) 6 = true) ∧ True) rfl (by kernel_rfl) ⟨⟨rfl, rfl⟩, trivial⟩ ⟨h387.frame, .inl ⟨⟨((kd : Nat) : Int), v332, v361, ⟨0, 0, 0⟩⟩, by simp [parseP, hw, hkd, parseW, hv, show kd ≠ 9 by omega, hn0, hn1], rfl⟩⟩
              ·
                refine ⟨_, rfl, ?_⟩
                have hn1 : numI y1 = none := numI_none hv362
                have h388 := (h358.grow hf360).put (d := some 133) (v := .tuple #[.int .i64 v361, .iface t (p)]) (T' := [(133, .tuple #[.int .i64 v361, .iface t (p)]), (8, .pointer (some ⟨b292, 0, none⟩)), (26, .agg verbsC.toArray), (2, .pointer (some ⟨b2, 0, none⟩)), (0, .string (bs l)), (3, .nilIface), (4, .slice (some ⟨b13, 0, none⟩) 3 3), (5, .int .u8 ((kd : Nat) : Int)), (27, .int .i64 ((9 : Nat) : Int)), (120, .slice (some ⟨b308, 0, none⟩) 2 2), (121, .int .i64 2), (15, .int .i64 v332), (16, .nilIface), (122, .int .i64 1), (13, .int .i64 1), (14, .pointer (some ⟨b292, 2, none⟩)), (132, .string (bs y1))]) rfl
                clear h358
                have hnone : parseP l = none := by simp [parseP, hw, hkd, parseW, hv, show kd ≠ 9 by omega, hn0, hn1]
                refine nd_batch tabOk2 tabZ_ok2 [(6, {}), (7, {}), (8, {}), (9, {}), (10, {})] [8, 26, 2, 0, 3, 4, 5, 27, 120, 121, 122, 13, 14, 15, 16] (T' := [(8, .pointer (some ⟨b292, 0, none⟩)), (26, .agg verbsC.toArray), (2, .pointer (some ⟨b2, 0, none⟩)), (0, .string (bs l)), (3, .nilIface), (4, .slice (some ⟨b13, 0, none⟩) 3 3), (5, .int .u8 ((kd : Nat) : Int)), (27, .int .i64 ((9 : Nat) : Int)), (120, .slice (some ⟨b308, 0, none⟩) 2 2), (121, .int .i64 2), (122, .int .i64 1), (13, .int .i64 1), (14, .pointer (some ⟨b292, 2, none⟩)), (15, .int .i64 v361), (16, .iface t (p))]) (φ := True) (rest := []) h388 (by kernel_rfl) rfl trivial fun a389 h390 => ?_
                clear h388
                refine nd_done ?_
                refine hK356 _ _ ?_
                clear hK356
                refine wp_seq_k fun K391 hK391 => ?_
                refine wp_seq_k fun K392 hK392 => ?_
                refine nd_start (l := [0, 1]) rfl ?_
                refine nd_batch tabOk2 tabZ_ok2 [(0, {})] [8, 26, 2, 0, 3, 4, 5, 27, 120, 121, 122, 13, 14, 15, 16, 136] (T' := [(8, .pointer (some ⟨b292, 0, none⟩)), (26, .agg verbsC.toArray), (2, .pointer (some ⟨b2, 0, none⟩)), (0, .string (bs l)), (3, .nilIface), (4, .slice (some ⟨b13, 0, none⟩) 3 3), (5, .int .u8 ((kd : Nat) : Int)), (27, .int .i64 ((9 : Nat) : Int)), (120, .slice (some ⟨b308, 0, none⟩) 2 2), (121, .int .i64 2), (122, .int .i64 1), (13, .int .i64 1), (14, .pointer (some ⟨b292, 2, none⟩)), (15, .int .i64 v361), (16, .iface t (p)), (136, .iface t (p))]) (φ := True) (rest := [1]) h390 (by kernel_rfl) rfl trivial fun a393 h394 => ?_
                clear h390
                refine nd_op ?_
                refine op_pure (v := .bool true) h394 rfl rfl (p_nilne h394.slots rfl rfl (.inr ⟨_, _, rfl⟩) iface37) ?_
                have h395 := h394.put (d := some 137) (v := .bool true) (T' := [(137, .bool true), (8, .pointer (some ⟨b292, 0, none⟩)), (26, .agg verbsC.toArray), (2, .pointer (some ⟨b2, 0, none⟩)), (0, .string (bs l)), (3, .nilIface), (4, .slice (some ⟨b13, 0, none⟩) 3 3), (5, .int .u8 ((kd : Nat) : Int)), (27, .int .i64 ((9 : Nat) : Int)), (120, .slice (some ⟨b308, 0, none⟩) 2 2), (121, .int .i64 2), (122, .int .i64 1), (13, .int .i64 1), (14, .pointer (some ⟨b292, 2, none⟩)), (15, .int .i64 v361), (16, .iface t (p)), (136, .iface t (p))]) rfl
                clear h394
                refine nd_done ?_
                refine hK392 _ _ ?_
                clear hK392
                refine c_true h395 rfl ?_
                refine wp_seq_k fun K396 hK396 => ?_
                refine nd_start (l := [0, 1, 2, 3, 4, 5, 6, 7]) rfl ?_
                refine nd_batch tabOk2 tabZ_ok2 [(0, {}), (1, {}), (2, {}), (3, {})] [8, 26, 2, 0, 3, 4, 5, 27, 120, 121, 122, 13, 14, 15, 16, 138, 141] (T' := [(8, .pointer (some ⟨b292, 0, none⟩)), (26, .agg verbsC.toArray), (2, .pointer (some ⟨b2, 0, none⟩)), (0, .string (bs l)), (3, .nilIface), (4, .slice (some ⟨b13, 0, none⟩) 3 3), (5, .int .u8 ((kd : Nat) : Int)), (27, .int .i64 ((9 : Nat) : Int)), (120, .slice (some ⟨b308, 0, none⟩) 2 2), (121, .int .i64 2), (122, .int .i64 1), (13, .int .i64 1), (14, .pointer (some ⟨b292, 2, none⟩)), (15, .int .i64 v361), (16, .iface t (p)), (138, .agg #[.int .u8 0, .int .i64 0, .int .i64 0, .int .u8 0, .int .u32 0, .int .u64 0]), (141, .agg #[.int .i64 2, .string (bs ([110, 111, 116, 32, 97, 32, 110, 117, 109, 98, 101, 114, 32, 105, 110, 32, 114, 97, 110, 103, 101]))])]) (φ := inR .i64 2 ∧ True) (rest := [4, 5, 6, 7]) h395 (by kernel_rfl) rfl ⟨⟨by decide, by decide⟩, trivial⟩ fun a397 h398 => ?_
                clear h395
                refine nd_op ?_
                refine op_new tabOk2 (cells := [.int .i64 2, .string (bs ([110, 111, 116, 32, 97, 32, 110, 117, 109, 98, 101, 114, 32, 105, 110, 32, 114, 97, 110, 103, 101]))]) (ty := 69) (ln := none) (L1 := fun b399 => [(b2, ⟨[.int .u8 0, .int .i64 0, .int .i64 0, .int .u8 0, .int .u32 0, .int .u64 0], 33, false⟩), (b13, ⟨[.string (bs x), .string (bs y0), .string (bs y1)], 9, false⟩), (b292, ⟨[.int .u8 ((kd : Nat) : Int), .int .i64 v332, .int .i64 0, .int .u8 0, .int .u32 0, .int .u64 0], 33, false⟩), (b308, ⟨[.pointer (some ⟨b292, 1, none⟩), .pointer (some ⟨b292, 2, none⟩)], 74, false⟩), (b399, ⟨[.int .i64 2, .string (bs ([110, 111, 116, 32, 97, 32, 110, 117, 109, 98, 101, 114, 32, 105, 110, 32, 114, 97, 110, 103, 101]))], 69, false⟩)]) h398 rfl rfl rfl rfl (by kernel_rfl) (fun _ => rfl) fun b399 w400 a401 h402 hf403 hn404 => ?_
                clear h398
                refine nd_op ?_
                refine op_pure (v := .iface 67 (.pointer (some ⟨b399, 0, none⟩))) h402 rfl rfl (pure_iface tabOk2 h402.slots rfl rfl rfl (by intro fs hq; cases hq) (by intro fs hq; cases hq)) ?_
                have h405 := h402.put (d := some 143) (v := .iface 67 (.pointer (some ⟨b399, 0, none⟩))) (T' := [(143, .iface 67 (.pointer (some ⟨b399, 0, none⟩))), (142, .pointer (some ⟨b399, 0, none⟩)), (8, .pointer (some ⟨b292, 0, none⟩)), (26, .agg verbsC.toArray), (2, .pointer (some ⟨b2, 0, none⟩)), (0, .string (bs l)), (3, .nilIface), (4, .slice (some ⟨b13, 0, none⟩) 3 3), (5, .int .u8 ((kd : Nat) : Int)), (27, .int .i64 ((9 : Nat) : Int)), (120, .slice (some ⟨b308, 0, none⟩) 2 2), (121, .int .i64 2), (122, .int .i64 1), (13, .int .i64 1), (14, .pointer (some ⟨b292, 2, none⟩)), (15, .int .i64 v361), (16, .iface t (p)), (138, .agg #[.int .u8 0, .int .i64 0, .int .i64 0, .int .u8 0, .int .u32 0, .int .u64 0]), (141, .agg #[.int .i64 2, .string (bs ([110, 111, 116, 32, 97, 32, 110, 117, 109, 98, 101, 114, 32, 105, 110, 32, 114, 97, 110, 103, 101]))])]) rfl
                clear h402
                refine nd_op ?_
                refine op_store tabOk2 {k := 0} (L' := [(b2, ⟨[.int .u8 0, .int .i64 0, .int .i64 0, .int .u8 0, .int .u32 0, .int .u64 0], 33, false⟩), (b13, ⟨[.string (bs x), .string (bs y0), .string (bs y1)], 9, false⟩), (b292, ⟨[.int .u8 ((kd : Nat) : Int), .int .i64 v332, .int .i64 0, .int .u8 0, .int .u32 0, .int .u64 0], 33, false⟩), (b308, ⟨[.pointer (some ⟨b292, 1, none⟩), .pointer (some ⟨b292, 2, none⟩)], 74, false⟩), (b399, ⟨[.int .i64 2, .string (bs ([110, 111, 116, 32, 97, 32, 110, 117, 109, 98, 101, 114, 32, 105, 110, 32, 114, 97, 110, 103, 101]))], 69, false⟩)]) (φ := b2 = b2 ∧ Nat.ble (0 + 6) 6 = true) h405 rfl rfl rfl (by kernel_rfl) ⟨rfl, rfl⟩ fun w406 h407 => ?_
                clear h405
                refine nd_batch tabOk2 tabZ_ok2 [(7, {})] [8, 26, 2, 0, 4, 5, 27, 120, 121, 122, 13, 14, 15, 16, 3] (T' := [(8, .pointer (some ⟨b292, 0, none⟩)), (26, .agg verbsC.toArray), (2, .pointer (some ⟨b2, 0, none⟩)), (0, .string (bs l)), (4, .slice (some ⟨b13, 0, none⟩) 3 3), (5, .int .u8 ((kd : Nat) : Int)), (27, .int .i64 ((9 : Nat) : Int)), (120, .slice (some ⟨b308, 0, none⟩) 2 2), (121, .int .i64 2), (122, .int .i64 1), (13, .int .i64 1), (14, .pointer (some ⟨b292, 2, none⟩)), (15, .int .i64 v361), (16, .iface t (p)), (3, .iface 67 (.pointer (some ⟨b399, 0, none⟩)))]) (φ := True) (rest := []) h407 (by kernel_rfl) rfl trivial fun a408 h409 => ?_
                clear h407
                refine nd_done ?_
                refine hK396 _ _ ?_
                clear hK396
                refine wp_ret ?_
                try simp only [Exit.then, Exit.inBlock]
                try rw [if_pos trivial]
                exact s_ret tabOk2 tabZ_ok2 h409 [(.cell 2 33, {k := 0}), (.tmp 3, {})] (vs := [.agg #[.int .u8 0, .int .i64 0, .int .i64 0, .int .u8 0, .int .u32 0, .int .u64 0], .iface 67 (.pointer (some ⟨b399, 0, none⟩))]) (φ := (b2 = b2 ∧ Nat.ble (0 + 6) 6 = true) ∧ True) rfl (by kernel_rfl) ⟨⟨rfl, rfl⟩, trivial⟩ ⟨h409.frame, .inr ⟨hnone, _, _, rfl⟩⟩
            ·
              refine ⟨_, rfl, ?_⟩
              have hn0 : numI y0 = none := numI_none hv333
              have h410 := (h329.grow hf331).put (d := some 133) (v := .tuple #[.int .i64 v332, .iface t (p)]) (T' := [(133, .tuple #[.int .i64 v332, .iface t (p)]), (8, .pointer (some ⟨b292, 0, none⟩)), (26, .agg verbsC.toArray), (2, .pointer (some ⟨b2, 0, none⟩)), (0, .string (bs l)), (3, .nilIface), (4, .slice (some ⟨b13, 0, none⟩) 3 3), (5, .int .u8 ((kd : Nat) : Int)), (27, .int .i64 ((9 : Nat) : Int)), (120, .slice (some ⟨b308, 0, none⟩) 2 2), (121, .int .i64 2), (122, .int .i64 0), (13, .int .i64 0), (14, .pointer (some ⟨b292, 1, none⟩)), (132, .string (bs y0))]) rfl
              clear h329
              have hnone : parseP l = none := by simp [parseP, hw, hkd, parseW, hv, show kd ≠ 9 by omega, hn0]
              refine nd_batch tabOk2 tabZ_ok2 [(6, {}), (7, {}), (8, {}), (9, {}), (10, {})] [8, 26, 2, 0, 3, 4, 5, 27, 120, 121, 122, 13, 14, 15, 16] (T' := [(8, .pointer (some ⟨b292, 0, none⟩)), (26, .agg verbsC.toArray), (2, .pointer (some ⟨b2, 0, none⟩)), (0, .string (bs l)), (3, .nilIface), (4, .slice (some ⟨b13, 0, none⟩) 3 3), (5, .int .u8 ((kd : Nat) : Int)), (27, .int .i64 ((9 : Nat) : Int)), (120, .slice (some ⟨b308, 0, none⟩) 2 2), (121, .int .i64 2), (122, .int .i64 0), (13, .int .i64 0), (14, .pointer (some ⟨b292, 1, none⟩)), (15, .int .i64 v332), (16, .iface t (p))]) (φ := True) (rest := []) h410 (by kernel_rfl) rfl trivial fun a411 h412 => ?_
              clear h410
              refine nd_done ?_
              refine hK327 _ _ ?_
              clear hK327
              refine wp_seq_k fun K413 hK413 => ?_
              refine wp_seq_k fun K414 hK414 => ?_
              refine nd_start (l := [0, 1]) rfl ?_
              refine nd_batch tabOk2 tabZ_ok2 [(0, {})] [8, 26, 2, 0, 3, 4, 5, 27, 120, 121, 122, 13, 14, 15, 16, 136] (T' := [(8, .pointer (some ⟨b292, 0, none⟩)), (26, .agg verbsC.toArray), (2, .pointer (some ⟨b2, 0, none⟩)), (0, .string (bs l)), (3, .nilIface), (4, .slice (some ⟨b13, 0, none⟩) 3 3), (5, .int .u8 ((kd : Nat) : Int)), (27, .int .i64 ((9 : Nat) : Int)), (120, .slice (some ⟨b308, 0, none⟩) 2 2), (121, .int .i64 2), (122, .int .i64 0), (13, .int .i64 0), (14, .pointer (some ⟨b292, 1, none⟩)), (15, .int .i64 v332), (16, .iface t (p)), (136, .iface t (p))]) (φ := True) (rest := [1]) h412 (by kernel_rfl) rfl trivial fun a415 h416 => ?_
              clear h412
              refine nd_op ?_
              refine op_pure (v := .bool true) h416 rfl rfl (p_nilne h416.slots rfl rfl (.inr ⟨_, _, rfl⟩) iface37) ?_
              have h417 := h416.put (d := some 137) (v := .bool true) (T' := [(137, .bool true), (8, .pointer (some ⟨b292, 0, none⟩)), (26, .agg verbsC.toArray), (2, .pointer (some ⟨b2, 0, none⟩)), (0, .string (bs l)), (3, .nilIface), (4, .slice (some ⟨b13, 0, none⟩) 3 3), (5, .int .u8 ((kd : Nat) : Int)), (27, .int .i64 ((9 : Nat) : Int)), (120, .slice (some ⟨b308, 0, none⟩) 2 2), (121, .int .i64 2), (122, .int .i64 0), (13, .int .i64 0), (14, .pointer (some ⟨b292, 1, none⟩)), (15, .int .i64 v332), (16, .iface t (p)), (136, .iface t (p))]) rfl
              clear h416
              refine nd_done ?_
              refine hK414 _ _ ?_
              clear hK414
              refine c_true h417 rfl ?_
              refine wp_seq_k fun K418 hK418 => ?_
              refine nd_start (l := [0, 1, 2, 3, 4, 5, 6, 7]) rfl ?_
              refine nd_batch tabOk2 tabZ_ok2 [(0, {}), (1, {}), (2, {}), (3, {})] [8, 26, 2, 0, 3, 4, 5, 27, 120, 121, 122, 13, 14, 15, 16, 138, 141] (T' := [(8, .pointer (some ⟨b292, 0, none⟩)), (26, .agg verbsC.toArray), (2, .pointer (some ⟨b2, 0, none⟩)), (0, .string (bs l)), (3, .nilIface), (4, .slice (some ⟨b13, 0, none⟩) 3 3), (5, .int .u8 ((kd : Nat) : Int)), (27, .int .i64 ((9 : Nat) : Int)), (120, .slice (some ⟨b308, 0, none⟩) 2 2), (121, .int .i64 2), (122, .int .i64 0), (13, .int .i64 0), (14, .pointer (some ⟨b292, 1, none⟩)), (15, .int .i64 v332), (16, .iface t (p)), (138, .agg #[.int .u8 0, .int .i64 0, .int .i64 0, .int .u8 0, .int .u32 0, .int .u64 0]), (141, .agg #[.int .i64 1, .string (bs ([110, 111, 116, 32, 97, 32, 110, 117, 109, 98, 101, 114, 32, 105, 110, 32, 114, 97, 110, 103, 101]))])]) (φ := inR .i64 1 ∧ True) (rest := [4, 5, 6, 7]) h417 (by kernel_rfl) rfl ⟨⟨by decide, by decide⟩, trivial⟩ fun a419 h420 => ?_
              clear h417
              refine nd_op ?_
              refine op_new tabOk2 (cells := [.int .i64 1, .string (bs ([110, 111, 116, 32, 97, 32, 110, 117, 109, 98, 101, 114, 32, 105, 110, 32, 114, 97, 110, 103, 101]))]) (ty := 69) (ln := none) (L1 := fun b421 => [(b2, ⟨[.int .u8 0, .int .i64 0, .int .i64 0, .int .u8 0, .int .u32 0, .int .u64 0], 33, false⟩), (b13, ⟨[.string (bs x), .string (bs y0), .string (bs y1)], 9, false⟩), (b292, ⟨[.int .u8 ((kd : Nat) : Int), .int .i64 0, .int .i64 0, .int .u8 0, .int .u32 0, .int .u64 0], 33, false⟩), (b308, ⟨[.pointer (some ⟨b292, 1, none⟩), .pointer (some ⟨b292, 2, none⟩)], 74, false⟩), (b421, ⟨[.int .i64 1, .string (bs ([110, 111, 116, 32, 97, 32, 110, 117, 109, 98, 101, 114, 32, 105, 110, 32, 114, 97, 110, 103, 101]))], 69, false⟩)]) h420 rfl rfl rfl rfl (by kernel_rfl) (fun _ => rfl) fun b421 w422 a423 h424 hf425 hn426 => ?_
              clear h420
              refine nd_op ?_
              refine op_pure (v := .iface 67 (.pointer (some ⟨b421, 0, none⟩))) h424 rfl rfl (pure_iface tabOk2 h424.slots rfl rfl rfl (by intro fs hq; cases hq) (by intro fs hq; cases hq)) ?_
              have h427 := h424.put (d := some 143) (v := .iface 67 (.pointer (some ⟨b421, 0, none⟩))) (T' := [(143, .iface 67 (.pointer (some ⟨b421, 0, none⟩))), (142, .pointer (some ⟨b421, 0, none⟩)), (8, .pointer (some ⟨b292, 0, none⟩)), (26, .agg verbsC.toArray), (2, .pointer (some ⟨b2, 0, none⟩)), (0, .string (bs l)), (3, .nilIface), (4, .slice (some ⟨b13, 0, none⟩) 3 3), (5, .int .u8 ((kd : Nat) : Int)), (27, .int .i64 ((9 : Nat) : Int)), (120, .slice (some ⟨b308, 0, none⟩) 2 2), (121, .int .i64 2), (122, .int .i64 0), (13, .int .i64 0), (14, .pointer (some ⟨b292, 1, none⟩)), (15, .int .i64 v332), (16, .iface t (p)), (138, .agg #[.int .u8 0, .int .i64 0, .int .i64 0, .int .u8 0, .int .u32 0, .int .u64 0]), (141, .agg #[.int .i64 1, .string (bs ([110, 111, 116, 32, 97, 32, 110, 117, 109, 98, 101, 114, 32, 105, 110, 32, 114, 97, 110, 103, 101]))])]) rfl
              clear h424
              refine nd_op ?_
              refine op_store tabOk2 {k := 0} (L' := [(b2, ⟨[.int .u8 0, .int .i64 0, .int .i64 0, .int .u8 0, .int .u32 0, .int .u64 0], 33, false⟩), (b13, ⟨[.string (bs x), .string (bs y0), .string (bs y1)], 9, false⟩), (b292, ⟨[.int .u8 ((kd : Nat) : Int), .int .i64 0, .int .i64 0, .int .u8 0, .int .u32 0, .int .u64 0], 33, false⟩), (b308, ⟨[.pointer (some ⟨b292, 1, none⟩), .pointer (some ⟨b292, 2, none⟩)], 74, false⟩), (b421, ⟨[.int .i64 1, .string (bs ([110, 111, 116, 32, 97, 32, 110, 117, 109, 98, 101, 114, 32, 105, 110, 32, 114, 97, 110, 103, 101]))], 69, false⟩)]) (φ := b2 = b2 ∧ Nat.ble (0 + 6) 6 = true) h427 rfl rfl rfl (by kernel_rfl) ⟨rfl, rfl⟩ fun w428 h429 => ?_
              clear h427
              refine nd_batch tabOk2 tabZ_ok2 [(7, {})] [8, 26, 2, 0, 4, 5, 27, 120, 121, 122, 13, 14, 15, 16, 3] (T' := [(8, .pointer (some ⟨b292, 0, none⟩)), (26, .agg verbsC.toArray), (2, .pointer (some ⟨b2, 0, none⟩)), (0, .string (bs l)), (4, .slice (some ⟨b13, 0, none⟩) 3 3), (5, .int .u8 ((kd : Nat) : Int)), (27, .int .i64 ((9 : Nat) : Int)), (120, .slice (some ⟨b308, 0, none⟩) 2 2), (121, .int .i64 2), (122, .int .i64 0), (13, .int .i64 0), (14, .pointer (some ⟨b292, 1, none⟩)), (15, .int .i64 v332), (16, .iface t (p)), (3, .iface 67 (.pointer (some ⟨b421, 0, none⟩)))]) (φ := True) (rest := []) h429 (by kernel_rfl) rfl trivial fun a430 h431 => ?_
              clear h429
              refine nd_done ?_
              refine hK418 _ _ ?_
              clear hK418
              refine wp_ret ?_
              try simp only [Exit.then, Exit.inBlock]
              try rw [if_pos trivial]
              exact s_ret tabOk2 tabZ_ok2 h431 [(.cell 2 33, {k := 0}), (.tmp 3, {})] (vs := [.agg #[.int .u8 0, .int .i64 0, .int .i64 0, .int .u8 0, .int .u32 0, .int .u64 0], .iface 67 (.pointer (some ⟨b421, 0, none⟩))]) (φ := (b2 = b2 ∧ Nat.ble (0 + 6) 6 = true) ∧ True) rfl (by kernel_rfl) ⟨⟨rfl, rfl⟩, trivial⟩ ⟨h431.frame, .inr ⟨hnone, _, _, rfl⟩⟩
          ·
            obtain ⟨y0, y1, y2, rfl⟩ : ∃ y0 y1 y2, xs = [y0, y1, y2] := len3 (by omega)
            obtain rfl : kd = 0 := verbN_three hv
            have hly0 : y0.length ≤ 1000000 := Nat.le_trans (fields_len l (by rw [hw]; simp)) hl
            have hly1 : y1.length ≤ 1000000 := Nat.le_trans (fields_len l (by rw [hw]; simp)) hl
            have hly2 : y2.length ≤ 1000000 := Nat.le_trans (fields_len l (by rw [hw]; simp)) hl
            have h432 : St ⟨149, [], w, fun _ => True, []⟩ [(26, .agg verbsC.toArray), (2, .pointer (some ⟨b2, 0, none⟩)), (0, .string (bs l)), (3, .nilIface), (4, .slice (some ⟨b13, 0, none⟩) 4 4), (5, .int .u8 0), (27, .int .i64 ((9 : Nat) : Int))] [(b2, ⟨[.int .u8 0, .int .i64 0, .int .i64 0, .int .u8 0, .int .u32 0, .int .u64 0], 33, false⟩), (b13, ⟨[.string (bs x), .string (bs y0), .string (bs y1), .string (bs y2)], 9, false⟩)] _ _ := (h106.slotsMono (restr_spec (keep := [26, 2, 0, 3, 4, 5, 27]) rfl))
            clear h106
            refine wp_skip ?_
            refine hK100 _ _ ?_
            clear hK100
            refine wp_seq_k fun K433 hK433 => ?_
            refine nd_start (l := [0, 1, 2, 3]) rfl ?_
            refine nd_batch tabOk2 tabZ_ok2 [(0, {}), (1, {})] [26, 2, 0, 3, 4, 5, 27, 67] (T' := [(26, .agg verbsC.toArray), (2, .pointer (some ⟨b2, 0, none⟩)), (0, .string (bs l)), (3, .nilIface), (4, .slice (some ⟨b13, 0, none⟩) 4 4), (5, .int .u8 0), (27, .int .i64 ((9 : Nat) : Int)), (67, .agg #[.int .u8 0, .int .i64 0, .int .i64 0, .int .u8 0, .int .u32 0, .int .u64 0])]) (φ := True) (rest := [2, 3]) h432 (by kernel_rfl) rfl trivial fun a434 h435 => ?_
            clear h432
            refine nd_op ?_
            refine op_new tabOk2 (cells := [.int .u8 0, .int .i64 0, .int .i64 0, .int .u8 0, .int .u32 0, .int .u64 0]) (ty := 33) (ln := none) (L1 := fun b436 => [(b2, ⟨[.int .u8 0, .int .i64 0, .int .i64 0, .int .u8 0, .int .u32 0, .int .u64 0], 33, false⟩), (b13, ⟨[.string (bs x), .string (bs y0), .string (bs y1), .string (bs y2)], 9, false⟩), (b436, ⟨[.int .u8 0, .int .i64 0, .int .i64 0, .int .u8 0, .int .u32 0, .int .u64 0], 33, false⟩)]) h435 rfl rfl rfl rfl (by kernel_rfl) (fun _ => rfl) fun b436 w437 a438 h439 hf440 hn441 => ?_
            clear h435
            refine nd_op ?_
            refine op_store tabOk2 {k := 2} (L' := [(b2, ⟨[.int .u8 0, .int .i64 0, .int .i64 0, .int .u8 0, .int .u32 0, .int .u64 0], 33, false⟩), (b13, ⟨[.string (bs x), .string (bs y0), .string (bs y1), .string (bs y2)], 9, false⟩), (b436, ⟨[.int .u8 0, .int .i64 0, .int .i64 0, .int .u8 0, .int .u32 0, .int .u64 0], 33, false⟩)]) (φ := b436 = b436 ∧ Nat.ble (0 + 6) 6 = true) h439 rfl rfl rfl (by kernel_rfl) ⟨rfl, rfl⟩ fun w442 h443 => ?_
            clear h439
            refine nd_done ?_
            refine hK433 _ _ ?_
            clear hK433
            refine wp_seq_k fun K444 hK444 => ?_
            refine wp_seq_k fun K445 hK445 => ?_
            refine nd_start (l := [0, 1]) rfl ?_
            refine nd_batch tabOk2 tabZ_ok2 [(0, {}), (1, {})] [8, 26, 2, 0, 3, 4, 5, 27, 69] (T' := [(8, .pointer (some ⟨b436, 0, none⟩)), (26, .agg verbsC.toArray), (2, .pointer (some ⟨b2, 0, none⟩)), (0, .string (bs l)), (3, .nilIface), (4, .slice (some ⟨b13, 0, none⟩) 4 4), (5, .int .u8 0), (27, .int .i64 ((9 : Nat) : Int)), (69, .bool true)]) (φ := True) (rest := []) h443 (by kernel_rfl) rfl trivial fun a446 h447 => ?_
            clear h443
            refine nd_done ?_
            refine hK445 _ _ ?_
            clear hK445
            refine c_true h447 rfl ?_
            refine wp_seq_k fun K448 hK448 => ?_
            refine wp_seq_k fun K449 hK449 => ?_
            refine nd_start (l := [0, 1]) rfl ?_
            refine nd_batch tabOk2 tabZ_ok2 [(0, {}), (1, {})] [8, 26, 2, 0, 3, 4, 5, 27, 70, 71] (T' := [(8, .pointer (some ⟨b436, 0, none⟩)), (26, .agg verbsC.toArray), (2, .pointer (some ⟨b2, 0, none⟩)), (0, .string (bs l)), (3, .nilIface), (4, .slice (some ⟨b13, 0, none⟩) 4 4), (5, .int .u8 0), (27, .int .i64 ((9 : Nat) : Int)), (70, .agg #[.int .i64 8, .int .i64 32, .int .i64 64]), (71, .int .i64 0)]) (φ := True) (rest := []) h447 (by kernel_rfl) rfl trivial fun a450 h451 => ?_
            clear h447
            refine nd_done ?_
            refine hK449 _ _ ?_
            clear hK449
            refine wp_block ?_
            refine wp_loop_rounds 4 ?_
            refine rounds_step ?_
            refine wp_seq_k fun K452 hK452 => ?_
            refine nd_start (l := [0]) rfl ?_
            refine nd_batch tabOk2 tabZ_ok2 [(0, {})] [8, 26, 2, 0, 3, 4, 5, 27, 70, 71, 72] (T' := [(8, .pointer (some ⟨b436, 0, none⟩)), (26, .agg verbsC.toArray), (2, .pointer (some ⟨b2, 0, none⟩)), (0, .string (bs l)), (3, .nilIface), (4, .slice (some ⟨b13, 0, none⟩) 4 4), (5, .int .u8 0), (27, .int .i64 ((9 : Nat) : Int)), (70, .agg #[.int .i64 8, .int .i64 32, .int .i64 64]), (71, .int .i64 0), (72, .bool true)]) (φ := True) (rest := []) h451 (by kernel_rfl) rfl trivial fun a453 h454 => ?_
            clear h451
            refine nd_done ?_
            refine hK452 _ _ ?_
            clear hK452
            refine wp_seq_k fun K455 hK455 => ?_
            refine c_true h454 rfl ?_
            refine wp_skip ?_
            refine hK455 _ _ ?_
            clear hK455
            refine wp_seq_k fun K456 hK456 => ?_
            refine wp_block ?_
            refine wp_seq_k fun K457 hK457 => ?_
            refine nd_start (l := [0, 1, 2, 3]) rfl ?_
            refine nd_batch tabOk2 tabZ_ok2 [(0, {})] [8, 26, 2, 0, 3, 4, 5, 27, 70, 71, 73] (T' := [(8, .pointer (some ⟨b436, 0, none⟩)), (26, .agg verbsC.toArray), (2, .pointer (some ⟨b2, 0, none⟩)), (0, .string (bs l)), (3, .nilIface), (4, .slice (some ⟨b13, 0, none⟩) 4 4), (5, .int .u8 0), (27, .int .i64 ((9 : Nat) : Int)), (70, .agg #[.int .i64 8, .int .i64 32, .int .i64 64]), (71, .int .i64 0), (73, .int .i64 0)]) (φ := True) (rest := [1, 2, 3]) h454 (by kernel_rfl) rfl trivial fun a458 h459 => ?_
            clear h454
            refine nd_op ?_
            refine op_pure (v := .int .i64 8) h459 rfl rfl (pure_index tabOk2 h459.slots rfl rfl rfl rfl rfl rfl (by decide) (by decide) (φ := none) rfl trivial) ?_
            have h460 := h459.put (d := some 74) (v := .int .i64 8) (T' := [(74, .int .i64 8), (8, .pointer (some ⟨b436, 0, none⟩)), (26, .agg verbsC.toArray), (2, .pointer (some ⟨b2, 0, none⟩)), (0, .string (bs l)), (3, .nilIface), (4, .slice (some ⟨b13, 0, none⟩) 4 4), (5, .int .u8 0), (27, .int .i64 ((9 : Nat) : Int)), (70, .agg #[.int .i64 8, .int .i64 32, .int .i64 64]), (71, .int .i64 0), (73, .int .i64 0)]) rfl
            clear h459
            refine nd_batch tabOk2 tabZ_ok2 [(2, {}), (3, {})] [8, 26, 2, 0, 3, 4, 5, 27, 70, 71, 9, 10] (T' := [(8, .pointer (some ⟨b436, 0, none⟩)), (26, .agg verbsC.toArray), (2, .pointer (some ⟨b2, 0, none⟩)), (0, .string (bs l)), (3, .nilIface), (4, .slice (some ⟨b13, 0, none⟩) 4 4), (5, .int .u8 0), (27, .int .i64 ((9 : Nat) : Int)), (70, .agg #[.int .i64 8, .int .i64 32, .int .i64 64]), (71, .int .i64 0), (9, .int .i64 0), (10, .int .i64 8)]) (φ := True) (rest := []) h460 (by kernel_rfl) rfl trivial fun a461 h462 => ?_
            clear h460
            refine nd_done ?_
            refine hK457 _ _ ?_
            clear hK457
            refine wp_seq_k fun K463 hK463 => ?_
            refine nd_start (l := [0, 1, 2, 3, 4, 5, 6, 7, 8, 9, 10, 11]) rfl ?_
            refine nd_batch tabOk2 tabZ_ok2 [(0, {}), (1, {}), (2, {}), (3, {}), (4, {k := 1}), (5, {})] [8, 26, 2, 0, 3, 4, 5, 27, 70, 71, 9, 10, 80, 81] (T' := [(8, .pointer (some ⟨b436, 0, none⟩)), (26, .agg verbsC.toArray), (2, .pointer (some ⟨b2, 0, none⟩)), (0, .string (bs l)), (3, .nilIface), (4, .slice (some ⟨b13, 0, none⟩) 4 4), (5, .int .u8 0), (27, .int .i64 ((9 : Nat) : Int)), (70, .agg #[.int .i64 8, .int .i64 32, .int .i64 64]), (71, .int .i64 0), (9, .int .i64 0), (10, .int .i64 8), (80, .string (bs y0)), (81, .int .i64 8)]) (φ := inR .i64 1 ∧ (0 ≤ (1 : Int) ∧ (1 : Int) < 4) ∧ (b13 = b13 ∧ Nat.ble (1 + 1) 4 = true) ∧ True) (rest := [6, 7, 8, 9, 10, 11]) h462 (by kernel_rfl) rfl ⟨⟨by decide, by decide⟩, ⟨by decide, by decide⟩, ⟨rfl, rfl⟩, trivial⟩ fun a464 h465 => ?_
            clear h462
            refine nd_op ?_
            refine op_call h465 rfl rfl rfl (callOk Tryf.func19 (by decide) rfl) (args := [.string (bs y0), .int .i64 10, .int .i64 8]) rfl (parse8_ok y0 hly0 _ (hg.fr h465.frame).lib) ?_
            rintro _ w466 ⟨hf467, ⟨v468, hv469, rfl⟩ | ⟨hv469, v468, t, p, rfl⟩⟩
            ·
              refine ⟨_, rfl, ?_⟩
              have hn0 : numB 8 y0 = some ((v468 : Nat) : Int) := numB_ok hv469
              have hv469b := Lib.parseUintB_le hv469
              simp only [Nat.reducePow, Nat.reduceSub] at hv469b
              have h470 := (h465.grow hf467).put (d := some 82) (v := .tuple #[.int .u64 ((v468 : Nat) : Int), .nilIface]) (T' := [(82, .tuple #[.int .u64 ((v468 : Nat) : Int), .nilIface]), (8, .pointer (some ⟨b436, 0, none⟩)), (26, .agg verbsC.toArray), (2, .pointer (some ⟨b2, 0, none⟩)), (0, .string (bs l)), (3, .nilIface), (4, .slice (some ⟨b13, 0, none⟩) 4 4), (5, .int .u8 0), (27, .int .i64 ((9 : Nat) : Int)), (70, .agg #[.int .i64 8, .int .i64 32, .int .i64 64]), (71, .int .i64 0), (9, .int .i64 0), (10, .int .i64 8), (80, .string (bs y0)), (81, .int .i64 8)]) rfl
              clear h465
              refine nd_batch tabOk2 tabZ_ok2 [(7, {}), (8, {}), (9, {}), (10, {}), (11, {})] [8, 26, 2, 0, 3, 4, 5, 27, 70, 71, 9, 10, 11, 12] (T' := [(8, .pointer (some ⟨b436, 0, none⟩)), (26, .agg verbsC.toArray), (2, .pointer (some ⟨b2, 0, none⟩)), (0, .string (bs l)), (3, .nilIface), (4, .slice (some ⟨b13, 0, none⟩) 4 4), (5, .int .u8 0), (27, .int .i64 ((9 : Nat) : Int)), (70, .agg #[.int .i64 8, .int .i64 32, .int .i64 64]), (71, .int .i64 0), (9, .int .i64 0), (10, .int .i64 8), (11, .int .u64 ((v468 : Nat) : Int)), (12, .nilIface)]) (φ := True) (rest := []) h470 (by kernel_rfl) rfl trivial fun a471 h472 => ?_
              clear h470
              refine nd_done ?_
              refine hK463 _ _ ?_
              clear hK463
              refine wp_seq_k fun K473 hK473 => ?_
              refine wp_seq_k fun K474 hK474 => ?_
              refine nd_start (l := [0, 1]) rfl ?_
              refine nd_batch tabOk2 tabZ_ok2 [(0, {})] [8, 26, 2, 0, 3, 4, 5, 27, 70, 71, 9, 10, 11, 12, 85] (T' := [(8, .pointer (some ⟨b436, 0, none⟩)), (26, .agg verbsC.toArray), (2, .pointer (some ⟨b2, 0, none⟩)), (0, .string (bs l)), (3, .nilIface), (4, .slice (some ⟨b13, 0, none⟩) 4 4), (5, .int .u8 0), (27, .int .i64 ((9 : Nat) : Int)), (70, .agg #[.int .i64 8, .int .i64 32, .int .i64 64]), (71, .int .i64 0), (9, .int .i64 0), (10, .int .i64 8), (11, .int .u64 ((v468 : Nat) : Int)), (12, .nilIface), (85, .nilIface)]) (φ := True) (rest := [1]) h472 (by kernel_rfl) rfl trivial fun a475 h476 => ?_
              clear h472
              refine nd_op ?_
              refine op_pure (v := .bool false) h476 rfl rfl (p_nilne h476.slots rfl rfl (.inl rfl) iface37) ?_
              have h477 := h476.put (d := some 86) (v := .bool false) (T' := [(86, .bool false), (8, .pointer (some ⟨b436, 0, none⟩)), (26, .agg verbsC.toArray), (2, .pointer (some ⟨b2, 0, none⟩)), (0, .string (bs l)), (3, .nilIface), (4, .slice (some ⟨b13, 0, none⟩) 4 4), (5, .int .u8 0), (27, .int .i64 ((9 : Nat) : Int)), (70, .agg #[.int .i64 8, .int .i64 32, .int .i64 64]), (71, .int .i64 0), (9, .int .i64 0), (10, .int .i64 8), (11, .int .u64 ((v468 : Nat) : Int)), (12, .nilIface), (85, .nilIface)]) rfl
              clear h476
              refine nd_done ?_
              refine hK474 _ _ ?_
              clear hK474
              refine c_false h477 rfl ?_
              refine wp_skip ?_
              refine hK473 _ _ ?_
              clear hK473
              refine wp_seq_k fun K478 hK478 => ?_
              refine nd_start (l := [0]) rfl ?_
              refine nd_batch tabOk2 tabZ_ok2 [(0, {})] [8, 26, 2, 0, 3, 4, 5, 27, 70, 71, 9, 10, 11, 12, 93] (T' := [(8, .pointer (some ⟨b436, 0, none⟩)), (26, .agg verbsC.toArray), (2, .pointer (some ⟨b2, 0, none⟩)), (0, .string (bs l)), (3, .nilIface), (4, .slice (some ⟨b13, 0, none⟩) 4 4), (5, .int .u8 0), (27, .int .i64 ((9 : Nat) : Int)), (70, .agg #[.int .i64 8, .int .i64 32, .int .i64 64]), (71, .int .i64 0), (9, .int .i64 0), (10, .int .i64 8), (11, .int .u64 ((v468 : Nat) : Int)), (12, .nilIface), (93, .int .i64 0)]) (φ := True) (rest := []) h477 (by kernel_rfl) rfl trivial fun a479 h480 => ?_
              clear h477
              refine nd_done ?_
              refine hK478 _ _ ?_
              clear hK478
              refine wp_block ?_
              refine wp_seq_k fun K481 hK481 => ?_
              refine nd_start (l := [0, 1]) rfl ?_
              refine nd_batch tabOk2 tabZ_ok2 [(0, {}), (1, {})] [8, 26, 2, 0, 3, 4, 5, 27, 70, 71, 9, 10, 11, 12, 93, 94] (T' := [(8, .pointer (some ⟨b436, 0, none⟩)), (26, .agg verbsC.toArray), (2, .pointer (some ⟨b2, 0, none⟩)), (0, .string (bs l)), (3, .nilIface), (4, .slice (some ⟨b13, 0, none⟩) 4 4), (5, .int .u8 0), (27, .int .i64 ((9 : Nat) : Int)), (70, .agg #[.int .i64 8, .int .i64 32, .int .i64 64]), (71, .int .i64 0), (9, .int .i64 0), (10, .int .i64 8), (11, .int .u64 ((v468 : Nat) : Int)), (12, .nilIface), (93, .int .i64 0), (94, .bool true)]) (φ := True) (rest := []) h480 (by kernel_rfl) rfl trivial fun a482 h483 => ?_
              clear h480
              refine nd_done ?_
              refine hK481 _ _ ?_
              clear hK481
              refine c_true h483 rfl ?_
              refine nd_start (l := [0, 1, 2, 3, 4]) rfl ?_
              refine nd_batch tabOk2 tabZ_ok2 [(0, {}), (1, {}), (2, {}), (3, {})] [8, 26, 2, 0, 3, 4, 5, 27, 70, 71, 9, 10, 11, 12, 93, 97, 99] (T' := [(8, .pointer (some ⟨b436, 0, none⟩)), (26, .agg verbsC.toArray), (2, .pointer (some ⟨b2, 0, none⟩)), (0, .string (bs l)), (3, .nilIface), (4, .slice (some ⟨b13, 0, none⟩) 4 4), (5, .int .u8 0), (27, .int .i64 ((9 : Nat) : Int)), (70, .agg #[.int .i64 8, .int .i64 32, .int .i64 64]), (71, .int .i64 0), (9, .int .i64 0), (10, .int .i64 8), (11, .int .u64 ((v468 : Nat) : Int)), (12, .nilIface), (93, .int .i64 0), (97, .int .u8 ((v468 : Nat) : Int)), (99, .pointer (some ⟨b436, 3, none⟩))]) (φ := inR .u8 ((v468 : Nat) : Int) ∧ True) (rest := [4]) h483 (by kernel_rfl) rfl ⟨⟨by omega, by omega⟩, trivial⟩ fun a484 h485 => ?_
              clear h483
              refine nd_op ?_
              refine op_store tabOk2 {k := 2} (L' := [(b2, ⟨[.int .u8 0, .int .i64 0, .int .i64 0, .int .u8 0, .int .u32 0, .int .u64 0], 33, false⟩), (b13, ⟨[.string (bs x), .string (bs y0), .string (bs y1), .string (bs y2)], 9, false⟩), (b436, ⟨[.int .u8 0, .int .i64 0, .int .i64 0, .int .u8 ((v468 : Nat) : Int), .int .u32 0, .int .u64 0], 33, false⟩)]) (φ := b436 = b436 ∧ Nat.ble (3 + 1) 6 = true) h485 rfl rfl rfl (by kernel_rfl) ⟨rfl, rfl⟩ fun w486 h487 => ?_
              clear h485
              refine nd_done ?_
              refine hK456 _ _ ?_
              clear hK456
              refine nd_start (l := [0, 1]) rfl ?_
              refine nd_batch tabOk2 tabZ_ok2 [(0, {}), (1, {})] [8, 26, 2, 0, 3, 4, 5, 27, 70, 9, 10, 11, 12, 93, 71] (T' := [(8, .pointer (some ⟨b436, 0, none⟩)), (26, .agg verbsC.toArray), (2, .pointer (some ⟨b2, 0, none⟩)), (0, .string (bs l)), (3, .nilIface), (4, .slice (some ⟨b13, 0, none⟩) 4 4), (5, .int .u8 0), (27, .int .i64 ((9 : Nat) : Int)), (70, .agg #[.int .i64 8, .int .i64 32, .int .i64 64]), (9, .int .i64 0), (10, .int .i64 8), (11, .int .u64 ((v468 : Nat) : Int)), (12, .nilIface), (93, .int .i64 0), (71, .int .i64 1)]) (φ := inR .i64 1 ∧ True) (rest := []) h487 (by kernel_rfl) rfl ⟨⟨by decide, by decide⟩, trivial⟩ fun a488 h489 => ?_
              clear h487
              refine nd_done ?_
              refine rounds_step ?_
              refine wp_seq_k fun K490 hK490 => ?_
              refine nd_start (l := [0]) rfl ?_
              refine nd_batch tabOk2 tabZ_ok2 [(0, {})] [8, 26, 2, 0, 3, 4, 5, 27, 70, 9, 10, 11, 12, 93, 71, 72] (T' := [(8, .pointer (some ⟨b436, 0, none⟩)), (26, .agg verbsC.toArray), (2, .pointer (some ⟨b2, 0, none⟩)), (0, .string (bs l)), (3, .nilIface), (4, .slice (some ⟨b13, 0, none⟩) 4 4), (5, .int .u8 0), (27, .int .i64 ((9 : Nat) : Int)), (70, .agg #[.int .i64 8, .int .i64 32, .int .i64 64]), (9, .int .i64 0), (10, .int .i64 8), (11, .int .u64 ((v468 : Nat) : Int)), (12, .nilIface), (93, .int .i64 0), (71, .int .i64 1), (72, .bool true)]) (φ := True) (rest := []) h489 (by kernel_rfl) rfl trivial fun a491 h492 => ?_
              clear h489
              refine nd_done ?_
              refine hK490 _ _ ?_
              clear hK490
              refine wp_seq_k fun K493 hK493 => ?_
              refine c_true h492 rfl ?_
              refine wp_skip ?_
              refine hK493 _ _ ?_
              clear hK493
              refine wp_seq_k fun K494 hK494 => ?_
              refine wp_block ?_
              refine wp_seq_k fun K495 hK495 => ?_
              refine nd_start (l := [0, 1, 2, 3]) rfl ?_
              refine nd_batch tabOk2 tabZ_ok2 [(0, {})] [8, 26, 2, 0, 3, 4, 5, 27, 70, 9, 10, 11, 12, 93, 71, 73] (T' := [(8, .pointer (some ⟨b436, 0, none⟩)), (26, .agg verbsC.toArray), (2, .pointer (some ⟨b2, 0, none⟩)), (0, .string (bs l)), (3, .nilIface), (4, .slice (some ⟨b13, 0, none⟩) 4 4), (5, .int .u8 0), (27, .int .i64 ((9 : Nat) : Int)), (70, .agg #[.int .i64 8, .int .i64 32, .int .i64 64]), (9, .int .i64 0), (10, .int .i64 8), (11, .int .u64 ((v468 : Nat) : Int)), (12, .nilIface), (93, .int .i64 0), (71, .int .i64 1), (73, .int .i64 1)]) (φ := True) (rest := [1, 2, 3]) h492 (by kernel_rfl) rfl trivial fun a496 h497 => ?_
              clear h492
              refine nd_op ?_
              refine op_pure (v := .int .i64 32) h497 rfl rfl (pure_index tabOk2 h497.slots rfl rfl rfl rfl rfl rfl (by decide) (by decide) (φ := none) rfl trivial) ?_
              have h498 := h497.put (d := some 74) (v := .int .i64 32) (T' := [(74, .int .i64 32), (8, .pointer (some ⟨b436, 0, none⟩)), (26, .agg verbsC.toArray), (2, .pointer (some ⟨b2, 0, none⟩)), (0, .string (bs l)), (3, .nilIface), (4, .slice (some ⟨b13, 0, none⟩) 4 4), (5, .int .u8 0), (27, .int .i64 ((9 : Nat) : Int)), (70, .agg #[.int .i64 8, .int .i64 32, .int .i64 64]), (9, .int .i64 0), (10, .int .i64 8), (11, .int .u64 ((v468 : Nat) : Int)), (12, .nilIface), (93, .int .i64 0), (71, .int .i64 1), (73, .int .i64 1)]) rfl
              clear h497
              refine nd_batch tabOk2 tabZ_ok2 [(2, {}), (3, {})] [8, 26, 2, 0, 3, 4, 5, 27, 70, 11, 12, 93, 71, 9, 10] (T' := [(8, .pointer (some ⟨b436, 0, none⟩)), (26, .agg verbsC.toArray), (2, .pointer (some ⟨b2, 0, none⟩)), (0, .string (bs l)), (3, .nilIface), (4, .slice (some ⟨b13, 0, none⟩) 4 4), (5, .int .u8 0), (27, .int .i64 ((9 : Nat) : Int)), (70, .agg #[.int .i64 8, .int .i64 32, .int .i64 64]), (11, .int .u64 ((v468 : Nat) : Int)), (12, .nilIface), (93, .int .i64 0), (71, .int .i64 1), (9, .int .i64 1), (10, .int .i64 32)]) (φ := True) (rest := []) h498 (by kernel_rfl) rfl trivial fun a499 h500 => ?_
              clear h498
              refine nd_done ?_
              refine hK495 _ _ ?_
              clear hK495
              refine wp_seq_k fun K501 hK501 => ?_
              refine nd_start (l := [0, 1, 2, 3, 4, 5, 6, 7, 8, 9, 10, 11]) rfl ?_
              refine nd_batch tabOk2 tabZ_ok2 [(0, {}), (1, {}), (2, {}), (3, {}), (4, {k := 1}), (5, {})] [8, 26, 2, 0, 3, 4, 5, 27, 70, 11, 12, 93, 71, 9, 10, 80, 81] (T' := [(8, .pointer (some ⟨b436, 0, none⟩)), (26, .agg verbsC.toArray), (2, .pointer (some ⟨b2, 0, none⟩)), (0, .string (bs l)), (3, .nilIface), (4, .slice (some ⟨b13, 0, none⟩) 4 4), (5, .int .u8 0), (27, .int .i64 ((9 : Nat) : Int)), (70, .agg #[.int .i64 8, .int .i64 32, .int .i64 64]), (11, .int .u64 ((v468 : Nat) : Int)), (12, .nilIface), (93, .int .i64 0), (71, .int .i64 1), (9, .int .i64 1), (10, .int .i64 32), (80, .string (bs y1)), (81, .int .i64 32)]) (φ := inR .i64 2 ∧ (0 ≤ (2 : Int) ∧ (2 : Int) < 4) ∧ (b13 = b13 ∧ Nat.ble (2 + 1) 4 = true) ∧ True) (rest := [6, 7, 8, 9, 10, 11]) h500 (by kernel_rfl) rfl ⟨⟨by decide, by decide⟩, ⟨by decide, by decide⟩, ⟨rfl, rfl⟩, trivial⟩ fun a502 h503 => ?_
              clear h500
              refine nd_op ?_
              refine op_call h503 rfl rfl rfl (callOk Tryf.func19 (by decide) rfl) (args := [.string (bs y1), .int .i64 10, .int .i64 32]) rfl (parse32_ok y1 hly1 _ (hg.fr h503.frame).lib) ?_
              rintro _ w504 ⟨hf505, ⟨v506, hv507, rfl⟩ | ⟨hv507, v506, t, p, rfl⟩⟩
              ·
                refine ⟨_, rfl, ?_⟩
                have hn1 : numB 32 y1 = some ((v506 : Nat) : Int) := numB_ok hv507
                have hv507b := Lib.parseUintB_le hv507
                simp only [Nat.reducePow, Nat.reduceSub] at hv507b
                have h508 := (h503.grow hf505).put (d := some 82) (v := .tuple #[.int .u64 ((v506 : Nat) : Int), .nilIface]) (T' := [(82, .tuple #[.int .u64 ((v506 : Nat) : Int), .nilIface]), (8, .pointer (some ⟨b436, 0, none⟩)), (26, .agg verbsC.toArray), (2, .pointer (some ⟨b2, 0, none⟩)), (0, .string (bs l)), (3, .nilIface), (4, .slice (some ⟨b13, 0, none⟩) 4 4), (5, .int .u8 0), (27, .int .i64 ((9 : Nat) : Int)), (70, .agg #[.int .i64 8, .int .i64 32, .int .i64 64]), (11, .int .u64 ((v468 : Nat) : Int)), (12, .nilIface), (93, .int .i64 0), (71, .int .i64 1), (9, .int .i64 1), (10, .int .i64 32), (80, .string (bs y1)), (81, .int .i64 32)]) rfl
                clear h503
                refine nd_batch tabOk2 tabZ_ok2 [(7, {}), (8, {}), (9, {}), (10, {}), (11, {})] [8, 26, 2, 0, 3, 4, 5, 27, 70, 93, 71, 9, 10, 11, 12] (T' := [(8, .pointer (some ⟨b436, 0, none⟩)), (26, .agg verbsC.toArray), (2, .pointer (some ⟨b2, 0, none⟩)), (0, .string (bs l)), (3, .nilIface), (4, .slice (some ⟨b13, 0, none⟩) 4 4), (5, .int .u8 0), (27, .int .i64 ((9 : Nat) : Int)), (70, .agg #[.int .i64 8, .int .i64 32, .int .i64 64]), (93, .int .i64 0), (71, .int .i64 1), (9, .int .i64 1), (10, .int .i64 32), (11, .int .u64 ((v506 : Nat) : Int)), (12, .nilIface)]) (φ := True) (rest := []) h508 (by kernel_rfl) rfl trivial fun a509 h510 => ?_
                clear h508
                refine nd_done ?_
                refine hK501 _ _ ?_
                clear hK501
                refine wp_seq_k fun K511 hK511 => ?_
                refine wp_seq_k fun K512 hK512 => ?_
                refine nd_start (l := [0, 1]) rfl ?_
                refine nd_batch tabOk2 tabZ_ok2 [(0, {})] [8, 26, 2, 0, 3, 4, 5, 27, 70, 93, 71, 9, 10, 11, 12, 85] (T' := [(8, .pointer (some ⟨b436, 0, none⟩)), (26, .agg verbsC.toArray), (2, .pointer (some ⟨b2, 0, none⟩)), (0, .string (bs l)), (3, .nilIface), (4, .slice (some ⟨b13, 0, none⟩) 4 4), (5, .int .u8 0), (27, .int .i64 ((9 : Nat) : Int)), (70, .agg #[.int .i64 8, .int .i64 32, .int .i64 64]), (93, .int .i64 0), (71, .int .i64 1), (9, .int .i64 1), (10, .int .i64 32), (11, .int .u64 ((v506 : Nat) : Int)), (12, .nilIface), (85, .nilIface)]) (φ := True) (rest := [1]) h510 (by kernel_rfl) rfl trivial fun a513 h514 => ?_
                clear h510
                refine nd_op ?_
                refine op_pure (v := .bool false) h514 rfl rfl (p_nilne h514.slots rfl rfl (.inl rfl) iface37) ?_
                have h515 := h514.put (d := some 86) (v := .bool false) (T' := [(86, .bool false), (8, .pointer (some ⟨b436, 0, none⟩)), (26, .agg verbsC.toArray), (2, .pointer (some ⟨b2, 0, none⟩)), (0, .string (bs l)), (3, .nilIface), (4, .slice (some ⟨b13, 0, none⟩) 4 4), (5, .int .u8 0), (27, .int .i64 ((9 : Nat) : Int)), (70, .agg #[.int .i64 8, .int .i64 32, .int .i64 64]), (93, .int .i64 0), (71, .int .i64 1), (9, .int .i64 1), (10, .int .i64 32), (11, .int .u64 ((v506 : Nat) : Int)), (12, .nilIface), (85, .nilIface)]) rfl
                clear h514
                refine nd_done ?_
                refine hK512 _ _ ?_
                clear hK512
                refine c_false h515 rfl ?_
                refine wp_skip ?_
                refine hK511 _ _ ?_
                clear hK511
                refine wp_seq_k fun K516 hK516 => ?_
                refine nd_start (l := [0]) rfl ?_
                refine nd_batch tabOk2 tabZ_ok2 [(0, {})] [8, 26, 2, 0, 3, 4, 5, 27, 70, 71, 9, 10, 11, 12, 93] (T' := [(8, .pointer (some ⟨b436, 0, none⟩)), (26, .agg verbsC.toArray), (2, .pointer (some ⟨b2, 0, none⟩)), (0, .string (bs l)), (3, .nilIface), (4, .slice (some ⟨b13, 0, none⟩) 4 4), (5, .int .u8 0), (27, .int .i64 ((9 : Nat) : Int)), (70, .agg #[.int .i64 8, .int .i64 32, .int .i64 64]), (71, .int .i64 1), (9, .int .i64 1), (10, .int .i64 32), (11, .int .u64 ((v506 : Nat) : Int)), (12, .nilIface), (93, .int .i64 1)]) (φ := True) (rest := []) h515 (by kernel_rfl) rfl trivial fun a517 h518 => ?_
                clear h515
                refine nd_done ?_
                refine hK516 _ _ ?_
                clear hK516
                refine wp_block ?_
                refine wp_seq_k fun K519 hK519 => ?_
                refine nd_start (l := [0, 1]) rfl ?_
                refine nd_batch tabOk2 tabZ_ok2 [(0, {}), (1, {})] [8, 26, 2, 0, 3, 4, 5, 27, 70, 71, 9, 10, 11, 12, 93, 94] (T' := [(8, .pointer (some ⟨b436, 0, none⟩)), (26, .agg verbsC.toArray), (2, .pointer (some ⟨b2, 0, none⟩)), (0, .string (bs l)), (3, .nilIface), (4, .slice (some ⟨b13, 0, none⟩) 4 4), (5, .int .u8 0), (27, .int .i64 ((9 : Nat) : Int)), (70, .agg #[.int .i64 8, .int .i64 32, .int .i64 64]), (71, .int .i64 1), (9, .int .i64 1), (10, .int .i64 32), (11, .int .u64 ((v506 : Nat) : Int)), (12, .nilIface), (93, .int .i64 1), (94, .bool false)]) (φ := True) (rest := []) h518 (by kernel_rfl) rfl trivial fun a520 h521 => ?_
                clear h518
                refine nd_done ?_
                refine hK519 _ _ ?_
                clear hK519
                refine c_false h521 rfl ?_
                refine wp_seq_k fun K522 hK522 => ?_
                refine nd_start (l := [0, 1]) rfl ?_
                refine nd_batch tabOk2 tabZ_ok2 [(0, {}), (1, {})] [8, 26, 2, 0, 3, 4, 5, 27, 70, 71, 9, 10, 11, 12, 93, 100] (T' := [(8, .pointer (some ⟨b436, 0, none⟩)), (26, .agg verbsC.toArray), (2, .pointer (some ⟨b2, 0, none⟩)), (0, .string (bs l)), (3, .nilIface), (4, .slice (some ⟨b13, 0, none⟩) 4 4), (5, .int .u8 0), (27, .int .i64 ((9 : Nat) : Int)), (70, .agg #[.int .i64 8, .int .i64 32, .int .i64 64]), (71, .int .i64 1), (9, .int .i64 1), (10, .int .i64 32), (11, .int .u64 ((v506 : Nat) : Int)), (12, .nilIface), (93, .int .i64 1), (100, .bool true)]) (φ := True) (rest := []) h521 (by kernel_rfl) rfl trivial fun a523 h524 => ?_
                clear h521
                refine nd_done ?_
                refine hK522 _ _ ?_
                clear hK522
                refine c_true h524 rfl ?_
                refine nd_start (l := [0, 1, 2, 3, 4]) rfl ?_
                refine nd_batch tabOk2 tabZ_ok2 [(0, {}), (1, {}), (2, {}), (3, {})] [8, 26, 2, 0, 3, 4, 5, 27, 70, 71, 9, 10, 11, 12, 93, 103, 105] (T' := [(8, .pointer (some ⟨b436, 0, none⟩)), (26, .agg verbsC.toArray), (2, .pointer (some ⟨b2, 0, none⟩)), (0, .string (bs l)), (3, .nilIface), (4, .slice (some ⟨b13, 0, none⟩) 4 4), (5, .int .u8 0), (27, .int .i64 ((9 : Nat) : Int)), (70, .agg #[.int .i64 8, .int .i64 32, .int .i64 64]), (71, .int .i64 1), (9, .int .i64 1), (10, .int .i64 32), (11, .int .u64 ((v506 : Nat) : Int)), (12, .nilIface), (93, .int .i64 1), (103, .int .u32 ((v506 : Nat) : Int)), (105, .pointer (some ⟨b436, 4, none⟩))]) (φ := inR .u32 ((v506 : Nat) : Int) ∧ True) (rest := [4]) h524 (by kernel_rfl) rfl ⟨⟨by omega, by omega⟩, trivial⟩ fun a525 h526 => ?_
                clear h524
                refine nd_op ?_
                refine op_store tabOk2 {k := 2} (L' := [(b2, ⟨[.int .u8 0, .int .i64 0, .int .i64 0, .int .u8 0, .int .u32 0, .int .u64 0], 33, false⟩), (b13, ⟨[.string (bs x), .string (bs y0), .string (bs y1), .string (bs y2)], 9, false⟩), (b436, ⟨[.int .u8 0, .int .i64 0, .int .i64 0, .int .u8 ((v468 : Nat) : Int), .int .u32 ((v506 : Nat) : Int), .int .u64 0], 33, false⟩)]) (φ := b436 = b436 ∧ Nat.ble (4 + 1) 6 = true) h526 rfl rfl rfl (by kernel_rfl) ⟨rfl, rfl⟩ fun w527 h528 => ?_
                clear h526
                refine nd_done ?_
                refine hK494 _ _ ?_
                clear hK494
                refine nd_start (l := [0, 1]) rfl ?_
                refine nd_batch tabOk2 tabZ_ok2 [(0, {}), (1, {})] [8, 26, 2, 0, 3, 4, 5, 27, 70, 9, 10, 11, 12, 93, 71] (T' := [(8, .pointer (some ⟨b436, 0, none⟩)), (26, .agg verbsC.toArray), (2, .pointer (some ⟨b2, 0, none⟩)), (0, .string (bs l)), (3, .nilIface), (4, .slice (some ⟨b13, 0, none⟩) 4 4), (5, .int .u8 0), (27, .int .i64 ((9 : Nat) : Int)), (70, .agg #[.int .i64 8, .int .i64 32, .int .i64 64]), (9, .int .i64 1), (10, .int .i64 32), (11, .int .u64 ((v506 : Nat) : Int)), (12, .nilIface), (93, .int .i64 1), (71, .int .i64 2)]) (φ := inR .i64 2 ∧ True) (rest := []) h528 (by kernel_rfl) rfl ⟨⟨by decide, by decide⟩, trivial⟩ fun a529 h530 => ?_
                clear h528
                refine nd_done ?_
                refine rounds_step ?_
                refine wp_seq_k fun K531 hK531 => ?_
                refine nd_start (l := [0]) rfl ?_
                refine nd_batch tabOk2 tabZ_ok2 [(0, {})] [8, 26, 2, 0, 3, 4, 5, 27, 70, 9, 10, 11, 12, 93, 71, 72] (T' := [(8, .pointer (some ⟨b436, 0, none⟩)), (26, .agg verbsC.toArray), (2, .pointer (some ⟨b2, 0, none⟩)), (0, .string (bs l)), (3, .nilIface), (4, .slice (some ⟨b13, 0, none⟩) 4 4), (5, .int .u8 0), (27, .int .i64 ((9 : Nat) : Int)), (70, .agg #[.int .i64 8, .int .i64 32, .int .i64 64]), (9, .int .i64 1), (10, .int .i64 32), (11, .int .u64 ((v506 : Nat) : Int)), (12, .nilIface), (93, .int .i64 1), (71, .int .i64 2), (72, .bool true)]) (φ := True) (rest := []) h530 (by kernel_rfl) rfl trivial fun a532 h533 => ?_
                clear h530
                refine nd_done ?_
                refine hK531 _ _ ?_
                clear hK531
                refine wp_seq_k fun K534 hK534 => ?_
                refine c_true h533 rfl ?_
                refine wp_skip ?_
                refine hK534 _ _ ?_
                clear hK534
                refine wp_seq_k fun K535 hK535 => ?_
                refine wp_block ?_
                refine wp_seq_k fun K536 hK536 => ?_
                refine nd_start (l := [0, 1, 2, 3]) rfl ?_
                refine nd_batch tabOk2 tabZ_ok2 [(0, {})] [8, 26, 2, 0, 3, 4, 5, 27, 70, 9, 10, 11, 12, 93, 71, 73] (T' := [(8, .pointer (some ⟨b436, 0, none⟩)), (26, .agg verbsC.toArray), (2, .pointer (some ⟨b2, 0, none⟩)), (0, .string (bs l)), (3, .nilIface), (4, .slice (some ⟨b13, 0, none⟩) 4 4), (5, .int .u8 0), (27, .int .i64 ((9 : Nat) : Int)), (70, .agg #[.int .i64 8, .int .i64 32, .int .i64 64]), (9, .int .i64 1), (10, .int .i64 32), (11, .int .u64 ((v506 : Nat) : Int)), (12, .nilIface), (93, .int .i64 1), (71, .int .i64 2), (73, .int .i64 2)]) (φ := True) (rest := [1, 2, 3]) h533 (by kernel_rfl) rfl trivial fun a537 h538 => ?_
                clear h533
                refine nd_op ?_
                refine op_pure (v := .int .i64 64) h538 rfl rfl (pure_index tabOk2 h538.slots rfl rfl rfl rfl rfl rfl (by decide) (by decide) (φ := none) rfl trivial) ?_
                have h539 := h538.put (d := some 74) (v := .int .i64 64) (T' := [(74, .int .i64 64), (8, .pointer (some ⟨b436, 0, none⟩)), (26, .agg verbsC.toArray), (2, .pointer (some ⟨b2, 0, none⟩)), (0, .string (bs l)), (3, .nilIface), (4, .slice (some ⟨b13, 0, none⟩) 4 4), (5, .int .u8 0), (27, .int .i64 ((9 : Nat) : Int)), (70, .agg #[.int .i64 8, .int .i64 32, .int .i64 64]), (9, .int .i64 1), (10, .int .i64 32), (11, .int .u64 ((v506 : Nat) : Int)), (12, .nilIface), (93, .int .i64 1), (71, .int .i64 2), (73, .int .i64 2)]) rfl
                clear h538
                refine nd_batch tabOk2 tabZ_ok2 [(2, {}), (3, {})] [8, 26, 2, 0, 3, 4, 5, 27, 70, 11, 12, 93, 71, 9, 10] (T' := [(8, .pointer (some ⟨b436, 0, none⟩)), (26, .agg verbsC.toArray), (2, .pointer (some ⟨b2, 0, none⟩)), (0, .string (bs l)), (3, .nilIface), (4, .slice (some ⟨b13, 0, none⟩) 4 4), (5, .int .u8 0), (27, .int .i64 ((9 : Nat) : Int)), (70, .agg #[.int .i64 8, .int .i64 32, .int .i64 64]), (11, .int .u64 ((v506 : Nat) : Int)), (12, .nilIface), (93, .int .i64 1), (71, .int .i64 2), (9, .int .i64 2), (10, .int .i64 64)]) (φ := True) (rest := []) h539 (by kernel_rfl) rfl trivial fun a540 h541 => ?_
                clear h539
                refine nd_done ?_
                refine hK536 _ _ ?_
                clear hK536
                refine wp_seq_k fun K542 hK542 => ?_
                refine nd_start (l := [0, 1, 2, 3, 4, 5, 6, 7, 8, 9, 10, 11]) rfl ?_
                refine nd_batch tabOk2 tabZ_ok2 [(0, {}), (1, {}), (2, {}), (3, {}), (4, {k := 1}), (5, {})] [8, 26, 2, 0, 3, 4, 5, 27, 70, 11, 12, 93, 71, 9, 10, 80, 81] (T' := [(8, .pointer (some ⟨b436, 0, none⟩)), (26, .agg verbsC.toArray), (2, .pointer (some ⟨b2, 0, none⟩)), (0, .string (bs l)), (3, .nilIface), (4, .slice (some ⟨b13, 0, none⟩) 4 4), (5, .int .u8 0), (27, .int .i64 ((9 : Nat) : Int)), (70, .agg #[.int .i64 8, .int .i64 32, .int .i64 64]), (11, .int .u64 ((v506 : Nat) : Int)), (12, .nilIface), (93, .int .i64 1), (71, .int .i64 2), (9, .int .i64 2), (10, .int .i64 64), (80, .string (bs y2)), (81, .int .i64 64)]) (φ := inR .i64 3 ∧ (0 ≤ (3 : Int) ∧ (3 : Int) < 4) ∧ (b13 = b13 ∧ Nat.ble (3 + 1) 4 = true) ∧ True) (rest := [6, 7, 8, 9, 10, 11]) h541 (by kernel_rfl) rfl ⟨⟨by decide, by decide⟩, ⟨by decide, by decide⟩, ⟨rfl, rfl⟩, trivial⟩ fun a543 h544 => ?_
                clear h541
                refine nd_op ?_
                refine op_call h544 rfl rfl rfl (callOk Tryf.func19 (by decide) rfl) (args := [.string (bs y2), .int .i64 10, .int .i64 64]) rfl (parse64_ok y2 hly2 _ (hg.fr h544.frame).lib) ?_
                rintro _ w545 ⟨hf546, ⟨v547, hv548, rfl⟩ | ⟨hv548, v547, t, p, rfl⟩⟩
                ·
                  refine ⟨_, rfl, ?_⟩
                  have hn2 : numB 64 y2 = some ((v547 : Nat) : Int) := numB_ok hv548
                  have hv548b := Lib.parseUintB_le hv548
                  simp only [Nat.reducePow, Nat.reduceSub] at hv548b
                  have h549 := (h544.grow hf546).put (d := some 82) (v := .tuple #[.int .u64 ((v547 : Nat) : Int), .nilIface]) (T' := [(82, .tuple #[.int .u64 ((v547 : Nat) : Int), .nilIface]), (8, .pointer (some ⟨b436, 0, none⟩)), (26, .agg verbsC.toArray), (2, .pointer (some ⟨b2, 0, none⟩)), (0, .string (bs l)), (3, .nilIface), (4, .slice (some ⟨b13, 0, none⟩) 4 4), (5, .int .u8 0), (27, .int .i64 ((9 : Nat) : Int)), (70, .agg #[.int .i64 8, .int .i64 32, .int .i64 64]), (11, .int .u64 ((v506 : Nat) : Int)), (12, .nilIface), (93, .int .i64 1), (71, .int .i64 2), (9, .int .i64 2), (10, .int .i64 64), (80, .string (bs y2)), (81, .int .i64 64)]) rfl
                  clear h544
                  refine nd_batch tabOk2 tabZ_ok2 [(7, {}), (8, {}), (9, {}), (10, {}), (11, {})] [8, 26, 2, 0, 3, 4, 5, 27, 70, 93, 71, 9, 10, 11, 12] (T' := [(8, .pointer (some ⟨b436, 0, none⟩)), (26, .agg verbsC.toArray), (2, .pointer (some ⟨b2, 0, none⟩)), (0, .string (bs l)), (3, .nilIface), (4, .slice (some ⟨b13, 0, none⟩) 4 4), (5, .int .u8 0), (27, .int .i64 ((9 : Nat) : Int)), (70, .agg #[.int .i64 8, .int .i64 32, .int .i64 64]), (93, .int .i64 1), (71, .int .i64 2), (9, .int .i64 2), (10, .int .i64 64), (11, .int .u64 ((v547 : Nat) : Int)), (12, .nilIface)]) (φ := True) (rest := []) h549 (by kernel_rfl) rfl trivial fun a550 h551 => ?_
                  clear h549
                  refine nd_done ?_
                  refine hK542 _ _ ?_
                  clear hK542
                  refine wp_seq_k fun K552 hK552 => ?_
                  refine wp_seq_k fun K553 hK553 => ?_
                  refine nd_start (l := [0, 1]) rfl ?_
                  refine nd_batch tabOk2 tabZ_ok2 [(0, {})] [8, 26, 2, 0, 3, 4, 5, 27, 70, 93, 71, 9, 10, 11, 12, 85] (T' := [(8, .pointer (some ⟨b436, 0, none⟩)), (26, .agg verbsC.toArray), (2, .pointer (some ⟨b2, 0, none⟩)), (0, .string (bs l)), (3, .nilIface), (4, .slice (some ⟨b13, 0, none⟩) 4 4), (5, .int .u8 0), (27, .int .i64 ((9 : Nat) : Int)), (70, .agg #[.int .i64 8, .int .i64 32, .int .i64 64]), (93, .int .i64 1), (71, .int .i64 2), (9, .int .i64 2), (10, .int .i64 64), (11, .int .u64 ((v547 : Nat) : Int)), (12, .nilIface), (85, .nilIface)]) (φ := True) (rest := [1]) h551 (by kernel_rfl) rfl trivial fun a554 h555 => ?_
                  clear h551
                  refine nd_op ?_
                  refine op_pure (v := .bool false) h555 rfl rfl (p_nilne h555.slots rfl rfl (.inl rfl) iface37) ?_
                  have h556 := h555.put (d := some 86) (v := .bool false) (T' := [(86, .bool false), (8, .pointer (some ⟨b436, 0, none⟩)), (26, .agg verbsC.toArray), (2, .pointer (some ⟨b2, 0, none⟩)), (0, .string (bs l)), (3, .nilIface), (4, .slice (some ⟨b13, 0, none⟩) 4 4), (5, .int .u8 0), (27, .int .i64 ((9 : Nat) : Int)), (70, .agg #[.int .i64 8, .int .i64 32, .int .i64 64]), (93, .int .i64 1), (71, .int .i64 2), (9, .int .i64 2), (10, .int .i64 64), (11, .int .u64 ((v547 : Nat) : Int)), (12, .nilIface), (85, .nilIface)]) rfl
                  clear h555
                  refine nd_done ?_
                  refine hK553 _ _ ?_
                  clear hK553
                  refine c_false h556 rfl ?_
                  refine wp_skip ?_
                  refine hK552 _ _ ?_
                  clear hK552
                  refine wp_seq_k fun K557 hK557 => ?_
                  refine nd_start (l := [0]) rfl ?_
                  refine nd_batch tabOk2 tabZ_ok2 [(0, {})] [8, 26, 2, 0, 3, 4, 5, 27, 70, 71, 9, 10, 11, 12, 93] (T' := [(8, .pointer (some ⟨b436, 0, none⟩)), (26, .agg verbsC.toArray), (2, .pointer (some ⟨b2, 0, none⟩)), (0, .string (bs l)), (3, .nilIface), (4, .slice (some ⟨b13, 0, none⟩) 4 4), (5, .int .u8 0), (27, .int .i64 ((9 : Nat) : Int)), (70, .agg #[.int .i64 8, .int .i64 32, .int .i64 64]), (71, .int .i64 2), (9, .int .i64 2), (10, .int .i64 64), (11, .int .u64 ((v547 : Nat) : Int)), (12, .nilIface), (93, .int .i64 2)]) (φ := True) (rest := []) h556 (by kernel_rfl) rfl trivial fun a558 h559 => ?_
                  clear h556
                  refine nd_done ?_
                  refine hK557 _ _ ?_
                  clear hK557
                  refine wp_block ?_
                  refine wp_seq_k fun K560 hK560 => ?_
                  refine nd_start (l := [0, 1]) rfl ?_
                  refine nd_batch tabOk2 tabZ_ok2 [(0, {}), (1, {})] [8, 26, 2, 0, 3, 4, 5, 27, 70, 71, 9, 10, 11, 12, 93, 94] (T' := [(8, .pointer (some ⟨b436, 0, none⟩)), (26, .agg verbsC.toArray), (2, .pointer (some ⟨b2, 0, none⟩)), (0, .string (bs l)), (3, .nilIface), (4, .slice (some ⟨b13, 0, none⟩) 4 4), (5, .int .u8 0), (27, .int .i64 ((9 : Nat) : Int)), (70, .agg #[.int .i64 8, .int .i64 32, .int .i64 64]), (71, .int .i64 2), (9, .int .i64 2), (10, .int .i64 64), (11, .int .u64 ((v547 : Nat) : Int)), (12, .nilIface), (93, .int .i64 2), (94, .bool false)]) (φ := True) (rest := []) h559 (by kernel_rfl) rfl trivial fun a561 h562 => ?_
                  clear h559
                  refine nd_done ?_
                  refine hK560 _ _ ?_
                  clear hK560
                  refine c_false h562 rfl ?_
                  refine wp_seq_k fun K563 hK563 => ?_
                  refine nd_start (l := [0, 1]) rfl ?_
                  refine nd_batch tabOk2 tabZ_ok2 [(0, {}), (1, {})] [8, 26, 2, 0, 3, 4, 5, 27, 70, 71, 9, 10, 11, 12, 93, 100] (T' := [(8, .pointer (some ⟨b436, 0, none⟩)), (26, .agg verbsC.toArray), (2, .pointer (some ⟨b2, 0, none⟩)), (0, .string (bs l)), (3, .nilIface), (4, .slice (some ⟨b13, 0, none⟩) 4 4), (5, .int .u8 0), (27, .int .i64 ((9 : Nat) : Int)), (70, .agg #[.int .i64 8, .int .i64 32, .int .i64 64]), (71, .int .i64 2), (9, .int .i64 2), (10, .int .i64 64), (11, .int .u64 ((v547 : Nat) : Int)), (12, .nilIface), (93, .int .i64 2), (100, .bool false)]) (φ := True) (rest := []) h562 (by kernel_rfl) rfl trivial fun a564 h565 => ?_
                  clear h562
                  refine nd_done ?_
                  refine hK563 _ _ ?_
                  clear hK563
                  refine c_false h565 rfl ?_
                  refine wp_seq_k fun K566 hK566 => ?_
                  refine nd_start (l := [0, 1]) rfl ?_
                  refine nd_batch tabOk2 tabZ_ok2 [(0, {}), (1, {})] [8, 26, 2, 0, 3, 4, 5, 27, 70, 71, 9, 10, 11, 12, 93, 106] (T' := [(8, .pointer (some ⟨b436, 0, none⟩)), (26, .agg verbsC.toArray), (2, .pointer (some ⟨b2, 0, none⟩)), (0, .string (bs l)), (3, .nilIface), (4, .slice (some ⟨b13, 0, none⟩) 4 4), (5, .int .u8 0), (27, .int .i64 ((9 : Nat) : Int)), (70, .agg #[.int .i64 8, .int .i64 32, .int .i64 64]), (71, .int .i64 2), (9, .int .i64 2), (10, .int .i64 64), (11, .int .u64 ((v547 : Nat) : Int)), (12, .nilIface), (93, .int .i64 2), (106, .bool true)]) (φ := True) (rest := []) h565 (by kernel_rfl) rfl trivial fun a567 h568 => ?_
                  clear h565
                  refine nd_done ?_
                  refine hK566 _ _ ?_
                  clear hK566
                  refine c_true h568 rfl ?_
                  refine nd_start (l := [0, 1, 2, 3]) rfl ?_
                  refine nd_batch tabOk2 tabZ_ok2 [(0, {}), (1, {}), (2, {})] [8, 26, 2, 0, 3, 4, 5, 27, 70, 71, 9, 10, 11, 12, 93, 108, 110] (T' := [(8, .pointer (some ⟨b436, 0, none⟩)), (26, .agg verbsC.toArray), (2, .pointer (some ⟨b2, 0, none⟩)), (0, .string (bs l)), (3, .nilIface), (4, .slice (some ⟨b13, 0, none⟩) 4 4), (5, .int .u8 0), (27, .int .i64 ((9 : Nat) : Int)), (70, .agg #[.int .i64 8, .int .i64 32, .int .i64 64]), (71, .int .i64 2), (9, .int .i64 2), (10, .int .i64 64), (11, .int .u64 ((v547 : Nat) : Int)), (12, .nilIface), (93, .int .i64 2), (108, .int .u64 ((v547 : Nat) : Int)), (110, .pointer (some ⟨b436, 5, none⟩))]) (φ := True) (rest := [3]) h568 (by kernel_rfl) rfl trivial fun a569 h570 => ?_
                  clear h568
                  refine nd_op ?_
                  refine op_store tabOk2 {k := 2} (L' := [(b2, ⟨[.int .u8 0, .int .i64 0, .int .i64 0, .int .u8 0, .int .u32 0, .int .u64 0], 33, false⟩), (b13, ⟨[.string (bs x), .string (bs y0), .string (bs y1), .string (bs y2)], 9, false⟩), (b436, ⟨[.int .u8 0, .int .i64 0, .int .i64 0, .int .u8 ((v468 : Nat) : Int), .int .u32 ((v506 : Nat) : Int), .int .u64 ((v547 : Nat) : Int)], 33, false⟩)]) (φ := b436 = b436 ∧ Nat.ble (5 + 1) 6 = true) h570 rfl rfl rfl (by kernel_rfl) ⟨rfl, rfl⟩ fun w571 h572 => ?_
                  clear h570
                  refine nd_done ?_
                  refine hK535 _ _ ?_
                  clear hK535
                  refine nd_start (l := [0, 1]) rfl ?_
                  refine nd_batch tabOk2 tabZ_ok2 [(0, {}), (1, {})] [8, 26, 2, 0, 3, 4, 5, 27, 70, 9, 10, 11, 12, 93, 71] (T' := [(8, .pointer (some ⟨b436, 0, none⟩)), (26, .agg verbsC.toArray), (2, .pointer (some ⟨b2, 0, none⟩)), (0, .string (bs l)), (3, .nilIface), (4, .slice (some ⟨b13, 0, none⟩) 4 4), (5, .int .u8 0), (27, .int .i64 ((9 : Nat) : Int)), (70, .agg #[.int .i64 8, .int .i64 32, .int .i64 64]), (9, .int .i64 2), (10, .int .i64 64), (11, .int .u64 ((v547 : Nat) : Int)), (12, .nilIface), (93, .int .i64 2), (71, .int .i64 3)]) (φ := inR .i64 3 ∧ True) (rest := []) h572 (by kernel_rfl) rfl ⟨⟨by decide, by decide⟩, trivial⟩ fun a573 h574 => ?_
                  clear h572
                  refine nd_done ?_
                  refine rounds_step ?_
                  refine wp_seq_k fun K575 hK575 => ?_
                  refine nd_start (l := [0]) rfl ?_
                  refine nd_batch tabOk2 tabZ_ok2 [(0, {})] [8, 26, 2, 0, 3, 4, 5, 27, 70, 9, 10, 11, 12, 93, 71, 72] (T' := [(8, .pointer (some ⟨b436, 0, none⟩)), (26, .agg verbsC.toArray), (2, .pointer (some ⟨b2, 0, none⟩)), (0, .string (bs l)), (3, .nilIface), (4, .slice (some ⟨b13, 0, none⟩) 4 4), (5, .int .u8 0), (27, .int .i64 ((9 : Nat) : Int)), (70, .agg #[.int .i64 8, .int .i64 32, .int .i64 64]), (9, .int .i64 2), (10, .int .i64 64), (11, .int .u64 ((v547 : Nat) : Int)), (12, .nilIface), (93, .int .i64 2), (71, .int .i64 3), (72, .bool false)]) (φ := True) (rest := []) h574 (by kernel_rfl) rfl trivial fun a576 h577 => ?_
                  clear h574
                  refine nd_done ?_
                  refine hK575 _ _ ?_
                  clear hK575
                  refine wp_seq_k fun K578 hK578 => ?_
                  refine c_false h577 rfl ?_
                  refine wp_exit ?_
                  refine hK448 _ _ ?_
                  clear hK448
                  refine wp_seq_k fun K579 hK579 => ?_
                  refine nd_start (l := [0, 1, 2]) rfl ?_
                  refine nd_batch tabOk2 tabZ_ok2 [(0, {k := 2})] [8, 26, 2, 0, 3, 4, 5, 27, 70, 9, 10, 11, 12, 93, 71, 112] (T' := [(8, .pointer (some ⟨b436, 0, none⟩)), (26, .agg verbsC.toArray), (2, .pointer (some ⟨b2, 0, none⟩)), (0, .string (bs l)), (3, .nilIface), (4, .slice (some ⟨b13, 0, none⟩) 4 4), (5, .int .u8 0), (27, .int .i64 ((9 : Nat) : Int)), (70, .agg #[.int .i64 8, .int .i64 32, .int .i64 64]), (9, .int .i64 2), (10, .int .i64 64), (11, .int .u64 ((v547 : Nat) : Int)), (12, .nilIface), (93, .int .i64 2), (71, .int .i64 3), (112, .agg #[.int .u8 0, .int .i64 0, .int .i64 0, .int .u8 ((v468 : Nat) : Int), .int .u32 ((v506 : Nat) : Int), .int .u64 ((v547 : Nat) : Int)])]) (φ := (b436 = b436 ∧ Nat.ble (0 + 6) 6 = true) ∧ True) (rest := [1, 2]) h577 (by kernel_rfl) rfl ⟨⟨rfl, rfl⟩, trivial⟩ fun a580 h581 => ?_
                  clear h577
                  refine nd_op ?_
                  refine op_store tabOk2 {k := 0} (L' := [(b2, ⟨[.int .u8 0, .int .i64 0, .int .i64 0, .int .u8 ((v468 : Nat) : Int), .int .u32 ((v506 : Nat) : Int), .int .u64 ((v547 : Nat) : Int)], 33, false⟩), (b13, ⟨[.string (bs x), .string (bs y0), .string (bs y1), .string (bs y2)], 9, false⟩), (b436, ⟨[.int .u8 0, .int .i64 0, .int .i64 0, .int .u8 ((v468 : Nat) : Int), .int .u32 ((v506 : Nat) : Int), .int .u64 ((v547 : Nat) : Int)], 33, false⟩)]) (φ := b2 = b2 ∧ Nat.ble (0 + 6) 6 = true) h581 rfl rfl rfl (by kernel_rfl) ⟨rfl, rfl⟩ fun w582 h583 => ?_
                  clear h581
                  refine nd_batch tabOk2 tabZ_ok2 [(2, {})] [8, 26, 2, 0, 4, 5, 27, 70, 9, 10, 11, 12, 93, 71, 3] (T' := [(8, .pointer (some ⟨b436, 0, none⟩)), (26, .agg verbsC.toArray), (2, .pointer (some ⟨b2, 0, none⟩)), (0, .string (bs l)), (4, .slice (some ⟨b13, 0, none⟩) 4 4), (5, .int .u8 0), (27, .int .i64 ((9 : Nat) : Int)), (70, .agg #[.int .i64 8, .int .i64 32, .int .i64 64]), (9, .int .i64 2), (10, .int .i64 64), (11, .int .u64 ((v547 : Nat) : Int)), (12, .nilIface), (93, .int .i64 2), (71, .int .i64 3), (3, .nilIface)]) (φ := True) (rest := []) h583 (by kernel_rfl) rfl trivial fun a584 h585 => ?_
                  clear h583
                  refine nd_done ?_
                  refine hK579 _ _ ?_
                  clear hK579
                  refine wp_ret ?_
                  try simp only [Exit.then, Exit.inBlock]
                  try rw [if_pos trivial]
                  exact s_ret tabOk2 tabZ_ok2 h585 [(.cell 2 33, {k := 0}), (.tmp 3, {})] (vs := [.agg #[.int .u8 0, .int .i64 0, .int .i64 0, .int .u8 ((v468 : Nat) : Int), .int .u32 ((v506 : Nat) : Int), .int .u64 ((v547 : Nat) : Int)], .nilIface]) (φ := (b2 = b2 ∧ Nat.ble (0 + 6) 6 = true) ∧ True) rfl (by kernel_rfl) ⟨⟨rfl, rfl⟩, trivial⟩ ⟨h585.frame, .inl ⟨⟨0, 0, 0, ⟨((v468 : Nat) : Int), ((v506 : Nat) : Int), ((v547 : Nat) : Int)⟩⟩, by simp [parseP, hw, hkd, parseW, verbN, hn0, hn1, hn2], rfl⟩⟩
                ·
                  refine ⟨_, rfl, ?_⟩
                  have hn2 : numB 64 y2 = none := numB_none hv548
                  have h586 := (h544.grow hf546).put (d := some 82) (v := .tuple #[.int .u64 v547, .iface t (p)]) (T' := [(82, .tuple #[.int .u64 v547, .iface t (p)]), (8, .pointer (some ⟨b436, 0, none⟩)), (26, .agg verbsC.toArray), (2, .pointer (some ⟨b2, 0, none⟩)), (0, .string (bs l)), (3, .nilIface), (4, .slice (some ⟨b13, 0, none⟩) 4 4), (5, .int .u8 0), (27, .int .i64 ((9 : Nat) : Int)), (70, .agg #[.int .i64 8, .int .i64 32, .int .i64 64]), (11, .int .u64 ((v506 : Nat) : Int)), (12, .nilIface), (93, .int .i64 1), (71, .int .i64 2), (9, .int .i64 2), (10, .int .i64 64), (80, .string (bs y2)), (81, .int .i64 64)]) rfl
                  clear h544
                  have hnone : parseP l = none := by simp [parseP, hw, hkd, parseW, verbN, hn0, hn1, hn2]
                  refine nd_batch tabOk2 tabZ_ok2 [(7, {}), (8, {}), (9, {}), (10, {}), (11, {})] [8, 26, 2, 0, 3, 4, 5, 27, 70, 93, 71, 9, 10, 11, 12] (T' := [(8, .pointer (some ⟨b436, 0, none⟩)), (26, .agg verbsC.toArray), (2, .pointer (some ⟨b2, 0, none⟩)), (0, .string (bs l)), (3, .nilIface), (4, .slice (some ⟨b13, 0, none⟩) 4 4), (5, .int .u8 0), (27, .int .i64 ((9 : Nat) : Int)), (70, .agg #[.int .i64 8, .int .i64 32, .int .i64 64]), (93, .int .i64 1), (71, .int .i64 2), (9, .int .i64 2), (10, .int .i64 64), (11, .int .u64 v547), (12, .iface t (p))]) (φ := True) (rest := []) h586 (by kernel_rfl) rfl trivial fun a587 h588 => ?_
                  clear h586
                  refine nd_done ?_
                  refine hK542 _ _ ?_
                  clear hK542
                  refine wp_seq_k fun K589 hK589 => ?_
                  refine wp_seq_k fun K590 hK590 => ?_
                  refine nd_start (l := [0, 1]) rfl ?_
                  refine nd_batch tabOk2 tabZ_ok2 [(0, {})] [8, 26, 2, 0, 3, 4, 5, 27, 70, 93, 71, 9, 10, 11, 12, 85] (T' := [(8, .pointer (some ⟨b436, 0, none⟩)), (26, .agg verbsC.toArray), (2, .pointer (some ⟨b2, 0, none⟩)), (0, .string (bs l)), (3, .nilIface), (4, .slice (some ⟨b13, 0, none⟩) 4 4), (5, .int .u8 0), (27, .int .i64 ((9 : Nat) : Int)), (70, .agg #[.int .i64 8, .int .i64 32, .int .i64 64]), (93, .int .i64 1), (71, .int .i64 2), (9, .int .i64 2), (10, .int .i64 64), (11, .int .u64 v547), (12, .iface t (p)), (85, .iface t (p))]) (φ := True) (rest := [1]) h588 (by kernel_rfl) rfl trivial fun a591 h592 => ?_
                  clear h588
                  refine nd_op ?_
                  refine op_pure (v := .bool true) h592 rfl rfl (p_nilne h592.slots rfl rfl (.inr ⟨_, _, rfl⟩) iface37) ?_
                  have h593 := h592.put (d := some 86) (v := .bool true) (T' := [(86, .bool true), (8, .pointer (some ⟨b436, 0, none⟩)), (26, .agg verbsC.toArray), (2, .pointer (some ⟨b2, 0, none⟩)), (0, .string (bs l)), (3, .nilIface), (4, .slice (some ⟨b13, 0, none⟩) 4 4), (5, .int .u8 0), (27, .int .i64 ((9 : Nat) : Int)), (70, .agg #[.int .i64 8, .int .i64 32, .int .i64 64]), (93, .int .i64 1), (71, .int .i64 2), (9, .int .i64 2), (10, .int .i64 64), (11, .int .u64 v547), (12, .iface t (p)), (85, .iface t (p))]) rfl
                  clear h592
                  refine nd_done ?_
                  refine hK590 _ _ ?_
                  clear hK590
                  refine c_true h593 rfl ?_
                  refine wp_seq_k fun K594 hK594 => ?_
                  refine nd_start (l := [0, 1, 2, 3, 4, 5, 6, 7]) rfl ?_
                  refine nd_batch tabOk2 tabZ_ok2 [(0, {}), (1, {}), (2, {}), (3, {})] [8, 26, 2, 0, 3, 4, 5, 27, 70, 93, 71, 9, 10, 11, 12, 87, 90] (T' := [(8, .pointer (some ⟨b436, 0, none⟩)), (26, .agg verbsC.toArray), (2, .pointer (some ⟨b2, 0, none⟩)), (0, .string (bs l)), (3, .nilIface), (4, .slice (some ⟨b13, 0, none⟩) 4 4), (5, .int .u8 0), (27, .int .i64 ((9 : Nat) : Int)), (70, .agg #[.int .i64 8, .int .i64 32, .int .i64 64]), (93, .int .i64 1), (71, .int .i64 2), (9, .int .i64 2), (10, .int .i64 64), (11, .int .u64 v547), (12, .iface t (p)), (87, .agg #[.int .u8 0, .int .i64 0, .int .i64 0, .int .u8 0, .int .u32 0, .int .u64 0]), (90, .agg #[.int .i64 3, .string (bs ([110, 111, 116, 32, 97, 32, 110, 117, 109, 98, 101, 114, 32, 105, 110, 32, 114, 97, 110, 103, 101]))])]) (φ := inR .i64 3 ∧ True) (rest := [4, 5, 6, 7]) h593 (by kernel_rfl) rfl ⟨⟨by decide, by decide⟩, trivial⟩ fun a595 h596 => ?_
                  clear h593
                  refine nd_op ?_
                  refine op_new tabOk2 (cells := [.int .i64 3, .string (bs ([110, 111, 116, 32, 97, 32, 110, 117, 109, 98, 101, 114, 32, 105, 110, 32, 114, 97, 110, 103, 101]))]) (ty := 69) (ln := none) (L1 := fun b597 => [(b2, ⟨[.int .u8 0, .int .i64 0, .int .i64 0, .int .u8 0, .int .u32 0, .int .u64 0], 33, false⟩), (b13, ⟨[.string (bs x), .string (bs y0), .string (bs y1), .string (bs y2)], 9, false⟩), (b436, ⟨[.int .u8 0, .int .i64 0, .int .i64 0, .int .u8 ((v468 : Nat) : Int), .int .u32 ((v506 : Nat) : Int), .int .u64 0], 33, false⟩), (b597, ⟨[.int .i64 3, .string (bs ([110, 111, 116, 32, 97, 32, 110, 117, 109, 98, 101, 114, 32, 105, 110, 32, 114, 97, 110, 103, 101]))], 69, false⟩)]) h596 rfl rfl rfl rfl (by kernel_rfl) (fun _ => rfl) fun b597 w598 a599 h600 hf601 hn602 => ?_
                  clear h596
                  refine nd_op ?_
                  refine op_pure (v := .iface 67 (.pointer (some ⟨b597, 0, none⟩))) h600 rfl rfl (pure_iface tabOk2 h600.slots rfl rfl rfl (by intro fs hq; cases hq) (by intro fs hq; cases hq)) ?_
                  have h603 := h600.put (d := some 92) (v := .iface 67 (.pointer (some ⟨b597, 0, none⟩))) (T' := [(92, .iface 67 (.pointer (some ⟨b597, 0, none⟩))), (91, .pointer (some ⟨b597, 0, none⟩)), (8, .pointer (some ⟨b436, 0, none⟩)), (26, .agg verbsC.toArray), (2, .pointer (some ⟨b2, 0, none⟩)), (0, .string (bs l)), (3, .nilIface), (4, .slice (some ⟨b13, 0, none⟩) 4 4), (5, .int .u8 0), (27, .int .i64 ((9 : Nat) : Int)), (70, .agg #[.int .i64 8, .int .i64 32, .int .i64 64]), (93, .int .i64 1), (71, .int .i64 2), (9, .int .i64 2), (10, .int .i64 64), (11, .int .u64 v547), (12, .iface t (p)), (87, .agg #[.int .u8 0, .int .i64 0, .int .i64 0, .int .u8 0, .int .u32 0, .int .u64 0]), (90, .agg #[.int .i64 3, .string (bs ([110, 111, 116, 32, 97, 32, 110, 117, 109, 98, 101, 114, 32, 105, 110, 32, 114, 97, 110, 103, 101]))])]) rfl
                  clear h600
                  refine nd_op ?_
                  refine op_store tabOk2 {k := 0} (L' := [(b2, ⟨[.int .u8 0, .int .i64 0, .int .i64 0, .int .u8 0, .int .u32 0, .int .u64 0], 33, false⟩), (b13, ⟨[.string (bs x), .string (bs y0), .string (bs y1), .string (bs y2)], 9, false⟩), (b436, ⟨[.int .u8 0, .int .i64 0, .int .i64 0, .int .u8 ((v468 : Nat) : Int), .int .u32 ((v506 : Nat) : Int), .int .u64 0], 33, false⟩), (b597, ⟨[.int .i64 3, .string (bs ([110, 111, 116, 32, 97, 32, 110, 117, 109, 98, 101, 114, 32, 105, 110, 32, 114, 97, 110, 103, 101]))], 69, false⟩)]) (φ := b2 = b2 ∧ Nat.ble (0 + 6) 6 = true) h603 rfl rfl rfl (by kernel_rfl) ⟨rfl, rfl⟩ fun w604 h605 => ?_
                  clear h603
                  refine nd_batch tabOk2 tabZ_ok2 [(7, {})] [8, 26, 2, 0, 4, 5, 27, 70, 93, 71, 9, 10, 11, 12, 3] (T' := [(8, .pointer (some ⟨b436, 0, none⟩)), (26, .agg verbsC.toArray), (2, .pointer (some ⟨b2, 0, none⟩)), (0, .string (bs l)), (4, .slice (some ⟨b13, 0, none⟩) 4 4), (5, .int .u8 0), (27, .int .i64 ((9 : Nat) : Int)), (70, .agg #[.int .i64 8, .int .i64 32, .int .i64 64]), (93, .int .i64 1), (71, .int .i64 2), (9, .int .i64 2), (10, .int .i64 64), (11, .int .u64 v547), (12, .iface t (p)), (3, .iface 67 (.pointer (some ⟨b597, 0, none⟩)))]) (φ := True) (rest := []) h605 (by kernel_rfl) rfl trivial fun a606 h607 => ?_
                  clear h605
                  refine nd_done ?_
                  refine hK594 _ _ ?_
                  clear hK594
                  refine wp_ret ?_
                  try simp only [Exit.then, Exit.inBlock]
                  try rw [if_pos trivial]
                  exact s_ret tabOk2 tabZ_ok2 h607 [(.cell 2 33, {k := 0}), (.tmp 3, {})] (vs := [.agg #[.int .u8 0, .int .i64 0, .int .i64 0, .int .u8 0, .int .u32 0, .int .u64 0], .iface 67 (.pointer (some ⟨b597, 0, none⟩))]) (φ := (b2 = b2 ∧ Nat.ble (0 + 6) 6 = true) ∧ True) rfl (by kernel_rfl) ⟨⟨rfl, rfl⟩, trivial⟩ ⟨h607.frame, .inr ⟨hnone, _, _, rfl⟩⟩
              ·
                refine ⟨_, rfl, ?_⟩
                have hn1 : numB 32 y1 = none := numB_none hv507
                have h608 := (h503.grow hf505).put (d := some 82) (v := .tuple #[.int .u64 v506, .iface t (p)]) (T' := [(82, .tuple #[.int .u64 v506, .iface t (p)]), (8, .pointer (some ⟨b436, 0, none⟩)), (26, .agg verbsC.toArray), (2, .pointer (some ⟨b2, 0, none⟩)), (0, .string (bs l)), (3, .nilIface), (4, .slice (some ⟨b13, 0, none⟩) 4 4), (5, .int .u8 0), (27, .int .i64 ((9 : Nat) : Int)), (70, .agg #[.int .i64 8, .int .i64 32, .int .i64 64]), (11, .int .u64 ((v468 : Nat) : Int)), (12, .nilIface), (93, .int .i64 0), (71, .int .i64 1), (9, .int .i64 1), (10, .int .i64 32), (80, .string (bs y1)), (81, .int .i64 32)]) rfl
                clear h503
                have hnone : parseP l = none := by simp [parseP, hw, hkd, parseW, verbN, hn0, hn1]
                refine nd_batch tabOk2 tabZ_ok2 [(7, {}), (8, {}), (9, {}), (10, {}), (11, {})] [8, 26, 2, 0, 3, 4, 5, 27, 70, 93, 71, 9, 10, 11, 12] (T' := [(8, .pointer (some ⟨b436, 0, none⟩)), (26, .agg verbsC.toArray), (2, .pointer (some ⟨b2, 0, none⟩)), (0, .string (bs l)), (3, .nilIface), (4, .slice (some ⟨b13, 0, none⟩) 4 4), (5, .int .u8 0), (27, .int .i64 ((9 : Nat) : Int)), (70, .agg #[.int .i64 8, .int .i64 32, .int .i64 64]), (93, .int .i64 0), (71, .int .i64 1), (9, .int .i64 1), (10, .int .i64 32), (11, .int .u64 v506), (12, .iface t (p))]) (φ := True) (rest := []) h608 (by kernel_rfl) rfl trivial fun a609 h610 => ?_
                clear h608
                refine nd_done ?_
                refine hK501 _ _ ?_
                clear hK501
                refine wp_seq_k fun K611 hK611 => ?_
                refine wp_seq_k fun K612 hK612 => ?_
                refine nd_start (l := [0, 1]) rfl ?_
                refine nd_batch tabOk2 tabZ_ok2 [(0, {})] [8, 26, 2, 0, 3, 4, 5, 27, 70, 93, 71, 9, 10, 11, 12, 85] (T' := [(8, .pointer (some ⟨b436, 0, none⟩)), (26, .agg verbsC.toArray), (2, .pointer (some ⟨b2, 0, none⟩)), (0, .string (bs l)), (3, .nilIface), (4, .slice (some ⟨b13, 0, none⟩) 4 4), (5, .int .u8 0), (27, .int .i64 ((9 : Nat) : Int)), (70, .agg #[.int .i64 8, .int .i64 32, .int .i64 64]), (93, .int .i64 0), (71, .int .i64 1), (9, .int .i64 1), (10, .int .i64 32), (11, .int .u64 v506), (12, .iface t (p)), (85, .iface t (p))]) (φ := True) (rest := [1]) h610 (by kernel_rfl) rfl trivial fun a613 h614 => ?_
                clear h610
                refine nd_op ?_
                refine op_pure (v := .bool true) h614 rfl rfl (p_nilne h614.slots rfl rfl (.inr ⟨_, _, rfl⟩) iface37) ?_
                have h615 := h614.put (d := some 86) (v := .bool true) (T' := [(86, .bool true), (8, .pointer (some ⟨b436, 0, none⟩)), (26, .agg verbsC.toArray), (2, .pointer (some ⟨b2, 0, none⟩)), (0, .string (bs l)), (3, .nilIface), (4, .slice (some ⟨b13, 0, none⟩) 4 4), (5, .int .u8 0), (27, .int .i64 ((9 : Nat) : Int)), (70, .agg #[.int .i64 8, .int .i64 32, .int .i64 64]), (93, .int .i64 0), (71, .int .i64 1), (9, .int .i64 1), (10, .int .i64 32), (11, .int .u64 v506), (12, .iface t (p)), (85, .iface t (p))]) rfl
                clear h614
                refine nd_done ?_
                refine hK612 _ _ ?_
                clear hK612
                refine c_true h615 rfl ?_
                refine wp_seq_k fun K616 hK616 => ?_
                refine nd_start (l := [0, 1, 2, 3, 4, 5, 6, 7]) rfl ?_
                refine nd_batch tabOk2 tabZ_ok2 [(0, {}), (1, {}), (2, {}), (3, {})] [8, 26, 2, 0, 3, 4, 5, 27, 70, 93, 71, 9, 10, 11, 12, 87, 90] (T' := [(8, .pointer (some ⟨b436, 0, none⟩)), (26, .agg verbsC.toArray), (2, .pointer (some ⟨b2, 0, none⟩)), (0, .string (bs l)), (3, .nilIface), (4, .slice (some ⟨b13, 0, none⟩) 4 4), (5, .int .u8 0), (27, .int .i64 ((9 : Nat) : Int)), (70, .agg #[.int .i64 8, .int .i64 32, .int .i64 64]), (93, .int .i64 0), (71, .int .i64 1), (9, .int .i64 1), (10, .int .i64 32), (11, .int .u64 v506), (12, .iface t (p)), (87, .agg #[.int .u8 0, .int .i64 0, .int .i64 0, .int .u8 0, .int .u32 0, .int .u64 0]), (90, .agg #[.int .i64 2, .string (bs ([110, 111, 116, 32, 97, 32, 110, 117, 109, 98, 101, 114, 32, 105, 110, 32, 114, 97, 110, 103, 101]))])]) (φ := inR .i64 2 ∧ True) (rest := [4, 5, 6, 7]) h615 (by kernel_rfl) rfl ⟨⟨by decide, by decide⟩, trivial⟩ fun a617 h618 => ?_
                clear h615
                refine nd_op ?_
                refine op_new tabOk2 (cells := [.int .i64 2, .string (bs ([110, 111, 116, 32, 97, 32, 110, 117, 109, 98, 101, 114, 32, 105, 110, 32, 114, 97, 110, 103, 101]))]) (ty := 69) (ln := none) (L1 := fun b619 => [(b2, ⟨[.int .u8 0, .int .i64 0, .int .i64 0, .int .u8 0, .int .u32 0, .int .u64 0], 33, false⟩), (b13, ⟨[.string (bs x), .string (bs y0), .string (bs y1), .string (bs y2)], 9, false⟩), (b436, ⟨[.int .u8 0, .int .i64 0, .int .i64 0, .int .u8 ((v468 : Nat) : Int), .int .u32 0, .int .u64 0], 33, false⟩), (b619, ⟨[.int .i64 2, .string (bs ([110, 111, 116, 32, 97, 32, 110, 117, 109, 98, 101, 114, 32, 105, 110, 32, 114, 97, 110, 103, 101]))], 69, false⟩)]) h618 rfl rfl rfl rfl (by kernel_rfl) (fun _ => rfl) fun b619 w620 a621 h622 hf623 hn624 => ?_
                clear h618
                refine nd_op ?_
                refine op_pure (v := .iface 67 (.pointer (some ⟨b619, 0, none⟩))) h622 rfl rfl (pure_iface tabOk2 h622.slots rfl rfl rfl (by intro fs hq; cases hq) (by intro fs hq; cases hq)) ?_
                have h625 := h622.put (d := some 92) (v := .iface 67 (.pointer (some ⟨b619, 0, none⟩))) (T' := [(92, .iface 67 (.pointer (some ⟨b619, 0, none⟩))), (91, .pointer (some ⟨b619, 0, none⟩)), (8, .pointer (some ⟨b436, 0, none⟩)), (26, .agg verbsC.toArray), (2, .pointer (some ⟨b2, 0, none⟩)), (0, .string (bs l)), (3, .nilIface), (4, .slice (some ⟨b13, 0, none⟩) 4 4), (5, .int .u8 0), (27, .int .i64 ((9 : Nat) : Int)), (70, .agg #[.int .i64 8, .int .i64 32, .int .i64 64]), (93, .int .i64 0), (71, .int .i64 1), (9, .int .i64 1), (10, .int .i64 32), (11, .int .u64 v506), (12, .iface t (p)), (87, .agg #[.int .u8 0, .int .i64 0, .int .i64 0, .int .u8 0, .int .u32 0, .int .u64 0]), (90, .agg #[.int .i64 2, .string (bs ([110, 111, 116, 32, 97, 32, 110, 117, 109, 98, 101, 114, 32, 105, 110, 32, 114, 97, 110, 103, 101]))])]) rfl
                clear h622
                refine nd_op ?_
                refine op_store tabOk2 {k := 0} (L' := [(b2, ⟨[.int .u8 0, .int .i64 0, .int .i64 0, .int .u8 0, .int .u32 0, .int .u64 0], 33, false⟩), (b13, ⟨[.string (bs x), .string (bs y0), .string (bs y1), .string (bs y2)], 9, false⟩), (b436, ⟨[.int .u8 0, .int .i64 0, .int .i64 0, .int .u8 ((v468 : Nat) : Int), .int .u32 0, .int .u64 0], 33, false⟩), (b619, ⟨[.int .i64 2, .string (bs ([110, 111, 116, 32, 97, 32, 110, 117, 109, 98, 101, 114, 32, 105, 110, 32, 114, 97, 110, 103, 101]))], 69, false⟩)]) (φ := b2 = b2 ∧ Nat.ble (0 + 6) 6 = true) h625 rfl rfl rfl (by kernel_rfl) ⟨rfl, rfl⟩ fun w626 h627 => ?_
                clear h625
                refine nd_batch tabOk2 tabZ_ok2 [(7, {})] [8, 26, 2, 0, 4, 5, 27, 70, 93, 71, 9, 10, 11, 12, 3] (T' := [(8, .pointer (some ⟨b436, 0, none⟩)), (26, .agg verbsC.toArray), (2, .pointer (some ⟨b2, 0, none⟩)), (0, .string (bs l)), (4, .slice (some ⟨b13, 0, none⟩) 4 4), (5, .int .u8 0), (27, .int .i64 ((9 : Nat) : Int)), (70, .agg #[.int .i64 8, .int .i64 32, .int .i64 64]), (93, .int .i64 0), (71, .int .i64 1), (9, .int .i64 1), (10, .int .i64 32), (11, .int .u64 v506), (12, .iface t (p)), (3, .iface 67 (.pointer (some ⟨b619, 0, none⟩)))]) (φ := True) (rest := []) h627 (by kernel_rfl) rfl trivial fun a628 h629 => ?_
                clear h627
                refine nd_done ?_
                refine hK616 _ _ ?_
                clear hK616
                refine wp_ret ?_
                try simp only [Exit.then, Exit.inBlock]
                try rw [if_pos trivial]
                exact s_ret tabOk2 tabZ_ok2 h629 [(.cell 2 33, {k := 0}), (.tmp 3, {})] (vs := [.agg #[.int .u8 0, .int .i64 0, .int .i64 0, .int .u8 0, .int .u32 0, .int .u64 0], .iface 67 (.pointer (some ⟨b619, 0, none⟩))]) (φ := (b2 = b2 ∧ Nat.ble (0 + 6) 6 = true) ∧ True) rfl (by kernel_rfl) ⟨⟨rfl, rfl⟩, trivial⟩ ⟨h629.frame, .inr ⟨hnone, _, _, rfl⟩⟩
            ·
              refine ⟨_, rfl, ?_⟩
              have hn0 : numB 8 y0 = none := numB_none hv469
              have h630 := (h465.grow hf467).put (d := some 82) (v := .tuple #[.int .u64 v468, .iface t (p)]) (T' := [(82, .tuple #[.int .u64 v468, .iface t (p)]), (8, .pointer (some ⟨b436, 0, none⟩)), (26, .agg verbsC.toArray), (2, .pointer (some ⟨b2, 0, none⟩)), (0, .string (bs l)), (3, .nilIface), (4, .slice (some ⟨b13, 0, none⟩) 4 4), (5, .int .u8 0), (27, .int .i64 ((9 : Nat) : Int)), (70, .agg #[.int .i64 8, .int .i64 32, .int .i64 64]), (71, .int .i64 0), (9, .int .i64 0), (10, .int .i64 8), (80, .string (bs y0)), (81, .int .i64 8)]) rfl
              clear h465
              have hnone : parseP l = none := by simp [parseP, hw, hkd, parseW, verbN, hn0]
              refine nd_batch tabOk2 tabZ_ok2 [(7, {}), (8, {}), (9, {}), (10, {}), (11, {})] [8, 26, 2, 0, 3, 4, 5, 27, 70, 71, 9, 10, 11, 12] (T' := [(8, .pointer (some ⟨b436, 0, none⟩)), (26, .agg verbsC.toArray), (2, .pointer (some ⟨b2, 0, none⟩)), (0, .string (bs l)), (3, .nilIface), (4, .slice (some ⟨b13, 0, none⟩) 4 4), (5, .int .u8 0), (27, .int .i64 ((9 : Nat) : Int)), (70, .agg #[.int .i64 8, .int .i64 32, .int .i64 64]), (71, .int .i64 0), (9, .int .i64 0), (10, .int .i64 8), (11, .int .u64 v468), (12, .iface t (p))]) (φ := True) (rest := []) h630 (by kernel_rfl) rfl trivial fun a631 h632 => ?_
              clear h630
              refine nd_done ?_
              refine hK463 _ _ ?_
              clear hK463
              refine wp_seq_k fun K633 hK633 => ?_
              refine wp_seq_k fun K634 hK634 => ?_
              refine nd_start (l := [0, 1]) rfl ?_
              refine nd_batch tabOk2 tabZ_ok2 [(0, {})] [8, 26, 2, 0, 3, 4, 5, 27, 70, 71, 9, 10, 11, 12, 85] (T' := [(8, .pointer (some ⟨b436, 0, none⟩)), (26, .agg verbsC.toArray), (2, .pointer (some ⟨b2, 0, none⟩)), (0, .string (bs l)), (3, .nilIface), (4, .slice (some ⟨b13, 0, none⟩) 4 4), (5, .int .u8 0), (27, .int .i64 ((9 : Nat) : Int)), (70, .agg #[.int .i64 8, .int .i64 32, .int .i64 64]), (71, .int .i64 0), (9, .int .i64 0), (10, .int .i64 8), (11, .int .u64 v468), (12, .iface t (p)), (85, .iface t (p))]) (φ := True) (rest := [1]) h632 (by kernel_rfl) rfl trivial fun a635 h636 => ?_
              clear h632
              refine nd_op ?_
              refine op_pure (v := .bool true) h636 rfl rfl (p_nilne h636.slots rfl rfl (.inr ⟨_, _, rfl⟩) iface37) ?_
              have h637 := h636.put (d := some 86) (v := .bool true) (T' := [(86, .bool true), (8, .pointer (some ⟨b436, 0, none⟩)), (26, .agg verbsC.toArray), (2, .pointer (some ⟨b2, 0, none⟩)), (0, .string (bs l)), (3, .nilIface), (4, .slice (some ⟨b13, 0, none⟩) 4 4), (5, .int .u8 0), (27, .int .i64 ((9 : Nat) : Int)), (70, .agg #[.int .i64 8, .int .i64 32, .int .i64 64]), (71, .int .i64 0), (9, .int .i64 0), (10, .int .i64 8), (11, .int .u64 v468), (12, .iface t (p)), (85, .iface t (p))]) rfl
              clear h636
              refine nd_done ?_
              refine hK634 _ _ ?_
              clear hK634
              refine c_true h637 rfl ?_
              refine wp_seq_k fun K638 hK638 => ?_
              refine nd_start (l := [0, 1, 2, 3, 4, 5, 6, 7]) rfl ?_
              refine nd_batch tabOk2 tabZ_ok2 [(0, {}), (1, {}), (2, {}), (3, {})] [8, 26, 2, 0, 3, 4, 5, 27, 70, 71, 9, 10, 11, 12, 87, 90] (T' := [(8, .pointer (some ⟨b436, 0, none⟩)), (26, .agg verbsC.toArray), (2, .pointer (some ⟨b2, 0, none⟩)), (0, .string (bs l)), (3, .nilIface), (4, .slice (some ⟨b13, 0, none⟩) 4 4), (5, .int .u8 0), (27, .int .i64 ((9 : Nat) : Int)), (70, .agg #[.int .i64 8, .int .i64 32, .int .i64 64]), (71, .int .i64 0), (9, .int .i64 0), (10, .int .i64 8), (11, .int .u64 v468), (12, .iface t (p)), (87, .agg #[.int .u8 0, .int .i64 0, .int .i64 0, .int .u8 0, .int .u32 0, .int .u64 0]), (90, .agg #[.int .i64 1, .string (bs ([110, 111, 116, 32, 97, 32, 110, 117, 109, 98, 101, 114, 32, 105, 110, 32, 114, 97, 110, 103, 101]))])]) (φ := inR .i64 1 ∧ True) (rest := [4, 5, 6, 7]) h637 (by kernel_rfl) rfl ⟨⟨by decide, by decide⟩, trivial⟩ fun a639 h640 => ?_
              clear h637
              refine nd_op ?_
              refine op_new tabOk2 (cells := [.int .i64 1, .string (bs ([110, 111, 116, 32, 97, 32, 110, 117, 109, 98, 101, 114, 32, 105, 110, 32, 114, 97, 110, 103, 101]))]) (ty := 69) (ln := none) (L1 := fun b641 => [(b2, ⟨[.int .u8 0, .int .i64 0, .int .i64 0, .int .u8 0, .int .u32 0, .int .u64 0], 33, false⟩), (b13, ⟨[.string (bs x), .string (bs y0), .string (bs y1), .string (bs y2)], 9, false⟩), (b436, ⟨[.int .u8 0, .int .i64 0, .int .i64 0, .int .u8 0, .int .u32 0, .int .u64 0], 33, false⟩), (b641, ⟨[.int .i64 1, .string (bs ([110, 111, 116, 32, 97, 32, 110, 117, 109, 98, 101, 114, 32, 105, 110, 32, 114, 97, 110, 103, 101]))], 69, false⟩)]) h640 rfl rfl rfl rfl (by kernel_rfl) (fun _ => rfl) fun b641 w642 a643 h644 hf645 hn646 => ?_
              clear h640
              refine nd_op ?_
              refine op_pure (v := .iface 67 (.pointer (some ⟨b641, 0, none⟩))) h644 rfl rfl (pure_iface tabOk2 h644.slots rfl rfl rfl (by intro fs hq; cases hq) (by intro fs hq; cases hq)) ?_
              have h647 := h644.put (d := some 92) (v := .iface 67 (.pointer (some ⟨b641, 0, none⟩))) (T' := [(92, .iface 67 (.pointer (some ⟨b641, 0, none⟩))), (91, .pointer (some ⟨b641, 0, none⟩)), (8, .pointer (some ⟨b436, 0, none⟩)), (26, .agg verbsC.toArray), (2, .pointer (some ⟨b2, 0, none⟩)), (0, .string (bs l)), (3, .nilIface), (4, .slice (some ⟨b13, 0, none⟩) 4 4), (5, .int .u8 0), (27, .int .i64 ((9 : Nat) : Int)), (70, .agg #[.int .i64 8, .int .i64 32, .int .i64 64]), (71, .int .i64 0), (9, .int .i64 0), (10, .int .i64 8), (11, .int .u64 v468), (12, .iface t (p)), (87, .agg #[.int .u8 0, .int .i64 0, .int .i64 0, .int .u8 0, .int .u32 0, .int .u64 0]), (90, .agg #[.int .i64 1, .string (bs ([110, 111, 116, 32, 97, 32, 110, 117, 109, 98, 101, 114, 32, 105, 110, 32, 114, 97, 110, 103, 101]))])]) rfl
              clear h644
              refine nd_op ?_
              refine op_store tabOk2 {k := 0} (L' := [(b2, ⟨[.int .u8 0, .int .i64 0, .int .i64 0, .int .u8 0, .int .u32 0, .int .u64 0], 33, false⟩), (b13, ⟨[.string (bs x), .string (bs y0), .string (bs y1), .string (bs y2)], 9, false⟩), (b436, ⟨[.int .u8 0, .int .i64 0, .int .i64 0, .int .u8 0, .int .u32 0, .int .u64 0], 33, false⟩), (b641, ⟨[.int .i64 1, .string (bs ([110, 111, 116, 32, 97, 32, 110, 117, 109, 98, 101, 114, 32, 105, 110, 32, 114, 97, 110, 103, 101]))], 69, false⟩)]) (φ := b2 = b2 ∧ Nat.ble (0 + 6) 6 = true) h647 rfl rfl rfl (by kernel_rfl) ⟨rfl, rfl⟩ fun w648 h649 => ?_
              clear h647
              refine nd_batch tabOk2 tabZ_ok2 [(7, {})] [8, 26, 2, 0, 4, 5, 27, 70, 71, 9, 10, 11, 12, 3] (T' := [(8, .pointer (some ⟨b436, 0, none⟩)), (26, .agg verbsC.toArray), (2, .pointer (some ⟨b2, 0, none⟩)), (0, .string (bs l)), (4, .slice (some ⟨b13, 0, none⟩) 4 4), (5, .int .u8 0), (27, .int .i64 ((9 : Nat) : Int)), (70, .agg #[.int .i64 8, .int .i64 32, .int .i64 64]), (71, .int .i64 0), (9, .int .i64 0), (10, .int .i64 8), (11, .int .u64 v468), (12, .iface t (p)), (3, .iface 67 (.pointer (some ⟨b641, 0, none⟩)))]) (φ := True) (rest := []) h649 (by kernel_rfl) rfl trivial fun a650 h651 => ?_
              clear h649
              refine nd_done ?_
              refine hK638 _ _ ?_
              clear hK638
              refine wp_ret ?_
              try simp only [Exit.then, Exit.inBlock]
              try rw [if_pos trivial]
              exact s_ret tabOk2 tabZ_ok2 h651 [(.cell 2 33, {k := 0}), (.tmp 3, {})] (vs := [.agg #[.int .u8 0, .int .i64 0, .int .i64 0, .int .u8 0, .int .u32 0, .int .u64 0], .iface 67 (.pointer (some ⟨b641, 0, none⟩))]) (φ := (b2 = b2 ∧ Nat.ble (0 + 6) 6 = true) ∧ True) rfl (by kernel_rfl) ⟨⟨rfl, rfl⟩, trivial⟩ ⟨h651.frame, .inr ⟨hnone, _, _, rfl⟩⟩

end Go.Proofs.Qxb6500919aFmt
