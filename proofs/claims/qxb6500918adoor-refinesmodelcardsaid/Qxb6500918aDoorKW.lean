/-
  the bytes of the store. (Made by program: a symbolic walk that prints its steps.)
-/
import Derived.Test.Qxb6500918aDoorLi
import Derived.Test.Qxb6500918aDoorEq
namespace Go.Proofs.Qxb6500918aDoor
open Go.Sx Go.Kn
set_option maxRecDepth 100000
set_option maxHeartbeats 4000000
set_option linter.unusedVariables false
set_option linter.unusedSimpArgs false

theorem pack_ok (r : Rf) (w : World) : Calls Tryd.prog 60 #[.agg #[.int .u16 r.idx, .int .u32 r.gen]] w fun e w' => e = .returned (.int .u64 (packP r)) ∧ Fr [] w w' := by
  refine enter0 (n := 11) (K := []) (T := [(0, .agg #[.int .u16 r.idx, .int .u32 r.gen])]) (L := []) (args := [.agg #[.int .u16 r.idx, .int .u32 r.gen]]) Tryd.func60 rfl rfl rfl rfl knil (by simp) knil ?_
  intro a h
  refine wp_seq_k fun K1 hK1 => ?_
  refine nd_start (l := [0, 1]) rfl ?_
  refine nd_op ?_
  refine op_new tabOk (cells := [.int .u16 r.idx, .int .u32 r.gen]) (ty := 39) (ln := none) (L1 := fun b2 => [(b2, ⟨[.int .u16 r.idx, .int .u32 r.gen], 39, false⟩)]) h rfl rfl rfl rfl (by kernel_rfl) (fun _ => rfl) fun b2 w3 a4 h5 hf6 hn7 => ?_
  clear h
  refine nd_batch tabOk tabZ_ok [(1, {})] [1, 0, 2] (T' := [(1, .pointer (some ⟨b2, 0, none⟩)), (0, .agg #[.int .u16 r.idx, .int .u32 r.gen]), (2, .int .u64 0)]) (φ := True) (rest := []) h5 (by kernel_rfl) rfl trivial fun a8 h9 => ?_
  clear h5
  refine nd_done ?_
  refine hK1 _ _ ?_
  clear hK1
  refine wp_seq_k fun K10 hK10 => ?_
  refine nd_start (l := [0, 1, 2, 3, 4, 5, 6, 7, 8]) rfl ?_
  refine nd_batch tabOk tabZ_ok [(0, {}), (1, {k := 0}), (2, {m := 1}), (3, {}), (4, {}), (5, {k := 0}), (6, {m := 1}), (7, {}), (8, {})] [1, 0, 2] (T' := [(1, .pointer (some ⟨b2, 0, none⟩)), (0, .agg #[.int .u16 r.idx, .int .u32 r.gen]), (2, .int .u64 (bitI .or .u64 (shlI .u64 (IntKind.wrap .u64 r.gen) 16) (IntKind.wrap .u64 r.idx)))]) (φ := (b2 = b2 ∧ Nat.ble (1 + 1) 2 = true) ∧ 0 ≤ (16 : Int) ∧ (b2 = b2 ∧ Nat.ble (0 + 1) 2 = true) ∧ True) (rest := []) h9 (by kernel_rfl) rfl ⟨⟨rfl, rfl⟩, (by decide), ⟨rfl, rfl⟩, trivial⟩ fun a11 h12 => ?_
  clear h9
  refine nd_done ?_
  refine hK10 _ _ ?_
  clear hK10
  refine wp_ret ?_
  try simp only [Exit.then, Exit.inBlock]
  try rw [if_pos trivial]
  exact s_ret tabOk tabZ_ok h12 [(.tmp 2, {})] (vs := [.int .u64 (bitI .or .u64 (shlI .u64 (IntKind.wrap .u64 r.gen) 16) (IntKind.wrap .u64 r.idx))]) (φ := True) rfl (by kernel_rfl) trivial ⟨rfl, h12.frame⟩

theorem flag_ok (b : Bool) (w : World) : Calls Tryd.prog 61 #[.bool b] w fun e w' => e = .returned (.int .u64 (flagP b)) ∧ Fr [] w w' := by
  refine enter0 (n := 4) (K := []) (T := [(0, .bool b)]) (L := []) (args := [.bool b]) Tryd.func61 rfl rfl rfl rfl knil (by simp) knil ?_
  intro a h
  refine wp_seq_k fun K1 hK1 => ?_
  refine nd_start (l := [0]) rfl ?_
  refine nd_batch tabOk tabZ_ok [(0, {})] [0, 2] (T' := [(0, .bool b), (2, .int .u64 0)]) (φ := True) (rest := []) h (by kernel_rfl) rfl trivial fun a2 h3 => ?_
  clear h
  refine nd_done ?_
  refine hK1 _ _ ?_
  clear hK1
  refine wp_seq_k fun K4 hK4 => ?_
  refine wp_seq_k fun K5 hK5 => ?_
  refine nd_start (l := [0]) rfl ?_
  refine nd_batch tabOk tabZ_ok [(0, {})] [0, 2, 3] (T' := [(0, .bool b), (2, .int .u64 0), (3, .bool b)]) (φ := True) (rest := []) h3 (by kernel_rfl) rfl trivial fun a6 h7 => ?_
  clear h3
  refine nd_done ?_
  refine hK5 _ _ ?_
  clear hK5
  refine c_split h7 (b := b) rfl (fun hc8 => ?_) (fun hc8 => ?_)
  ·
    refine wp_seq_k fun K9 hK9 => ?_
    refine nd_start (l := [0]) rfl ?_
    refine nd_batch tabOk tabZ_ok [(0, {})] [0, 2] (T' := [(0, .bool b), (2, .int .u64 1)]) (φ := True) (rest := []) h7 (by kernel_rfl) rfl trivial fun a10 h11 => ?_
    clear h7
    refine nd_done ?_
    refine hK9 _ _ ?_
    clear hK9
    refine wp_ret ?_
    try simp only [Exit.then, Exit.inBlock]
    try rw [if_pos trivial]
    exact s_ret tabOk tabZ_ok h11 [(.tmp 2, {})] (vs := [.int .u64 1]) (φ := True) rfl (by kernel_rfl) trivial ⟨(by rw [show flagP b = 1 by unfold flagP; rw [hc8]; rfl]; rfl), h11.frame⟩
  ·
    refine wp_skip ?_
    refine hK4 _ _ ?_
    clear hK4
    refine wp_seq_k fun K12 hK12 => ?_
    refine nd_start (l := [0]) rfl ?_
    refine nd_batch tabOk tabZ_ok [(0, {})] [0, 2] (T' := [(0, .bool b), (2, .int .u64 0)]) (φ := True) (rest := []) h7 (by kernel_rfl) rfl trivial fun a13 h14 => ?_
    clear h7
    refine nd_done ?_
    refine hK12 _ _ ?_
    clear hK12
    refine wp_ret ?_
    try simp only [Exit.then, Exit.inBlock]
    try rw [if_pos trivial]
    exact s_ret tabOk tabZ_ok h14 [(.tmp 2, {})] (vs := [.int .u64 0]) (φ := True) rfl (by kernel_rfl) trivial ⟨(by rw [show flagP b = 0 by unfold flagP; rw [hc8]; rfl]; rfl), h14.frame⟩

theorem pure_ent {T : Slots} {a : Act} {o : Oper} {x y : Operand} {E : Nat → Ent} {i : Int} (hs : SlotsOk T a) (hop : o.op = .index 129 x y) (hx : evO T x = some (.agg (arr 257 entC E).toArray)) (hy : evO T y = some (.int .i64 i)) (h0 : 0 ≤ i) (h1 : i < 257) :
    Pure Tryd.prog a o (.agg #[.int .u8 (E i.toNat).ty, .int .u32 (E i.toNat).gen, .int .u64 (E i.toNat).base, .int .u64 (E i.toNat).size]) := by
  have hc : cellsAre (arr 257 entC E) (i.toNat * 4) (entC (E i.toNat)) := by
    have := mid_read entC_len (pre := []) (post := []) (f := E) (i := i.toNat) (k := 0) (n := 257) (o := i.toNat * 4) (vs := entC (E i.toNat)) (by omega) (cellsAre_of_take _ _ (by simp)) (by simp)
    simpa using this
  refine pure_index tabOk (φ := some (Nat.ble (i.toNat * 4 + 4) (arr 257 entC E).length = true)) hs hop hx hy rfl rfl rfl h0 h1 ?_ ?_
  · show some (Value.agg (cellsFrom (arr 257 entC E) (i.toNat * 4) 4).toArray, _) = _
    rw [show cellsFrom (arr 257 entC E) (i.toNat * 4) 4 = entC (E i.toNat) from (cellsAre_from hc).1]
    rfl
  · show Nat.ble (i.toNat * 4 + 4) (arr 257 entC E).length = true
    rw [ents_len]; exact Nat.ble_eq_true_of_le (by omega)

theorem storeBytes_ok (bo : Nat) (E : Nat → Ent) (hE : ∀ i, u64r (E i).base ∧ u64r (E i).size) (o : Option Addr) (c : Nat) (F : List Nat) (bs : List Int) (w : World) (hb : w.heap[bo]? = some (Blk.obj ⟨stC E, 131, true⟩)) (hA : Rws [rl u8C 5 1 bs o c F] w) (hboF : bo ∉ F) (hn : bs.length ≤ 100000) :
    Calls Tryd.prog 44 #[.pointer (some ⟨bo, 0, none⟩), .slice o bs.length c] w fun e w' => ∃ o' c' F', e = .returned (.slice o' (bs ++ uvs (storeN E)).length c') ∧ (rl u8C 5 1 (bs ++ uvs (storeN E)) o' c' F').at w' ∧ Fr F w w' ∧ (∀ b ∈ F', b ∈ F ∨ w.heap.size ≤ b) := by
  have hbl0 := lt_of_heap hb
  refine enter (n := 43) (K := F) (A := Rws [rl u8C 5 1 bs o c F]) (F := Ff [rl u8C 5 1 bs o c F]) (T := [(0, .pointer (some ⟨bo, 0, none⟩)), (1, .slice o bs.length c)]) (L := [(bo, ⟨stC E, 131, true⟩)]) (args := [.pointer (some ⟨bo, 0, none⟩), .slice o bs.length c]) Tryd.func44 rfl rfl rfl rfl (kcons hb knil) (by simp) (kcons (by intro hq; cases hq) knil) hA Rws.stable hA.low (kcons (by intro hq; cases hq) knil) ?_
  intro a h
  refine wp_seq_k fun K1 hK1 => ?_
  refine nd_start (l := [0]) rfl ?_
  refine nd_batch tabOk tabZ_ok [(0, {})] [0, 1, 4] (T' := [(0, .pointer (some ⟨bo, 0, none⟩)), (1, .slice o bs.length c), (4, .slice none 0 0)]) (φ := True) (rest := []) h (by kernel_rfl) rfl trivial fun a2 h3 => ?_
  clear h
  refine nd_done ?_
  refine hK1 _ _ ?_
  clear hK1
  refine wp_seq_k fun K4 hK4 => ?_
  refine wp_seq_k fun K5 hK5 => ?_
  refine nd_start (l := [0, 1, 2, 3, 4]) rfl ?_
  refine nd_batch tabOk tabZ_ok [(0, {}), (1, {}), (2, {})] [0, 1, 4, 11] (T' := [(0, .pointer (some ⟨bo, 0, none⟩)), (1, .slice o bs.length c), (4, .slice none 0 0), (11, .pointer (some ⟨bo, 0, none⟩))]) (φ := True) (rest := [3, 4]) h3 (by kernel_rfl) rfl trivial fun a6 h7 => ?_
  clear h3
  refine nd_op ?_
  refine op_loadx tabOk (vs := arr 257 entC E) h7 rfl rfl rfl rfl rfl rfl ents_len.symm (ents_at (h7.kn (k := 0) (blk := ⟨stC E, 131, true⟩) rfl)) ?_
  have h8 := h7.put (d := some 12) (v := .agg (arr 257 entC E).toArray) (T' := [(12, .agg (arr 257 entC E).toArray), (0, .pointer (some ⟨bo, 0, none⟩)), (1, .slice o bs.length c), (4, .slice none 0 0), (11, .pointer (some ⟨bo, 0, none⟩))]) rfl
  clear h7
  refine nd_batch tabOk tabZ_ok [(4, {})] [12, 0, 1, 4, 13] (T' := [(12, .agg (arr 257 entC E).toArray), (0, .pointer (some ⟨bo, 0, none⟩)), (1, .slice o bs.length c), (4, .slice none 0 0), (13, .int .i64 0)]) (φ := True) (rest := []) h8 (by kernel_rfl) rfl trivial fun a9 h10 => ?_
  clear h8
  refine nd_done ?_
  refine hK5 _ _ ?_
  clear hK5
  refine wp_block ?_
  refine wp_loop_ghost (fun g ga gw => ∃ (o' : Option Addr) (c' : Nat) (F' : List Nat) (bs' : List Int) (i : Int), ((g : Int) = 257 - i) ∧ (0 ≤ i ∧ i ≤ 257) ∧ (bs' = bs ++ uvs (entsN E i.toNat)) ∧ (∀ b ∈ F', b ∈ F ∨ w.heap.size ≤ b) ∧ St ⟨43, F, w, Rws [rl u8C 5 1 bs' o' c' F'], Ff [rl u8C 5 1 bs' o' c' F']⟩ [(12, .agg (arr 257 entC E).toArray), (13, .int .i64 i), (1, .slice o' bs'.length c')] [(bo, ⟨stC E, 131, true⟩)] ga gw) 257 ⟨o, c, F, bs, 0, by decide, ⟨by decide, by decide⟩, (by simp [uvs, entsN]), (fun _ hq => .inl hq), (h10.slotsMono (restr_spec (keep := [12, 13, 1]) rfl))⟩ ?_
  clear h10
  rintro g a11 w12 ⟨o', c', F', bs', i, hi14, hi15, hi16, hi17, h13⟩
  have hig := hi14
  have hi0 := hi15
  have hbs := hi16
  have hFK := hi17
  obtain ⟨gO, egO⟩ : ∃ x, x = g := ⟨_, rfl⟩
  have hbl : bs'.length ≤ bs.length + i.toNat * 50 := by have h1 := congrArg List.length hbs; have h2 := uvs_len (entsN E i.toNat); have h3 := entsN_len E i.toNat; rw [List.length_append] at h1; omega
  refine wp_seq_k fun K18 hK18 => ?_
  refine nd_start (l := [0]) rfl ?_
  refine nd_batch tabOk tabZ_ok [(0, {})] [12, 13, 1, 14] (T' := [(12, .agg (arr 257 entC E).toArray), (13, .int .i64 i), (1, .slice o' bs'.length c'), (14, .bool (decide (i < 257)))]) (φ := True) (rest := []) h13 (by kernel_rfl) rfl trivial fun a19 h20 => ?_
  clear h13
  refine nd_done ?_
  refine hK18 _ _ ?_
  clear hK18
  refine wp_seq_k fun K21 hK21 => ?_
  refine c_split h20 (b := decide (i < 257)) rfl (fun hc22 => ?_) (fun hc22 => ?_)
  ·
    have hc22f : i < 257 := by simpa using hc22
    have hen : entsN E (i + 1).toNat = entsN E i.toNat ++ entN i (E i.toNat) := by rw [show (i + 1).toNat = i.toNat + 1 by omega, entsN, show ((i.toNat : Nat) : Int) = i by omega]
    refine wp_skip ?_
    refine hK21 _ _ ?_
    clear hK21
    refine wp_seq_k fun K23 hK23 => ?_
    refine wp_block ?_
    refine wp_seq_k fun K24 hK24 => ?_
    refine nd_start (l := [0, 1, 2, 3, 4]) rfl ?_
    refine nd_batch tabOk tabZ_ok [(0, {})] [12, 13, 1, 15] (T' := [(12, .agg (arr 257 entC E).toArray), (13, .int .i64 i), (1, .slice o' bs'.length c'), (15, .int .i64 i)]) (φ := True) (rest := [1, 2, 3, 4]) h20 (by kernel_rfl) rfl trivial fun a25 h26 => ?_
    clear h20
    have h27 := h26.slotsMono (restr_spec (keep := [12, 13, 1, 15]) rfl)
    clear h26
    refine nd_op ?_
    refine op_pure (v := .agg #[.int .u8 ((E i.toNat).ty), .int .u32 ((E i.toNat).gen), .int .u64 ((E i.toNat).base), .int .u64 ((E i.toNat).size)]) h27 rfl rfl (pure_ent h27.slots rfl rfl rfl (by omega) (by omega)) ?_
    have h28 := h27.put (d := some 16) (v := .agg #[.int .u8 ((E i.toNat).ty), .int .u32 ((E i.toNat).gen), .int .u64 ((E i.toNat).base), .int .u64 ((E i.toNat).size)]) (T' := [(16, .agg #[.int .u8 ((E i.toNat).ty), .int .u32 ((E i.toNat).gen), .int .u64 ((E i.toNat).base), .int .u64 ((E i.toNat).size)]), (12, .agg (arr 257 entC E).toArray), (13, .int .i64 i), (1, .slice o' bs'.length c'), (15, .int .i64 i)]) rfl
    clear h27
    refine nd_op ?_
    refine op_new tabOk (cells := [.int .u8 0, .int .u32 0, .int .u64 0, .int .u64 0]) (ty := 128) (ln := none) (L1 := fun b29 => [(bo, ⟨stC E, 131, true⟩), (b29, ⟨[.int .u8 0, .int .u32 0, .int .u64 0, .int .u64 0], 128, false⟩)]) h28 rfl rfl rfl rfl (by kernel_rfl) (fun _ => rfl) fun b29 w30 a31 h32 hf33 hn34 => ?_
    clear h28
    refine nd_batch tabOk tabZ_ok [(3, {})] [6, 16, 12, 13, 1, 5] (T' := [(6, .pointer (some ⟨b29, 0, none⟩)), (16, .agg #[.int .u8 ((E i.toNat).ty), .int .u32 ((E i.toNat).gen), .int .u64 ((E i.toNat).base), .int .u64 ((E i.toNat).size)]), (12, .agg (arr 257 entC E).toArray), (13, .int .i64 i), (1, .slice o' bs'.length c'), (5, .int .i64 i)]) (φ := True) (rest := [4]) h32 (by kernel_rfl) rfl trivial fun a35 h36 => ?_
    clear h32
    refine nd_op ?_
    refine op_store tabOk {k := 1} (L' := [(bo, ⟨stC E, 131, true⟩), (b29, ⟨[.int .u8 ((E i.toNat).ty), .int .u32 ((E i.toNat).gen), .int .u64 ((E i.toNat).base), .int .u64 ((E i.toNat).size)], 128, false⟩)]) (φ := b29 = b29 ∧ Nat.ble (0 + 4) 4 = true) h36 rfl rfl rfl (by kernel_rfl) ⟨rfl, rfl⟩ fun w37 h38 => ?_
    clear h36
    refine nd_done ?_
    refine hK24 _ _ ?_
    clear hK24
    refine wp_seq_k fun K39 hK39 => ?_
    refine nd_start (l := [0, 1, 2]) rfl ?_
    refine nd_batch tabOk tabZ_ok [(0, {k := 1}), (1, {}), (2, {vs := [.bool (decide ((E i.toNat) = (⟨0, 1, 0, 0⟩ : Ent)))]})] [6, 12, 13, 1, 5, 19] (T' := [(6, .pointer (some ⟨b29, 0, none⟩)), (12, .agg (arr 257 entC E).toArray), (13, .int .i64 i), (1, .slice o' bs'.length c'), (5, .int .i64 i), (19, .bool (Bool.xor true (decide ((E i.toNat) = (⟨0, 1, 0, 0⟩ : Ent)))))]) (φ := (b29 = b29 ∧ Nat.ble (0 + 4) 4 = true) ∧ EqRun Tryd.prog 128 (.agg #[.int .u8 ((E i.toNat).ty), .int .u32 ((E i.toNat).gen), .int .u64 ((E i.toNat).base), .int .u64 ((E i.toNat).size)]) (.agg #[.int .u8 0, .int .u32 1, .int .u64 0, .int .u64 0]) (decide ((E i.toNat) = (⟨0, 1, 0, 0⟩ : Ent))) ∧ True) (rest := []) h38 (by kernel_rfl) rfl ⟨⟨rfl, rfl⟩, (runEnt (E i.toNat) (⟨0, 1, 0, 0⟩ : Ent)), trivial⟩ fun a40 h41 => ?_
    clear h38
    refine nd_done ?_
    refine hK39 _ _ ?_
    clear hK39
    refine c_split h41 (b := (Bool.xor true (decide ((E i.toNat) = (⟨0, 1, 0, 0⟩ : Ent))))) rfl (fun hc42 => ?_) (fun hc42 => ?_)
    ·
      have hc42f : ¬ ((E i.toNat) = (⟨0, 1, 0, 0⟩ : Ent)) := by simpa using hc42
      have hee : entN i (E i.toNat) = [IntKind.wrap .u64 i, IntKind.wrap .u64 (E i.toNat).ty, IntKind.wrap .u64 (E i.toNat).gen, (E i.toNat).base, (E i.toNat).size] := if_neg hc42f
      refine wp_seq_k fun K43 hK43 => ?_
      refine nd_start (l := [0, 1, 2, 3, 4, 5, 6, 7, 8, 9, 10, 11, 12, 13]) rfl ?_
      refine nd_batch tabOk tabZ_ok [(0, {}), (1, {m := 1}), (2, {}), (3, {k := 1}), (4, {m := 1}), (5, {}), (6, {k := 1}), (7, {m := 1}), (8, {}), (9, {k := 1}), (10, {}), (11, {k := 1}), (12, {}), (13, {})] [6, 12, 13, 1, 5, 32, 33] (T' := [(6, .pointer (some ⟨b29, 0, none⟩)), (12, .agg (arr 257 entC E).toArray), (13, .int .i64 i), (1, .slice o' bs'.length c'), (5, .int .i64 i), (32, .agg #[.int .u64 (IntKind.wrap .u64 i), .int .u64 (IntKind.wrap .u64 ((E i.toNat).ty)), .int .u64 (IntKind.wrap .u64 ((E i.toNat).gen)), .int .u64 ((E i.toNat).base), .int .u64 ((E i.toNat).size)]), (33, .int .i64 0)]) (φ := (b29 = b29 ∧ Nat.ble (0 + 1) 4 = true) ∧ (b29 = b29 ∧ Nat.ble (1 + 1) 4 = true) ∧ (b29 = b29 ∧ Nat.ble (2 + 1) 4 = true) ∧ (b29 = b29 ∧ Nat.ble (3 + 1) 4 = true) ∧ True) (rest := []) h41 (by kernel_rfl) rfl ⟨⟨rfl, rfl⟩, ⟨rfl, rfl⟩, ⟨rfl, rfl⟩, ⟨rfl, rfl⟩, trivial⟩ fun a44 h45 => ?_
      clear h41
      refine nd_done ?_
      refine hK43 _ _ ?_
      clear hK43
      refine wp_block ?_
      refine wp_loop_rounds 6 ?_
      refine rounds_step ?_
      refine wp_seq_k fun K46 hK46 => ?_
      refine nd_start (l := [0]) rfl ?_
      refine nd_batch tabOk tabZ_ok [(0, {})] [6, 12, 13, 1, 5, 32, 33, 34] (T' := [(6, .pointer (some ⟨b29, 0, none⟩)), (12, .agg (arr 257 entC E).toArray), (13, .int .i64 i), (1, .slice o' bs'.length c'), (5, .int .i64 i), (32, .agg #[.int .u64 (IntKind.wrap .u64 i), .int .u64 (IntKind.wrap .u64 ((E i.toNat).ty)), .int .u64 (IntKind.wrap .u64 ((E i.toNat).gen)), .int .u64 ((E i.toNat).base), .int .u64 ((E i.toNat).size)]), (33, .int .i64 0), (34, .bool true)]) (φ := True) (rest := []) h45 (by kernel_rfl) rfl trivial fun a47 h48 => ?_
      clear h45
      refine nd_done ?_
      refine hK46 _ _ ?_
      clear hK46
      refine wp_seq_k fun K49 hK49 => ?_
      refine c_true h48 rfl ?_
      refine wp_skip ?_
      refine hK49 _ _ ?_
      clear hK49
      refine wp_seq_k fun K50 hK50 => ?_
      refine wp_block ?_
      refine wp_seq_k fun K51 hK51 => ?_
      refine nd_start (l := [0, 1]) rfl ?_
      have h52 := h48.slotsMono (restr_spec (keep := [6, 12, 13, 1, 5, 32, 33]) rfl)
      clear h48
      refine nd_op ?_
      refine op_pure (v := .int .u64 (IntKind.wrap .u64 i)) h52 rfl rfl (pure_index tabOk h52.slots rfl rfl rfl rfl rfl rfl (by decide) (by decide) (φ := none) rfl trivial) ?_
      have h53 := h52.put (d := some 35) (v := .int .u64 (IntKind.wrap .u64 i)) (T' := [(35, .int .u64 (IntKind.wrap .u64 i)), (6, .pointer (some ⟨b29, 0, none⟩)), (12, .agg (arr 257 entC E).toArray), (13, .int .i64 i), (1, .slice o' bs'.length c'), (5, .int .i64 i), (32, .agg #[.int .u64 (IntKind.wrap .u64 i), .int .u64 (IntKind.wrap .u64 ((E i.toNat).ty)), .int .u64 (IntKind.wrap .u64 ((E i.toNat).gen)), .int .u64 ((E i.toNat).base), .int .u64 ((E i.toNat).size)]), (33, .int .i64 0)]) rfl
      clear h52
      refine nd_batch tabOk tabZ_ok [(1, {})] [6, 12, 13, 1, 5, 32, 33, 8] (T' := [(6, .pointer (some ⟨b29, 0, none⟩)), (12, .agg (arr 257 entC E).toArray), (13, .int .i64 i), (1, .slice o' bs'.length c'), (5, .int .i64 i), (32, .agg #[.int .u64 (IntKind.wrap .u64 i), .int .u64 (IntKind.wrap .u64 ((E i.toNat).ty)), .int .u64 (IntKind.wrap .u64 ((E i.toNat).gen)), .int .u64 ((E i.toNat).base), .int .u64 ((E i.toNat).size)]), (33, .int .i64 0), (8, .int .u64 (IntKind.wrap .u64 i))]) (φ := True) (rest := []) h53 (by kernel_rfl) rfl trivial fun a54 h55 => ?_
      clear h53
      refine nd_done ?_
      refine hK51 _ _ ?_
      clear hK51
      refine nd_start (l := [0, 1, 2, 3]) rfl ?_
      refine nd_batch tabOk tabZ_ok [(0, {}), (1, {})] [6, 12, 13, 1, 5, 32, 33, 8, 36, 37] (T' := [(6, .pointer (some ⟨b29, 0, none⟩)), (12, .agg (arr 257 entC E).toArray), (13, .int .i64 i), (1, .slice o' bs'.length c'), (5, .int .i64 i), (32, .agg #[.int .u64 (IntKind.wrap .u64 i), .int .u64 (IntKind.wrap .u64 ((E i.toNat).ty)), .int .u64 (IntKind.wrap .u64 ((E i.toNat).gen)), .int .u64 ((E i.toNat).base), .int .u64 ((E i.toNat).size)]), (33, .int .i64 0), (8, .int .u64 (IntKind.wrap .u64 i)), (36, .slice o' bs'.length c'), (37, .int .u64 (IntKind.wrap .u64 i))]) (φ := True) (rest := [2, 3]) h55 (by kernel_rfl) rfl trivial fun a56 h57 => ?_
      clear h55
      refine nd_op ?_
      refine op_call h57 rfl rfl rfl (callOk Tryd.func58 (by decide) rfl) (args := [.slice o' bs'.length c', .int .u64 (IntKind.wrap .u64 i)]) rfl (uvar_ok o' c' F' bs' (IntKind.wrap .u64 i) (u64w _) (by omega) _ h57.inv) ?_
      rintro _ w61 ⟨o58, c59, F60, rfl, hr62, hf63, hF64⟩
      refine ⟨_, rfl, ?_⟩
      have hKh65 := row1_keys (K := F) hFK h57.frame.size hF64
      have h65 := (h57.rowSet (j := 0) (r' := rl u8C 5 1 (bs' ++ uv (IntKind.wrap .u64 i)) o58 c59 F60) (R' := [rl u8C 5 1 (bs' ++ uv (IntKind.wrap .u64 i)) o58 c59 F60]) rfl hr62 hf63 hF64 hFK (kcons (fun _ => (fun hq => (hFK bo hq).elim hboF (fun h => by omega))) (kcons (by intro hq; cases hq) knil)) rfl).put (d := some 38) (v := .slice o58 ((bs' ++ uv (IntKind.wrap .u64 i)).length) c59) (T' := [(38, .slice o58 ((bs' ++ uv (IntKind.wrap .u64 i)).length) c59), (6, .pointer (some ⟨b29, 0, none⟩)), (12, .agg (arr 257 entC E).toArray), (13, .int .i64 i), (1, .slice o' bs'.length c'), (5, .int .i64 i), (32, .agg #[.int .u64 (IntKind.wrap .u64 i), .int .u64 (IntKind.wrap .u64 ((E i.toNat).ty)), .int .u64 (IntKind.wrap .u64 ((E i.toNat).gen)), .int .u64 ((E i.toNat).base), .int .u64 ((E i.toNat).size)]), (33, .int .i64 0), (8, .int .u64 (IntKind.wrap .u64 i)), (36, .slice o' bs'.length c'), (37, .int .u64 (IntKind.wrap .u64 i))]) rfl
      clear h57
      refine nd_batch tabOk tabZ_ok [(3, {})] [6, 12, 13, 5, 32, 33, 8, 1] (T' := [(6, .pointer (some ⟨b29, 0, none⟩)), (12, .agg (arr 257 entC E).toArray), (13, .int .i64 i), (5, .int .i64 i), (32, .agg #[.int .u64 (IntKind.wrap .u64 i), .int .u64 (IntKind.wrap .u64 ((E i.toNat).ty)), .int .u64 (IntKind.wrap .u64 ((E i.toNat).gen)), .int .u64 ((E i.toNat).base), .int .u64 ((E i.toNat).size)]), (33, .int .i64 0), (8, .int .u64 (IntKind.wrap .u64 i)), (1, .slice o58 ((bs' ++ uv (IntKind.wrap .u64 i)).length) c59)]) (φ := True) (rest := []) h65 (by kernel_rfl) rfl trivial fun a66 h67 => ?_
      clear h65
      refine nd_done ?_
      refine hK50 _ _ ?_
      clear hK50
      refine nd_start (l := [0, 1]) rfl ?_
      refine nd_batch tabOk tabZ_ok [(0, {}), (1, {})] [6, 12, 13, 5, 32, 8, 1, 33] (T' := [(6, .pointer (some ⟨b29, 0, none⟩)), (12, .agg (arr 257 entC E).toArray), (13, .int .i64 i), (5, .int .i64 i), (32, .agg #[.int .u64 (IntKind.wrap .u64 i), .int .u64 (IntKind.wrap .u64 ((E i.toNat).ty)), .int .u64 (IntKind.wrap .u64 ((E i.toNat).gen)), .int .u64 ((E i.toNat).base), .int .u64 ((E i.toNat).size)]), (8, .int .u64 (IntKind.wrap .u64 i)), (1, .slice o58 ((bs' ++ uv (IntKind.wrap .u64 i)).length) c59), (33, .int .i64 1)]) (φ := inR .i64 1 ∧ True) (rest := []) h67 (by kernel_rfl) rfl ⟨⟨by decide, by decide⟩, trivial⟩ fun a68 h69 => ?_
      clear h67
      refine nd_done ?_
      refine rounds_step ?_
      refine wp_seq_k fun K70 hK70 => ?_
      refine nd_start (l := [0]) rfl ?_
      refine nd_batch tabOk tabZ_ok [(0, {})] [6, 12, 13, 5, 32, 8, 1, 33, 34] (T' := [(6, .pointer (some ⟨b29, 0, none⟩)), (12, .agg (arr 257 entC E).toArray), (13, .int .i64 i), (5, .int .i64 i), (32, .agg #[.int .u64 (IntKind.wrap .u64 i), .int .u64 (IntKind.wrap .u64 ((E i.toNat).ty)), .int .u64 (IntKind.wrap .u64 ((E i.toNat).gen)), .int .u64 ((E i.toNat).base), .int .u64 ((E i.toNat).size)]), (8, .int .u64 (IntKind.wrap .u64 i)), (1, .slice o58 ((bs' ++ uv (IntKind.wrap .u64 i)).length) c59), (33, .int .i64 1), (34, .bool true)]) (φ := True) (rest := []) h69 (by kernel_rfl) rfl trivial fun a71 h72 => ?_
      clear h69
      refine nd_done ?_
      refine hK70 _ _ ?_
      clear hK70
      refine wp_seq_k fun K73 hK73 => ?_
      refine c_true h72 rfl ?_
      refine wp_skip ?_
      refine hK73 _ _ ?_
      clear hK73
      refine wp_seq_k fun K74 hK74 => ?_
      refine wp_block ?_
      refine wp_seq_k fun K75 hK75 => ?_
      refine nd_start (l := [0, 1]) rfl ?_
      have h76 := h72.slotsMono (restr_spec (keep := [6, 12, 13, 5, 32, 8, 1, 33]) rfl)
      clear h72
      refine nd_op ?_
      refine op_pure (v := .int .u64 (IntKind.wrap .u64 ((E i.toNat).ty))) h76 rfl rfl (pure_index tabOk h76.slots rfl rfl rfl rfl rfl rfl (by decide) (by decide) (φ := none) rfl trivial) ?_
      have h77 := h76.put (d := some 35) (v := .int .u64 (IntKind.wrap .u64 ((E i.toNat).ty))) (T' := [(35, .int .u64 (IntKind.wrap .u64 ((E i.toNat).ty))), (6, .pointer (some ⟨b29, 0, none⟩)), (12, .agg (arr 257 entC E).toArray), (13, .int .i64 i), (5, .int .i64 i), (32, .agg #[.int .u64 (IntKind.wrap .u64 i), .int .u64 (IntKind.wrap .u64 ((E i.toNat).ty)), .int .u64 (IntKind.wrap .u64 ((E i.toNat).gen)), .int .u64 ((E i.toNat).base), .int .u64 ((E i.toNat).size)]), (8, .int .u64 (IntKind.wrap .u64 i)), (1, .slice o58 ((bs' ++ uv (IntKind.wrap .u64 i)).length) c59), (33, .int .i64 1)]) rfl
      clear h76
      refine nd_batch tabOk tabZ_ok [(1, {})] [6, 12, 13, 5, 32, 1, 33, 8] (T' := [(6, .pointer (some ⟨b29, 0, none⟩)), (12, .agg (arr 257 entC E).toArray), (13, .int .i64 i), (5, .int .i64 i), (32, .agg #[.int .u64 (IntKind.wrap .u64 i), .int .u64 (IntKind.wrap .u64 ((E i.toNat).ty)), .int .u64 (IntKind.wrap .u64 ((E i.toNat).gen)), .int .u64 ((E i.toNat).base), .int .u64 ((E i.toNat).size)]), (1, .slice o58 ((bs' ++ uv (IntKind.wrap .u64 i)).length) c59), (33, .int .i64 1), (8, .int .u64 (IntKind.wrap .u64 ((E i.toNat).ty)))]) (φ := True) (rest := []) h77 (by kernel_rfl) rfl trivial fun a78 h79 => ?_
      clear h77
      refine nd_done ?_
      refine hK75 _ _ ?_
      clear hK75
      refine nd_start (l := [0, 1, 2, 3]) rfl ?_
      refine nd_batch tabOk tabZ_ok [(0, {}), (1, {})] [6, 12, 13, 5, 32, 1, 33, 8, 36, 37] (T' := [(6, .pointer (some ⟨b29, 0, none⟩)), (12, .agg (arr 257 entC E).toArray), (13, .int .i64 i), (5, .int .i64 i), (32, .agg #[.int .u64 (IntKind.wrap .u64 i), .int .u64 (IntKind.wrap .u64 ((E i.toNat).ty)), .int .u64 (IntKind.wrap .u64 ((E i.toNat).gen)), .int .u64 ((E i.toNat).base), .int .u64 ((E i.toNat).size)]), (1, .slice o58 ((bs' ++ uv (IntKind.wrap .u64 i)).length) c59), (33, .int .i64 1), (8, .int .u64 (IntKind.wrap .u64 ((E i.toNat).ty))), (36, .slice o58 ((bs' ++ uv (IntKind.wrap .u64 i)).length) c59), (37, .int .u64 (IntKind.wrap .u64 ((E i.toNat).ty)))]) (φ := True) (rest := [2, 3]) h79 (by kernel_rfl) rfl trivial fun a80 h81 => ?_
      clear h79
      refine nd_op ?_
      refine op_call h81 rfl rfl rfl (callOk Tryd.func58 (by decide) rfl) (args := [.slice o58 ((bs' ++ uv (IntKind.wrap .u64 i)).length) c59, .int .u64 (IntKind.wrap .u64 ((E i.toNat).ty))]) rfl (uvar_ok o58 c59 F60 (bs' ++ uv (IntKind.wrap .u64 i)) (IntKind.wrap .u64 ((E i.toNat).ty)) (u64w _) (by have := uv_len (IntKind.wrap .u64 i); simp only [List.length_append]; omega) _ h81.inv) ?_
      rintro _ w85 ⟨o82, c83, F84, rfl, hr86, hf87, hF88⟩
      refine ⟨_, rfl, ?_⟩
      have hKh89 := row1_keys (K := F) hKh65 h81.frame.size hF88
      have h89 := (h81.rowSet (j := 0) (r' := rl u8C 5 1 (bs' ++ uv (IntKind.wrap .u64 i) ++ uv (IntKind.wrap .u64 ((E i.toNat).ty))) o82 c83 F84) (R' := [rl u8C 5 1 (bs' ++ uv (IntKind.wrap .u64 i) ++ uv (IntKind.wrap .u64 ((E i.toNat).ty))) o82 c83 F84]) rfl hr86 hf87 hF88 hKh65 (kcons (fun _ => (fun hq => (hKh65 bo hq).elim hboF (fun h => by omega))) (kcons (by intro hq; cases hq) knil)) rfl).put (d := some 38) (v := .slice o82 ((bs' ++ uv (IntKind.wrap .u64 i) ++ uv (IntKind.wrap .u64 ((E i.toNat).ty))).length) c83) (T' := [(38, .slice o82 ((bs' ++ uv (IntKind.wrap .u64 i) ++ uv (IntKind.wrap .u64 ((E i.toNat).ty))).length) c83), (6, .pointer (some ⟨b29, 0, none⟩)), (12, .agg (arr 257 entC E).toArray), (13, .int .i64 i), (5, .int .i64 i), (32, .agg #[.int .u64 (IntKind.wrap .u64 i), .int .u64 (IntKind.wrap .u64 ((E i.toNat).ty)), .int .u64 (IntKind.wrap .u64 ((E i.toNat).gen)), .int .u64 ((E i.toNat).base), .int .u64 ((E i.toNat).size)]), (1, .slice o58 ((bs' ++ uv (IntKind.wrap .u64 i)).length) c59), (33, .int .i64 1), (8, .int .u64 (IntKind.wrap .u64 ((E i.toNat).ty))), (36, .slice o58 ((bs' ++ uv (IntKind.wrap .u64 i)).length) c59), (37, .int .u64 (IntKind.wrap .u64 ((E i.toNat).ty)))]) rfl
      clear h81
      refine nd_batch tabOk tabZ_ok [(3, {})] [6, 12, 13, 5, 32, 33, 8, 1] (T' := [(6, .pointer (some ⟨b29, 0, none⟩)), (12, .agg (arr 257 entC E).toArray), (13, .int .i64 i), (5, .int .i64 i), (32, .agg #[.int .u64 (IntKind.wrap .u64 i), .int .u64 (IntKind.wrap .u64 ((E i.toNat).ty)), .int .u64 (IntKind.wrap .u64 ((E i.toNat).gen)), .int .u64 ((E i.toNat).base), .int .u64 ((E i.toNat).size)]), (33, .int .i64 1), (8, .int .u64 (IntKind.wrap .u64 ((E i.toNat).ty))), (1, .slice o82 ((bs' ++ uv (IntKind.wrap .u64 i) ++ uv (IntKind.wrap .u64 ((E i.toNat).ty))).length) c83)]) (φ := True) (rest := []) h89 (by kernel_rfl) rfl trivial fun a90 h91 => ?_
      clear h89
      refine nd_done ?_
      refine hK74 _ _ ?_
      clear hK74
      refine nd_start (l := [0, 1]) rfl ?_
      refine nd_batch tabOk tabZ_ok [(0, {}), (1, {})] [6, 12, 13, 5, 32, 8, 1, 33] (T' := [(6, .pointer (some ⟨b29, 0, none⟩)), (12, .agg (arr 257 entC E).toArray), (13, .int .i64 i), (5, .int .i64 i), (32, .agg #[.int .u64 (IntKind.wrap .u64 i), .int .u64 (IntKind.wrap .u64 ((E i.toNat).ty)), .int .u64 (IntKind.wrap .u64 ((E i.toNat).gen)), .int .u64 ((E i.toNat).base), .int .u64 ((E i.toNat).size)]), (8, .int .u64 (IntKind.wrap .u64 ((E i.toNat).ty))), (1, .slice o82 ((bs' ++ uv (IntKind.wrap .u64 i) ++ uv (IntKind.wrap .u64 ((E i.toNat).ty))).length) c83), (33, .int .i64 2)]) (φ := inR .i64 2 ∧ True) (rest := []) h91 (by kernel_rfl) rfl ⟨⟨by decide, by decide⟩, trivial⟩ fun a92 h93 => ?_
      clear h91
      refine nd_done ?_
      refine rounds_step ?_
      refine wp_seq_k fun K94 hK94 => ?_
      refine nd_start (l := [0]) rfl ?_
      refine nd_batch tabOk tabZ_ok [(0, {})] [6, 12, 13, 5, 32, 8, 1, 33, 34] (T' := [(6, .pointer (some ⟨b29, 0, none⟩)), (12, .agg (arr 257 entC E).toArray), (13, .int .i64 i), (5, .int .i64 i), (32, .agg #[.int .u64 (IntKind.wrap .u64 i), .int .u64 (IntKind.wrap .u64 ((E i.toNat).ty)), .int .u64 (IntKind.wrap .u64 ((E i.toNat).gen)), .int .u64 ((E i.toNat).base), .int .u64 ((E i.toNat).size)]), (8, .int .u64 (IntKind.wrap .u64 ((E i.toNat).ty))), (1, .slice o82 ((bs' ++ uv (IntKind.wrap .u64 i) ++ uv (IntKind.wrap .u64 ((E i.toNat).ty))).length) c83), (33, .int .i64 2), (34, .bool true)]) (φ := True) (rest := []) h93 (by kernel_rfl) rfl trivial fun a95 h96 => ?_
      clear h93
      refine nd_done ?_
      refine hK94 _ _ ?_
      clear hK94
      refine wp_seq_k fun K97 hK97 => ?_
      refine c_true h96 rfl ?_
      refine wp_skip ?_
      refine hK97 _ _ ?_
      clear hK97
      refine wp_seq_k fun K98 hK98 => ?_
      refine wp_block ?_
      refine wp_seq_k fun K99 hK99 => ?_
      refine nd_start (l := [0, 1]) rfl ?_
      have h100 := h96.slotsMono (restr_spec (keep := [6, 12, 13, 5, 32, 8, 1, 33]) rfl)
      clear h96
      refine nd_op ?_
      refine op_pure (v := .int .u64 (IntKind.wrap .u64 ((E i.toNat).gen))) h100 rfl rfl (pure_index tabOk h100.slots rfl rfl rfl rfl rfl rfl (by decide) (by decide) (φ := none) rfl trivial) ?_
      have h101 := h100.put (d := some 35) (v := .int .u64 (IntKind.wrap .u64 ((E i.toNat).gen))) (T' := [(35, .int .u64 (IntKind.wrap .u64 ((E i.toNat).gen))), (6, .pointer (some ⟨b29, 0, none⟩)), (12, .agg (arr 257 entC E).toArray), (13, .int .i64 i), (5, .int .i64 i), (32, .agg #[.int .u64 (IntKind.wrap .u64 i), .int .u64 (IntKind.wrap .u64 ((E i.toNat).ty)), .int .u64 (IntKind.wrap .u64 ((E i.toNat).gen)), .int .u64 ((E i.toNat).base), .int .u64 ((E i.toNat).size)]), (8, .int .u64 (IntKind.wrap .u64 ((E i.toNat).ty))), (1, .slice o82 ((bs' ++ uv (IntKind.wrap .u64 i) ++ uv (IntKind.wrap .u64 ((E i.toNat).ty))).length) c83), (33, .int .i64 2)]) rfl
      clear h100
      refine nd_batch tabOk tabZ_ok [(1, {})] [6, 12, 13, 5, 32, 1, 33, 8] (T' := [(6, .pointer (some ⟨b29, 0, none⟩)), (12, .agg (arr 257 entC E).toArray), (13, .int .i64 i), (5, .int .i64 i), (32, .agg #[.int .u64 (IntKind.wrap .u64 i), .int .u64 (IntKind.wrap .u64 ((E i.toNat).ty)), .int .u64 (IntKind.wrap .u64 ((E i.toNat).gen)), .int .u64 ((E i.toNat).base), .int .u64 ((E i.toNat).size)]), (1, .slice o82 ((bs' ++ uv (IntKind.wrap .u64 i) ++ uv (IntKind.wrap .u64 ((E i.toNat).ty))).length) c83), (33, .int .i64 2), (8, .int .u64 (IntKind.wrap .u64 ((E i.toNat).gen)))]) (φ := True) (rest := []) h101 (by kernel_rfl) rfl trivial fun a102 h103 => ?_
      clear h101
      refine nd_done ?_
      refine hK99 _ _ ?_
      clear hK99
      refine nd_start (l := [0, 1, 2, 3]) rfl ?_
      refine nd_batch tabOk tabZ_ok [(0, {}), (1, {})] [6, 12, 13, 5, 32, 1, 33, 8, 36, 37] (T' := [(6, .pointer (some ⟨b29, 0, none⟩)), (12, .agg (arr 257 entC E).toArray), (13, .int .i64 i), (5, .int .i64 i), (32, .agg #[.int .u64 (IntKind.wrap .u64 i), .int .u64 (IntKind.wrap .u64 ((E i.toNat).ty)), .int .u64 (IntKind.wrap .u64 ((E i.toNat).gen)), .int .u64 ((E i.toNat).base), .int .u64 ((E i.toNat).size)]), (1, .slice o82 ((bs' ++ uv (IntKind.wrap .u64 i) ++ uv (IntKind.wrap .u64 ((E i.toNat).ty))).length) c83), (33, .int .i64 2), (8, .int .u64 (IntKind.wrap .u64 ((E i.toNat).gen))), (36, .slice o82 ((bs' ++ uv (IntKind.wrap .u64 i) ++ uv (IntKind.wrap .u64 ((E i.toNat).ty))).length) c83), (37, .int .u64 (IntKind.wrap .u64 ((E i.toNat).gen)))]) (φ := True) (rest := [2, 3]) h103 (by kernel_rfl) rfl trivial fun a104 h105 => ?_
      clear h103
      refine nd_op ?_
      refine op_call h105 rfl rfl rfl (callOk Tryd.func58 (by decide) rfl) (args := [.slice o82 ((bs' ++ uv (IntKind.wrap .u64 i) ++ uv (IntKind.wrap .u64 ((E i.toNat).ty))).length) c83, .int .u64 (IntKind.wrap .u64 ((E i.toNat).gen))]) rfl (uvar_ok o82 c83 F84 (bs' ++ uv (IntKind.wrap .u64 i) ++ uv (IntKind.wrap .u64 ((E i.toNat).ty))) (IntKind.wrap .u64 ((E i.toNat).gen)) (u64w _) (by have := uv_len (IntKind.wrap .u64 i); have := uv_len (IntKind.wrap .u64 ((E i.toNat).ty)); simp only [List.length_append]; omega) _ h105.inv) ?_
      rintro _ w109 ⟨o106, c107, F108, rfl, hr110, hf111, hF112⟩
      refine ⟨_, rfl, ?_⟩
      have hKh113 := row1_keys (K := F) hKh89 h105.frame.size hF112
      have h113 := (h105.rowSet (j := 0) (r' := rl u8C 5 1 (bs' ++ uv (IntKind.wrap .u64 i) ++ uv (IntKind.wrap .u64 ((E i.toNat).ty)) ++ uv (IntKind.wrap .u64 ((E i.toNat).gen))) o106 c107 F108) (R' := [rl u8C 5 1 (bs' ++ uv (IntKind.wrap .u64 i) ++ uv (IntKind.wrap .u64 ((E i.toNat).ty)) ++ uv (IntKind.wrap .u64 ((E i.toNat).gen))) o106 c107 F108]) rfl hr110 hf111 hF112 hKh89 (kcons (fun _ => (fun hq => (hKh89 bo hq).elim hboF (fun h => by omega))) (kcons (by intro hq; cases hq) knil)) rfl).put (d := some 38) (v := .slice o106 ((bs' ++ uv (IntKind.wrap .u64 i) ++ uv (IntKind.wrap .u64 ((E i.toNat).ty)) ++ uv (IntKind.wrap .u64 ((E i.toNat).gen))).length) c107) (T' := [(38, .slice o106 ((bs' ++ uv (IntKind.wrap .u64 i) ++ uv (IntKind.wrap .u64 ((E i.toNat).ty)) ++ uv (IntKind.wrap .u64 ((E i.toNat).gen))).length) c107), (6, .pointer (some ⟨b29, 0, none⟩)), (12, .agg (arr 257 entC E).toArray), (13, .int .i64 i), (5, .int .i64 i), (32, .agg #[.int .u64 (IntKind.wrap .u64 i), .int .u64 (IntKind.wrap .u64 ((E i.toNat).ty)), .int .u64 (IntKind.wrap .u64 ((E i.toNat).gen)), .int .u64 ((E i.toNat).base), .int .u64 ((E i.toNat).size)]), (1, .slice o82 ((bs' ++ uv (IntKind.wrap .u64 i) ++ uv (IntKind.wrap .u64 ((E i.toNat).ty))).length) c83), (33, .int .i64 2), (8, .int .u64 (IntKind.wrap .u64 ((E i.toNat).gen))), (36, .slice o82 ((bs' ++ uv (IntKind.wrap .u64 i) ++ uv (IntKind.wrap .u64 ((E i.toNat).ty))).length) c83), (37, .int .u64 (IntKind.wrap .u64 ((E i.toNat).gen)))]) rfl
      clear h105
      refine nd_batch tabOk tabZ_ok [(3, {})] [6, 12, 13, 5, 32, 33, 8, 1] (T' := [(6, .pointer (some ⟨b29, 0, none⟩)), (12, .agg (arr 257 entC E).toArray), (13, .int .i64 i), (5, .int .i64 i), (32, .agg #[.int .u64 (IntKind.wrap .u64 i), .int .u64 (IntKind.wrap .u64 ((E i.toNat).ty)), .int .u64 (IntKind.wrap .u64 ((E i.toNat).gen)), .int .u64 ((E i.toNat).base), .int .u64 ((E i.toNat).size)]), (33, .int .i64 2), (8, .int .u64 (IntKind.wrap .u64 ((E i.toNat).gen))), (1, .slice o106 ((bs' ++ uv (IntKind.wrap .u64 i) ++ uv (IntKind.wrap .u64 ((E i.toNat).ty)) ++ uv (IntKind.wrap .u64 ((E i.toNat).gen))).length) c107)]) (φ := True) (rest := []) h113 (by kernel_rfl) rfl trivial fun a114 h115 => ?_
      clear h113
      refine nd_done ?_
      refine hK98 _ _ ?_
      clear hK98
      refine nd_start (l := [0, 1]) rfl ?_
      refine nd_batch tabOk tabZ_ok [(0, {}), (1, {})] [6, 12, 13, 5, 32, 8, 1, 33] (T' := [(6, .pointer (some ⟨b29, 0, none⟩)), (12, .agg (arr 257 entC E).toArray), (13, .int .i64 i), (5, .int .i64 i), (32, .agg #[.int .u64 (IntKind.wrap .u64 i), .int .u64 (IntKind.wrap .u64 ((E i.toNat).ty)), .int .u64 (IntKind.wrap .u64 ((E i.toNat).gen)), .int .u64 ((E i.toNat).base), .int .u64 ((E i.toNat).size)]), (8, .int .u64 (IntKind.wrap .u64 ((E i.toNat).gen))), (1, .slice o106 ((bs' ++ uv (IntKind.wrap .u64 i) ++ uv (IntKind.wrap .u64 ((E i.toNat).ty)) ++ uv (IntKind.wrap .u64 ((E i.toNat).gen))).length) c107), (33, .int .i64 3)]) (φ := inR .i64 3 ∧ True) (rest := []) h115 (by kernel_rfl) rfl ⟨⟨by decide, by decide⟩, trivial⟩ fun a116 h117 => ?_
      clear h115
      refine nd_done ?_
      refine rounds_step ?_
      refine wp_seq_k fun K118 hK118 => ?_
      refine nd_start (l := [0]) rfl ?_
      refine nd_batch tabOk tabZ_ok [(0, {})] [6, 12, 13, 5, 32, 8, 1, 33, 34] (T' := [(6, .pointer (some ⟨b29, 0, none⟩)), (12, .agg (arr 257 entC E).toArray), (13, .int .i64 i), (5, .int .i64 i), (32, .agg #[.int .u64 (IntKind.wrap .u64 i), .int .u64 (IntKind.wrap .u64 ((E i.toNat).ty)), .int .u64 (IntKind.wrap .u64 ((E i.toNat).gen)), .int .u64 ((E i.toNat).base), .int .u64 ((E i.toNat).size)]), (8, .int .u64 (IntKind.wrap .u64 ((E i.toNat).gen))), (1, .slice o106 ((bs' ++ uv (IntKind.wrap .u64 i) ++ uv (IntKind.wrap .u64 ((E i.toNat).ty)) ++ uv (IntKind.wrap .u64 ((E i.toNat).gen))).length) c107), (33, .int .i64 3), (34, .bool true)]) (φ := True) (rest := []) h117 (by kernel_rfl) rfl trivial fun a119 h120 => ?_
      clear h117
      refine nd_done ?_
      refine hK118 _ _ ?_
      clear hK118
      refine wp_seq_k fun K121 hK121 => ?_
      refine c_true h120 rfl ?_
      refine wp_skip ?_
      refine hK121 _ _ ?_
      clear hK121
      refine wp_seq_k fun K122 hK122 => ?_
      refine wp_block ?_
      refine wp_seq_k fun K123 hK123 => ?_
      refine nd_start (l := [0, 1]) rfl ?_
      have h124 := h120.slotsMono (restr_spec (keep := [6, 12, 13, 5, 32, 8, 1, 33]) rfl)
      clear h120
      refine nd_op ?_
      refine op_pure (v := .int .u64 ((E i.toNat).base)) h124 rfl rfl (pure_index tabOk h124.slots rfl rfl rfl rfl rfl rfl (by decide) (by decide) (φ := none) rfl trivial) ?_
      have h125 := h124.put (d := some 35) (v := .int .u64 ((E i.toNat).base)) (T' := [(35, .int .u64 ((E i.toNat).base)), (6, .pointer (some ⟨b29, 0, none⟩)), (12, .agg (arr 257 entC E).toArray), (13, .int .i64 i), (5, .int .i64 i), (32, .agg #[.int .u64 (IntKind.wrap .u64 i), .int .u64 (IntKind.wrap .u64 ((E i.toNat).ty)), .int .u64 (IntKind.wrap .u64 ((E i.toNat).gen)), .int .u64 ((E i.toNat).base), .int .u64 ((E i.toNat).size)]), (8, .int .u64 (IntKind.wrap .u64 ((E i.toNat).gen))), (1, .slice o106 ((bs' ++ uv (IntKind.wrap .u64 i) ++ uv (IntKind.wrap .u64 ((E i.toNat).ty)) ++ uv (IntKind.wrap .u64 ((E i.toNat).gen))).length) c107), (33, .int .i64 3)]) rfl
      clear h124
      refine nd_batch tabOk tabZ_ok [(1, {})] [6, 12, 13, 5, 32, 1, 33, 8] (T' := [(6, .pointer (some ⟨b29, 0, none⟩)), (12, .agg (arr 257 entC E).toArray), (13, .int .i64 i), (5, .int .i64 i), (32, .agg #[.int .u64 (IntKind.wrap .u64 i), .int .u64 (IntKind.wrap .u64 ((E i.toNat).ty)), .int .u64 (IntKind.wrap .u64 ((E i.toNat).gen)), .int .u64 ((E i.toNat).base), .int .u64 ((E i.toNat).size)]), (1, .slice o106 ((bs' ++ uv (IntKind.wrap .u64 i) ++ uv (IntKind.wrap .u64 ((E i.toNat).ty)) ++ uv (IntKind.wrap .u64 ((E i.toNat).gen))).length) c107), (33, .int .i64 3), (8, .int .u64 ((E i.toNat).base))]) (φ := True) (rest := []) h125 (by kernel_rfl) rfl trivial fun a126 h127 => ?_
      clear h125
      refine nd_done ?_
      refine hK123 _ _ ?_
      clear hK123
      refine nd_start (l := [0, 1, 2, 3]) rfl ?_
      refine nd_batch tabOk tabZ_ok [(0, {}), (1, {})] [6, 12, 13, 5, 32, 1, 33, 8, 36, 37] (T' := [(6, .pointer (some ⟨b29, 0, none⟩)), (12, .agg (arr 257 entC E).toArray), (13, .int .i64 i), (5, .int .i64 i), (32, .agg #[.int .u64 (IntKind.wrap .u64 i), .int .u64 (IntKind.wrap .u64 ((E i.toNat).ty)), .int .u64 (IntKind.wrap .u64 ((E i.toNat).gen)), .int .u64 ((E i.toNat).base), .int .u64 ((E i.toNat).size)]), (1, .slice o106 ((bs' ++ uv (IntKind.wrap .u64 i) ++ uv (IntKind.wrap .u64 ((E i.toNat).ty)) ++ uv (IntKind.wrap .u64 ((E i.toNat).gen))).length) c107), (33, .int .i64 3), (8, .int .u64 ((E i.toNat).base)), (36, .slice o106 ((bs' ++ uv (IntKind.wrap .u64 i) ++ uv (IntKind.wrap .u64 ((E i.toNat).ty)) ++ uv (IntKind.wrap .u64 ((E i.toNat).gen))).length) c107), (37, .int .u64 ((E i.toNat).base))]) (φ := True) (rest := [2, 3]) h127 (by kernel_rfl) rfl trivial fun a128 h129 => ?_
      clear h127
      refine nd_op ?_
      refine op_call h129 rfl rfl rfl (callOk Tryd.func58 (by decide) rfl) (args := [.slice o106 ((bs' ++ uv (IntKind.wrap .u64 i) ++ uv (IntKind.wrap .u64 ((E i.toNat).ty)) ++ uv (IntKind.wrap .u64 ((E i.toNat).gen))).length) c107, .int .u64 ((E i.toNat).base)]) rfl (uvar_ok o106 c107 F108 (bs' ++ uv (IntKind.wrap .u64 i) ++ uv (IntKind.wrap .u64 ((E i.toNat).ty)) ++ uv (IntKind.wrap .u64 ((E i.toNat).gen))) ((E i.toNat).base) (hE i.toNat).1 (by have := uv_len (IntKind.wrap .u64 i); have := uv_len (IntKind.wrap .u64 ((E i.toNat).ty)); have := uv_len (IntKind.wrap .u64 ((E i.toNat).gen)); simp only [List.length_append]; omega) _ h129.inv) ?_
      rintro _ w133 ⟨o130, c131, F132, rfl, hr134, hf135, hF136⟩
      refine ⟨_, rfl, ?_⟩
      have hKh137 := row1_keys (K := F) hKh113 h129.frame.size hF136
      have h137 := (h129.rowSet (j := 0) (r' := rl u8C 5 1 (bs' ++ uv (IntKind.wrap .u64 i) ++ uv (IntKind.wrap .u64 ((E i.toNat).ty)) ++ uv (IntKind.wrap .u64 ((E i.toNat).gen)) ++ uv ((E i.toNat).base)) o130 c131 F132) (R' := [rl u8C 5 1 (bs' ++ uv (IntKind.wrap .u64 i) ++ uv (IntKind.wrap .u64 ((E i.toNat).ty)) ++ uv (IntKind.wrap .u64 ((E i.toNat).gen)) ++ uv ((E i.toNat).base)) o130 c131 F132]) rfl hr134 hf135 hF136 hKh113 (kcons (fun _ => (fun hq => (hKh113 bo hq).elim hboF (fun h => by omega))) (kcons (by intro hq; cases hq) knil)) rfl).put (d := some 38) (v := .slice o130 ((bs' ++ uv (IntKind.wrap .u64 i) ++ uv (IntKind.wrap .u64 ((E i.toNat).ty)) ++ uv (IntKind.wrap .u64 ((E i.toNat).gen)) ++ uv ((E i.toNat).base)).length) c131) (T' := [(38, .slice o130 ((bs' ++ uv (IntKind.wrap .u64 i) ++ uv (IntKind.wrap .u64 ((E i.toNat).ty)) ++ uv (IntKind.wrap .u64 ((E i.toNat).gen)) ++ uv ((E i.toNat).base)).length) c131), (6, .pointer (some ⟨b29, 0, none⟩)), (12, .agg (arr 257 entC E).toArray), (13, .int .i64 i), (5, .int .i64 i), (32, .agg #[.int .u64 (IntKind.wrap .u64 i), .int .u64 (IntKind.wrap .u64 ((E i.toNat).ty)), .int .u64 (IntKind.wrap .u64 ((E i.toNat).gen)), .int .u64 ((E i.toNat).base), .int .u64 ((E i.toNat).size)]), (1, .slice o106 ((bs' ++ uv (IntKind.wrap .u64 i) ++ uv (IntKind.wrap .u64 ((E i.toNat).ty)) ++ uv (IntKind.wrap .u64 ((E i.toNat).gen))).length) c107), (33, .int .i64 3), (8, .int .u64 ((E i.toNat).base)), (36, .slice o106 ((bs' ++ uv (IntKind.wrap .u64 i) ++ uv (IntKind.wrap .u64 ((E i.toNat).ty)) ++ uv (IntKind.wrap .u64 ((E i.toNat).gen))).length) c107), (37, .int .u64 ((E i.toNat).base))]) rfl
      clear h129
      refine nd_batch tabOk tabZ_ok [(3, {})] [6, 12, 13, 5, 32, 33, 8, 1] (T' := [(6, .pointer (some ⟨b29, 0, none⟩)), (12, .agg (arr 257 entC E).toArray), (13, .int .i64 i), (5, .int .i64 i), (32, .agg #[.int .u64 (IntKind.wrap .u64 i), .int .u64 (IntKind.wrap .u64 ((E i.toNat).ty)), .int .u64 (IntKind.wrap .u64 ((E i.toNat).gen)), .int .u64 ((E i.toNat).base), .int .u64 ((E i.toNat).size)]), (33, .int .i64 3), (8, .int .u64 ((E i.toNat).base)), (1, .slice o130 ((bs' ++ uv (IntKind.wrap .u64 i) ++ uv (IntKind.wrap .u64 ((E i.toNat).ty)) ++ uv (IntKind.wrap .u64 ((E i.toNat).gen)) ++ uv ((E i.toNat).base)).length) c131)]) (φ := True) (rest := []) h137 (by kernel_rfl) rfl trivial fun a138 h139 => ?_
      clear h137
      refine nd_done ?_
      refine hK122 _ _ ?_
      clear hK122
      refine nd_start (l := [0, 1]) rfl ?_
      refine nd_batch tabOk tabZ_ok [(0, {}), (1, {})] [6, 12, 13, 5, 32, 8, 1, 33] (T' := [(6, .pointer (some ⟨b29, 0, none⟩)), (12, .agg (arr 257 entC E).toArray), (13, .int .i64 i), (5, .int .i64 i), (32, .agg #[.int .u64 (IntKind.wrap .u64 i), .int .u64 (IntKind.wrap .u64 ((E i.toNat).ty)), .int .u64 (IntKind.wrap .u64 ((E i.toNat).gen)), .int .u64 ((E i.toNat).base), .int .u64 ((E i.toNat).size)]), (8, .int .u64 ((E i.toNat).base)), (1, .slice o130 ((bs' ++ uv (IntKind.wrap .u64 i) ++ uv (IntKind.wrap .u64 ((E i.toNat).ty)) ++ uv (IntKind.wrap .u64 ((E i.toNat).gen)) ++ uv ((E i.toNat).base)).length) c131), (33, .int .i64 4)]) (φ := inR .i64 4 ∧ True) (rest := []) h139 (by kernel_rfl) rfl ⟨⟨by decide, by decide⟩, trivial⟩ fun a140 h141 => ?_
      clear h139
      refine nd_done ?_
      refine rounds_step ?_
      refine wp_seq_k fun K142 hK142 => ?_
      refine nd_start (l := [0]) rfl ?_
      refine nd_batch tabOk tabZ_ok [(0, {})] [6, 12, 13, 5, 32, 8, 1, 33, 34] (T' := [(6, .pointer (some ⟨b29, 0, none⟩)), (12, .agg (arr 257 entC E).toArray), (13, .int .i64 i), (5, .int .i64 i), (32, .agg #[.int .u64 (IntKind.wrap .u64 i), .int .u64 (IntKind.wrap .u64 ((E i.toNat).ty)), .int .u64 (IntKind.wrap .u64 ((E i.toNat).gen)), .int .u64 ((E i.toNat).base), .int .u64 ((E i.toNat).size)]), (8, .int .u64 ((E i.toNat).base)), (1, .slice o130 ((bs' ++ uv (IntKind.wrap .u64 i) ++ uv (IntKind.wrap .u64 ((E i.toNat).ty)) ++ uv (IntKind.wrap .u64 ((E i.toNat).gen)) ++ uv ((E i.toNat).base)).length) c131), (33, .int .i64 4), (34, .bool true)]) (φ := True) (rest := []) h141 (by kernel_rfl) rfl trivial fun a143 h144 => ?_
      clear h141
      refine nd_done ?_
      refine hK142 _ _ ?_
      clear hK142
      refine wp_seq_k fun K145 hK145 => ?_
      refine c_true h144 rfl ?_
      refine wp_skip ?_
      refine hK145 _ _ ?_
      clear hK145
      refine wp_seq_k fun K146 hK146 => ?_
      refine wp_block ?_
      refine wp_seq_k fun K147 hK147 => ?_
      refine nd_start (l := [0, 1]) rfl ?_
      have h148 := h144.slotsMono (restr_spec (keep := [6, 12, 13, 5, 32, 8, 1, 33]) rfl)
      clear h144
      refine nd_op ?_
      refine op_pure (v := .int .u64 ((E i.toNat).size)) h148 rfl rfl (pure_index tabOk h148.slots rfl rfl rfl rfl rfl rfl (by decide) (by decide) (φ := none) rfl trivial) ?_
      have h149 := h148.put (d := some 35) (v := .int .u64 ((E i.toNat).size)) (T' := [(35, .int .u64 ((E i.toNat).size)), (6, .pointer (some ⟨b29, 0, none⟩)), (12, .agg (arr 257 entC E).toArray), (13, .int .i64 i), (5, .int .i64 i), (32, .agg #[.int .u64 (IntKind.wrap .u64 i), .int .u64 (IntKind.wrap .u64 ((E i.toNat).ty)), .int .u64 (IntKind.wrap .u64 ((E i.toNat).gen)), .int .u64 ((E i.toNat).base), .int .u64 ((E i.toNat).size)]), (8, .int .u64 ((E i.toNat).base)), (1, .slice o130 ((bs' ++ uv (IntKind.wrap .u64 i) ++ uv (IntKind.wrap .u64 ((E i.toNat).ty)) ++ uv (IntKind.wrap .u64 ((E i.toNat).gen)) ++ uv ((E i.toNat).base)).length) c131), (33, .int .i64 4)]) rfl
      clear h148
      refine nd_batch tabOk tabZ_ok [(1, {})] [6, 12, 13, 5, 32, 1, 33, 8] (T' := [(6, .pointer (some ⟨b29, 0, none⟩)), (12, .agg (arr 257 entC E).toArray), (13, .int .i64 i), (5, .int .i64 i), (32, .agg #[.int .u64 (IntKind.wrap .u64 i), .int .u64 (IntKind.wrap .u64 ((E i.toNat).ty)), .int .u64 (IntKind.wrap .u64 ((E i.toNat).gen)), .int .u64 ((E i.toNat).base), .int .u64 ((E i.toNat).size)]), (1, .slice o130 ((bs' ++ uv (IntKind.wrap .u64 i) ++ uv (IntKind.wrap .u64 ((E i.toNat).ty)) ++ uv (IntKind.wrap .u64 ((E i.toNat).gen)) ++ uv ((E i.toNat).base)).length) c131), (33, .int .i64 4), (8, .int .u64 ((E i.toNat).size))]) (φ := True) (rest := []) h149 (by kernel_rfl) rfl trivial fun a150 h151 => ?_
      clear h149
      refine nd_done ?_
      refine hK147 _ _ ?_
      clear hK147
      refine nd_start (l := [0, 1, 2, 3]) rfl ?_
      refine nd_batch tabOk tabZ_ok [(0, {}), (1, {})] [6, 12, 13, 5, 32, 1, 33, 8, 36, 37] (T' := [(6, .pointer (some ⟨b29, 0, none⟩)), (12, .agg (arr 257 entC E).toArray), (13, .int .i64 i), (5, .int .i64 i), (32, .agg #[.int .u64 (IntKind.wrap .u64 i), .int .u64 (IntKind.wrap .u64 ((E i.toNat).ty)), .int .u64 (IntKind.wrap .u64 ((E i.toNat).gen)), .int .u64 ((E i.toNat).base), .int .u64 ((E i.toNat).size)]), (1, .slice o130 ((bs' ++ uv (IntKind.wrap .u64 i) ++ uv (IntKind.wrap .u64 ((E i.toNat).ty)) ++ uv (IntKind.wrap .u64 ((E i.toNat).gen)) ++ uv ((E i.toNat).base)).length) c131), (33, .int .i64 4), (8, .int .u64 ((E i.toNat).size)), (36, .slice o130 ((bs' ++ uv (IntKind.wrap .u64 i) ++ uv (IntKind.wrap .u64 ((E i.toNat).ty)) ++ uv (IntKind.wrap .u64 ((E i.toNat).gen)) ++ uv ((E i.toNat).base)).length) c131), (37, .int .u64 ((E i.toNat).size))]) (φ := True) (rest := [2, 3]) h151 (by kernel_rfl) rfl trivial fun a152 h153 => ?_
      clear h151
      refine nd_op ?_
      refine op_call h153 rfl rfl rfl (callOk Tryd.func58 (by decide) rfl) (args := [.slice o130 ((bs' ++ uv (IntKind.wrap .u64 i) ++ uv (IntKind.wrap .u64 ((E i.toNat).ty)) ++ uv (IntKind.wrap .u64 ((E i.toNat).gen)) ++ uv ((E i.toNat).base)).length) c131, .int .u64 ((E i.toNat).size)]) rfl (uvar_ok o130 c131 F132 (bs' ++ uv (IntKind.wrap .u64 i) ++ uv (IntKind.wrap .u64 ((E i.toNat).ty)) ++ uv (IntKind.wrap .u64 ((E i.toNat).gen)) ++ uv ((E i.toNat).base)) ((E i.toNat).size) (hE i.toNat).2 (by have := uv_len (IntKind.wrap .u64 i); have := uv_len (IntKind.wrap .u64 ((E i.toNat).ty)); have := uv_len (IntKind.wrap .u64 ((E i.toNat).gen)); have := uv_len ((E i.toNat).base); simp only [List.length_append]; omega) _ h153.inv) ?_
      rintro _ w157 ⟨o154, c155, F156, rfl, hr158, hf159, hF160⟩
      refine ⟨_, rfl, ?_⟩
      have hKh161 := row1_keys (K := F) hKh137 h153.frame.size hF160
      have h161 := (h153.rowSet (j := 0) (r' := rl u8C 5 1 (bs' ++ uv (IntKind.wrap .u64 i) ++ uv (IntKind.wrap .u64 ((E i.toNat).ty)) ++ uv (IntKind.wrap .u64 ((E i.toNat).gen)) ++ uv ((E i.toNat).base) ++ uv ((E i.toNat).size)) o154 c155 F156) (R' := [rl u8C 5 1 (bs' ++ uv (IntKind.wrap .u64 i) ++ uv (IntKind.wrap .u64 ((E i.toNat).ty)) ++ uv (IntKind.wrap .u64 ((E i.toNat).gen)) ++ uv ((E i.toNat).base) ++ uv ((E i.toNat).size)) o154 c155 F156]) rfl hr158 hf159 hF160 hKh137 (kcons (fun _ => (fun hq => (hKh137 bo hq).elim hboF (fun h => by omega))) (kcons (by intro hq; cases hq) knil)) rfl).put (d := some 38) (v := .slice o154 ((bs' ++ uv (IntKind.wrap .u64 i) ++ uv (IntKind.wrap .u64 ((E i.toNat).ty)) ++ uv (IntKind.wrap .u64 ((E i.toNat).gen)) ++ uv ((E i.toNat).base) ++ uv ((E i.toNat).size)).length) c155) (T' := [(38, .slice o154 ((bs' ++ uv (IntKind.wrap .u64 i) ++ uv (IntKind.wrap .u64 ((E i.toNat).ty)) ++ uv (IntKind.wrap .u64 ((E i.toNat).gen)) ++ uv ((E i.toNat).base) ++ uv ((E i.toNat).size)).length) c155), (6, .pointer (some ⟨b29, 0, none⟩)), (12, .agg (arr 257 entC E).toArray), (13, .int .i64 i), (5, .int .i64 i), (32, .agg #[.int .u64 (IntKind.wrap .u64 i), .int .u64 (IntKind.wrap .u64 ((E i.toNat).ty)), .int .u64 (IntKind.wrap .u64 ((E i.toNat).gen)), .int .u64 ((E i.toNat).base), .int .u64 ((E i.toNat).size)]), (1, .slice o130 ((bs' ++ uv (IntKind.wrap .u64 i) ++ uv (IntKind.wrap .u64 ((E i.toNat).ty)) ++ uv (IntKind.wrap .u64 ((E i.toNat).gen)) ++ uv ((E i.toNat).base)).length) c131), (33, .int .i64 4), (8, .int .u64 ((E i.toNat).size)), (36, .slice o130 ((bs' ++ uv (IntKind.wrap .u64 i) ++ uv (IntKind.wrap .u64 ((E i.toNat).ty)) ++ uv (IntKind.wrap .u64 ((E i.toNat).gen)) ++ uv ((E i.toNat).base)).length) c131), (37, .int .u64 ((E i.toNat).size))]) rfl
      clear h153
      refine nd_batch tabOk tabZ_ok [(3, {})] [6, 12, 13, 5, 32, 33, 8, 1] (T' := [(6, .pointer (some ⟨b29, 0, none⟩)), (12, .agg (arr 257 entC E).toArray), (13, .int .i64 i), (5, .int .i64 i), (32, .agg #[.int .u64 (IntKind.wrap .u64 i), .int .u64 (IntKind.wrap .u64 ((E i.toNat).ty)), .int .u64 (IntKind.wrap .u64 ((E i.toNat).gen)), .int .u64 ((E i.toNat).base), .int .u64 ((E i.toNat).size)]), (33, .int .i64 4), (8, .int .u64 ((E i.toNat).size)), (1, .slice o154 ((bs' ++ uv (IntKind.wrap .u64 i) ++ uv (IntKind.wrap .u64 ((E i.toNat).ty)) ++ uv (IntKind.wrap .u64 ((E i.toNat).gen)) ++ uv ((E i.toNat).base) ++ uv ((E i.toNat).size)).length) c155)]) (φ := True) (rest := []) h161 (by kernel_rfl) rfl trivial fun a162 h163 => ?_
      clear h161
      refine nd_done ?_
      refine hK146 _ _ ?_
      clear hK146
      refine nd_start (l := [0, 1]) rfl ?_
      refine nd_batch tabOk tabZ_ok [(0, {}), (1, {})] [6, 12, 13, 5, 32, 8, 1, 33] (T' := [(6, .pointer (some ⟨b29, 0, none⟩)), (12, .agg (arr 257 entC E).toArray), (13, .int .i64 i), (5, .int .i64 i), (32, .agg #[.int .u64 (IntKind.wrap .u64 i), .int .u64 (IntKind.wrap .u64 ((E i.toNat).ty)), .int .u64 (IntKind.wrap .u64 ((E i.toNat).gen)), .int .u64 ((E i.toNat).base), .int .u64 ((E i.toNat).size)]), (8, .int .u64 ((E i.toNat).size)), (1, .slice o154 ((bs' ++ uv (IntKind.wrap .u64 i) ++ uv (IntKind.wrap .u64 ((E i.toNat).ty)) ++ uv (IntKind.wrap .u64 ((E i.toNat).gen)) ++ uv ((E i.toNat).base) ++ uv ((E i.toNat).size)).length) c155), (33, .int .i64 5)]) (φ := inR .i64 5 ∧ True) (rest := []) h163 (by kernel_rfl) rfl ⟨⟨by decide, by decide⟩, trivial⟩ fun a164 h165 => ?_
      clear h163
      refine nd_done ?_
      refine rounds_step ?_
      refine wp_seq_k fun K166 hK166 => ?_
      refine nd_start (l := [0]) rfl ?_
      refine nd_batch tabOk tabZ_ok [(0, {})] [6, 12, 13, 5, 32, 8, 1, 33, 34] (T' := [(6, .pointer (some ⟨b29, 0, none⟩)), (12, .agg (arr 257 entC E).toArray), (13, .int .i64 i), (5, .int .i64 i), (32, .agg #[.int .u64 (IntKind.wrap .u64 i), .int .u64 (IntKind.wrap .u64 ((E i.toNat).ty)), .int .u64 (IntKind.wrap .u64 ((E i.toNat).gen)), .int .u64 ((E i.toNat).base), .int .u64 ((E i.toNat).size)]), (8, .int .u64 ((E i.toNat).size)), (1, .slice o154 ((bs' ++ uv (IntKind.wrap .u64 i) ++ uv (IntKind.wrap .u64 ((E i.toNat).ty)) ++ uv (IntKind.wrap .u64 ((E i.toNat).gen)) ++ uv ((E i.toNat).base) ++ uv ((E i.toNat).size)).length) c155), (33, .int .i64 5), (34, .bool false)]) (φ := True) (rest := []) h165 (by kernel_rfl) rfl trivial fun a167 h168 => ?_
      clear h165
      refine nd_done ?_
      refine hK166 _ _ ?_
      clear hK166
      refine wp_seq_k fun K169 hK169 => ?_
      refine c_false h168 rfl ?_
      refine wp_exit ?_
      refine hK23 _ _ ?_
      clear hK23
      refine nd_start (l := [0, 1]) rfl ?_
      refine nd_batch tabOk tabZ_ok [(0, {}), (1, {})] [6, 12, 5, 32, 8, 1, 33, 13] (T' := [(6, .pointer (some ⟨b29, 0, none⟩)), (12, .agg (arr 257 entC E).toArray), (5, .int .i64 i), (32, .agg #[.int .u64 (IntKind.wrap .u64 i), .int .u64 (IntKind.wrap .u64 ((E i.toNat).ty)), .int .u64 (IntKind.wrap .u64 ((E i.toNat).gen)), .int .u64 ((E i.toNat).base), .int .u64 ((E i.toNat).size)]), (8, .int .u64 ((E i.toNat).size)), (1, .slice o154 ((bs' ++ uv (IntKind.wrap .u64 i) ++ uv (IntKind.wrap .u64 ((E i.toNat).ty)) ++ uv (IntKind.wrap .u64 ((E i.toNat).gen)) ++ uv ((E i.toNat).base) ++ uv ((E i.toNat).size)).length) c155), (33, .int .i64 5), (13, .int .i64 (i + 1))]) (φ := inR .i64 (i + 1) ∧ True) (rest := []) h168 (by kernel_rfl) rfl ⟨⟨by omega, by omega⟩, trivial⟩ fun a170 h171 => ?_
      clear h168
      refine nd_done ?_
      have h172 := h171.memMono (L' := [(bo, ⟨stC E, 131, true⟩)]) (List.Sublist.cons_cons _ (List.Sublist.cons _ List.Sublist.slnil))
      clear h171
      exact ⟨(gO - 1), by omega, o154, c155, F156, (bs' ++ uv (IntKind.wrap .u64 i) ++ uv (IntKind.wrap .u64 ((E i.toNat).ty)) ++ uv (IntKind.wrap .u64 ((E i.toNat).gen)) ++ uv ((E i.toNat).base) ++ uv ((E i.toNat).size)), (i + 1), by omega, ⟨by omega, by omega⟩, (by rw [hen, hee, uvs_app, hbs]; simp [uvs]), hKh161, (h172.slotsMono (restr_spec (keep := [12, 13, 1]) rfl))⟩
    ·
      have hc42f : (E i.toNat) = (⟨0, 1, 0, 0⟩ : Ent) := by simpa using hc42
      have hee : entN i (E i.toNat) = [] := if_pos hc42f
      refine wp_skip ?_
      refine hK23 _ _ ?_
      clear hK23
      refine nd_start (l := [0, 1]) rfl ?_
      refine nd_batch tabOk tabZ_ok [(0, {}), (1, {})] [6, 12, 1, 5, 13] (T' := [(6, .pointer (some ⟨b29, 0, none⟩)), (12, .agg (arr 257 entC E).toArray), (1, .slice o' bs'.length c'), (5, .int .i64 i), (13, .int .i64 (i + 1))]) (φ := inR .i64 (i + 1) ∧ True) (rest := []) h41 (by kernel_rfl) rfl ⟨⟨by omega, by omega⟩, trivial⟩ fun a173 h174 => ?_
      clear h41
      refine nd_done ?_
      have h175 := h174.memMono (L' := [(bo, ⟨stC E, 131, true⟩)]) (List.Sublist.cons_cons _ (List.Sublist.cons _ List.Sublist.slnil))
      clear h174
      exact ⟨(gO - 1), by omega, o', c', F', bs', (i + 1), by omega, ⟨by omega, by omega⟩, (by rw [hen, hee, uvs_app, hbs]; simp [uvs]), hFK, (h175.slotsMono (restr_spec (keep := [12, 13, 1]) rfl))⟩
  ·
    have hc22f : ¬ i < 257 := by simpa using hc22
    rw [show i.toNat = 257 by omega] at hbs
    refine wp_exit ?_
    refine hK4 _ _ ?_
    clear hK4
    refine wp_seq_k fun K176 hK176 => ?_
    refine nd_start (l := [0, 1, 2]) rfl ?_
    refine nd_batch tabOk tabZ_ok [(0, {})] [12, 13, 1, 41] (T' := [(12, .agg (arr 257 entC E).toArray), (13, .int .i64 i), (1, .slice o' bs'.length c'), (41, .slice o' bs'.length c')]) (φ := True) (rest := [1, 2]) h20 (by kernel_rfl) rfl trivial fun a177 h178 => ?_
    clear h20
    refine nd_op ?_
    refine op_call h178 rfl rfl rfl (callOk Tryd.func58 (by decide) rfl) (args := [.slice o' bs'.length c', .int .u64 257]) rfl (uvar_ok o' c' F' bs' 257 (by unfold u64r; decide) (by omega) _ h178.inv) ?_
    rintro _ w182 ⟨o179, c180, F181, rfl, hr183, hf184, hF185⟩
    refine ⟨_, rfl, ?_⟩
    have hKh186 := row1_keys (K := F) hFK h178.frame.size hF185
    have h186 := (h178.rowSet (j := 0) (r' := rl u8C 5 1 (bs' ++ uv 257) o179 c180 F181) (R' := [rl u8C 5 1 (bs' ++ uv 257) o179 c180 F181]) rfl hr183 hf184 hF185 hFK (kcons (fun _ => (fun hq => (hFK bo hq).elim hboF (fun h => by omega))) knil) rfl).put (d := some 42) (v := .slice o179 ((bs' ++ uv 257).length) c180) (T' := [(42, .slice o179 ((bs' ++ uv 257).length) c180), (12, .agg (arr 257 entC E).toArray), (13, .int .i64 i), (1, .slice o' bs'.length c'), (41, .slice o' bs'.length c')]) rfl
    clear h178
    refine nd_batch tabOk tabZ_ok [(2, {})] [12, 13, 1, 4] (T' := [(12, .agg (arr 257 entC E).toArray), (13, .int .i64 i), (1, .slice o' bs'.length c'), (4, .slice o179 ((bs' ++ uv 257).length) c180)]) (φ := True) (rest := []) h186 (by kernel_rfl) rfl trivial fun a187 h188 => ?_
    clear h186
    refine nd_done ?_
    refine hK176 _ _ ?_
    clear hK176
    refine wp_ret ?_
    try simp only [Exit.then, Exit.inBlock]
    try rw [if_pos trivial]
    exact s_ret tabOk tabZ_ok h188 [(.tmp 4, {})] (vs := [.slice o179 ((bs' ++ uv 257).length) c180]) (φ := True) rfl (by kernel_rfl) trivial ⟨o179, c180, F181, by rw [show bs ++ uvs (storeN E) = bs' ++ uv 257 by rw [storeN, uvs_app, hbs]; simp [uvs]]; rfl, by rw [show bs ++ uvs (storeN E) = bs' ++ uv 257 by rw [storeN, uvs_app, hbs]; simp [uvs]]; exact h188.inv.get (j := 0) rfl, h188.frame, hKh186⟩

end Go.Proofs.Qxb6500918aDoor
