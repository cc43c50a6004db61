/-
  Small readers. (Made by program: a symbolic walk that prints its steps.)
-/
import Derived.Test.Qxb6500919aFmtTab
import Derived.Test.Qxb6500919aFmtFun
namespace Go.Proofs.Qxb6500919aFmt
open Go.Sx Go.Rp
set_option maxRecDepth 100000
set_option linter.unusedVariables false

theorem end_ok (bl : Nat) (base : Pt) (eo : Option Addr) (n c : Nat) (mv sv : Value) (ro : Bool) (w : World) (hb : w.heap[bl]? = some (Blk.obj ⟨logC base (.slice eo n c) mv sv, 89, ro⟩))
    (i0 : 0 ≤ base.idx) (i1 : base.idx ≤ 1000000000) (i2 : n ≤ 1000000000) :
    Calls Tryf.prog 41 #[.pointer (some ⟨bl, 0, none⟩)] w fun e w' => e = .returned (.int .i64 (base.idx + n)) ∧ Fr [] w w' := by
  refine enter0 (n := 14) (K := []) (T := [(0, .pointer (some ⟨bl, 0, none⟩))]) (L := [(bl, ⟨logC base (.slice eo n c) (mv) (sv), 89, true⟩)]) (args := [.pointer (some ⟨bl, 0, none⟩)]) Tryf.func41 rfl rfl rfl rfl (kcons hb knil) (by simp) (kcons (by intro hq; cases hq) knil) ?_
  intro a h
  refine wp_seq_k fun K1 hK1 => ?_
  refine nd_start (l := [0]) rfl ?_
  refine nd_batch tabOk tabZ_ok [(0, {})] [0, 2] (T' := [(0, .pointer (some ⟨bl, 0, none⟩)), (2, .int .i64 0)]) (φ := True) (rest := []) h (by kernel_rfl) rfl trivial fun a2 h3 => ?_
  clear h
  refine nd_done ?_
  refine hK1 _ _ ?_
  clear hK1
  refine wp_seq_k fun K4 hK4 => ?_
  refine dr_start (KB := [bl]) (Bi := [[0], [0], [0], [0], [0], [0], [0], [0], [0], [0], [0], [0]]) mixed h3 fun w5 h6 => ?_
  clear h3
  refine dr_batch tabOk tabZ_ok (by repeat (first | exact PF.body | apply PF.next | apply PF.inB)) [(0, {}), (1, {}), (2, {}), (3, {}), (4, {k := 0, p := 0}), (5, {}), (6, {}), (7, {}), (8, {k := 0, p := 0}), (9, {}), (10, {}), (11, {})] [0, 2] (T' := [(0, .pointer (some ⟨bl, 0, none⟩)), (2, .int .i64 (base.idx + ((n : Nat) : Int)))]) (φ := (bl = bl ∧ Nat.ble (0 + 1) 18 = true) ∧ (bl = bl ∧ Nat.ble (15 + 1) 18 = true) ∧ inR .i64 (base.idx + ((n : Nat) : Int)) ∧ True) (fuel := 0) h6 (by kernel_rfl) rfl (by kernel_rfl) (by kernel_rfl) ⟨trivial, trivial, trivial, trivial, rfl, trivial, trivial, trivial, rfl, trivial, trivial, trivial, trivial⟩ ⟨⟨rfl, rfl⟩, ⟨rfl, rfl⟩, ⟨by omega, by omega⟩, trivial⟩ fun a8 h9 => ?_
  clear h6
  refine wpAnyK_done (by kernel_rfl) ?_ _
  refine hK4 _ _ ?_
  clear hK4
  refine wp_ret ?_
  exact s_ret tabOk tabZ_ok h9 [(.tmp 2, {})] (vs := [.int .i64 (base.idx + ((n : Nat) : Int))]) (φ := True) rfl (by kernel_rfl) trivial ⟨rfl, h9.frame⟩

theorem width_ok (v : Int) (hv : u64ok v) (w : World) : Calls Tryf.prog 79 #[.int .u64 v] w fun e w' => e = .returned (.int .i64 (width v)) ∧ Fr [] w w' := by
  refine enter0 (n := 11) (K := []) (T := [(0, .int .u64 v)]) (L := []) (args := [.int .u64 v]) Tryf.func79 rfl rfl rfl rfl knil (by simp) knil ?_
  intro a h
  refine wp_seq_k fun K1 hK1 => ?_
  refine nd_start (l := [0]) rfl ?_
  refine nd_batch tabOk tabZ_ok [(0, {})] [0, 2] (T' := [(0, .int .u64 v), (2, .int .i64 0)]) (φ := True) (rest := []) h (by kernel_rfl) rfl trivial fun a2 h3 => ?_
  clear h
  refine nd_done ?_
  refine hK1 _ _ ?_
  clear hK1
  refine wp_seq_k fun K4 hK4 => ?_
  refine nd_start (l := [0]) rfl ?_
  refine nd_batch tabOk tabZ_ok [(0, {})] [0, 2, 3] (T' := [(0, .int .u64 v), (2, .int .i64 0), (3, .int .i64 1)]) (φ := True) (rest := []) h3 (by kernel_rfl) rfl trivial fun a5 h6 => ?_
  clear h3
  refine nd_done ?_
  refine hK4 _ _ ?_
  clear hK4
  refine wp_seq_k fun K7 hK7 => ?_
  refine wp_block ?_
  refine wp_loop_ghost (fun g ga gw => ∃ (v' n : Int), (0 ≤ v' ∧ v' ≤ 18446744073709551615) ∧ (v' < 128 ^ (g + 1)) ∧ (n + widthN g v' = 1 + widthN 9 v) ∧ (1 ≤ n) ∧ St ⟨11, [], w, fun _ => True, []⟩ [(0, .int .u64 v'), (3, .int .i64 n)] [] ga gw) 9 ⟨v, 1, hv, (u64_pow hv).2, rfl, by decide, (h6.slotsMono (restr_spec (keep := [0, 3]) rfl))⟩ ?_
  clear h6
  rintro g a8 w9 ⟨v', n, hi11, hi12, hi13, hi14, h10⟩
  refine wp_seq_k fun K15 hK15 => ?_
  refine wp_seq_k fun K16 hK16 => ?_
  refine nd_start (l := [0, 1]) rfl ?_
  refine nd_batch tabOk tabZ_ok [(0, {}), (1, {})] [0, 3, 5] (T' := [(0, .int .u64 v'), (3, .int .i64 n), (5, .bool (decide (v' ≥ 128)))]) (φ := True) (rest := []) h10 (by kernel_rfl) rfl trivial fun a17 h18 => ?_
  clear h10
  refine nd_done ?_
  refine hK16 _ _ ?_
  clear hK16
  refine c_split h18 (b := decide (v' ≥ 128)) rfl (fun hc19 => ?_) (fun hc19 => ?_)
  ·
    have hc19f : v' ≥ 128 := by simpa using hc19
    have hc : 128 ≤ v' := hc19f
    obtain ⟨g', rfl, hg2⟩ := pow_step hc hi12
    have hw := widthN_bd g' (v' / 128)
    have hw2 := widthN_bd 9 v
    have hw3 := widthN_bd (g' + 1) v'
    refine wp_skip ?_
    refine hK15 _ _ ?_
    clear hK15
    refine wp_block ?_
    refine wp_seq_k fun K20 hK20 => ?_
    refine nd_start (l := [0, 1, 2]) rfl ?_
    refine nd_batch tabOk tabZ_ok [(0, {}), (1, {}), (2, {})] [3, 5, 0] (T' := [(3, .int .i64 n), (5, .bool (decide (v' ≥ 128))), (0, .int .u64 (v' / 128))]) (φ := (0 ≤ v' ∧ 0 < (128 : Int) ∧ inR .u64 (v' / 128)) ∧ True) (rest := []) h18 (by kernel_rfl) rfl ⟨⟨by omega, by decide, by omega, by omega⟩, trivial⟩ fun a21 h22 => ?_
    clear h18
    refine nd_done ?_
    refine hK20 _ _ ?_
    clear hK20
    refine nd_start (l := [0, 1, 2]) rfl ?_
    refine nd_batch tabOk tabZ_ok [(0, {}), (1, {}), (2, {})] [5, 0, 3] (T' := [(5, .bool (decide (v' ≥ 128))), (0, .int .u64 (v' / 128)), (3, .int .i64 (n + 1))]) (φ := inR .i64 (n + 1) ∧ True) (rest := []) h22 (by kernel_rfl) rfl ⟨⟨by omega, by omega⟩, trivial⟩ fun a23 h24 => ?_
    clear h22
    refine nd_done ?_
    exact ⟨g', by omega, (v' / 128), (n + 1), ⟨by omega, by omega⟩, hg2, by rw [widthN_step hc] at hi13; omega, by omega, (h24.slotsMono (restr_spec (keep := [0, 3]) rfl))⟩
  ·
    have hc19f : ¬ v' ≥ 128 := by simpa using hc19
    have hc : ¬ 128 ≤ v' := by omega
    rw [widthN_stop hc] at hi13
    have hn : n = width v := by unfold width; omega
    subst hn
    refine wp_exit ?_
    refine hK7 _ _ ?_
    clear hK7
    refine wp_seq_k fun K25 hK25 => ?_
    refine nd_start (l := [0, 1]) rfl ?_
    refine nd_batch tabOk tabZ_ok [(0, {}), (1, {})] [0, 3, 5, 2] (T' := [(0, .int .u64 v'), (3, .int .i64 (width v)), (5, .bool (decide (v' ≥ 128))), (2, .int .i64 (width v))]) (φ := True) (rest := []) h18 (by kernel_rfl) rfl trivial fun a26 h27 => ?_
    clear h18
    refine nd_done ?_
    refine hK25 _ _ ?_
    clear hK25
    refine wp_ret ?_
    exact s_ret tabOk tabZ_ok h27 [(.tmp 2, {})] (vs := [.int .i64 (width v)]) (φ := True) rfl (by kernel_rfl) trivial ⟨rfl, h27.frame⟩

theorem cost_ok (e : Ev) (he : e.ok) (w : World) : Calls Tryf.prog 61 #[.agg (evC e).toArray] w fun r w' => r = .returned (.int .i64 (cost e)) ∧ Fr [] w w' := by
  refine enter0 (n := 17) (K := []) (T := [(0, .agg #[.int .u8 e.kind, .int .u32 e.pick, .int .u64 e.arg])]) (L := []) (args := [.agg #[.int .u8 e.kind, .int .u32 e.pick, .int .u64 e.arg]]) Tryf.func61 rfl rfl rfl rfl knil (by simp) knil ?_
  intro a h
  refine wp_seq_k fun K1 hK1 => ?_
  refine nd_start (l := [0, 1]) rfl ?_
  refine nd_op ?_
  refine op_new tabOk (cells := [.int .u8 e.kind, .int .u32 e.pick, .int .u64 e.arg]) (ty := 31) (ln := none) (L1 := fun b2 => [(b2, ⟨[.int .u8 e.kind, .int .u32 e.pick, .int .u64 e.arg], 31, false⟩)]) h rfl rfl rfl rfl (by kernel_rfl) (fun _ => rfl) fun b2 w3 a4 h5 hf6 hn7 => ?_
  clear h
  refine nd_batch tabOk tabZ_ok [(1, {})] [1, 0, 2] (T' := [(1, .pointer (some ⟨b2, 0, none⟩)), (0, .agg #[.int .u8 e.kind, .int .u32 e.pick, .int .u64 e.arg]), (2, .int .i64 0)]) (φ := True) (rest := []) h5 (by kernel_rfl) rfl trivial fun a8 h9 => ?_
  clear h5
  refine nd_done ?_
  refine hK1 _ _ ?_
  clear hK1
  refine wp_seq_k fun K10 hK10 => ?_
  refine dr_start (KB := [b2]) (Bi := [[0], [0], [0], [0], [0], [0], [0], [0], [0], [0], [0], [], [0], [0], [0]]) mixed h9 fun w11 h12 => ?_
  clear h9
  refine dr_batch tabOk tabZ_ok (by repeat (first | exact PF.body | apply PF.next | apply PF.inB)) [(0, {}), (1, {k := 0, p := 0}), (2, {}), (4, {}), (5, {k := 0, p := 0}), (6, {}), (9, {}), (10, {k := 0, p := 0})] [1, 0, 2, 5, 9, 13] (T' := [(1, .pointer (some ⟨b2, 0, none⟩)), (0, .agg #[.int .u8 e.kind, .int .u32 e.pick, .int .u64 e.arg]), (2, .int .i64 0), (5, .int .u64 e.kind), (9, .int .u64 e.pick), (13, .int .u64 e.arg)]) (φ := (b2 = b2 ∧ Nat.ble (0 + 1) 3 = true) ∧ inR .u64 e.kind ∧ (b2 = b2 ∧ Nat.ble (1 + 1) 3 = true) ∧ inR .u64 e.pick ∧ (b2 = b2 ∧ Nat.ble (2 + 1) 3 = true) ∧ True) (fuel := 7) h12 (by kernel_rfl) rfl (by kernel_rfl) (by kernel_rfl) ⟨trivial, rfl, trivial, trivial, rfl, trivial, trivial, rfl, trivial⟩ ⟨⟨rfl, rfl⟩, ⟨by have := he.1; have := he.2.1; omega, by have := he.1; have := he.2.1; omega⟩, ⟨rfl, rfl⟩, ⟨by have := he.1; have := he.2.1; omega, by have := he.1; have := he.2.1; omega⟩, ⟨rfl, rfl⟩, trivial⟩ fun a14 h15 => ?_
  clear h12
  refine wpAnyK_one (i := 3) (fuel := 6) (by kernel_rfl) ?_
  refine op_call h15 rfl rfl rfl (callOk Tryf.func79 (by decide) rfl) (args := [.int .u64 e.kind]) rfl (width_ok e.kind ⟨by have := he.1; omega, by have := he.1; omega⟩ _) ?_
  rintro _ w16 ⟨rfl, hf18⟩
  refine ⟨_, rfl, ?_⟩
  have h17 := (h15.grow hf18).put (d := some 6) (v := .int .i64 (width e.kind)) (T' := [(6, .int .i64 (width e.kind)), (1, .pointer (some ⟨b2, 0, none⟩)), (0, .agg #[.int .u8 e.kind, .int .u32 e.pick, .int .u64 e.arg]), (2, .int .i64 0), (5, .int .u64 e.kind), (9, .int .u64 e.pick), (13, .int .u64 e.arg)]) rfl
  refine ⟨(h15.keepFr hf18 (kcons (by simp) knil)), ?_⟩
  clear h15
  refine wpAnyK_one (i := 7) (fuel := 5) (by kernel_rfl) ?_
  refine op_call h17 rfl rfl rfl (callOk Tryf.func79 (by decide) rfl) (args := [.int .u64 e.pick]) rfl (width_ok e.pick ⟨by have := he.2.1; omega, by have := he.2.1; omega⟩ _) ?_
  rintro _ w19 ⟨rfl, hf21⟩
  refine ⟨_, rfl, ?_⟩
  have h20 := (h17.grow hf21).put (d := some 10) (v := .int .i64 (width e.pick)) (T' := [(10, .int .i64 (width e.pick)), (6, .int .i64 (width e.kind)), (1, .pointer (some ⟨b2, 0, none⟩)), (0, .agg #[.int .u8 e.kind, .int .u32 e.pick, .int .u64 e.arg]), (2, .int .i64 0), (5, .int .u64 e.kind), (9, .int .u64 e.pick), (13, .int .u64 e.arg)]) rfl
  refine ⟨(h17.keepFr hf21 (kcons (by simp) knil)), ?_⟩
  clear h17
  refine dr_batch tabOk tabZ_ok (by repeat (first | exact PF.body | apply PF.next | apply PF.inB)) [(8, {})] [1, 0, 2, 13, 11] (T' := [(1, .pointer (some ⟨b2, 0, none⟩)), (0, .agg #[.int .u8 e.kind, .int .u32 e.pick, .int .u64 e.arg]), (2, .int .i64 0), (13, .int .u64 e.arg), (11, .int .i64 ((width e.kind) + (width e.pick)))]) (φ := inR .i64 ((width e.kind) + (width e.pick)) ∧ True) (fuel := 4) h20 (by kernel_rfl) rfl (by kernel_rfl) (by kernel_rfl) ⟨trivial, trivial⟩ ⟨⟨by have h1 := widthN_bd 9 e.kind; have h2 := widthN_bd 9 e.pick; have h3 := widthN_bd 9 e.arg; unfold width; omega, by have h1 := widthN_bd 9 e.kind; have h2 := widthN_bd 9 e.pick; have h3 := widthN_bd 9 e.arg; unfold width; omega⟩, trivial⟩ fun a22 h23 => ?_
  clear h20
  refine wpAnyK_one (i := 11) (fuel := 3) (by kernel_rfl) ?_
  refine op_call h23 rfl rfl rfl (callOk Tryf.func79 (by decide) rfl) (args := [.int .u64 e.arg]) rfl (width_ok e.arg he.2.2 _) ?_
  rintro _ w24 ⟨rfl, hf26⟩
  refine ⟨_, rfl, ?_⟩
  have h25 := (h23.grow hf26).put (d := some 14) (v := .int .i64 (width e.arg)) (T' := [(14, .int .i64 (width e.arg)), (1, .pointer (some ⟨b2, 0, none⟩)), (0, .agg #[.int .u8 e.kind, .int .u32 e.pick, .int .u64 e.arg]), (2, .int .i64 0), (13, .int .u64 e.arg), (11, .int .i64 ((width e.kind) + (width e.pick)))]) rfl
  refine ⟨keepNil, ?_⟩
  clear h23
  refine dr_batch tabOk tabZ_ok (by repeat (first | exact PF.body | apply PF.next | apply PF.inB)) [(12, {}), (13, {}), (14, {})] [1, 0, 2] (T' := [(1, .pointer (some ⟨b2, 0, none⟩)), (0, .agg #[.int .u8 e.kind, .int .u32 e.pick, .int .u64 e.arg]), (2, .int .i64 ((((width e.kind) + (width e.pick)) + (width e.arg)) + 2))]) (φ := inR .i64 (((width e.kind) + (width e.pick)) + (width e.arg)) ∧ inR .i64 ((((width e.kind) + (width e.pick)) + (width e.arg)) + 2) ∧ True) (fuel := 0) h25 (by kernel_rfl) rfl (by kernel_rfl) (by kernel_rfl) ⟨trivial, trivial, trivial, trivial⟩ ⟨⟨by have h1 := widthN_bd 9 e.kind; have h2 := widthN_bd 9 e.pick; have h3 := widthN_bd 9 e.arg; unfold width; omega, by have h1 := widthN_bd 9 e.kind; have h2 := widthN_bd 9 e.pick; have h3 := widthN_bd 9 e.arg; unfold width; omega⟩, ⟨by have h1 := widthN_bd 9 e.kind; have h2 := widthN_bd 9 e.pick; have h3 := widthN_bd 9 e.arg; unfold width; omega, by have h1 := widthN_bd 9 e.kind; have h2 := widthN_bd 9 e.pick; have h3 := widthN_bd 9 e.arg; unfold width; omega⟩, trivial⟩ fun a27 h28 => ?_
  clear h25
  refine wpAnyK_done (by kernel_rfl) ?_ _
  refine hK10 _ _ ?_
  clear hK10
  refine wp_ret ?_
  exact s_ret tabOk tabZ_ok h28 [(.tmp 2, {})] (vs := [.int .i64 ((((width e.kind) + (width e.pick)) + (width e.arg)) + 2)]) (φ := True) rfl (by kernel_rfl) trivial ⟨rfl, h28.frame⟩

theorem uvar_ok (o : Option Addr) (c : Nat) (F : List Nat) (bs : List Int) (v : Int) (hv : u64ok v) (hn : bs.length ≤ 1000000) (w : World) (hA : Rws [rl u8C 5 1 bs o c F] w) :
    Calls Tryf.prog 80 #[.slice o bs.length c, .int .u64 v] w fun e w' => ∃ o' c' F', e = .returned (.slice o' (bs ++ uvar 9 v).length c') ∧ (rl u8C 5 1 (bs ++ uvar 9 v) o' c' F').at w' ∧ Fr F w w' ∧ (∀ b ∈ F', b ∈ F ∨ w.heap.size ≤ b) := by
  refine enter (n := 21) (K := F) (A := Rws [rl u8C 5 1 bs o c F]) (F := Ff [rl u8C 5 1 bs o c F]) (T := [(0, .slice o bs.length c), (1, .int .u64 v)]) (L := []) (args := [.slice o bs.length c, .int .u64 v]) Tryf.func80 rfl rfl rfl rfl knil (by simp) knil hA Rws.stable (hA).low knil ?_
  intro a h
  refine wp_seq_k fun K1 hK1 => ?_
  refine nd_start (l := [0]) rfl ?_
  refine nd_batch tabOk tabZ_ok [(0, {})] [0, 1, 4] (T' := [(0, .slice o bs.length c), (1, .int .u64 v), (4, .slice none 0 0)]) (φ := True) (rest := []) h (by kernel_rfl) rfl trivial fun a2 h3 => ?_
  clear h
  refine nd_done ?_
  refine hK1 _ _ ?_
  clear hK1
  refine wp_seq_k fun K4 hK4 => ?_
  refine wp_block ?_
  refine wp_loop_ghost (fun g ga gw => ∃ (o' : Option Addr) (c' : Nat) (F' : List Nat) (bs' : List Int) (v' : Int), (0 ≤ v' ∧ v' ≤ 18446744073709551615) ∧ (v' < 128 ^ (g + 1)) ∧ (bs' ++ uvar g v' = bs ++ uvar 9 v) ∧ (∀ b ∈ F', b ∈ F ∨ w.heap.size ≤ b) ∧ St ⟨21, F, w, Rws [rl u8C 5 1 bs' o' c' F'], Ff [rl u8C 5 1 bs' o' c' F']⟩ [(0, .slice o' bs'.length c'), (1, .int .u64 v')] [] ga gw) 9 ⟨o, c, F, bs, v, hv, (u64_pow hv).2, rfl, (fun _ hq => .inl hq), (h3.slotsMono (restr_spec (keep := [0, 1]) rfl))⟩ ?_
  clear h3
  rintro g a5 w6 ⟨o', c', F', bs', v', hi8, hi9, hi10, hi11, h7⟩
  have hFK := hi11
  have hle : bs'.length ≤ bs.length + 10 := by have h1 := congrArg List.length hi10; have h2 := uvar_len 9 v; simp at h1; omega
  refine wp_seq_k fun K12 hK12 => ?_
  refine wp_seq_k fun K13 hK13 => ?_
  refine nd_start (l := [0, 1]) rfl ?_
  refine nd_batch tabOk tabZ_ok [(0, {}), (1, {})] [0, 1, 6] (T' := [(0, .slice o' bs'.length c'), (1, .int .u64 v'), (6, .bool (decide (v' ≥ 128)))]) (φ := True) (rest := []) h7 (by kernel_rfl) rfl trivial fun a14 h15 => ?_
  clear h7
  refine nd_done ?_
  refine hK13 _ _ ?_
  clear hK13
  refine c_split h15 (b := decide (v' ≥ 128)) rfl (fun hc16 => ?_) (fun hc16 => ?_)
  ·
    have hc16f : v' ≥ 128 := by simpa using hc16
    have hc : 128 ≤ v' := hc16f
    obtain ⟨g', rfl, hg2⟩ := pow_step hc hi9
    refine wp_skip ?_
    refine hK12 _ _ ?_
    clear hK12
    refine wp_block ?_
    refine wp_seq_k fun K17 hK17 => ?_
    refine nd_start (l := [0, 1, 2, 3, 4, 5, 6, 7]) rfl ?_
    refine nd_batch tabOk tabZ_ok [(0, {}), (1, {}), (2, {}), (3, {}), (4, {})] [0, 1, 6, 7, 11] (T' := [(0, .slice o' bs'.length c'), (1, .int .u64 v'), (6, .bool (decide (v' ≥ 128))), (7, .slice o' bs'.length c'), (11, .int .u8 ((v' % 128) + 128))]) (φ := (0 ≤ v' ∧ 0 < (128 : Int)) ∧ inR .u8 (v' % 128) ∧ inR .u8 ((v' % 128) + 128) ∧ True) (rest := [5, 6, 7]) h15 (by kernel_rfl) rfl ⟨⟨by omega, by omega⟩, ⟨by omega, by omega⟩, ⟨by omega, by omega⟩, trivial⟩ fun a18 h19 => ?_
    clear h15
    refine nd_op ?_
    refine op_new tabOk (cells := [.int .u8 ((v' % 128) + 128)]) (ty := 5) (ln := (some 1)) (L1 := fun b20 => [(b20, ⟨[.int .u8 ((v' % 128) + 128)], 5, false⟩)]) h19 rfl rfl rfl rfl (by kernel_rfl) (fun _ => rfl) fun b20 w21 a22 h23 hf24 hn25 => ?_
    clear h19
    refine nd_op ?_
    refine op_append tabOk (e := 5) (so := o') (n := bs'.length) (c := c') (xo := some ⟨b20, 0, none⟩) (m := 1) (cx := 1) (vals := bs'.flatMap u8C) (vs := [.int .u8 ((v' % 128) + 128)]) (F := F') h23 rfl rfl rfl rfl rfl rfl rfl rfl rfl rfl rfl rfl (h23.inv.get (j := 0) rfl) (src_one (h23.kn (k := 0) rfl) rfl ⟨rfl, trivial⟩) (by omega) rfl ?_
    intro o26 c27 F28 w29 hr30 hf31 hF32
    have hr302 := rl_app1 (enc := u8C) (xs := bs') (y := ((v' % 128) + 128)) hr30
    have hKh33 := row1_keys (K := F) hFK h23.frame.size hF32
    rw [show bs'.length + 1 = (bs' ++ [((v' % 128) + 128)]).length by simp]
    have h33 := (h23.rowSet (j := 0) (r' := rl u8C 5 1 (bs' ++ [((v' % 128) + 128)]) o26 c27 F28) (R' := [rl u8C 5 1 (bs' ++ [((v' % 128) + 128)]) o26 c27 F28]) rfl hr302 hf31 hF32 hFK (kcons (by intro hq; cases hq) knil) rfl).put (d := some 13) (v := .slice o26 ((bs' ++ [((v' % 128) + 128)]).length) c27) (T' := [(13, .slice o26 ((bs' ++ [((v' % 128) + 128)]).length) c27), (12, .slice (some ⟨b20, 0, none⟩) 1 1), (0, .slice o' bs'.length c'), (1, .int .u64 v'), (6, .bool (decide (v' ≥ 128))), (7, .slice o' bs'.length c'), (11, .int .u8 ((v' % 128) + 128))]) rfl
    clear h23
    refine nd_batch tabOk tabZ_ok [(7, {})] [1, 6, 0] (T' := [(1, .int .u64 v'), (6, .bool (decide (v' ≥ 128))), (0, .slice o26 ((bs' ++ [((v' % 128) + 128)]).length) c27)]) (φ := True) (rest := []) h33 (by kernel_rfl) rfl trivial fun a34 h35 => ?_
    clear h33
    refine nd_done ?_
    refine hK17 _ _ ?_
    clear hK17
    refine nd_start (l := [0, 1, 2]) rfl ?_
    refine nd_batch tabOk tabZ_ok [(0, {}), (1, {}), (2, {})] [6, 0, 1] (T' := [(6, .bool (decide (v' ≥ 128))), (0, .slice o26 ((bs' ++ [((v' % 128) + 128)]).length) c27), (1, .int .u64 (v' / 128))]) (φ := (0 ≤ v' ∧ 0 < (128 : Int) ∧ inR .u64 (v' / 128)) ∧ True) (rest := []) h35 (by kernel_rfl) rfl ⟨⟨by omega, by decide, by omega, by omega⟩, trivial⟩ fun a36 h37 => ?_
    clear h35
    refine nd_done ?_
    have h38 := h37.memMono (L' := []) (List.Sublist.cons _ List.Sublist.slnil)
    clear h37
    exact ⟨g', by omega, o26, c27, F28, (bs' ++ [v' % 128 + 128]), (v' / 128), ⟨by omega, by omega⟩, hg2, by rw [← hi10, uvar_step hc]; simp, hKh33, (h38.slotsMono (restr_spec (keep := [0, 1]) rfl))⟩
  ·
    have hc16f : ¬ v' ≥ 128 := by simpa using hc16
    have hc : ¬ 128 ≤ v' := by omega
    rw [uvar_stop hc] at hi10
    refine wp_exit ?_
    refine hK4 _ _ ?_
    clear hK4
    refine wp_seq_k fun K39 hK39 => ?_
    refine nd_start (l := [0, 1, 2, 3, 4, 5]) rfl ?_
    refine nd_batch tabOk tabZ_ok [(0, {}), (1, {}), (2, {})] [0, 1, 6, 16, 18] (T' := [(0, .slice o' bs'.length c'), (1, .int .u64 v'), (6, .bool (decide (v' ≥ 128))), (16, .slice o' bs'.length c'), (18, .int .u8 v')]) (φ := inR .u8 v' ∧ True) (rest := [3, 4, 5]) h15 (by kernel_rfl) rfl ⟨⟨by omega, by omega⟩, trivial⟩ fun a40 h41 => ?_
    clear h15
    refine nd_op ?_
    refine op_new tabOk (cells := [.int .u8 v']) (ty := 5) (ln := (some 1)) (L1 := fun b42 => [(b42, ⟨[.int .u8 v'], 5, false⟩)]) h41 rfl rfl rfl rfl (by kernel_rfl) (fun _ => rfl) fun b42 w43 a44 h45 hf46 hn47 => ?_
    clear h41
    refine nd_op ?_
    refine op_append tabOk (e := 5) (so := o') (n := bs'.length) (c := c') (xo := some ⟨b42, 0, none⟩) (m := 1) (cx := 1) (vals := bs'.flatMap u8C) (vs := [.int .u8 v']) (F := F') h45 rfl rfl rfl rfl rfl rfl rfl rfl rfl rfl rfl rfl (h45.inv.get (j := 0) rfl) (src_one (h45.kn (k := 0) rfl) rfl ⟨rfl, trivial⟩) (by omega) rfl ?_
    intro o48 c49 F50 w51 hr52 hf53 hF54
    have hr522 := rl_app1 (enc := u8C) (xs := bs') (y := v') hr52
    have hKh55 := row1_keys (K := F) hFK h45.frame.size hF54
    rw [show bs'.length + 1 = (bs' ++ [v']).length by simp]
    have h55 := (h45.rowSet (j := 0) (r' := rl u8C 5 1 (bs' ++ [v']) o48 c49 F50) (R' := [rl u8C 5 1 (bs' ++ [v']) o48 c49 F50]) rfl hr522 hf53 hF54 hFK (kcons (by intro hq; cases hq) knil) rfl).put (d := some 20) (v := .slice o48 ((bs' ++ [v']).length) c49) (T' := [(20, .slice o48 ((bs' ++ [v']).length) c49), (19, .slice (some ⟨b42, 0, none⟩) 1 1), (0, .slice o' bs'.length c'), (1, .int .u64 v'), (6, .bool (decide (v' ≥ 128))), (16, .slice o' bs'.length c'), (18, .int .u8 v')]) rfl
    clear h45
    refine nd_batch tabOk tabZ_ok [(5, {})] [0, 1, 6, 4] (T' := [(0, .slice o' bs'.length c'), (1, .int .u64 v'), (6, .bool (decide (v' ≥ 128))), (4, .slice o48 ((bs' ++ [v']).length) c49)]) (φ := True) (rest := []) h55 (by kernel_rfl) rfl trivial fun a56 h57 => ?_
    clear h55
    refine nd_done ?_
    refine hK39 _ _ ?_
    clear hK39
    refine wp_ret ?_
    exact s_ret tabOk tabZ_ok h57 [(.tmp 4, {})] (vs := [.slice o48 ((bs' ++ [v']).length) c49]) (φ := True) rfl (by kernel_rfl) trivial ⟨o48, c49, F50, by rw [← hi10]; rfl, by rw [← hi10]; exact h57.inv.get (j := 0) rfl, h57.frame, hKh55⟩

theorem bytes_ok (pre post : List Value) (m : Mach) (hm : m.ok) (b : Nat) (ty : TypeId) (ro : Bool) (w : World) (hb : w.heap[b]? = some (Blk.obj ⟨pre ++ machC m ++ post, ty, ro⟩)) :
    Calls Tryf.prog 70 #[.pointer (some ⟨b, pre.length, none⟩)] w fun e w' => ∃ o' c' F', e = .returned (.slice o' (mbytes m).length c') ∧ (rl u8C 5 1 (mbytes m) o' c' F').at w' ∧ Fr [] w w' ∧ (∀ b ∈ F', w.heap.size ≤ b) := by
  refine enter0 (n := 45) (K := []) (T := [(0, .pointer (some ⟨b, pre.length, none⟩))]) (L := [(b, ⟨pre ++ machC m ++ post, ty, true⟩)]) (args := [.pointer (some ⟨b, pre.length, none⟩)]) Tryf.func70 rfl rfl rfl rfl (kcons hb knil) (by simp) (kcons (by intro hq; cases hq) knil) ?_
  intro a h
  have h0 := h.rows0
  refine wp_seq_k fun K1 hK1 => ?_
  refine nd_start (l := [0]) rfl ?_
  refine nd_batch tabOk tabZ_ok [(0, {})] [0, 2] (T' := [(0, .pointer (some ⟨b, pre.length, none⟩)), (2, .slice none 0 0)]) (φ := True) (rest := []) h0 (by kernel_rfl) rfl trivial fun a2 h3 => ?_
  clear h0
  refine nd_done ?_
  refine hK1 _ _ ?_
  clear hK1
  refine wp_seq_k fun K4 hK4 => ?_
  refine nd_start (l := [0, 1, 2, 3, 4, 5]) rfl ?_
  refine nd_batch tabOk tabZ_ok [(0, {}), (1, {}), (2, {}), (3, {k := 0, m := 1, vs := [.int .u64 m.now]})] [0, 2, 8] (T' := [(0, .pointer (some ⟨b, pre.length, none⟩)), (2, .slice none 0 0), (8, .int .u64 m.now)]) (φ := (b = b ∧ cellsAre (pre ++ machC m ++ post) pre.length [.int .u64 m.now]) ∧ True) (rest := [4, 5]) h3 (by kernel_rfl) rfl ⟨⟨rfl, (mid_now pre post m)⟩, trivial⟩ fun a5 h6 => ?_
  clear h3
  refine nd_op ?_
  have h7 := h6.rowNil 5 1
  clear h6
  have hlenh13 : (([] : List Int)).length ≤ 1000000 := by simp
  refine op_call h7 rfl rfl rfl (callOk Tryf.func80 (by decide) rfl) (args := [.slice none 0 0, .int .u64 m.now]) rfl (uvar_ok none 0 ([]) ([] : List Int) m.now hm.now hlenh13 _ h7.inv) ?_
  rintro _ w14 ⟨o8, c9, F10, rfl, hr11, hf15, hF12⟩
  refine ⟨_, rfl, ?_⟩
  have hKh13 := row1_keys (K := []) (fun _ hq => by cases hq) h7.frame.size hF12
  have h13 := (h7.rowSet (j := 0) (r' := rl u8C 5 1 (([] : List Int) ++ uvar 9 m.now) o8 c9 F10) (R' := [rl u8C 5 1 (([] : List Int) ++ uvar 9 m.now) o8 c9 F10]) rfl hr11 hf15 hF12 (fun _ hq => by cases hq) (kcons (fun _ => (notinK (K := []) (fun _ hq => by cases hq) (by simp) (lt_of_heap hb))) knil) rfl).put (d := some 9) (v := .slice o8 ((([] : List Int) ++ uvar 9 m.now).length) c9) (T' := [(9, .slice o8 ((([] : List Int) ++ uvar 9 m.now).length) c9), (0, .pointer (some ⟨b, pre.length, none⟩)), (2, .slice none 0 0), (8, .int .u64 m.now)]) rfl
  clear h7
  refine nd_batch tabOk tabZ_ok [(5, {})] [0, 2, 3] (T' := [(0, .pointer (some ⟨b, pre.length, none⟩)), (2, .slice none 0 0), (3, .slice o8 ((([] : List Int) ++ uvar 9 m.now).length) c9)]) (φ := True) (rest := []) h13 (by kernel_rfl) rfl trivial fun a16 h17 => ?_
  clear h13
  refine nd_done ?_
  refine hK4 _ _ ?_
  clear hK4
  refine wp_seq_k fun K18 hK18 => ?_
  refine nd_start (l := [0, 1, 2, 3, 4, 5, 6, 7, 8]) rfl ?_
  refine nd_batch tabOk tabZ_ok [(0, {}), (1, {}), (2, {}), (3, {}), (4, {k := 0, m := 1, vs := [.int .i8 m.cur]}), (5, {}), (6, {})] [0, 2, 3, 10, 16] (T' := [(0, .pointer (some ⟨b, pre.length, none⟩)), (2, .slice none 0 0), (3, .slice o8 ((([] : List Int) ++ uvar 9 m.now).length) c9), (10, .slice o8 ((([] : List Int) ++ uvar 9 m.now).length) c9), (16, .int .u64 (m.cur + 1))]) (φ := (b = b ∧ cellsAre (pre ++ machC m ++ post) (pre.length + 1) [.int .i8 m.cur]) ∧ inR .i8 (m.cur + 1) ∧ inR .u64 (m.cur + 1) ∧ True) (rest := [7, 8]) h17 (by kernel_rfl) rfl ⟨⟨rfl, (mid_cur pre post m)⟩, ⟨by have := hm.cur; omega, by have := hm.cur; omega⟩, ⟨by have := hm.cur; omega, by have := hm.cur; omega⟩, trivial⟩ fun a19 h20 => ?_
  clear h17
  refine nd_op ?_
  have hlenh26 : (([] : List Int) ++ uvar 9 m.now).length ≤ 1000000 := by have h1 := uvar_len 9 m.now; simp; omega
  refine op_call h20 rfl rfl rfl (callOk Tryf.func80 (by decide) rfl) (args := [.slice o8 ((([] : List Int) ++ uvar 9 m.now).length) c9, .int .u64 (m.cur + 1)]) rfl (uvar_ok o8 c9 F10 (([] : List Int) ++ uvar 9 m.now) (m.cur + 1) ⟨by have := hm.cur; omega, by have := hm.cur; omega⟩ hlenh26 _ h20.inv) ?_
  rintro _ w27 ⟨o21, c22, F23, rfl, hr24, hf28, hF25⟩
  refine ⟨_, rfl, ?_⟩
  have hKh26 := row1_keys (K := []) hKh13 h20.frame.size hF25
  have h26 := (h20.rowSet (j := 0) (r' := rl u8C 5 1 (([] : List Int) ++ uvar 9 m.now ++ uvar 9 (m.cur + 1)) o21 c22 F23) (R' := [rl u8C 5 1 (([] : List Int) ++ uvar 9 m.now ++ uvar 9 (m.cur + 1)) o21 c22 F23]) rfl hr24 hf28 hF25 hKh13 (kcons (fun _ => (notinK (K := []) hKh13 (by simp) (lt_of_heap hb))) knil) rfl).put (d := some 17) (v := .slice o21 ((([] : List Int) ++ uvar 9 m.now ++ uvar 9 (m.cur + 1)).length) c22) (T' := [(17, .slice o21 ((([] : List Int) ++ uvar 9 m.now ++ uvar 9 (m.cur + 1)).length) c22), (0, .pointer (some ⟨b, pre.length, none⟩)), (2, .slice none 0 0), (3, .slice o8 ((([] : List Int) ++ uvar 9 m.now).length) c9), (10, .slice o8 ((([] : List Int) ++ uvar 9 m.now).length) c9), (16, .int .u64 (m.cur + 1))]) rfl
  clear h20
  refine nd_batch tabOk tabZ_ok [(8, {})] [0, 2, 3] (T' := [(0, .pointer (some ⟨b, pre.length, none⟩)), (2, .slice none 0 0), (3, .slice o21 ((([] : List Int) ++ uvar 9 m.now ++ uvar 9 (m.cur + 1)).length) c22)]) (φ := True) (rest := []) h26 (by kernel_rfl) rfl trivial fun a29 h30 => ?_
  clear h26
  refine nd_done ?_
  refine hK18 _ _ ?_
  clear hK18
  refine wp_seq_k fun K31 hK31 => ?_
  refine wp_seq_k fun K32 hK32 => ?_
  refine nd_start (l := [0]) rfl ?_
  refine nd_batch tabOk tabZ_ok [(0, {})] [0, 2, 3, 18] (T' := [(0, .pointer (some ⟨b, pre.length, none⟩)), (2, .slice none 0 0), (3, .slice o21 ((([] : List Int) ++ uvar 9 m.now ++ uvar 9 (m.cur + 1)).length) c22), (18, .int .i64 0)]) (φ := True) (rest := []) h30 (by kernel_rfl) rfl trivial fun a33 h34 => ?_
  clear h30
  refine nd_done ?_
  refine hK32 _ _ ?_
  clear hK32
  refine wp_block ?_
  have h35 : St ⟨45, [], w, Rws [rl u8C 5 1 (mbytesTo m 0) o21 c22 F23], Ff [rl u8C 5 1 (mbytesTo m 0) o21 c22 F23]⟩ [(0, .pointer (some ⟨b, pre.length, none⟩)), (3, .slice o21 ((mbytesTo m 0).length) c22), (18, .int .i64 ((0 : Nat) : Int))] [(b, ⟨pre ++ machC m ++ post, ty, true⟩)] _ _ := (h34.slotsMono (restr_spec (keep := [0, 3, 18]) rfl))
  refine wp_loop_ghost (fun g ga gw => ∃ (k : Nat) (o' : Option Addr) (c' : Nat) (F' : List Nat), (k ≤ 4) ∧ (g = 4 - k) ∧ (∀ b ∈ F', b ∈ [] ∨ w.heap.size ≤ b) ∧ St ⟨45, [], w, Rws [rl u8C 5 1 (mbytesTo m k) o' c' F'], Ff [rl u8C 5 1 (mbytesTo m k) o' c' F']⟩ [(0, .pointer (some ⟨b, pre.length, none⟩)), (3, .slice o' ((mbytesTo m k).length) c'), (18, .int .i64 ((k : Nat) : Int))] [(b, ⟨pre ++ machC m ++ post, ty, true⟩)] ga gw) 4 ⟨0, o21, c22, F23, by decide, rfl, hKh26, (h35.slotsMono (restr_spec (keep := [0, 3, 18]) rfl))⟩ ?_
  clear h35
  rintro g a36 w37 ⟨k, o', c', F', hi39, hi40, hi41, h38⟩
  have hFK := hi41
  refine wp_seq_k fun K42 hK42 => ?_
  refine nd_start (l := [0]) rfl ?_
  refine nd_batch tabOk tabZ_ok [(0, {})] [0, 3, 18, 19] (T' := [(0, .pointer (some ⟨b, pre.length, none⟩)), (3, .slice o' ((mbytesTo m k).length) c'), (18, .int .i64 ((k : Nat) : Int)), (19, .bool (decide (((k : Nat) : Int) < 4)))]) (φ := True) (rest := []) h38 (by kernel_rfl) rfl trivial fun a43 h44 => ?_
  clear h38
  refine nd_done ?_
  refine hK42 _ _ ?_
  clear hK42
  refine wp_seq_k fun K45 hK45 => ?_
  refine c_split h44 (b := decide (((k : Nat) : Int) < 4)) rfl (fun hc46 => ?_) (fun hc46 => ?_)
  ·
    have hc46f : ((k : Nat) : Int) < 4 := by simpa using hc46
    refine wp_skip ?_
    refine hK45 _ _ ?_
    clear hK45
    refine wp_seq_k fun K47 hK47 => ?_
    refine wp_block ?_
    refine wp_seq_k fun K48 hK48 => ?_
    refine nd_start (l := [0, 1]) rfl ?_
    refine nd_batch tabOk tabZ_ok [(0, {}), (1, {})] [0, 3, 18, 19, 4] (T' := [(0, .pointer (some ⟨b, pre.length, none⟩)), (3, .slice o' ((mbytesTo m k).length) c'), (18, .int .i64 ((k : Nat) : Int)), (19, .bool (decide (((k : Nat) : Int) < 4))), (4, .int .i64 ((k : Nat) : Int))]) (φ := True) (rest := []) h44 (by kernel_rfl) rfl trivial fun a49 h50 => ?_
    clear h44
    refine nd_done ?_
    refine hK48 _ _ ?_
    clear hK48
    refine wp_seq_k fun K51 hK51 => ?_
    refine nd_start (l := [0, 1, 2, 3, 4, 5, 6, 7, 8, 9]) rfl ?_
    refine nd_batch tabOk tabZ_ok [(0, {}), (1, {}), (2, {}), (3, {}), (4, {}), (5, {}), (6, {k := 0, m := 1, vs := [.int .u8 (m.st k)]}), (7, {})] [0, 3, 18, 19, 4, 21, 28] (T' := [(0, .pointer (some ⟨b, pre.length, none⟩)), (3, .slice o' ((mbytesTo m k).length) c'), (18, .int .i64 ((k : Nat) : Int)), (19, .bool (decide (((k : Nat) : Int) < 4))), (4, .int .i64 ((k : Nat) : Int)), (21, .slice o' ((mbytesTo m k).length) c'), (28, .int .u64 (m.st k))]) (φ := (0 ≤ ((k : Nat) : Int) ∧ ((k : Nat) : Int) < 4) ∧ (b = b ∧ cellsAre (pre ++ machC m ++ post) (pre.length + 2 + (k * 1)) [.int .u8 (m.st k)]) ∧ inR .u64 (m.st k) ∧ True) (rest := [8, 9]) h50 (by kernel_rfl) rfl ⟨⟨by omega, by omega⟩, ⟨rfl, (mid_st pre post m (by omega))⟩, ⟨by have := hm.st k; omega, by have := hm.st k; omega⟩, trivial⟩ fun a52 h53 => ?_
    clear h50
    refine nd_op ?_
    have hlenh59 : (mbytesTo m k).length ≤ 1000000 := by have h1 := mbytesTo_len m k; have h2 := uvar_len 9 (m.st k); simp; omega
    refine op_call h53 rfl rfl rfl (callOk Tryf.func80 (by decide) rfl) (args := [.slice o' ((mbytesTo m k).length) c', .int .u64 (m.st k)]) rfl (uvar_ok o' c' F' (mbytesTo m k) (m.st k) ⟨by have := hm.st k; omega, by have := hm.st k; omega⟩ hlenh59 _ h53.inv) ?_
    rintro _ w60 ⟨o54, c55, F56, rfl, hr57, hf61, hF58⟩
    refine ⟨_, rfl, ?_⟩
    have hKh59 := row1_keys (K := []) hFK h53.frame.size hF58
    have h59 := (h53.rowSet (j := 0) (r' := rl u8C 5 1 (mbytesTo m k ++ uvar 9 (m.st k)) o54 c55 F56) (R' := [rl u8C 5 1 (mbytesTo m k ++ uvar 9 (m.st k)) o54 c55 F56]) rfl hr57 hf61 hF58 hFK (kcons (fun _ => (notinK (K := []) hFK (by simp) (lt_of_heap hb))) knil) rfl).put (d := some 29) (v := .slice o54 ((mbytesTo m k ++ uvar 9 (m.st k)).length) c55) (T' := [(29, .slice o54 ((mbytesTo m k ++ uvar 9 (m.st k)).length) c55), (0, .pointer (some ⟨b, pre.length, none⟩)), (3, .slice o' ((mbytesTo m k).length) c'), (18, .int .i64 ((k : Nat) : Int)), (19, .bool (decide (((k : Nat) : Int) < 4))), (4, .int .i64 ((k : Nat) : Int)), (21, .slice o' ((mbytesTo m k).length) c'), (28, .int .u64 (m.st k))]) rfl
    clear h53
    refine nd_batch tabOk tabZ_ok [(9, {})] [0, 18, 19, 4, 3] (T' := [(0, .pointer (some ⟨b, pre.length, none⟩)), (18, .int .i64 ((k : Nat) : Int)), (19, .bool (decide (((k : Nat) : Int) < 4))), (4, .int .i64 ((k : Nat) : Int)), (3, .slice o54 ((mbytesTo m k ++ uvar 9 (m.st k)).length) c55)]) (φ := True) (rest := []) h59 (by kernel_rfl) rfl trivial fun a62 h63 => ?_
    clear h59
    refine nd_done ?_
    refine hK51 _ _ ?_
    clear hK51
    refine nd_start (l := [0, 1, 2, 3, 4, 5, 6, 7, 8]) rfl ?_
    refine nd_batch tabOk tabZ_ok [(0, {}), (1, {}), (2, {}), (3, {}), (4, {}), (5, {}), (6, {k := 0, m := 1, vs := [.int .u64 (m.rg k)]})] [0, 18, 19, 4, 3, 30, 36] (T' := [(0, .pointer (some ⟨b, pre.length, none⟩)), (18, .int .i64 ((k : Nat) : Int)), (19, .bool (decide (((k : Nat) : Int) < 4))), (4, .int .i64 ((k : Nat) : Int)), (3, .slice o54 ((mbytesTo m k ++ uvar 9 (m.st k)).length) c55), (30, .slice o54 ((mbytesTo m k ++ uvar 9 (m.st k)).length) c55), (36, .int .u64 (m.rg k))]) (φ := (0 ≤ ((k : Nat) : Int) ∧ ((k : Nat) : Int) < 4) ∧ (b = b ∧ cellsAre (pre ++ machC m ++ post) (pre.length + 6 + (k * 1)) [.int .u64 (m.rg k)]) ∧ True) (rest := [7, 8]) h63 (by kernel_rfl) rfl ⟨⟨by omega, by omega⟩, ⟨rfl, (mid_rg pre post m (by omega))⟩, trivial⟩ fun a64 h65 => ?_
    clear h63
    refine nd_op ?_
    have hlenh71 : (mbytesTo m k ++ uvar 9 (m.st k)).length ≤ 1000000 := by have h1 := mbytesTo_len m k; have h2 := uvar_len 9 (m.st k); simp; omega
    refine op_call h65 rfl rfl rfl (callOk Tryf.func80 (by decide) rfl) (args := [.slice o54 ((mbytesTo m k ++ uvar 9 (m.st k)).length) c55, .int .u64 (m.rg k)]) rfl (uvar_ok o54 c55 F56 (mbytesTo m k ++ uvar 9 (m.st k)) (m.rg k) (hm.rg k) hlenh71 _ h65.inv) ?_
    rintro _ w72 ⟨o66, c67, F68, rfl, hr69, hf73, hF70⟩
    refine ⟨_, rfl, ?_⟩
    have hKh71 := row1_keys (K := []) hKh59 h65.frame.size hF70
    have h71 := (h65.rowSet (j := 0) (r' := rl u8C 5 1 (mbytesTo m k ++ uvar 9 (m.st k) ++ uvar 9 (m.rg k)) o66 c67 F68) (R' := [rl u8C 5 1 (mbytesTo m k ++ uvar 9 (m.st k) ++ uvar 9 (m.rg k)) o66 c67 F68]) rfl hr69 hf73 hF70 hKh59 (kcons (fun _ => (notinK (K := []) hKh59 (by simp) (lt_of_heap hb))) knil) rfl).put (d := some 37) (v := .slice o66 ((mbytesTo m k ++ uvar 9 (m.st k) ++ uvar 9 (m.rg k)).length) c67) (T' := [(37, .slice o66 ((mbytesTo m k ++ uvar 9 (m.st k) ++ uvar 9 (m.rg k)).length) c67), (0, .pointer (some ⟨b, pre.length, none⟩)), (18, .int .i64 ((k : Nat) : Int)), (19, .bool (decide (((k : Nat) : Int) < 4))), (4, .int .i64 ((k : Nat) : Int)), (3, .slice o54 ((mbytesTo m k ++ uvar 9 (m.st k)).length) c55), (30, .slice o54 ((mbytesTo m k ++ uvar 9 (m.st k)).length) c55), (36, .int .u64 (m.rg k))]) rfl
    clear h65
    refine nd_batch tabOk tabZ_ok [(8, {})] [0, 18, 19, 4, 3] (T' := [(0, .pointer (some ⟨b, pre.length, none⟩)), (18, .int .i64 ((k : Nat) : Int)), (19, .bool (decide (((k : Nat) : Int) < 4))), (4, .int .i64 ((k : Nat) : Int)), (3, .slice o66 ((mbytesTo m k ++ uvar 9 (m.st k) ++ uvar 9 (m.rg k)).length) c67)]) (φ := True) (rest := []) h71 (by kernel_rfl) rfl trivial fun a74 h75 => ?_
    clear h71
    refine nd_done ?_
    refine hK47 _ _ ?_
    clear hK47
    refine nd_start (l := [0, 1]) rfl ?_
    refine nd_batch tabOk tabZ_ok [(0, {}), (1, {})] [0, 19, 4, 3, 18] (T' := [(0, .pointer (some ⟨b, pre.length, none⟩)), (19, .bool (decide (((k : Nat) : Int) < 4))), (4, .int .i64 ((k : Nat) : Int)), (3, .slice o66 ((mbytesTo m k ++ uvar 9 (m.st k) ++ uvar 9 (m.rg k)).length) c67), (18, .int .i64 (((k : Nat) : Int) + 1))]) (φ := inR .i64 (((k : Nat) : Int) + 1) ∧ True) (rest := []) h75 (by kernel_rfl) rfl ⟨⟨by omega, by omega⟩, trivial⟩ fun a76 h77 => ?_
    clear h75
    refine nd_done ?_
    have e1 : mbytesTo m k ++ uvar 9 (m.st k) ++ uvar 9 (m.rg k) = mbytesTo m (k + 1) := by simp [mbytesTo]
    rw [e1] at h77
    exact ⟨(g - 1), by omega, (k + 1), o66, c67, F68, by omega, by omega, hKh71, (h77.slotsMono (restr_spec (keep := [0, 3, 18]) rfl))⟩
  ·
    have hc46f : ¬ ((k : Nat) : Int) < 4 := by simpa using hc46
    have hk4 : k = 4 := by omega
    subst hk4
    have h78 := h44.slotsMono (T' := [(0, .pointer (some ⟨b, pre.length, none⟩)), (3, .slice o' ((mbytesTo m 4).length) c')]) (restr_spec (keep := [0, 3]) rfl)
    refine wp_exit ?_
    refine hK31 _ _ ?_
    clear hK31
    refine wp_seq_k fun K79 hK79 => ?_
    refine nd_start (l := [0, 1, 2, 3, 4, 5, 6]) rfl ?_
    refine nd_batch tabOk tabZ_ok [(0, {}), (1, {}), (2, {}), (3, {}), (4, {k := 0, m := 1, vs := [.int .u64 m.word]})] [0, 3, 39, 43] (T' := [(0, .pointer (some ⟨b, pre.length, none⟩)), (3, .slice o' ((mbytesTo m 4).length) c'), (39, .slice o' ((mbytesTo m 4).length) c'), (43, .int .u64 m.word)]) (φ := (b = b ∧ cellsAre (pre ++ machC m ++ post) (pre.length + 10) [.int .u64 m.word]) ∧ True) (rest := [5, 6]) h78 (by kernel_rfl) rfl ⟨⟨rfl, (mid_word pre post m)⟩, trivial⟩ fun a80 h81 => ?_
    clear h78
    refine nd_op ?_
    have hlenh87 : (mbytesTo m 4).length ≤ 1000000 := by have h1 := mbytesTo_len m 4; omega
    refine op_call h81 rfl rfl rfl (callOk Tryf.func80 (by decide) rfl) (args := [.slice o' ((mbytesTo m 4).length) c', .int .u64 m.word]) rfl (uvar_ok o' c' F' (mbytesTo m 4) m.word hm.word hlenh87 _ h81.inv) ?_
    rintro _ w88 ⟨o82, c83, F84, rfl, hr85, hf89, hF86⟩
    refine ⟨_, rfl, ?_⟩
    have hKh87 := row1_keys (K := []) hFK h81.frame.size hF86
    have h87 := (h81.rowSet (j := 0) (r' := rl u8C 5 1 (mbytesTo m 4 ++ uvar 9 m.word) o82 c83 F84) (R' := [rl u8C 5 1 (mbytesTo m 4 ++ uvar 9 m.word) o82 c83 F84]) rfl hr85 hf89 hF86 hFK (kcons (fun _ => (notinK (K := []) hFK (by simp) (lt_of_heap hb))) knil) rfl).put (d := some 44) (v := .slice o82 ((mbytesTo m 4 ++ uvar 9 m.word).length) c83) (T' := [(44, .slice o82 ((mbytesTo m 4 ++ uvar 9 m.word).length) c83), (0, .pointer (some ⟨b, pre.length, none⟩)), (3, .slice o' ((mbytesTo m 4).length) c'), (39, .slice o' ((mbytesTo m 4).length) c'), (43, .int .u64 m.word)]) rfl
    clear h81
    refine nd_batch tabOk tabZ_ok [(6, {})] [0, 3, 2] (T' := [(0, .pointer (some ⟨b, pre.length, none⟩)), (3, .slice o' ((mbytesTo m 4).length) c'), (2, .slice o82 ((mbytesTo m 4 ++ uvar 9 m.word).length) c83)]) (φ := True) (rest := []) h87 (by kernel_rfl) rfl trivial fun a90 h91 => ?_
    clear h87
    refine nd_done ?_
    refine hK79 _ _ ?_
    clear hK79
    refine wp_ret ?_
    exact s_ret tabOk tabZ_ok h91 [(.tmp 2, {})] (vs := [.slice o82 ((mbytesTo m 4 ++ uvar 9 m.word).length) c83]) (φ := True) rfl (by kernel_rfl) trivial ⟨o82, c83, F84, by rw [← mbytes_to]; rfl, by rw [← mbytes_to]; exact h91.inv.get (j := 0) rfl, h91.frame, fun x hx => by have := hKh87 x hx; simpa using this⟩

theorem hash_ok (o : Option Addr) (c : Nat) (F : List Nat) (bs : List Int) (hby : ∀ x ∈ bs, 0 ≤ x ∧ x ≤ 255) (hn : bs.length ≤ 1000000) (w : World) (hA : Rws [rl u8C 5 1 bs o c F] w) :
    Calls Tryf.prog 69 #[.slice o bs.length c] w fun e w' => e = .returned (.int .u64 (digBytes bs)) ∧ Fr [] w w' := by
  refine enter (n := 34) (K := []) (A := Rws [rl u8C 5 1 bs o c F]) (F := Ff [rl u8C 5 1 bs o c F]) (T := [(0, .slice o bs.length c)]) (L := []) (args := [.slice o bs.length c]) Tryf.func69 rfl rfl rfl rfl knil (by simp) knil hA Rws.stable (hA).low knil ?_
  intro a h
  refine wp_seq_k fun K1 hK1 => ?_
  refine nd_start (l := [0]) rfl ?_
  refine nd_batch tabOk tabZ_ok [(0, {})] [0, 2] (T' := [(0, .slice o bs.length c), (2, .int .u64 0)]) (φ := True) (rest := []) h (by kernel_rfl) rfl trivial fun a2 h3 => ?_
  clear h
  refine nd_done ?_
  refine hK1 _ _ ?_
  clear hK1
  refine wp_seq_k fun K4 hK4 => ?_
  refine nd_start (l := [0]) rfl ?_
  refine nd_batch tabOk tabZ_ok [(0, {})] [0, 2, 3] (T' := [(0, .slice o bs.length c), (2, .int .u64 0), (3, .int .u64 7640891576956012808)]) (φ := True) (rest := []) h3 (by kernel_rfl) rfl trivial fun a5 h6 => ?_
  clear h3
  refine nd_done ?_
  refine hK4 _ _ ?_
  clear hK4
  refine wp_seq_k fun K7 hK7 => ?_
  refine wp_seq_k fun K8 hK8 => ?_
  refine nd_start (l := [0, 1, 2]) rfl ?_
  refine nd_batch tabOk tabZ_ok [(0, {}), (1, {}), (2, {})] [0, 2, 3, 6, 7, 8] (T' := [(0, .slice o bs.length c), (2, .int .u64 0), (3, .int .u64 7640891576956012808), (6, .slice o bs.length c), (7, .int .i64 ((bs.length : Nat) : Int)), (8, .int .i64 0)]) (φ := True) (rest := []) h6 (by kernel_rfl) rfl trivial fun a9 h10 => ?_
  clear h6
  refine nd_done ?_
  refine hK8 _ _ ?_
  clear hK8
  refine wp_block ?_
  refine wp_loop_ghost (fun g ga gw => ∃ (k : Nat) (hh : Int), (k ≤ bs.length) ∧ (g = bs.length - k) ∧ (hh = (bs.take k).foldl mix 7640891576956012808) ∧ St ⟨34, [], w, Rws [rl u8C 5 1 bs o c F], Ff [rl u8C 5 1 bs o c F]⟩ [(0, .slice o bs.length c), (6, .slice o bs.length c), (7, .int .i64 ((bs.length : Nat) : Int)), (8, .int .i64 ((k : Nat) : Int)), (3, .int .u64 hh)] [] ga gw) bs.length ⟨0, 7640891576956012808, by omega, by omega, rfl, (h10.slotsMono (restr_spec (keep := [0, 6, 7, 8, 3]) rfl))⟩ ?_
  clear h10
  rintro g a11 w12 ⟨k, hh, hi14, hi15, hi16, h13⟩
  refine wp_seq_k fun K17 hK17 => ?_
  refine nd_start (l := [0]) rfl ?_
  refine nd_batch tabOk tabZ_ok [(0, {})] [0, 6, 7, 8, 3, 9] (T' := [(0, .slice o bs.length c), (6, .slice o bs.length c), (7, .int .i64 ((bs.length : Nat) : Int)), (8, .int .i64 ((k : Nat) : Int)), (3, .int .u64 hh), (9, .bool (decide (((k : Nat) : Int) < ((bs.length : Nat) : Int))))]) (φ := True) (rest := []) h13 (by kernel_rfl) rfl trivial fun a18 h19 => ?_
  clear h13
  refine nd_done ?_
  refine hK17 _ _ ?_
  clear hK17
  refine wp_seq_k fun K20 hK20 => ?_
  refine c_split h19 (b := decide (((k : Nat) : Int) < ((bs.length : Nat) : Int))) rfl (fun hc21 => ?_) (fun hc21 => ?_)
  ·
    have hc21f : ((k : Nat) : Int) < ((bs.length : Nat) : Int) := by simpa using hc21
    obtain ⟨x, hx⟩ := get_some (xs := bs) (i := k) (by omega)
    have hxb := hby x (List.mem_of_getElem? hx)
    obtain ⟨b22, cs23, ho24, hb25, hc26, hF27, hq29, hl30⟩ := rl_open (h19.inv.get (j := 0) rfl) u8C_len hx
    subst ho24 hF27
    have h28 := h19.open_ hb25 (h19.notinL (by simp [Ff]) knil)
    clear h19
    refine wp_skip ?_
    refine hK20 _ _ ?_
    clear hK20
    refine wp_seq_k fun K31 hK31 => ?_
    refine wp_block ?_
    refine wp_seq_k fun K32 hK32 => ?_
    refine nd_start (l := [0, 1, 2]) rfl ?_
    refine nd_batch tabOk tabZ_ok [(0, {}), (1, {k := 0, m := 1, vs := [.int .u8 x]}), (2, {})] [0, 6, 7, 8, 3, 9, 5] (T' := [(0, .slice (some ⟨b22, 0, none⟩) bs.length c), (6, .slice (some ⟨b22, 0, none⟩) bs.length c), (7, .int .i64 ((bs.length : Nat) : Int)), (8, .int .i64 ((k : Nat) : Int)), (3, .int .u64 hh), (9, .bool (decide (((k : Nat) : Int) < ((bs.length : Nat) : Int)))), (5, .int .u8 x)]) (φ := (0 ≤ ((k : Nat) : Int) ∧ ((k : Nat) : Int) < ((bs.length : Nat) : Int)) ∧ (b22 = b22 ∧ cellsAre cs23 (0 + (k * 1)) [.int .u8 x]) ∧ True) (rest := []) h28 (by kernel_rfl) rfl ⟨⟨by omega, by omega⟩, ⟨rfl, (by rw [Nat.zero_add]; exact hc26)⟩, trivial⟩ fun a33 h34 => ?_
    clear h28
    refine nd_done ?_
    refine hK32 _ _ ?_
    clear hK32
    refine wp_seq_k fun K35 hK35 => ?_
    refine nd_start (l := [0, 1, 2, 3, 4]) rfl ?_
    refine nd_batch tabOk tabZ_ok [(0, {}), (1, {}), (2, {}), (3, {}), (4, {})] [0, 6, 7, 8, 9, 5, 3] (T' := [(0, .slice (some ⟨b22, 0, none⟩) bs.length c), (6, .slice (some ⟨b22, 0, none⟩) bs.length c), (7, .int .i64 ((bs.length : Nat) : Int)), (8, .int .i64 ((k : Nat) : Int)), (9, .bool (decide (((k : Nat) : Int) < ((bs.length : Nat) : Int)))), (5, .int .u8 x), (3, .int .u64 (bitI .xor .u64 hh x))]) (φ := inR .u64 x ∧ True) (rest := []) h34 (by kernel_rfl) rfl ⟨⟨by omega, by omega⟩, trivial⟩ fun a36 h37 => ?_
    clear h34
    refine nd_done ?_
    refine hK35 _ _ ?_
    clear hK35
    refine wp_seq_k fun K38 hK38 => ?_
    refine nd_start (l := [0, 1, 2]) rfl ?_
    refine nd_batch tabOk tabZ_ok [(0, {}), (1, {m := 1}), (2, {})] [0, 6, 7, 8, 9, 5, 3] (T' := [(0, .slice (some ⟨b22, 0, none⟩) bs.length c), (6, .slice (some ⟨b22, 0, none⟩) bs.length c), (7, .int .i64 ((bs.length : Nat) : Int)), (8, .int .i64 ((k : Nat) : Int)), (9, .bool (decide (((k : Nat) : Int) < ((bs.length : Nat) : Int)))), (5, .int .u8 x), (3, .int .u64 (IntKind.wrap .u64 ((bitI .xor .u64 hh x) * 2685821657736338717)))]) (φ := True) (rest := []) h37 (by kernel_rfl) rfl trivial fun a39 h40 => ?_
    clear h37
    refine nd_done ?_
    refine hK38 _ _ ?_
    clear hK38
    refine nd_start (l := [0, 1, 2, 3, 4]) rfl ?_
    refine nd_batch tabOk tabZ_ok [(0, {}), (1, {}), (2, {}), (3, {}), (4, {})] [0, 6, 7, 8, 9, 5, 3] (T' := [(0, .slice (some ⟨b22, 0, none⟩) bs.length c), (6, .slice (some ⟨b22, 0, none⟩) bs.length c), (7, .int .i64 ((bs.length : Nat) : Int)), (8, .int .i64 ((k : Nat) : Int)), (9, .bool (decide (((k : Nat) : Int) < ((bs.length : Nat) : Int)))), (5, .int .u8 x), (3, .int .u64 (bitI .xor .u64 (IntKind.wrap .u64 ((bitI .xor .u64 hh x) * 2685821657736338717)) (shrI .u64 (IntKind.wrap .u64 ((bitI .xor .u64 hh x) * 2685821657736338717)) 31)))]) (φ := 0 ≤ (31 : Int) ∧ True) (rest := []) h40 (by kernel_rfl) rfl ⟨by decide, trivial⟩ fun a41 h42 => ?_
    clear h40
    refine nd_done ?_
    refine hK31 _ _ ?_
    clear hK31
    refine nd_start (l := [0, 1]) rfl ?_
    refine nd_batch tabOk tabZ_ok [(0, {}), (1, {})] [0, 6, 7, 9, 5, 3, 8] (T' := [(0, .slice (some ⟨b22, 0, none⟩) bs.length c), (6, .slice (some ⟨b22, 0, none⟩) bs.length c), (7, .int .i64 ((bs.length : Nat) : Int)), (9, .bool (decide (((k : Nat) : Int) < ((bs.length : Nat) : Int)))), (5, .int .u8 x), (3, .int .u64 (bitI .xor .u64 (IntKind.wrap .u64 ((bitI .xor .u64 hh x) * 2685821657736338717)) (shrI .u64 (IntKind.wrap .u64 ((bitI .xor .u64 hh x) * 2685821657736338717)) 31))), (8, .int .i64 (((k : Nat) : Int) + 1))]) (φ := inR .i64 (((k : Nat) : Int) + 1) ∧ True) (rest := []) h42 (by kernel_rfl) rfl ⟨⟨by omega, by omega⟩, trivial⟩ fun a43 h44 => ?_
    clear h42
    refine nd_done ?_
    have h45 := h44.memMono (L' := []) (List.Sublist.cons _ List.Sublist.slnil)
    clear h44
    exact ⟨(g - 1), by omega, (k + 1), (bitI .xor .u64 (IntKind.wrap .u64 ((bitI .xor .u64 hh x) * 2685821657736338717)) (shrI .u64 (IntKind.wrap .u64 ((bitI .xor .u64 hh x) * 2685821657736338717)) 31)), by omega, by omega, by rw [take_snoc hx, List.foldl_append, ← hi16]; rfl, (h45.slotsMono (restr_spec (keep := [0, 6, 7, 8, 3]) rfl))⟩
  ·
    have hc21f : ¬ ((k : Nat) : Int) < ((bs.length : Nat) : Int) := by simpa using hc21
    have hk : k = bs.length := by omega
    subst hk
    rw [List.take_length] at hi16
    subst hi16
    have h46 := h19.slotsMono (T' := [(0, .slice o bs.length c), (3, .int .u64 (bs.foldl mix 7640891576956012808))]) (restr_spec (keep := [0, 3]) rfl)
    refine wp_exit ?_
    refine hK7 _ _ ?_
    clear hK7
    refine wp_seq_k fun K47 hK47 => ?_
    refine nd_start (l := [0, 1, 2, 3, 4, 5]) rfl ?_
    refine nd_batch tabOk tabZ_ok [(0, {}), (1, {}), (2, {}), (3, {}), (4, {}), (5, {})] [0, 3] (T' := [(0, .slice o bs.length c), (3, .int .u64 (bitI .xor .u64 (bs.foldl mix 7640891576956012808) ((bs.length : Nat) : Int)))]) (φ := inR .u64 ((bs.length : Nat) : Int) ∧ True) (rest := []) h46 (by kernel_rfl) rfl ⟨⟨by omega, by omega⟩, trivial⟩ fun a48 h49 => ?_
    clear h46
    refine nd_done ?_
    refine hK47 _ _ ?_
    clear hK47
    refine wp_seq_k fun K50 hK50 => ?_
    refine nd_start (l := [0, 1, 2]) rfl ?_
    refine nd_batch tabOk tabZ_ok [(0, {}), (1, {m := 1}), (2, {})] [0, 3] (T' := [(0, .slice o bs.length c), (3, .int .u64 (IntKind.wrap .u64 ((bitI .xor .u64 (bs.foldl mix 7640891576956012808) ((bs.length : Nat) : Int)) * 11400714819323198485)))]) (φ := True) (rest := []) h49 (by kernel_rfl) rfl trivial fun a51 h52 => ?_
    clear h49
    refine nd_done ?_
    refine hK50 _ _ ?_
    clear hK50
    refine wp_seq_k fun K53 hK53 => ?_
    refine nd_start (l := [0, 1, 2, 3, 4]) rfl ?_
    refine nd_batch tabOk tabZ_ok [(0, {}), (1, {}), (2, {}), (3, {}), (4, {})] [0, 3, 2] (T' := [(0, .slice o bs.length c), (3, .int .u64 (IntKind.wrap .u64 ((bitI .xor .u64 (bs.foldl mix 7640891576956012808) ((bs.length : Nat) : Int)) * 11400714819323198485))), (2, .int .u64 (bitI .xor .u64 (IntKind.wrap .u64 ((bitI .xor .u64 (bs.foldl mix 7640891576956012808) ((bs.length : Nat) : Int)) * 11400714819323198485)) (shrI .u64 (IntKind.wrap .u64 ((bitI .xor .u64 (bs.foldl mix 7640891576956012808) ((bs.length : Nat) : Int)) * 11400714819323198485)) 29)))]) (φ := 0 ≤ (29 : Int) ∧ True) (rest := []) h52 (by kernel_rfl) rfl ⟨by decide, trivial⟩ fun a54 h55 => ?_
    clear h52
    refine nd_done ?_
    refine hK53 _ _ ?_
    clear hK53
    refine wp_ret ?_
    exact s_ret tabOk tabZ_ok h55 [(.tmp 2, {})] (vs := [.int .u64 (bitI .xor .u64 (IntKind.wrap .u64 ((bitI .xor .u64 (bs.foldl mix 7640891576956012808) ((bs.length : Nat) : Int)) * 11400714819323198485)) (shrI .u64 (IntKind.wrap .u64 ((bitI .xor .u64 (bs.foldl mix 7640891576956012808) ((bs.length : Nat) : Int)) * 11400714819323198485)) 29))]) (φ := True) rfl (by kernel_rfl) trivial ⟨rfl, h55.frame⟩

theorem digest_ok (pre post : List Value) (m : Mach) (hm : m.ok) (b : Nat) (ty : TypeId) (ro : Bool) (w : World) (hb : w.heap[b]? = some (Blk.obj ⟨pre ++ machC m ++ post, ty, ro⟩)) :
    Calls Tryf.prog 51 #[.pointer (some ⟨b, pre.length, none⟩)] w fun e w' => e = .returned (.int .u64 (dig m)) ∧ Fr [] w w' := by
  refine enter0 (n := 6) (K := []) (T := [(0, .pointer (some ⟨b, pre.length, none⟩))]) (L := [(b, ⟨pre ++ machC m ++ post, ty, true⟩)]) (args := [.pointer (some ⟨b, pre.length, none⟩)]) Tryf.func51 rfl rfl rfl rfl (kcons hb knil) (by simp) (kcons (by intro hq; cases hq) knil) ?_
  intro a h
  refine wp_seq_k fun K1 hK1 => ?_
  refine nd_start (l := [0]) rfl ?_
  refine nd_batch tabOk tabZ_ok [(0, {})] [0, 2] (T' := [(0, .pointer (some ⟨b, pre.length, none⟩)), (2, .int .u64 0)]) (φ := True) (rest := []) h (by kernel_rfl) rfl trivial fun a2 h3 => ?_
  clear h
  refine nd_done ?_
  refine hK1 _ _ ?_
  clear hK1
  refine wp_seq_k fun K4 hK4 => ?_
  refine nd_start (l := [0, 1, 2, 3]) rfl ?_
  refine nd_batch tabOk tabZ_ok [(0, {})] [0, 2, 3] (T' := [(0, .pointer (some ⟨b, pre.length, none⟩)), (2, .int .u64 0), (3, .pointer (some ⟨b, pre.length, none⟩))]) (φ := True) (rest := [1, 2, 3]) h3 (by kernel_rfl) rfl trivial fun a5 h6 => ?_
  clear h3
  refine nd_op ?_
  refine op_call h6 rfl rfl rfl (callOk Tryf.func70 (by decide) rfl) (args := [.pointer (some ⟨b, pre.length, none⟩)]) rfl (bytes_ok pre post m hm b ty true _ (h6.kn (k := 0) rfl)) ?_
  rintro _ w13 ⟨o7, c8, F9, rfl, hr10, hf12, hF11⟩
  refine ⟨_, rfl, ?_⟩
  have h14 := (h6.grow hf12).put (d := some 4) (v := .slice o7 ((mbytes m).length) c8) (T' := [(4, .slice o7 ((mbytes m).length) c8), (0, .pointer (some ⟨b, pre.length, none⟩)), (2, .int .u64 0), (3, .pointer (some ⟨b, pre.length, none⟩))]) rfl
  clear h6
  refine nd_op ?_
  refine op_call h14 rfl rfl rfl (callOk Tryf.func69 (by decide) rfl) (args := [.slice o7 ((mbytes m).length) c8]) rfl (hash_ok o7 c8 F9 (mbytes m) (mbytes_byte m hm) (by have := mbytes_len m; omega) _ ⟨by simp [Ff]; exact Row.nodup hr10, by simpa using hr10⟩) ?_
  rintro _ w15 ⟨rfl, hf17⟩
  refine ⟨_, rfl, ?_⟩
  have h16 := (h14.grow hf17).put (d := some 5) (v := .int .u64 (dig m)) (T' := [(5, .int .u64 (dig m)), (4, .slice o7 ((mbytes m).length) c8), (0, .pointer (some ⟨b, pre.length, none⟩)), (2, .int .u64 0), (3, .pointer (some ⟨b, pre.length, none⟩))]) rfl
  clear h14
  refine nd_batch tabOk tabZ_ok [(3, {})] [0, 2] (T' := [(0, .pointer (some ⟨b, pre.length, none⟩)), (2, .int .u64 (dig m))]) (φ := True) (rest := []) h16 (by kernel_rfl) rfl trivial fun a18 h19 => ?_
  clear h16
  refine nd_done ?_
  refine hK4 _ _ ?_
  clear hK4
  refine wp_ret ?_
  exact s_ret tabOk tabZ_ok h19 [(.tmp 2, {})] (vs := [.int .u64 (dig m)]) (φ := True) rfl (by kernel_rfl) trivial ⟨rfl, h19.frame⟩

end Go.Proofs.Qxb6500919aFmt
