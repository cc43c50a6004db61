/-
  Searching. (Made by program: a symbolic walk that prints its steps.)
-/
import Derived.Test.Qxb6500919aFmtTab
import Derived.Test.Qxb6500919aFmtLib2
import Derived.Test.Qxb6500919aFmtW1
import Derived.Test.Qxb6500919aFmtW2
import Derived.Test.Qxb6500919aFmtW3
import Derived.Test.Qxb6500919aFmtW4
import Derived.Test.Qxb6500919aFmtW5
import Derived.Test.Qxb6500919aFmtW6
namespace Go.Proofs.Qxb6500919aFmt
open Go.Sx Go.Rp
set_option maxRecDepth 100000
set_option linter.unusedVariables false
set_option linter.unusedSimpArgs false

theorem cl67_ok (bl : Nat) (d : Hd) (lg : Lg) (n : Int) (b2 b3 : Nat) (w : World) (hl : LogAt w bl d lg) (h2 : w.heap[b2]? = some (Blk.obj ⟨[.pointer (some ⟨bl, 0, none⟩)], 52, true⟩)) (h3 : w.heap[b3]? = some (Blk.obj ⟨[.int .i64 n], 3, true⟩))
    (n23 : b2 ≠ b3) (n2 : b2 ≠ bl) (n3 : b3 ≠ bl) (hq2 : b2 ∉ d.F) (hq3 : b3 ∉ d.F) (i : Nat) (hi : i < lg.sns.length) :
    Calls Tryf.prog 65 #[.int .i64 i, .pointer (some ⟨b2, 0, none⟩), .pointer (some ⟨b3, 0, none⟩)] w fun e w' => e = .returned (.bool (gtAt lg.sns n i)) ∧ Fr [] w w' := by
  obtain ⟨eo, ec, eF, mo, mc, mF, so, sc, sF⟩ := d
  obtain ⟨hbl, hA, hsep⟩ := hl
  refine enter (n := 15) (K := []) (A := Rws [rl evC 31 3 lg.evs eo ec eF, rl mkC 93 2 lg.mks mo mc mF, rl ptC 84 15 lg.sns so sc sF]) (F := Ff [rl evC 31 3 lg.evs eo ec eF, rl mkC 93 2 lg.mks mo mc mF, rl ptC 84 15 lg.sns so sc sF]) (T := [(0, .int .i64 ((i : Nat) : Int)), (1, .pointer (some ⟨b2, 0, none⟩)), (2, .pointer (some ⟨b3, 0, none⟩))]) (L := [(b2, ⟨[.pointer (some ⟨bl, 0, none⟩)], 52, true⟩), (b3, ⟨[.int .i64 n], 3, true⟩), (bl, ⟨logC lg.base (.slice eo lg.evs.length ec) (.slice mo lg.mks.length mc) (.slice so lg.sns.length sc), 89, true⟩)]) (args := [.int .i64 ((i : Nat) : Int), .pointer (some ⟨b2, 0, none⟩), .pointer (some ⟨b3, 0, none⟩)]) Tryf.func65 rfl rfl rfl rfl (kcons h2 (kcons h3 (kcons hbl knil))) (by simp [n23, n2, n3]) (kcons (by intro hq; cases hq) (kcons (by intro hq; cases hq) (kcons (by intro hq; cases hq) knil))) hA Rws.stable (hA).low (kcons (by intro hq; cases hq) (kcons (by intro hq; cases hq) (kcons (by intro hq; cases hq) knil))) ?_
  intro a h
  obtain ⟨x, hx⟩ := Sx.get_some hi
  obtain ⟨b1, cs2, ho3, hb4, hc5, hF6, hq8, hl9⟩ := rl_open (h.inv.get (j := 2) rfl) ptC_len hx
  subst ho3 hF6
  have h7 := h.open_ hb4 (h.notinL (by simp [Ff]) (kcons (fun _ => (fun hq => hq2 (by have hq2 : b2 = b1 := hq; rw [hq2]; simp [Hd.F]))) (kcons (fun _ => (fun hq => hq3 (by have hq2 : b3 = b1 := hq; rw [hq2]; simp [Hd.F]))) (kcons (fun _ => (fun hq => hsep (by have hq2 : bl = b1 := hq; rw [hq2]; simp [Hd.F]))) knil))))
  clear h
  refine wp_seq_k fun K10 hK10 => ?_
  refine nd_start (l := [0]) rfl ?_
  refine nd_batch tabOk tabZ_ok [(0, {})] [0, 1, 2, 4] (T' := [(0, .int .i64 ((i : Nat) : Int)), (1, .pointer (some ⟨b2, 0, none⟩)), (2, .pointer (some ⟨b3, 0, none⟩)), (4, .bool false)]) (φ := True) (rest := []) h7 (by kernel_rfl) rfl trivial fun a11 h12 => ?_
  clear h7
  refine nd_done ?_
  refine hK10 _ _ ?_
  clear hK10
  refine wp_seq_k fun K13 hK13 => ?_
  refine dr_start (KB := [b2, b3, bl, b1]) (Bi := [[0, 1, 2, 3], [0, 1, 2, 3], [0, 1, 2, 3], [0, 1, 2, 3], [0, 1, 2, 3], [0, 1, 2, 3], [0, 1, 2, 3], [0, 1, 2, 3], [0, 1, 2, 3], [0, 1, 2, 3], [0, 1, 2, 3]]) mixed h12 fun w14 h15 => ?_
  clear h12
  refine dr_batch tabOk tabZ_ok (by repeat (first | exact PF.body | with_reducible apply PF.inB | with_reducible apply PF.next)) [(0, {k := 0, p := 0}), (1, {}), (2, {}), (3, {k := 2, p := 2}), (4, {}), (5, {}), (6, {}), (7, {k := 3, m := 1, vs := [.int .i64 x.idx], p := 3}), (8, {k := 1, p := 1}), (9, {}), (10, {})] [0, 1, 2, 4] (T' := [(0, .int .i64 ((i : Nat) : Int)), (1, .pointer (some ⟨b2, 0, none⟩)), (2, .pointer (some ⟨b3, 0, none⟩)), (4, .bool (decide (x.idx > n)))]) (φ := (b2 = b2 ∧ Nat.ble (0 + 1) 1 = true) ∧ (bl = bl ∧ Nat.ble (17 + 1) 18 = true) ∧ (0 ≤ ((i : Nat) : Int) ∧ ((i : Nat) : Int) < ((lg.sns.length : Nat) : Int)) ∧ (b1 = b1 ∧ cellsAre cs2 (0 + (i * 15)) [.int .i64 x.idx]) ∧ (b3 = b3 ∧ Nat.ble (0 + 1) 1 = true) ∧ True) (fuel := 0) h15 (by kernel_rfl) rfl (by kernel_rfl) (by kernel_rfl) ⟨rfl, trivial, trivial, rfl, trivial, trivial, trivial, rfl, rfl, trivial, trivial, trivial⟩ ⟨⟨rfl, rfl⟩, ⟨rfl, rfl⟩, ⟨by omega, by omega⟩, ⟨rfl, (by rw [Nat.zero_add]; exact pt_idx hc5)⟩, ⟨rfl, rfl⟩, trivial⟩ fun a17 h18 => ?_
  clear h15
  refine wpAnyK_done (by kernel_rfl) ?_ _
  refine hK13 _ _ ?_
  clear hK13
  refine wp_ret ?_
  try simp only [Exit.then, Exit.inBlock]
  try rw [if_pos trivial]
  exact s_ret tabOk tabZ_ok h18 [(.tmp 4, {})] (vs := [.bool (decide (x.idx > n))]) (φ := True) rfl (by kernel_rfl) trivial ⟨by rw [show gtAt lg.sns n i = decide (x.idx > n) by simp [gtAt, hx]]; rfl, h18.frame⟩

theorem cl68_ok (bl : Nat) (d : Hd) (lg : Lg) (n : Int) (b2 b3 : Nat) (w : World) (hl : LogAt w bl d lg) (h2 : w.heap[b2]? = some (Blk.obj ⟨[.pointer (some ⟨bl, 0, none⟩)], 52, true⟩)) (h3 : w.heap[b3]? = some (Blk.obj ⟨[.int .i64 n], 3, true⟩))
    (n23 : b2 ≠ b3) (n2 : b2 ≠ bl) (n3 : b3 ≠ bl) (hq2 : b2 ∉ d.F) (hq3 : b3 ∉ d.F) (i : Nat) (hi : i < lg.sns.length) :
    Calls Tryf.prog 67 #[.int .i64 i, .pointer (some ⟨b2, 0, none⟩), .pointer (some ⟨b3, 0, none⟩)] w fun e w' => e = .returned (.bool (geAt lg.sns n i)) ∧ Fr [] w w' := by
  obtain ⟨eo, ec, eF, mo, mc, mF, so, sc, sF⟩ := d
  obtain ⟨hbl, hA, hsep⟩ := hl
  refine enter (n := 15) (K := []) (A := Rws [rl evC 31 3 lg.evs eo ec eF, rl mkC 93 2 lg.mks mo mc mF, rl ptC 84 15 lg.sns so sc sF]) (F := Ff [rl evC 31 3 lg.evs eo ec eF, rl mkC 93 2 lg.mks mo mc mF, rl ptC 84 15 lg.sns so sc sF]) (T := [(0, .int .i64 ((i : Nat) : Int)), (1, .pointer (some ⟨b2, 0, none⟩)), (2, .pointer (some ⟨b3, 0, none⟩))]) (L := [(b2, ⟨[.pointer (some ⟨bl, 0, none⟩)], 52, true⟩), (b3, ⟨[.int .i64 n], 3, true⟩), (bl, ⟨logC lg.base (.slice eo lg.evs.length ec) (.slice mo lg.mks.length mc) (.slice so lg.sns.length sc), 89, true⟩)]) (args := [.int .i64 ((i : Nat) : Int), .pointer (some ⟨b2, 0, none⟩), .pointer (some ⟨b3, 0, none⟩)]) Tryf.func67 rfl rfl rfl rfl (kcons h2 (kcons h3 (kcons hbl knil))) (by simp [n23, n2, n3]) (kcons (by intro hq; cases hq) (kcons (by intro hq; cases hq) (kcons (by intro hq; cases hq) knil))) hA Rws.stable (hA).low (kcons (by intro hq; cases hq) (kcons (by intro hq; cases hq) (kcons (by intro hq; cases hq) knil))) ?_
  intro a h
  obtain ⟨x, hx⟩ := Sx.get_some hi
  obtain ⟨b1, cs2, ho3, hb4, hc5, hF6, hq8, hl9⟩ := rl_open (h.inv.get (j := 2) rfl) ptC_len hx
  subst ho3 hF6
  have h7 := h.open_ hb4 (h.notinL (by simp [Ff]) (kcons (fun _ => (fun hq => hq2 (by have hq2 : b2 = b1 := hq; rw [hq2]; simp [Hd.F]))) (kcons (fun _ => (fun hq => hq3 (by have hq2 : b3 = b1 := hq; rw [hq2]; simp [Hd.F]))) (kcons (fun _ => (fun hq => hsep (by have hq2 : bl = b1 := hq; rw [hq2]; simp [Hd.F]))) knil))))
  clear h
  refine wp_seq_k fun K10 hK10 => ?_
  refine nd_start (l := [0]) rfl ?_
  refine nd_batch tabOk tabZ_ok [(0, {})] [0, 1, 2, 4] (T' := [(0, .int .i64 ((i : Nat) : Int)), (1, .pointer (some ⟨b2, 0, none⟩)), (2, .pointer (some ⟨b3, 0, none⟩)), (4, .bool false)]) (φ := True) (rest := []) h7 (by kernel_rfl) rfl trivial fun a11 h12 => ?_
  clear h7
  refine nd_done ?_
  refine hK10 _ _ ?_
  clear hK10
  refine wp_seq_k fun K13 hK13 => ?_
  refine dr_start (KB := [b2, b3, bl, b1]) (Bi := [[0, 1, 2, 3], [0, 1, 2, 3], [0, 1, 2, 3], [0, 1, 2, 3], [0, 1, 2, 3], [0, 1, 2, 3], [0, 1, 2, 3], [0, 1, 2, 3], [0, 1, 2, 3], [0, 1, 2, 3], [0, 1, 2, 3]]) mixed h12 fun w14 h15 => ?_
  clear h12
  refine dr_batch tabOk tabZ_ok (by repeat (first | exact PF.body | with_reducible apply PF.inB | with_reducible apply PF.next)) [(0, {k := 0, p := 0}), (1, {}), (2, {}), (3, {k := 2, p := 2}), (4, {}), (5, {}), (6, {}), (7, {k := 3, m := 1, vs := [.int .i64 x.idx], p := 3}), (8, {k := 1, p := 1}), (9, {}), (10, {})] [0, 1, 2, 4] (T' := [(0, .int .i64 ((i : Nat) : Int)), (1, .pointer (some ⟨b2, 0, none⟩)), (2, .pointer (some ⟨b3, 0, none⟩)), (4, .bool (decide (x.idx ≥ n)))]) (φ := (b2 = b2 ∧ Nat.ble (0 + 1) 1 = true) ∧ (bl = bl ∧ Nat.ble (17 + 1) 18 = true) ∧ (0 ≤ ((i : Nat) : Int) ∧ ((i : Nat) : Int) < ((lg.sns.length : Nat) : Int)) ∧ (b1 = b1 ∧ cellsAre cs2 (0 + (i * 15)) [.int .i64 x.idx]) ∧ (b3 = b3 ∧ Nat.ble (0 + 1) 1 = true) ∧ True) (fuel := 0) h15 (by kernel_rfl) rfl (by kernel_rfl) (by kernel_rfl) ⟨rfl, trivial, trivial, rfl, trivial, trivial, trivial, rfl, rfl, trivial, trivial, trivial⟩ ⟨⟨rfl, rfl⟩, ⟨rfl, rfl⟩, ⟨by omega, by omega⟩, ⟨rfl, (by rw [Nat.zero_add]; exact pt_idx hc5)⟩, ⟨rfl, rfl⟩, trivial⟩ fun a17 h18 => ?_
  clear h15
  refine wpAnyK_done (by kernel_rfl) ?_ _
  refine hK13 _ _ ?_
  clear hK13
  refine wp_ret ?_
  try simp only [Exit.then, Exit.inBlock]
  try rw [if_pos trivial]
  exact s_ret tabOk tabZ_ok h18 [(.tmp 4, {})] (vs := [.bool (decide (x.idx ≥ n))]) (φ := True) rfl (by kernel_rfl) trivial ⟨by rw [show geAt lg.sns n i = decide (x.idx ≥ n) by simp [geAt, hx]]; rfl, h18.frame⟩

theorem search_ok (n : Nat) (hn : n ≤ 1000000) (f : Nat → Bool) (fid : FuncId) (cap : List Value) (hok : CallOk Tryf.prog fid) (hmono : ∀ i j, i ≤ j → j < n → f i = true → f j = true) (w : World)
    (hcl : ∀ (i : Nat) (w1 : World), i < n → Fr [] w w1 → Calls Tryf.prog fid ([] ++ [(.int .i64 i : Value)] ++ cap).toArray w1 fun e w' => e = .returned (.bool (f i)) ∧ Fr [] w1 w') :
    Calls Tryf.prog 64 #[.int .i64 n, .func (.func fid) #[] cap.toArray] w fun e w' => ∃ k, k ≤ n ∧ e = .returned (.int .i64 (k : Nat)) ∧ (∀ i, i < k → f i = false) ∧ (∀ i, k ≤ i → i < n → f i = true) ∧ Fr [] w w' := by
  refine enter0 (n := 26) (K := []) (T := [(0, .int .i64 ((n : Nat) : Int)), (1, .func (.func fid) #[] cap.toArray)]) (L := []) (args := [.int .i64 ((n : Nat) : Int), .func (.func fid) #[] cap.toArray]) Tryf.func64 rfl rfl rfl rfl knil (by simp) knil ?_
  intro a h
  refine wp_seq_k fun K1 hK1 => ?_
  refine nd_start (l := [0]) rfl ?_
  refine nd_batch tabOk tabZ_ok [(0, {})] [0, 1, 4] (T' := [(0, .int .i64 ((n : Nat) : Int)), (1, .func (.func fid) #[] cap.toArray), (4, .int .i64 0)]) (φ := True) (rest := []) h (by kernel_rfl) rfl trivial fun a2 h3 => ?_
  clear h
  refine nd_done ?_
  refine hK1 _ _ ?_
  clear hK1
  refine wp_seq_k fun K4 hK4 => ?_
  refine nd_start (l := [0, 1, 2]) rfl ?_
  refine nd_batch tabOk tabZ_ok [(0, {}), (1, {}), (2, {})] [0, 1, 4, 5, 6] (T' := [(0, .int .i64 ((n : Nat) : Int)), (1, .func (.func fid) #[] cap.toArray), (4, .int .i64 0), (5, .int .i64 0), (6, .int .i64 ((n : Nat) : Int))]) (φ := True) (rest := []) h3 (by kernel_rfl) rfl trivial fun a5 h6 => ?_
  clear h3
  refine nd_done ?_
  refine hK4 _ _ ?_
  clear hK4
  refine wp_seq_k fun K7 hK7 => ?_
  refine wp_block ?_
  refine wp_loop_ghost (fun g ga gw => ∃ (i j : Nat), (i ≤ j) ∧ (j ≤ n) ∧ (g = j - i) ∧ (∀ x, x < i → f x = false) ∧ (∀ x, j ≤ x → x < n → f x = true) ∧ St ⟨26, [], w, fun _ => True, []⟩ [(1, .func (.func fid) #[] cap.toArray), (5, .int .i64 ((i : Nat) : Int)), (6, .int .i64 ((j : Nat) : Int))] [] ga gw) n ⟨0, n, Nat.zero_le _, Nat.le_refl _, rfl, (fun _ hq => by omega), (fun _ _ _ => by omega), (h6.slotsMono (restr_spec (keep := [1, 5, 6]) rfl))⟩ ?_
  clear h6
  rintro g a8 w9 ⟨i, j, hi11, hi12, hi13, hi14, hi15, h10⟩
  have hshr : shrI .u64 (((i : Nat) : Int) + ((j : Nat) : Int)) 1 = (((i + j) / 2 : Nat) : Int) := by rw [shr1]; omega
  refine wp_seq_k fun K16 hK16 => ?_
  refine wp_seq_k fun K17 hK17 => ?_
  refine nd_start (l := [0, 1, 2]) rfl ?_
  refine nd_batch tabOk tabZ_ok [(0, {}), (1, {}), (2, {})] [1, 5, 6, 11] (T' := [(1, .func (.func fid) #[] cap.toArray), (5, .int .i64 ((i : Nat) : Int)), (6, .int .i64 ((j : Nat) : Int)), (11, .bool (decide (((i : Nat) : Int) < ((j : Nat) : Int))))]) (φ := True) (rest := []) h10 (by kernel_rfl) rfl trivial fun a18 h19 => ?_
  clear h10
  refine nd_done ?_
  refine hK17 _ _ ?_
  clear hK17
  refine c_split h19 (b := decide (((i : Nat) : Int) < ((j : Nat) : Int))) rfl (fun hc20 => ?_) (fun hc20 => ?_)
  ·
    have hc20f : ((i : Nat) : Int) < ((j : Nat) : Int) := by simpa using hc20
    refine wp_skip ?_
    refine hK16 _ _ ?_
    clear hK16
    refine wp_block ?_
    refine wp_seq_k fun K21 hK21 => ?_
    refine nd_start (l := [0, 1, 2, 3, 4, 5, 6]) rfl ?_
    refine nd_batch tabOk tabZ_ok [(0, {}), (1, {}), (2, {}), (3, {}), (4, {}), (5, {}), (6, {})] [1, 5, 6, 7] (T' := [(1, .func (.func fid) #[] cap.toArray), (5, .int .i64 ((i : Nat) : Int)), (6, .int .i64 ((j : Nat) : Int)), (7, .int .i64 (shrI .u64 (((i : Nat) : Int) + ((j : Nat) : Int)) 1))]) (φ := inR .i64 (((i : Nat) : Int) + ((j : Nat) : Int)) ∧ inR .u64 (((i : Nat) : Int) + ((j : Nat) : Int)) ∧ 0 ≤ (1 : Int) ∧ inR .i64 (shrI .u64 (((i : Nat) : Int) + ((j : Nat) : Int)) 1) ∧ True) (rest := []) h19 (by kernel_rfl) rfl ⟨⟨by omega, by omega⟩, ⟨by omega, by omega⟩, by decide, ⟨by rw [hshr]; omega, by rw [hshr]; omega⟩, trivial⟩ fun a22 h23 => ?_
    clear h19
    refine nd_done ?_
    refine hK21 _ _ ?_
    clear hK21
    refine wp_seq_k fun K24 hK24 => ?_
    refine nd_start (l := [0, 1, 2, 3]) rfl ?_
    refine nd_batch tabOk tabZ_ok [(0, {}), (1, {})] [1, 5, 6, 7, 18, 19] (T' := [(1, .func (.func fid) #[] cap.toArray), (5, .int .i64 ((i : Nat) : Int)), (6, .int .i64 ((j : Nat) : Int)), (7, .int .i64 (shrI .u64 (((i : Nat) : Int) + ((j : Nat) : Int)) 1)), (18, .func (.func fid) #[] cap.toArray), (19, .int .i64 (shrI .u64 (((i : Nat) : Int) + ((j : Nat) : Int)) 1))]) (φ := True) (rest := [2, 3]) h23 (by kernel_rfl) rfl trivial fun a25 h26 => ?_
    clear h23
    refine nd_op ?_
    rw [hshr] at h26
    refine op_callv (f := fid) (first := []) (cap := cap) (args := [.int .i64 (((i + j) / 2 : Nat) : Int)]) h26 rfl rfl rfl rfl hok rfl (hcl ((i + j) / 2) _ (by omega) h26.frame) ?_
    rintro _ w27 ⟨rfl, hf28⟩
    refine ⟨_, rfl, ?_⟩
    have h29 := (h26.grow hf28).put (d := some 20) (v := .bool (f ((i + j) / 2))) (T' := [(20, .bool (f ((i + j) / 2))), (1, .func (.func fid) #[] cap.toArray), (5, .int .i64 ((i : Nat) : Int)), (6, .int .i64 ((j : Nat) : Int)), (7, .int .i64 (((i + j) / 2 : Nat) : Int)), (18, .func (.func fid) #[] cap.toArray), (19, .int .i64 (((i + j) / 2 : Nat) : Int))]) rfl
    clear h26
    refine nd_batch tabOk tabZ_ok [(3, {})] [1, 5, 6, 7, 21] (T' := [(1, .func (.func fid) #[] cap.toArray), (5, .int .i64 ((i : Nat) : Int)), (6, .int .i64 ((j : Nat) : Int)), (7, .int .i64 (((i + j) / 2 : Nat) : Int)), (21, .bool (!(f ((i + j) / 2))))]) (φ := True) (rest := []) h29 (by kernel_rfl) rfl trivial fun a30 h31 => ?_
    clear h29
    refine nd_done ?_
    refine hK24 _ _ ?_
    clear hK24
    refine c_split h31 (b := !(f ((i + j) / 2))) rfl (fun hc32 => ?_) (fun hc32 => ?_)
    ·
      have hfm : f ((i + j) / 2) = false := by simpa using hc32
      refine nd_start (l := [0, 1, 2]) rfl ?_
      refine nd_batch tabOk tabZ_ok [(0, {}), (1, {}), (2, {})] [1, 6, 7, 5] (T' := [(1, .func (.func fid) #[] cap.toArray), (6, .int .i64 ((j : Nat) : Int)), (7, .int .i64 (((i + j) / 2 : Nat) : Int)), (5, .int .i64 ((((i + j) / 2 : Nat) : Int) + 1))]) (φ := inR .i64 ((((i + j) / 2 : Nat) : Int) + 1) ∧ True) (rest := []) h31 (by kernel_rfl) rfl ⟨⟨by omega, by omega⟩, trivial⟩ fun a33 h34 => ?_
      clear h31
      refine nd_done ?_
      have e1 : ((((i + j) / 2 : Nat) : Int) + 1) = ((((i + j) / 2) + 1 : Nat) : Int) := by omega
      rw [e1] at h34
      exact ⟨(j - (((i + j) / 2) + 1)), by omega, (((i + j) / 2) + 1), j, by omega, by omega, rfl, (fun x hx => by rcases Nat.lt_or_ge x i with hq | hq; exact hi14 x hq; cases hfx : f x with | false => rfl | true => exact absurd (hmono x ((i + j) / 2) (by omega) (by omega) hfx) (by simp [hfm])), hi15, (h34.slotsMono (restr_spec (keep := [1, 5, 6]) rfl))⟩
    ·
      have hfm : f ((i + j) / 2) = true := by simpa using hc32
      refine nd_start (l := [0, 1]) rfl ?_
      refine nd_batch tabOk tabZ_ok [(0, {}), (1, {})] [1, 5, 7, 6] (T' := [(1, .func (.func fid) #[] cap.toArray), (5, .int .i64 ((i : Nat) : Int)), (7, .int .i64 (((i + j) / 2 : Nat) : Int)), (6, .int .i64 (((i + j) / 2 : Nat) : Int))]) (φ := True) (rest := []) h31 (by kernel_rfl) rfl trivial fun a35 h36 => ?_
      clear h31
      refine nd_done ?_
      exact ⟨(((i + j) / 2) - i), by omega, i, ((i + j) / 2), by omega, by omega, rfl, hi14, (fun x h1 h2 => hmono ((i + j) / 2) x h1 h2 hfm), (h36.slotsMono (restr_spec (keep := [1, 5, 6]) rfl))⟩
  ·
    have hc20f : ¬ ((i : Nat) : Int) < ((j : Nat) : Int) := by simpa using hc20
    have h37 := h19.slotsMono (T' := [(5, .int .i64 ((i : Nat) : Int))]) (restr_spec (keep := [5]) rfl)
    clear h19
    have hij : i = j := by omega
    subst hij
    refine wp_exit ?_
    refine hK7 _ _ ?_
    clear hK7
    refine wp_seq_k fun K38 hK38 => ?_
    refine nd_start (l := [0, 1]) rfl ?_
    refine nd_batch tabOk tabZ_ok [(0, {}), (1, {})] [5, 4] (T' := [(5, .int .i64 ((i : Nat) : Int)), (4, .int .i64 ((i : Nat) : Int))]) (φ := True) (rest := []) h37 (by kernel_rfl) rfl trivial fun a39 h40 => ?_
    clear h37
    refine nd_done ?_
    refine hK38 _ _ ?_
    clear hK38
    refine wp_ret ?_
    try simp only [Exit.then, Exit.inBlock]
    try rw [if_pos trivial]
    exact s_ret tabOk tabZ_ok h40 [(.tmp 4, {})] (vs := [.int .i64 ((i : Nat) : Int)]) (φ := True) rfl (by kernel_rfl) trivial ⟨i, hi12, rfl, hi14, hi15, h40.frame⟩

theorem nearest_ok (bl : Nat) (d : Hd) (lg : Lg) (w : World) (hl : LogAt w bl d lg) (n : Int) (hsort : lg.sns.Pairwise (fun a b => a.idx < b.idx)) (hsl : lg.sns.length ≤ 1000) :
    Calls Tryf.prog 43 #[.pointer (some ⟨bl, 0, none⟩), .int .i64 n] w fun e w' => ∃ b off cs ty, e = .returned (.pointer (some ⟨b, off, none⟩)) ∧ w'.heap[b]? = some (Blk.obj ⟨cs, ty, true⟩) ∧ cellsAre cs off (ptC (lg.near n)) ∧ b ∈ bl :: d.F ∧ Fr [] w w' := by
  obtain ⟨eo, ec, eF, mo, mc, mF, so, sc, sF⟩ := d
  obtain ⟨hbl, hA, hsep⟩ := hl
  refine enter (n := 25) (K := []) (A := Rws [rl evC 31 3 lg.evs eo ec eF, rl mkC 93 2 lg.mks mo mc mF, rl ptC 84 15 lg.sns so sc sF]) (F := Ff [rl evC 31 3 lg.evs eo ec eF, rl mkC 93 2 lg.mks mo mc mF, rl ptC 84 15 lg.sns so sc sF]) (T := [(0, .pointer (some ⟨bl, 0, none⟩)), (1, .int .i64 n)]) (L := [(bl, ⟨logC lg.base (.slice eo lg.evs.length ec) (.slice mo lg.mks.length mc) (.slice so lg.sns.length sc), 89, true⟩)]) (args := [.pointer (some ⟨bl, 0, none⟩), .int .i64 n]) Tryf.func43 rfl rfl rfl rfl (kcons hbl knil) (by simp) (kcons (by intro hq; cases hq) knil) hA Rws.stable (hA).low (kcons (by intro hq; cases hq) knil) ?_
  intro a h
  refine wp_seq_k fun K1 hK1 => ?_
  refine nd_start (l := [0, 1, 2]) rfl ?_
  refine nd_op ?_
  refine op_new tabOk (cells := [.pointer (some ⟨bl, 0, none⟩)]) (ty := 52) (ln := none) (L1 := fun b2 => [(bl, ⟨logC lg.base (.slice eo lg.evs.length ec) (.slice mo lg.mks.length mc) (.slice so lg.sns.length sc), 89, true⟩), (b2, ⟨[.pointer (some ⟨bl, 0, none⟩)], 52, false⟩)]) h rfl rfl rfl rfl (by kernel_rfl) (fun _ => rfl) fun b2 w3 a4 h5 hf6 hn7 => ?_
  clear h
  refine nd_op ?_
  refine op_new tabOk (cells := [.int .i64 n]) (ty := 3) (ln := none) (L1 := fun b8 => [(bl, ⟨logC lg.base (.slice eo lg.evs.length ec) (.slice mo lg.mks.length mc) (.slice so lg.sns.length sc), 89, true⟩), (b2, ⟨[.pointer (some ⟨bl, 0, none⟩)], 52, false⟩), (b8, ⟨[.int .i64 n], 3, false⟩)]) h5 rfl rfl rfl rfl (by kernel_rfl) (fun _ => rfl) fun b8 w9 a10 h11 hf12 hn13 => ?_
  clear h5
  refine nd_batch tabOk tabZ_ok [(2, {})] [3, 2, 0, 1, 4] (T' := [(3, .pointer (some ⟨b8, 0, none⟩)), (2, .pointer (some ⟨b2, 0, none⟩)), (0, .pointer (some ⟨bl, 0, none⟩)), (1, .int .i64 n), (4, .pointer none)]) (φ := True) (rest := []) h11 (by kernel_rfl) rfl trivial fun a14 h15 => ?_
  clear h11
  refine nd_done ?_
  refine hK1 _ _ ?_
  clear hK1
  refine wp_seq_k fun K16 hK16 => ?_
  refine nd_start (l := [0, 1, 2, 3, 4, 5, 6, 7]) rfl ?_
  refine nd_batch tabOk tabZ_ok [(0, {k := 1}), (1, {}), (2, {}), (3, {k := 0}), (4, {}), (5, {})] [3, 2, 0, 1, 4, 10, 11] (T' := [(3, .pointer (some ⟨b8, 0, none⟩)), (2, .pointer (some ⟨b2, 0, none⟩)), (0, .pointer (some ⟨bl, 0, none⟩)), (1, .int .i64 n), (4, .pointer none), (10, .int .i64 ((lg.sns.length : Nat) : Int)), (11, .func (.func 65) #[] #[.pointer (some ⟨b2, 0, none⟩), .pointer (some ⟨b8, 0, none⟩)])]) (φ := (b2 = b2 ∧ Nat.ble (0 + 1) 1 = true) ∧ (bl = bl ∧ Nat.ble (17 + 1) 18 = true) ∧ True) (rest := [6, 7]) h15 (by kernel_rfl) rfl ⟨⟨rfl, rfl⟩, ⟨rfl, rfl⟩, trivial⟩ fun a17 h18 => ?_
  clear h15
  refine nd_op ?_
  have hLq := LogAt.of (d := ⟨eo, ec, eF, mo, mc, mF, so, sc, sF⟩) (lg := lg) (h18.kn (k := 0) rfl) h18.inv hsep
  refine op_call h18 rfl rfl rfl (callOk Tryf.func64 (by decide) rfl) (args := [.int .i64 ((lg.sns.length : Nat) : Int), .func (.func 65) #[] #[.pointer (some ⟨b2, 0, none⟩), .pointer (some ⟨b8, 0, none⟩)]]) rfl (search_ok lg.sns.length (by omega) (gtAt lg.sns n) 65 [.pointer (some ⟨b2, 0, none⟩), .pointer (some ⟨b8, 0, none⟩)] (callOk Tryf.func65 (by decide) rfl) (gtAt_mono hsort) _ (fun i w1 hi hfr => cl67_ok bl ⟨eo, ec, eF, mo, mc, mF, so, sc, sF⟩ lg n b2 b8 w1 (hLq.fr hfr (by simp)) (h18.stays hfr (k := 1) rfl (by simp)) (h18.stays hfr (k := 2) rfl (by simp)) (h18.ne 1 2 rfl rfl rfl) (h18.ne 1 0 rfl rfl rfl) (h18.ne 2 0 rfl rfl rfl) (fun hq => by have h1 := hLq.low b2 (List.mem_cons_of_mem _ hq); exact h18.disj _ (List.mem_cons_of_mem _ (List.mem_cons_self ..)) rfl hq) (fun hq => h18.disj _ (List.mem_cons_of_mem _ (List.mem_cons_of_mem _ (List.mem_cons_self ..))) rfl hq) i hi)) ?_
  rintro _ w19 ⟨k, hk, rfl, hk1, hk2, hf20⟩
  refine ⟨_, rfl, ?_⟩
  have h21 := (h18.grow hf20).put (d := some 12) (v := .int .i64 ((k : Nat) : Int)) (T' := [(12, .int .i64 ((k : Nat) : Int)), (3, .pointer (some ⟨b8, 0, none⟩)), (2, .pointer (some ⟨b2, 0, none⟩)), (0, .pointer (some ⟨bl, 0, none⟩)), (1, .int .i64 n), (4, .pointer none), (10, .int .i64 ((lg.sns.length : Nat) : Int)), (11, .func (.func 65) #[] #[.pointer (some ⟨b2, 0, none⟩), .pointer (some ⟨b8, 0, none⟩)])]) rfl
  clear h18 hLq
  refine nd_batch tabOk tabZ_ok [(7, {})] [3, 2, 0, 1, 4, 5] (T' := [(3, .pointer (some ⟨b8, 0, none⟩)), (2, .pointer (some ⟨b2, 0, none⟩)), (0, .pointer (some ⟨bl, 0, none⟩)), (1, .int .i64 n), (4, .pointer none), (5, .int .i64 ((k : Nat) : Int))]) (φ := True) (rest := []) h21 (by kernel_rfl) rfl trivial fun a22 h23 => ?_
  clear h21
  refine nd_done ?_
  refine hK16 _ _ ?_
  clear hK16
  refine wp_seq_k fun K24 hK24 => ?_
  refine wp_seq_k fun K25 hK25 => ?_
  refine nd_start (l := [0, 1]) rfl ?_
  refine nd_batch tabOk tabZ_ok [(0, {}), (1, {})] [3, 2, 0, 1, 4, 5, 14] (T' := [(3, .pointer (some ⟨b8, 0, none⟩)), (2, .pointer (some ⟨b2, 0, none⟩)), (0, .pointer (some ⟨bl, 0, none⟩)), (1, .int .i64 n), (4, .pointer none), (5, .int .i64 ((k : Nat) : Int)), (14, .bool (((k : Nat) : Int) == 0))]) (φ := True) (rest := []) h23 (by kernel_rfl) rfl trivial fun a26 h27 => ?_
  clear h23
  refine nd_done ?_
  refine hK25 _ _ ?_
  clear hK25
  refine c_split h27 (b := (((k : Nat) : Int) == 0)) rfl (fun hc28 => ?_) (fun hc28 => ?_)
  ·
    have hc28f : ((k : Nat) : Int) = 0 := by simpa using hc28
    have hk0 : k = 0 := by omega
    rw [hk0] at hk2
    refine wp_seq_k fun K29 hK29 => ?_
    refine nd_start (l := [0, 1, 2, 3]) rfl ?_
    refine nd_batch tabOk tabZ_ok [(0, {k := 1}), (1, {}), (2, {}), (3, {})] [3, 2, 0, 1, 5, 4] (T' := [(3, .pointer (some ⟨b8, 0, none⟩)), (2, .pointer (some ⟨b2, 0, none⟩)), (0, .pointer (some ⟨bl, 0, none⟩)), (1, .int .i64 n), (5, .int .i64 ((k : Nat) : Int)), (4, .pointer (some ⟨bl, 0, none⟩))]) (φ := (b2 = b2 ∧ Nat.ble (0 + 1) 1 = true) ∧ True) (rest := []) h27 (by kernel_rfl) rfl ⟨⟨rfl, rfl⟩, trivial⟩ fun a30 h31 => ?_
    clear h27
    refine nd_done ?_
    refine hK29 _ _ ?_
    clear hK29
    refine wp_ret ?_
    try simp only [Exit.then, Exit.inBlock]
    try rw [if_pos trivial]
    exact s_ret tabOk tabZ_ok h31 [(.tmp 4, {})] (vs := [.pointer (some ⟨bl, 0, none⟩)]) (φ := True) rfl (by kernel_rfl) trivial ⟨bl, 0, _, 89, rfl, h31.kn (k := 0) rfl, by rw [near_zero hk2]; exact logB_base ⟨eo, ec, eF, mo, mc, mF, so, sc, sF⟩ lg, by simp, h31.frame⟩
  ·
    have hc28f : ((k : Nat) : Int) ≠ 0 := by simpa using hc28
    obtain ⟨k, rfl⟩ : ∃ j, k = j + 1 := ⟨k - 1, by omega⟩
    have h32 := h27.slotsMono (T' := [(3, .pointer (some ⟨b8, 0, none⟩)), (2, .pointer (some ⟨b2, 0, none⟩)), (0, .pointer (some ⟨bl, 0, none⟩)), (1, .int .i64 n), (4, .pointer none), (5, .int .i64 ((k + 1 : Nat) : Int))]) (restr_spec (keep := [3, 2, 0, 1, 4, 5]) rfl)
    clear h27
    obtain ⟨x, hx⟩ := Sx.get_some (xs := lg.sns) (i := k) (by omega)
    obtain ⟨b33, cs34, ho35, hb36, hc37, hF38, hq40, hl41⟩ := rl_open (h32.inv.get (j := 2) rfl) ptC_len hx
    subst ho35 hF38
    have h39 := h32.open_ hb36 (h32.notinL (by simp [Ff]) (kcons (fun _ => (fun hq => hsep (by have hq2 : bl = b33 := hq; rw [hq2]; simp [Hd.F]))) (kcons (by intro hq; cases hq) (kcons (by intro hq; cases hq) knil))))
    clear h32
    refine wp_skip ?_
    refine hK24 _ _ ?_
    clear hK24
    refine wp_seq_k fun K42 hK42 => ?_
    refine nd_start (l := [0, 1, 2, 3, 4, 5, 6, 7]) rfl ?_
    refine nd_batch tabOk tabZ_ok [(0, {k := 1}), (1, {}), (2, {}), (3, {k := 0}), (4, {}), (5, {}), (6, {}), (7, {})] [3, 2, 0, 1, 5, 4] (T' := [(3, .pointer (some ⟨b8, 0, none⟩)), (2, .pointer (some ⟨b2, 0, none⟩)), (0, .pointer (some ⟨bl, 0, none⟩)), (1, .int .i64 n), (5, .int .i64 ((k + 1 : Nat) : Int)), (4, .pointer (some ⟨b33, 0 + (((((k + 1 : Nat) : Int) - 1).toNat) * 15), none⟩))]) (φ := (b2 = b2 ∧ Nat.ble (0 + 1) 1 = true) ∧ (bl = bl ∧ Nat.ble (17 + 1) 18 = true) ∧ inR .i64 (((k + 1 : Nat) : Int) - 1) ∧ (0 ≤ (((k + 1 : Nat) : Int) - 1) ∧ (((k + 1 : Nat) : Int) - 1) < ((lg.sns.length : Nat) : Int)) ∧ True) (rest := []) h39 (by kernel_rfl) rfl ⟨⟨rfl, rfl⟩, ⟨rfl, rfl⟩, ⟨by omega, by omega⟩, ⟨by omega, by omega⟩, trivial⟩ fun a43 h44 => ?_
    clear h39
    refine nd_done ?_
    refine hK42 _ _ ?_
    clear hK42
    refine wp_ret ?_
    have hcc : cellsAre cs34 (0 + (((((k + 1 : Nat) : Int) - 1).toNat) * 15)) (ptC (lg.near n)) := by rw [near_succ hk1 hk2 hx, show (0 + (((((k + 1 : Nat) : Int) - 1).toNat) * 15)) = k * 15 by omega]; exact hc37
    try simp only [Exit.then, Exit.inBlock]
    try rw [if_pos trivial]
    exact s_ret tabOk tabZ_ok h44 [(.tmp 4, {})] (vs := [.pointer (some ⟨b33, 0 + (((((k + 1 : Nat) : Int) - 1).toNat) * 15), none⟩)]) (φ := True) rfl (by kernel_rfl) trivial ⟨b33, (0 + (((((k + 1 : Nat) : Int) - 1).toNat) * 15)), cs34, 84, rfl, h44.kn (k := 3) rfl, hcc, by simp [Hd.F], h44.frame⟩

theorem snapAt_ok (bl : Nat) (d : Hd) (lg : Lg) (w : World) (hl : LogAt w bl d lg) (n : Int) (hsort : lg.sns.Pairwise (fun a b => a.idx < b.idx)) (hsl : lg.sns.length ≤ 1000) :
    Calls Tryf.prog 46 #[.pointer (some ⟨bl, 0, none⟩), .int .i64 n] w fun e w' => (lg.snap n = none ∧ e = .returned (.pointer none) ∧ Fr [] w w') ∨
      ∃ x, lg.snap n = some x ∧ ∃ b off cs ty, e = .returned (.pointer (some ⟨b, off, none⟩)) ∧ w'.heap[b]? = some (Blk.obj ⟨cs, ty, true⟩) ∧ cellsAre cs off (ptC x) ∧ d.so = some ⟨b, 0, none⟩ ∧ Fr [] w w' := by
  obtain ⟨eo, ec, eF, mo, mc, mF, so, sc, sF⟩ := d
  obtain ⟨hbl, hA, hsep⟩ := hl
  refine enter (n := 38) (K := []) (A := Rws [rl evC 31 3 lg.evs eo ec eF, rl mkC 93 2 lg.mks mo mc mF, rl ptC 84 15 lg.sns so sc sF]) (F := Ff [rl evC 31 3 lg.evs eo ec eF, rl mkC 93 2 lg.mks mo mc mF, rl ptC 84 15 lg.sns so sc sF]) (T := [(0, .pointer (some ⟨bl, 0, none⟩)), (1, .int .i64 n)]) (L := [(bl, ⟨logC lg.base (.slice eo lg.evs.length ec) (.slice mo lg.mks.length mc) (.slice so lg.sns.length sc), 89, true⟩)]) (args := [.pointer (some ⟨bl, 0, none⟩), .int .i64 n]) Tryf.func46 rfl rfl rfl rfl (kcons hbl knil) (by simp) (kcons (by intro hq; cases hq) knil) hA Rws.stable (hA).low (kcons (by intro hq; cases hq) knil) ?_
  intro a h
  refine wp_seq_k fun K1 hK1 => ?_
  refine nd_start (l := [0, 1, 2]) rfl ?_
  refine nd_op ?_
  refine op_new tabOk (cells := [.pointer (some ⟨bl, 0, none⟩)]) (ty := 52) (ln := none) (L1 := fun b2 => [(bl, ⟨logC lg.base (.slice eo lg.evs.length ec) (.slice mo lg.mks.length mc) (.slice so lg.sns.length sc), 89, true⟩), (b2, ⟨[.pointer (some ⟨bl, 0, none⟩)], 52, false⟩)]) h rfl rfl rfl rfl (by kernel_rfl) (fun _ => rfl) fun b2 w3 a4 h5 hf6 hn7 => ?_
  clear h
  refine nd_op ?_
  refine op_new tabOk (cells := [.int .i64 n]) (ty := 3) (ln := none) (L1 := fun b8 => [(bl, ⟨logC lg.base (.slice eo lg.evs.length ec) (.slice mo lg.mks.length mc) (.slice so lg.sns.length sc), 89, true⟩), (b2, ⟨[.pointer (some ⟨bl, 0, none⟩)], 52, false⟩), (b8, ⟨[.int .i64 n], 3, false⟩)]) h5 rfl rfl rfl rfl (by kernel_rfl) (fun _ => rfl) fun b8 w9 a10 h11 hf12 hn13 => ?_
  clear h5
  refine nd_batch tabOk tabZ_ok [(2, {})] [3, 2, 0, 1, 4] (T' := [(3, .pointer (some ⟨b8, 0, none⟩)), (2, .pointer (some ⟨b2, 0, none⟩)), (0, .pointer (some ⟨bl, 0, none⟩)), (1, .int .i64 n), (4, .pointer none)]) (φ := True) (rest := []) h11 (by kernel_rfl) rfl trivial fun a14 h15 => ?_
  clear h11
  refine nd_done ?_
  refine hK1 _ _ ?_
  clear hK1
  refine wp_seq_k fun K16 hK16 => ?_
  refine nd_start (l := [0, 1, 2, 3, 4, 5, 6, 7]) rfl ?_
  refine nd_batch tabOk tabZ_ok [(0, {k := 1}), (1, {}), (2, {}), (3, {k := 0}), (4, {}), (5, {})] [3, 2, 0, 1, 4, 10, 11] (T' := [(3, .pointer (some ⟨b8, 0, none⟩)), (2, .pointer (some ⟨b2, 0, none⟩)), (0, .pointer (some ⟨bl, 0, none⟩)), (1, .int .i64 n), (4, .pointer none), (10, .int .i64 ((lg.sns.length : Nat) : Int)), (11, .func (.func 67) #[] #[.pointer (some ⟨b2, 0, none⟩), .pointer (some ⟨b8, 0, none⟩)])]) (φ := (b2 = b2 ∧ Nat.ble (0 + 1) 1 = true) ∧ (bl = bl ∧ Nat.ble (17 + 1) 18 = true) ∧ True) (rest := [6, 7]) h15 (by kernel_rfl) rfl ⟨⟨rfl, rfl⟩, ⟨rfl, rfl⟩, trivial⟩ fun a17 h18 => ?_
  clear h15
  refine nd_op ?_
  have hLq := LogAt.of (d := ⟨eo, ec, eF, mo, mc, mF, so, sc, sF⟩) (lg := lg) (h18.kn (k := 0) rfl) h18.inv hsep
  refine op_call h18 rfl rfl rfl (callOk Tryf.func64 (by decide) rfl) (args := [.int .i64 ((lg.sns.length : Nat) : Int), .func (.func 67) #[] #[.pointer (some ⟨b2, 0, none⟩), .pointer (some ⟨b8, 0, none⟩)]]) rfl (search_ok lg.sns.length (by omega) (geAt lg.sns n) 67 [.pointer (some ⟨b2, 0, none⟩), .pointer (some ⟨b8, 0, none⟩)] (callOk Tryf.func67 (by decide) rfl) (geAt_mono hsort) _ (fun i w1 hi hfr => cl68_ok bl ⟨eo, ec, eF, mo, mc, mF, so, sc, sF⟩ lg n b2 b8 w1 (hLq.fr hfr (by simp)) (h18.stays hfr (k := 1) rfl (by simp)) (h18.stays hfr (k := 2) rfl (by simp)) (h18.ne 1 2 rfl rfl rfl) (h18.ne 1 0 rfl rfl rfl) (h18.ne 2 0 rfl rfl rfl) (fun hq => by have h1 := hLq.low b2 (List.mem_cons_of_mem _ hq); exact h18.disj _ (List.mem_cons_of_mem _ (List.mem_cons_self ..)) rfl hq) (fun hq => h18.disj _ (List.mem_cons_of_mem _ (List.mem_cons_of_mem _ (List.mem_cons_self ..))) rfl hq) i hi)) ?_
  rintro _ w19 ⟨k, hk, rfl, hk1, hk2, hf20⟩
  refine ⟨_, rfl, ?_⟩
  have h21 := (h18.grow hf20).put (d := some 12) (v := .int .i64 ((k : Nat) : Int)) (T' := [(12, .int .i64 ((k : Nat) : Int)), (3, .pointer (some ⟨b8, 0, none⟩)), (2, .pointer (some ⟨b2, 0, none⟩)), (0, .pointer (some ⟨bl, 0, none⟩)), (1, .int .i64 n), (4, .pointer none), (10, .int .i64 ((lg.sns.length : Nat) : Int)), (11, .func (.func 67) #[] #[.pointer (some ⟨b2, 0, none⟩), .pointer (some ⟨b8, 0, none⟩)])]) rfl
  clear h18 hLq
  refine nd_batch tabOk tabZ_ok [(7, {})] [3, 2, 0, 1, 4, 5] (T' := [(3, .pointer (some ⟨b8, 0, none⟩)), (2, .pointer (some ⟨b2, 0, none⟩)), (0, .pointer (some ⟨bl, 0, none⟩)), (1, .int .i64 n), (4, .pointer none), (5, .int .i64 ((k : Nat) : Int))]) (φ := True) (rest := []) h21 (by kernel_rfl) rfl trivial fun a22 h23 => ?_
  clear h21
  refine nd_done ?_
  refine hK16 _ _ ?_
  clear hK16
  refine wp_seq_k fun K24 hK24 => ?_
  refine wp_seq_k fun K25 hK25 => ?_
  rcases Bool.eq_false_or_eq_true (decide (((k : Nat) : Int) < ((lg.sns.length : Nat) : Int))) with hb26 | hb26
  ·
    have hb26f : ((k : Nat) : Int) < ((lg.sns.length : Nat) : Int) := by simpa using hb26
    obtain ⟨x, hx⟩ := Sx.get_some (xs := lg.sns) (i := k) (by omega)
    obtain ⟨b27, cs28, ho29, hb30, hc31, hF32, hq34, hl35⟩ := rl_open (h23.inv.get (j := 2) rfl) ptC_len hx
    subst ho29 hF32
    have h33 := h23.open_ hb30 (h23.notinL (by simp [Ff]) (kcons (fun _ => (fun hq => hsep (by have hq2 : bl = b27 := hq; rw [hq2]; simp [Hd.F]))) (kcons (by intro hq; cases hq) (kcons (by intro hq; cases hq) knil))))
    clear h23
    refine dr_start (KB := [bl, b2, b8, b27]) (Bi := [[0, 1, 2, 3], [0, 1, 2, 3], [0, 1, 2, 3], [0, 1, 2, 3], [0, 1, 2, 3], [0, 1, 2, 3], [0, 1, 2, 3], [0, 1, 2, 3], [0, 1, 2, 3], [0, 1, 2, 3], [0, 1, 2, 3], [0, 1, 2, 3], [0, 1, 2, 3], [0, 1, 2, 3], [0, 1, 2, 3], [0, 1, 2, 3], [0, 1, 2, 3], [0, 1, 2, 3], [0, 1, 2, 3]]) mixed h33 fun w36 h37 => ?_
    clear h33
    refine dr_batch tabOk tabZ_ok (by repeat (first | exact PF.body | with_reducible apply PF.inB | with_reducible apply PF.next)) [(0, {}), (1, {k := 1, p := 1}), (2, {}), (3, {}), (4, {k := 0, p := 0}), (5, {}), (6, {f := 2}), (7, {}), (8, {k := 1, p := 1}), (9, {}), (10, {}), (11, {k := 0, p := 0}), (12, {}), (13, {}), (14, {}), (15, {k := 3, m := 1, vs := [.int .i64 x.idx], p := 3}), (16, {k := 2, p := 2}), (17, {}), (18, {})] [3, 2, 0, 1, 4, 5, 31] (T' := [(3, .pointer (some ⟨b8, 0, none⟩)), (2, .pointer (some ⟨b2, 0, none⟩)), (0, .pointer (some ⟨bl, 0, none⟩)), (1, .int .i64 n), (4, .pointer none), (5, .int .i64 ((k : Nat) : Int)), (31, .bool (x.idx == n))]) (φ := (b2 = b2 ∧ Nat.ble (0 + 1) 1 = true) ∧ (bl = bl ∧ Nat.ble (17 + 1) 18 = true) ∧ (decide (((k : Nat) : Int) < ((lg.sns.length : Nat) : Int))) = true ∧ (b2 = b2 ∧ Nat.ble (0 + 1) 1 = true) ∧ (bl = bl ∧ Nat.ble (17 + 1) 18 = true) ∧ (0 ≤ ((k : Nat) : Int) ∧ ((k : Nat) : Int) < ((lg.sns.length : Nat) : Int)) ∧ (b27 = b27 ∧ cellsAre cs28 (0 + (k * 15)) [.int .i64 x.idx]) ∧ (b8 = b8 ∧ Nat.ble (0 + 1) 1 = true) ∧ True) (fuel := 0) h37 (by kernel_rfl) rfl (by kernel_rfl) (by kernel_rfl) ⟨trivial, rfl, trivial, trivial, rfl, trivial, trivial, trivial, rfl, trivial, trivial, rfl, trivial, trivial, trivial, rfl, rfl, trivial, trivial, trivial⟩ ⟨⟨rfl, rfl⟩, ⟨rfl, rfl⟩, hb26, ⟨rfl, rfl⟩, ⟨rfl, rfl⟩, ⟨by omega, by omega⟩, ⟨rfl, (by rw [Nat.zero_add]; exact pt_idx hc31)⟩, ⟨rfl, rfl⟩, trivial⟩ fun a39 h40 => ?_
    clear h37
    refine wpAnyK_done (by kernel_rfl) ?_ _
    refine hK25 _ _ ?_
    clear hK25
    refine c_split h40 (b := (x.idx == n)) rfl (fun hc41 => ?_) (fun hc41 => ?_)
    ·
      have hc41f : x.idx = n := by simpa using hc41
      refine wp_seq_k fun K42 hK42 => ?_
      refine nd_start (l := [0, 1, 2, 3, 4, 5, 6]) rfl ?_
      refine nd_batch tabOk tabZ_ok [(0, {k := 1}), (1, {}), (2, {}), (3, {k := 0}), (4, {}), (5, {}), (6, {})] [3, 2, 0, 1, 5, 4] (T' := [(3, .pointer (some ⟨b8, 0, none⟩)), (2, .pointer (some ⟨b2, 0, none⟩)), (0, .pointer (some ⟨bl, 0, none⟩)), (1, .int .i64 n), (5, .int .i64 ((k : Nat) : Int)), (4, .pointer (some ⟨b27, 0 + (k * 15), none⟩))]) (φ := (b2 = b2 ∧ Nat.ble (0 + 1) 1 = true) ∧ (bl = bl ∧ Nat.ble (17 + 1) 18 = true) ∧ (0 ≤ ((k : Nat) : Int) ∧ ((k : Nat) : Int) < ((lg.sns.length : Nat) : Int)) ∧ True) (rest := []) h40 (by kernel_rfl) rfl ⟨⟨rfl, rfl⟩, ⟨rfl, rfl⟩, ⟨by omega, by omega⟩, trivial⟩ fun a43 h44 => ?_
      clear h40
      refine nd_done ?_
      refine hK42 _ _ ?_
      clear hK42
      refine wp_ret ?_
      have hxn : x.idx = n := hc41f
      have hcc : cellsAre cs28 (0 + (k * 15)) (ptC x) := by rw [Nat.zero_add]; exact hc31
      try simp only [Exit.then, Exit.inBlock]
      try rw [if_pos trivial]
      exact s_ret tabOk tabZ_ok h44 [(.tmp 4, {})] (vs := [.pointer (some ⟨b27, 0 + (k * 15), none⟩)]) (φ := True) rfl (by kernel_rfl) trivial (.inr ⟨x, snap_some hk1 hx hxn, b27, (0 + (k * 15)), cs28, 84, rfl, h44.kn (k := 3) rfl, hcc, rfl, h44.frame⟩)
    ·
      have hc41f : x.idx ≠ n := by simpa using hc41
      refine wp_skip ?_
      refine hK24 _ _ ?_
      clear hK24
      refine wp_seq_k fun K45 hK45 => ?_
      refine nd_start (l := [0]) rfl ?_
      refine nd_batch tabOk tabZ_ok [(0, {})] [3, 2, 0, 1, 5, 4] (T' := [(3, .pointer (some ⟨b8, 0, none⟩)), (2, .pointer (some ⟨b2, 0, none⟩)), (0, .pointer (some ⟨bl, 0, none⟩)), (1, .int .i64 n), (5, .int .i64 ((k : Nat) : Int)), (4, .pointer none)]) (φ := True) (rest := []) h40 (by kernel_rfl) rfl trivial fun a46 h47 => ?_
      clear h40
      refine nd_done ?_
      refine hK45 _ _ ?_
      clear hK45
      refine wp_ret ?_
      have hxn : x.idx ≠ n := hc41f
      try simp only [Exit.then, Exit.inBlock]
      try rw [if_pos trivial]
      exact s_ret tabOk tabZ_ok h47 [(.tmp 4, {})] (vs := [.pointer none]) (φ := True) rfl (by kernel_rfl) trivial (.inl ⟨snap_none hsort hk1 hk2 (fun y hy => by rw [hx] at hy; cases hy; exact hxn), rfl, h47.frame⟩)
  ·
    have hb26f : ¬ (((k : Nat) : Int) < ((lg.sns.length : Nat) : Int)) := by simpa using hb26
    refine dr_start (KB := [bl, b2, b8]) (Bi := [[0, 1, 2], [0, 1, 2], [0, 1, 2], [0, 1, 2], [0, 1, 2], [0, 1, 2], [0, 1, 2], [0, 1, 2], [0, 1, 2], [0, 1, 2], [0, 1, 2], [0, 1, 2], [0, 1, 2], [0, 1, 2], [0, 1, 2], [0, 1, 2], [0, 1, 2], [0, 1, 2], [0, 1, 2]]) mixed h23 fun w48 h49 => ?_
    clear h23
    refine dr_batch tabOk tabZ_ok (by repeat (first | exact PF.body | with_reducible apply PF.inB | with_reducible apply PF.next)) [(0, {}), (1, {k := 1, p := 1}), (2, {}), (3, {}), (4, {k := 0, p := 0}), (5, {}), (6, {f := 1}), (7, {}), (8, {k := 0, p := 0}), (9, {}), (10, {}), (11, {k := 0, p := 0}), (12, {}), (13, {}), (14, {}), (15, {k := 0, p := 0}), (16, {k := 0, p := 0}), (17, {}), (18, {})] [3, 2, 0, 1, 4, 5, 31] (T' := [(3, .pointer (some ⟨b8, 0, none⟩)), (2, .pointer (some ⟨b2, 0, none⟩)), (0, .pointer (some ⟨bl, 0, none⟩)), (1, .int .i64 n), (4, .pointer none), (5, .int .i64 ((k : Nat) : Int)), (31, .bool false)]) (φ := (b2 = b2 ∧ Nat.ble (0 + 1) 1 = true) ∧ (bl = bl ∧ Nat.ble (17 + 1) 18 = true) ∧ (decide (((k : Nat) : Int) < ((lg.sns.length : Nat) : Int))) = false ∧ True) (fuel := 0) h49 (by kernel_rfl) rfl (by kernel_rfl) (by kernel_rfl) ⟨trivial, rfl, trivial, trivial, rfl, trivial, trivial, trivial, rfl, trivial, trivial, rfl, trivial, trivial, trivial, rfl, rfl, trivial, trivial, trivial⟩ ⟨⟨rfl, rfl⟩, ⟨rfl, rfl⟩, hb26, trivial⟩ fun a51 h52 => ?_
    clear h49
    refine wpAnyK_done (by kernel_rfl) ?_ _
    refine hK25 _ _ ?_
    clear hK25
    refine c_false h52 rfl ?_
    refine wp_skip ?_
    refine hK24 _ _ ?_
    clear hK24
    refine wp_seq_k fun K53 hK53 => ?_
    refine nd_start (l := [0]) rfl ?_
    refine nd_batch tabOk tabZ_ok [(0, {})] [3, 2, 0, 1, 5, 4] (T' := [(3, .pointer (some ⟨b8, 0, none⟩)), (2, .pointer (some ⟨b2, 0, none⟩)), (0, .pointer (some ⟨bl, 0, none⟩)), (1, .int .i64 n), (5, .int .i64 ((k : Nat) : Int)), (4, .pointer none)]) (φ := True) (rest := []) h52 (by kernel_rfl) rfl trivial fun a54 h55 => ?_
    clear h52
    refine nd_done ?_
    refine hK53 _ _ ?_
    clear hK53
    refine wp_ret ?_
    try simp only [Exit.then, Exit.inBlock]
    try rw [if_pos trivial]
    exact s_ret tabOk tabZ_ok h55 [(.tmp 4, {})] (vs := [.pointer none]) (φ := True) rfl (by kernel_rfl) trivial (.inl ⟨snap_none hsort hk1 hk2 (fun y hy => by have := (List.getElem?_eq_some_iff.1 hy).1; omega), rfl, h55.frame⟩)

end Go.Proofs.Qxb6500919aFmt
