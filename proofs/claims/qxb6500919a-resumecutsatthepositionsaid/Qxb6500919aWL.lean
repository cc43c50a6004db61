/-
  slices.Contains, slices.Index. (Made by program: a symbolic walk that prints its steps.)
-/
import Derived.Test.Qxb6500919aTab
import Derived.Test.Qxb6500919aLib
import Derived.Test.Qxb6500919aEq2
import Derived.Test.Qxb6500919aPc
import Derived.Test.Qxb6500919aW1
import Derived.Test.Qxb6500919aW2
import Derived.Test.Qxb6500919aW3
import Derived.Test.Qxb6500919aW4
namespace Go.Proofs.Qxb6500919a
open Go.Sx Go.Rp
set_option maxRecDepth 100000
set_option maxHeartbeats 4000000
set_option linter.unusedVariables false
set_option linter.unusedSimpArgs false

theorem rws2 {r1 r2 : RS} {w : World} (h1 : r1.at w) (h2 : r2.at w) (ha : ∀ b ∈ r1.F, b ∉ r2.F) : Rws [r1, r2] w := by
  refine ⟨?_, fun r hr => ?_⟩
  · show ([r1, r2].flatMap (·.F)).Nodup
    simp only [List.flatMap_cons, List.flatMap_nil, List.append_nil]
    rw [List.nodup_append]
    exact ⟨Row.nodup h1, Row.nodup h2, fun x hx y hy he => by subst he; exact ha x hx hy⟩
  · simp only [List.mem_cons, List.not_mem_nil, or_false] at hr
    rcases hr with rfl | rfl
    · exact h1
    · exact h2


theorem indexM_ok (xs : List Mk) (k : Mk) (o1 : Option Addr) (c1 : Nat) (F1 : List Nat) (w : World) (hA : Rws [rl mkC 78 2 xs o1 c1 F1] w) (hn : xs.length ≤ 1000000) :
    Calls Try.prog 55 #[.slice o1 xs.length c1, .agg (mkC k).toArray] w fun e w' => ∃ v : Int, e = .returned (.int .i64 v) ∧ (0 ≤ v ↔ k ∈ xs) ∧ (0 ≤ v → v ≤ 1000000) ∧ Fr [] w w' := by
  refine enter (n := 19) (K := []) (A := Rws [rl mkC 78 2 xs o1 c1 F1]) (F := Ff [rl mkC 78 2 xs o1 c1 F1]) (T := [(0, .slice o1 xs.length c1), (1, .agg #[.int .i64 k.idx, .int .u64 k.sum])]) (L := []) (args := [.slice o1 xs.length c1, .agg #[.int .i64 k.idx, .int .u64 k.sum]]) Try.func55 rfl rfl rfl rfl knil (by simp) knil hA Rws.stable (hA).low knil ?_
  intro a h
  refine wp_seq_k fun K1 hK1 => ?_
  refine nd_start (l := [0, 1]) rfl ?_
  refine nd_op ?_
  refine op_new tabOk (cells := [.int .i64 k.idx, .int .u64 k.sum]) (ty := 78) (ln := none) (L1 := fun b2 => [(b2, ⟨[.int .i64 k.idx, .int .u64 k.sum], 78, false⟩)]) h rfl rfl rfl rfl (by kernel_rfl) (fun _ => rfl) fun b2 w3 a4 h5 hf6 hn7 => ?_
  clear h
  refine nd_batch tabOk tabZ_ok [(1, {})] [3, 0, 1, 4] (T' := [(3, .pointer (some ⟨b2, 0, none⟩)), (0, .slice o1 xs.length c1), (1, .agg #[.int .i64 k.idx, .int .u64 k.sum]), (4, .int .i64 0)]) (φ := True) (rest := []) h5 (by kernel_rfl) rfl trivial fun a8 h9 => ?_
  clear h5
  refine nd_done ?_
  refine hK1 _ _ ?_
  clear hK1
  refine wp_seq_k fun K10 hK10 => ?_
  refine wp_seq_k fun K11 hK11 => ?_
  refine nd_start (l := [0, 1, 2]) rfl ?_
  refine nd_batch tabOk tabZ_ok [(0, {}), (1, {}), (2, {})] [3, 0, 1, 4, 7, 8] (T' := [(3, .pointer (some ⟨b2, 0, none⟩)), (0, .slice o1 xs.length c1), (1, .agg #[.int .i64 k.idx, .int .u64 k.sum]), (4, .int .i64 0), (7, .int .i64 ((xs.length : Nat) : Int)), (8, .int .i64 0)]) (φ := True) (rest := []) h9 (by kernel_rfl) rfl trivial fun a12 h13 => ?_
  clear h9
  refine nd_done ?_
  refine hK11 _ _ ?_
  clear hK11
  refine wp_block ?_
  refine wp_loop_ghost (fun g ga gw => ∃ (i : Nat), (i ≤ xs.length) ∧ (g = xs.length - i) ∧ (∀ y ∈ xs.take i, y ≠ k) ∧ St ⟨19, [], w, Rws [rl mkC 78 2 xs o1 c1 F1], Ff [rl mkC 78 2 xs o1 c1 F1]⟩ [(0, .slice o1 xs.length c1), (3, .pointer (some ⟨b2, 0, none⟩)), (7, .int .i64 ((xs.length : Nat) : Int)), (8, .int .i64 ((i : Nat) : Int))] [(b2, ⟨[.int .i64 k.idx, .int .u64 k.sum], 78, false⟩)] ga gw) xs.length ⟨0, Nat.zero_le _, rfl, (fun y hy => by simp at hy), (h13.slotsMono (restr_spec (keep := [0, 3, 7, 8]) rfl))⟩ ?_
  clear h13
  rintro g a14 w15 ⟨i, hi17, hi18, hi19, h16⟩
  have hi := hi17
  have hg := hi18
  have hno := hi19
  refine wp_seq_k fun K20 hK20 => ?_
  refine nd_start (l := [0]) rfl ?_
  refine nd_batch tabOk tabZ_ok [(0, {})] [0, 3, 7, 8, 9] (T' := [(0, .slice o1 xs.length c1), (3, .pointer (some ⟨b2, 0, none⟩)), (7, .int .i64 ((xs.length : Nat) : Int)), (8, .int .i64 ((i : Nat) : Int)), (9, .bool (decide (((i : Nat) : Int) < ((xs.length : Nat) : Int))))]) (φ := True) (rest := []) h16 (by kernel_rfl) rfl trivial fun a21 h22 => ?_
  clear h16
  refine nd_done ?_
  refine hK20 _ _ ?_
  clear hK20
  refine wp_seq_k fun K23 hK23 => ?_
  refine c_split h22 (b := decide (((i : Nat) : Int) < ((xs.length : Nat) : Int))) rfl (fun hc24 => ?_) (fun hc24 => ?_)
  ·
    have hc24f : ((i : Nat) : Int) < ((xs.length : Nat) : Int) := by simpa using hc24
    obtain ⟨x, hx⟩ := Sx.get_some (xs := xs) (i := i) (by omega)
    obtain ⟨b25, cs26, ho27, hb28, hc29, hF30, hq32, hl33⟩ := rl_open (h22.inv.get (j := 0) rfl) mkC_len hx
    subst ho27 hF30
    have h31 := h22.open_ hb28 (h22.notinL (by simp [Ff]) (kcons (by intro hq; cases hq) knil))
    clear h22
    refine wp_skip ?_
    refine hK23 _ _ ?_
    clear hK23
    refine wp_seq_k fun K34 hK34 => ?_
    refine wp_block ?_
    refine wp_seq_k fun K35 hK35 => ?_
    refine nd_start (l := [0, 1]) rfl ?_
    refine nd_batch tabOk tabZ_ok [(0, {}), (1, {})] [0, 3, 7, 8, 5] (T' := [(0, .slice (some ⟨b25, 0, none⟩) xs.length c1), (3, .pointer (some ⟨b2, 0, none⟩)), (7, .int .i64 ((xs.length : Nat) : Int)), (8, .int .i64 ((i : Nat) : Int)), (5, .int .i64 ((i : Nat) : Int))]) (φ := True) (rest := []) h31 (by kernel_rfl) rfl trivial fun a36 h37 => ?_
    clear h31
    refine nd_done ?_
    refine hK35 _ _ ?_
    clear hK35
    refine wp_seq_k fun K38 hK38 => ?_
    refine dr_start (KB := [b2, b25]) (Bi := [[0, 1], [0, 1], [0, 1], [0, 1], [0, 1], [0, 1]]) mixed h37 fun w39 h40 => ?_
    clear h37
    refine dr_batch tabOk tabZ_ok (by repeat (first | exact PF.body | with_reducible apply PF.inB | with_reducible apply PF.next)) [(0, {k := 0, p := 0}), (1, {}), (2, {}), (3, {}), (4, {k := 1, m := 1, vs := [.int .i64 x.idx, .int .u64 x.sum], p := 1}), (5, {vs := [.bool (mkEq k x)]})] [0, 3, 7, 8, 5, 16] (T' := [(0, .slice (some ⟨b25, 0, none⟩) xs.length c1), (3, .pointer (some ⟨b2, 0, none⟩)), (7, .int .i64 ((xs.length : Nat) : Int)), (8, .int .i64 ((i : Nat) : Int)), (5, .int .i64 ((i : Nat) : Int)), (16, .bool (Bool.xor false (mkEq k x)))]) (φ := (b2 = b2 ∧ Nat.ble (0 + 2) 2 = true) ∧ (0 ≤ ((i : Nat) : Int) ∧ ((i : Nat) : Int) < ((xs.length : Nat) : Int)) ∧ (b25 = b25 ∧ cellsAre cs26 (0 + (i * 2)) [.int .i64 x.idx, .int .u64 x.sum]) ∧ EqRun Try.prog 78 (.agg #[.int .i64 k.idx, .int .u64 k.sum]) (.agg #[.int .i64 x.idx, .int .u64 x.sum]) (mkEq k x) ∧ True) (fuel := 0) h40 (by kernel_rfl) rfl (by kernel_rfl) (by kernel_rfl) ⟨rfl, trivial, trivial, trivial, rfl, trivial, trivial⟩ ⟨⟨rfl, rfl⟩, ⟨by omega, by omega⟩, ⟨rfl, (by rw [Nat.zero_add]; exact hc29)⟩, (run78 k x), trivial⟩ fun a42 h43 => ?_
    clear h40
    refine wpAnyK_done (by kernel_rfl) ?_ _
    refine hK38 _ _ ?_
    clear hK38
    refine c_split h43 (b := (Bool.xor false (mkEq k x))) rfl (fun hc44 => ?_) (fun hc44 => ?_)
    ·
      have hkx : k = x := mkEq_iff.1 (by simpa using hc44)
      refine wp_seq_k fun K45 hK45 => ?_
      refine nd_start (l := [0, 1]) rfl ?_
      refine nd_batch tabOk tabZ_ok [(0, {}), (1, {})] [0, 3, 7, 8, 5, 4] (T' := [(0, .slice (some ⟨b25, 0, none⟩) xs.length c1), (3, .pointer (some ⟨b2, 0, none⟩)), (7, .int .i64 ((xs.length : Nat) : Int)), (8, .int .i64 ((i : Nat) : Int)), (5, .int .i64 ((i : Nat) : Int)), (4, .int .i64 ((i : Nat) : Int))]) (φ := True) (rest := []) h43 (by kernel_rfl) rfl trivial fun a46 h47 => ?_
      clear h43
      refine nd_done ?_
      refine hK45 _ _ ?_
      clear hK45
      refine wp_ret ?_
      try simp only [Exit.then, Exit.inBlock]
      try rw [if_pos trivial]
      exact s_ret tabOk tabZ_ok h47 [(.tmp 4, {})] (vs := [.int .i64 ((i : Nat) : Int)]) (φ := True) rfl (by kernel_rfl) trivial ⟨_, rfl, ⟨fun _ => by rw [hkx]; exact List.mem_of_getElem? hx, fun _ => by omega⟩, by intro _; omega, h47.frame⟩
    ·
      have hkx : x ≠ k := fun hq => by rw [hq, mkEq_iff.2 rfl] at hc44; simp at hc44
      refine wp_skip ?_
      refine hK34 _ _ ?_
      clear hK34
      refine nd_start (l := [0, 1]) rfl ?_
      refine nd_batch tabOk tabZ_ok [(0, {}), (1, {})] [0, 3, 7, 5, 8] (T' := [(0, .slice (some ⟨b25, 0, none⟩) xs.length c1), (3, .pointer (some ⟨b2, 0, none⟩)), (7, .int .i64 ((xs.length : Nat) : Int)), (5, .int .i64 ((i : Nat) : Int)), (8, .int .i64 (((i : Nat) : Int) + 1))]) (φ := inR .i64 (((i : Nat) : Int) + 1) ∧ True) (rest := []) h43 (by kernel_rfl) rfl ⟨⟨by omega, by omega⟩, trivial⟩ fun a48 h49 => ?_
      clear h43
      refine nd_done ?_
      have h50 := h49.memMono (L' := [(b2, ⟨[.int .i64 k.idx, .int .u64 k.sum], 78, false⟩)]) (List.Sublist.cons_cons _ (List.Sublist.cons _ List.Sublist.slnil))
      clear h49
      exact ⟨(g - 1), by omega, (i + 1), by omega, by omega, (by intro y hy; rw [Sx.take_snoc hx] at hy; rcases List.mem_append.1 hy with h1 | h1; exact hno y h1; simp at h1; subst h1; exact hkx), (h50.slotsMono (restr_spec (keep := [0, 3, 7, 8]) rfl))⟩
  ·
    have hc24f : ¬ ((i : Nat) : Int) < ((xs.length : Nat) : Int) := by simpa using hc24
    have hii : i = xs.length := by omega
    refine wp_exit ?_
    refine hK10 _ _ ?_
    clear hK10
    refine wp_seq_k fun K51 hK51 => ?_
    refine nd_start (l := [0]) rfl ?_
    refine nd_batch tabOk tabZ_ok [(0, {})] [0, 3, 7, 8, 4] (T' := [(0, .slice o1 xs.length c1), (3, .pointer (some ⟨b2, 0, none⟩)), (7, .int .i64 ((xs.length : Nat) : Int)), (8, .int .i64 ((i : Nat) : Int)), (4, .int .i64 (-1))]) (φ := True) (rest := []) h22 (by kernel_rfl) rfl trivial fun a52 h53 => ?_
    clear h22
    refine nd_done ?_
    refine hK51 _ _ ?_
    clear hK51
    refine wp_ret ?_
    try simp only [Exit.then, Exit.inBlock]
    try rw [if_pos trivial]
    exact s_ret tabOk tabZ_ok h53 [(.tmp 4, {})] (vs := [.int .i64 (-1)]) (φ := True) rfl (by kernel_rfl) trivial ⟨_, rfl, ⟨fun hq => absurd hq (by decide), fun hq => absurd rfl (hno k (by rw [hii, List.take_length]; exact hq))⟩, by intro hq; exact absurd hq (by decide), h53.frame⟩

theorem containsM_ok (xs : List Mk) (k : Mk) (o1 : Option Addr) (c1 : Nat) (F1 : List Nat) (w : World) (hA : Rws [rl mkC 78 2 xs o1 c1 F1] w) (hn : xs.length ≤ 1000000) :
    Calls Try.prog 27 #[.slice o1 xs.length c1, .agg (mkC k).toArray] w fun e w' => ∃ β : Bool, e = .returned (.bool β) ∧ (β = true ↔ k ∈ xs) ∧ Fr [] w w' := by
  refine enter (n := 9) (K := []) (A := Rws [rl mkC 78 2 xs o1 c1 F1]) (F := Ff [rl mkC 78 2 xs o1 c1 F1]) (T := [(0, .slice o1 xs.length c1), (1, .agg #[.int .i64 k.idx, .int .u64 k.sum])]) (L := []) (args := [.slice o1 xs.length c1, .agg #[.int .i64 k.idx, .int .u64 k.sum]]) Try.func27 rfl rfl rfl rfl knil (by simp) knil hA Rws.stable (hA).low knil ?_
  intro a h
  refine wp_seq_k fun K1 hK1 => ?_
  refine nd_start (l := [0, 1]) rfl ?_
  refine nd_op ?_
  refine op_new tabOk (cells := [.int .i64 k.idx, .int .u64 k.sum]) (ty := 78) (ln := none) (L1 := fun b2 => [(b2, ⟨[.int .i64 k.idx, .int .u64 k.sum], 78, false⟩)]) h rfl rfl rfl rfl (by kernel_rfl) (fun _ => rfl) fun b2 w3 a4 h5 hf6 hn7 => ?_
  clear h
  refine nd_batch tabOk tabZ_ok [(1, {})] [3, 0, 1, 4] (T' := [(3, .pointer (some ⟨b2, 0, none⟩)), (0, .slice o1 xs.length c1), (1, .agg #[.int .i64 k.idx, .int .u64 k.sum]), (4, .bool false)]) (φ := True) (rest := []) h5 (by kernel_rfl) rfl trivial fun a8 h9 => ?_
  clear h5
  refine nd_done ?_
  refine hK1 _ _ ?_
  clear hK1
  refine wp_seq_k fun K10 hK10 => ?_
  refine nd_start (l := [0, 1, 2, 3, 4]) rfl ?_
  refine nd_batch tabOk tabZ_ok [(0, {}), (1, {k := 0})] [3, 0, 1, 4, 5, 6] (T' := [(3, .pointer (some ⟨b2, 0, none⟩)), (0, .slice o1 xs.length c1), (1, .agg #[.int .i64 k.idx, .int .u64 k.sum]), (4, .bool false), (5, .slice o1 xs.length c1), (6, .agg #[.int .i64 k.idx, .int .u64 k.sum])]) (φ := (b2 = b2 ∧ Nat.ble (0 + 2) 2 = true) ∧ True) (rest := [2, 3, 4]) h9 (by kernel_rfl) rfl ⟨⟨rfl, rfl⟩, trivial⟩ fun a11 h12 => ?_
  clear h9
  refine nd_op ?_
  refine op_call h12 rfl rfl rfl (callOk Try.func55 (by decide) rfl) (args := [.slice o1 xs.length c1, .agg #[.int .i64 k.idx, .int .u64 k.sum]]) rfl (indexM_ok xs k o1 c1 F1 _ h12.inv hn) ?_
  rintro _ w14 ⟨v, rfl, hv, hv2, hfv⟩
  refine ⟨_, rfl, ?_⟩
  have h13 := (h12.grow hfv).put (d := some 7) (v := .int .i64 v) (T' := [(7, .int .i64 v), (3, .pointer (some ⟨b2, 0, none⟩)), (0, .slice o1 xs.length c1), (1, .agg #[.int .i64 k.idx, .int .u64 k.sum]), (4, .bool false), (5, .slice o1 xs.length c1), (6, .agg #[.int .i64 k.idx, .int .u64 k.sum])]) rfl
  clear h12
  refine nd_batch tabOk tabZ_ok [(3, {}), (4, {})] [3, 0, 1, 4] (T' := [(3, .pointer (some ⟨b2, 0, none⟩)), (0, .slice o1 xs.length c1), (1, .agg #[.int .i64 k.idx, .int .u64 k.sum]), (4, .bool (decide (v ≥ 0)))]) (φ := True) (rest := []) h13 (by kernel_rfl) rfl trivial fun a15 h16 => ?_
  clear h13
  refine nd_done ?_
  refine hK10 _ _ ?_
  clear hK10
  refine wp_ret ?_
  try simp only [Exit.then, Exit.inBlock]
  try rw [if_pos trivial]
  exact s_ret tabOk tabZ_ok h16 [(.tmp 4, {})] (vs := [.bool (decide (v ≥ 0))]) (φ := True) rfl (by kernel_rfl) trivial ⟨_, rfl, by rw [← hv]; simp, h16.frame⟩

theorem indexP_ok (xs : List Pt) (k : Pt) (o1 : Option Addr) (c1 : Nat) (F1 : List Nat) (w : World) (hA : Rws [rl ptC 66 15 xs o1 c1 F1] w) (hn : xs.length ≤ 1000000) :
    Calls Try.prog 56 #[.slice o1 xs.length c1, .agg (ptC k).toArray] w fun e w' => ∃ v : Int, e = .returned (.int .i64 v) ∧ (0 ≤ v ↔ k ∈ xs) ∧ (0 ≤ v → v ≤ 1000000) ∧ Fr [] w w' := by
  refine enter (n := 19) (K := []) (A := Rws [rl ptC 66 15 xs o1 c1 F1]) (F := Ff [rl ptC 66 15 xs o1 c1 F1]) (T := [(0, .slice o1 xs.length c1), (1, .agg #[.int .i64 k.idx, .int .u64 k.st.now, .int .i8 k.st.cur, .int .u8 k.st.s0, .int .u8 k.st.s1, .int .u8 k.st.s2, .int .u8 k.st.s3, .int .u64 k.st.r0, .int .u64 k.st.r1, .int .u64 k.st.r2, .int .u64 k.st.r3, .int .u64 k.st.word, .bool k.out.refused, .int .i8 k.out.running, .int .u64 k.out.value])]) (L := []) (args := [.slice o1 xs.length c1, .agg #[.int .i64 k.idx, .int .u64 k.st.now, .int .i8 k.st.cur, .int .u8 k.st.s0, .int .u8 k.st.s1, .int .u8 k.st.s2, .int .u8 k.st.s3, .int .u64 k.st.r0, .int .u64 k.st.r1, .int .u64 k.st.r2, .int .u64 k.st.r3, .int .u64 k.st.word, .bool k.out.refused, .int .i8 k.out.running, .int .u64 k.out.value]]) Try.func56 rfl rfl rfl rfl knil (by simp) knil hA Rws.stable (hA).low knil ?_
  intro a h
  refine wp_seq_k fun K1 hK1 => ?_
  refine nd_start (l := [0, 1]) rfl ?_
  refine nd_op ?_
  refine op_new tabOk (cells := [.int .i64 k.idx, .int .u64 k.st.now, .int .i8 k.st.cur, .int .u8 k.st.s0, .int .u8 k.st.s1, .int .u8 k.st.s2, .int .u8 k.st.s3, .int .u64 k.st.r0, .int .u64 k.st.r1, .int .u64 k.st.r2, .int .u64 k.st.r3, .int .u64 k.st.word, .bool k.out.refused, .int .i8 k.out.running, .int .u64 k.out.value]) (ty := 66) (ln := none) (L1 := fun b2 => [(b2, ⟨[.int .i64 k.idx, .int .u64 k.st.now, .int .i8 k.st.cur, .int .u8 k.st.s0, .int .u8 k.st.s1, .int .u8 k.st.s2, .int .u8 k.st.s3, .int .u64 k.st.r0, .int .u64 k.st.r1, .int .u64 k.st.r2, .int .u64 k.st.r3, .int .u64 k.st.word, .bool k.out.refused, .int .i8 k.out.running, .int .u64 k.out.value], 66, false⟩)]) h rfl rfl rfl rfl (by kernel_rfl) (fun _ => rfl) fun b2 w3 a4 h5 hf6 hn7 => ?_
  clear h
  refine nd_batch tabOk tabZ_ok [(1, {})] [3, 0, 1, 4] (T' := [(3, .pointer (some ⟨b2, 0, none⟩)), (0, .slice o1 xs.length c1), (1, .agg #[.int .i64 k.idx, .int .u64 k.st.now, .int .i8 k.st.cur, .int .u8 k.st.s0, .int .u8 k.st.s1, .int .u8 k.st.s2, .int .u8 k.st.s3, .int .u64 k.st.r0, .int .u64 k.st.r1, .int .u64 k.st.r2, .int .u64 k.st.r3, .int .u64 k.st.word, .bool k.out.refused, .int .i8 k.out.running, .int .u64 k.out.value]), (4, .int .i64 0)]) (φ := True) (rest := []) h5 (by kernel_rfl) rfl trivial fun a8 h9 => ?_
  clear h5
  refine nd_done ?_
  refine hK1 _ _ ?_
  clear hK1
  refine wp_seq_k fun K10 hK10 => ?_
  refine wp_seq_k fun K11 hK11 => ?_
  refine nd_start (l := [0, 1, 2]) rfl ?_
  refine nd_batch tabOk tabZ_ok [(0, {}), (1, {}), (2, {})] [3, 0, 1, 4, 7, 8] (T' := [(3, .pointer (some ⟨b2, 0, none⟩)), (0, .slice o1 xs.length c1), (1, .agg #[.int .i64 k.idx, .int .u64 k.st.now, .int .i8 k.st.cur, .int .u8 k.st.s0, .int .u8 k.st.s1, .int .u8 k.st.s2, .int .u8 k.st.s3, .int .u64 k.st.r0, .int .u64 k.st.r1, .int .u64 k.st.r2, .int .u64 k.st.r3, .int .u64 k.st.word, .bool k.out.refused, .int .i8 k.out.running, .int .u64 k.out.value]), (4, .int .i64 0), (7, .int .i64 ((xs.length : Nat) : Int)), (8, .int .i64 0)]) (φ := True) (rest := []) h9 (by kernel_rfl) rfl trivial fun a12 h13 => ?_
  clear h9
  refine nd_done ?_
  refine hK11 _ _ ?_
  clear hK11
  refine wp_block ?_
  refine wp_loop_ghost (fun g ga gw => ∃ (i : Nat), (i ≤ xs.length) ∧ (g = xs.length - i) ∧ (∀ y ∈ xs.take i, y ≠ k) ∧ St ⟨19, [], w, Rws [rl ptC 66 15 xs o1 c1 F1], Ff [rl ptC 66 15 xs o1 c1 F1]⟩ [(0, .slice o1 xs.length c1), (3, .pointer (some ⟨b2, 0, none⟩)), (7, .int .i64 ((xs.length : Nat) : Int)), (8, .int .i64 ((i : Nat) : Int))] [(b2, ⟨[.int .i64 k.idx, .int .u64 k.st.now, .int .i8 k.st.cur, .int .u8 k.st.s0, .int .u8 k.st.s1, .int .u8 k.st.s2, .int .u8 k.st.s3, .int .u64 k.st.r0, .int .u64 k.st.r1, .int .u64 k.st.r2, .int .u64 k.st.r3, .int .u64 k.st.word, .bool k.out.refused, .int .i8 k.out.running, .int .u64 k.out.value], 66, false⟩)] ga gw) xs.length ⟨0, Nat.zero_le _, rfl, (fun y hy => by simp at hy), (h13.slotsMono (restr_spec (keep := [0, 3, 7, 8]) rfl))⟩ ?_
  clear h13
  rintro g a14 w15 ⟨i, hi17, hi18, hi19, h16⟩
  have hi := hi17
  have hg := hi18
  have hno := hi19
  refine wp_seq_k fun K20 hK20 => ?_
  refine nd_start (l := [0]) rfl ?_
  refine nd_batch tabOk tabZ_ok [(0, {})] [0, 3, 7, 8, 9] (T' := [(0, .slice o1 xs.length c1), (3, .pointer (some ⟨b2, 0, none⟩)), (7, .int .i64 ((xs.length : Nat) : Int)), (8, .int .i64 ((i : Nat) : Int)), (9, .bool (decide (((i : Nat) : Int) < ((xs.length : Nat) : Int))))]) (φ := True) (rest := []) h16 (by kernel_rfl) rfl trivial fun a21 h22 => ?_
  clear h16
  refine nd_done ?_
  refine hK20 _ _ ?_
  clear hK20
  refine wp_seq_k fun K23 hK23 => ?_
  refine c_split h22 (b := decide (((i : Nat) : Int) < ((xs.length : Nat) : Int))) rfl (fun hc24 => ?_) (fun hc24 => ?_)
  ·
    have hc24f : ((i : Nat) : Int) < ((xs.length : Nat) : Int) := by simpa using hc24
    obtain ⟨x, hx⟩ := Sx.get_some (xs := xs) (i := i) (by omega)
    obtain ⟨b25, cs26, ho27, hb28, hc29, hF30, hq32, hl33⟩ := rl_open (h22.inv.get (j := 0) rfl) ptC_len hx
    subst ho27 hF30
    have h31 := h22.open_ hb28 (h22.notinL (by simp [Ff]) (kcons (by intro hq; cases hq) knil))
    clear h22
    refine wp_skip ?_
    refine hK23 _ _ ?_
    clear hK23
    refine wp_seq_k fun K34 hK34 => ?_
    refine wp_block ?_
    refine wp_seq_k fun K35 hK35 => ?_
    refine nd_start (l := [0, 1]) rfl ?_
    refine nd_batch tabOk tabZ_ok [(0, {}), (1, {})] [0, 3, 7, 8, 5] (T' := [(0, .slice (some ⟨b25, 0, none⟩) xs.length c1), (3, .pointer (some ⟨b2, 0, none⟩)), (7, .int .i64 ((xs.length : Nat) : Int)), (8, .int .i64 ((i : Nat) : Int)), (5, .int .i64 ((i : Nat) : Int))]) (φ := True) (rest := []) h31 (by kernel_rfl) rfl trivial fun a36 h37 => ?_
    clear h31
    refine nd_done ?_
    refine hK35 _ _ ?_
    clear hK35
    refine wp_seq_k fun K38 hK38 => ?_
    refine dr_start (KB := [b2, b25]) (Bi := [[0, 1], [0, 1], [0, 1], [0, 1], [0, 1], [0, 1]]) mixed h37 fun w39 h40 => ?_
    clear h37
    refine dr_batch tabOk tabZ_ok (by repeat (first | exact PF.body | with_reducible apply PF.inB | with_reducible apply PF.next)) [(0, {k := 0, p := 0}), (1, {}), (2, {}), (3, {}), (4, {k := 1, m := 1, vs := [.int .i64 x.idx, .int .u64 x.st.now, .int .i8 x.st.cur, .int .u8 x.st.s0, .int .u8 x.st.s1, .int .u8 x.st.s2, .int .u8 x.st.s3, .int .u64 x.st.r0, .int .u64 x.st.r1, .int .u64 x.st.r2, .int .u64 x.st.r3, .int .u64 x.st.word, .bool x.out.refused, .int .i8 x.out.running, .int .u64 x.out.value], p := 1}), (5, {vs := [.bool (ptEq k x)]})] [0, 3, 7, 8, 5, 16] (T' := [(0, .slice (some ⟨b25, 0, none⟩) xs.length c1), (3, .pointer (some ⟨b2, 0, none⟩)), (7, .int .i64 ((xs.length : Nat) : Int)), (8, .int .i64 ((i : Nat) : Int)), (5, .int .i64 ((i : Nat) : Int)), (16, .bool (Bool.xor false (ptEq k x)))]) (φ := (b2 = b2 ∧ Nat.ble (0 + 15) 15 = true) ∧ (0 ≤ ((i : Nat) : Int) ∧ ((i : Nat) : Int) < ((xs.length : Nat) : Int)) ∧ (b25 = b25 ∧ cellsAre cs26 (0 + (i * 15)) [.int .i64 x.idx, .int .u64 x.st.now, .int .i8 x.st.cur, .int .u8 x.st.s0, .int .u8 x.st.s1, .int .u8 x.st.s2, .int .u8 x.st.s3, .int .u64 x.st.r0, .int .u64 x.st.r1, .int .u64 x.st.r2, .int .u64 x.st.r3, .int .u64 x.st.word, .bool x.out.refused, .int .i8 x.out.running, .int .u64 x.out.value]) ∧ EqRun Try.prog 66 (.agg #[.int .i64 k.idx, .int .u64 k.st.now, .int .i8 k.st.cur, .int .u8 k.st.s0, .int .u8 k.st.s1, .int .u8 k.st.s2, .int .u8 k.st.s3, .int .u64 k.st.r0, .int .u64 k.st.r1, .int .u64 k.st.r2, .int .u64 k.st.r3, .int .u64 k.st.word, .bool k.out.refused, .int .i8 k.out.running, .int .u64 k.out.value]) (.agg #[.int .i64 x.idx, .int .u64 x.st.now, .int .i8 x.st.cur, .int .u8 x.st.s0, .int .u8 x.st.s1, .int .u8 x.st.s2, .int .u8 x.st.s3, .int .u64 x.st.r0, .int .u64 x.st.r1, .int .u64 x.st.r2, .int .u64 x.st.r3, .int .u64 x.st.word, .bool x.out.refused, .int .i8 x.out.running, .int .u64 x.out.value]) (ptEq k x) ∧ True) (fuel := 0) h40 (by kernel_rfl) rfl (by kernel_rfl) (by kernel_rfl) ⟨rfl, trivial, trivial, trivial, rfl, trivial, trivial⟩ ⟨⟨rfl, rfl⟩, ⟨by omega, by omega⟩, ⟨rfl, (by rw [Nat.zero_add]; exact hc29)⟩, (run66 k x), trivial⟩ fun a42 h43 => ?_
    clear h40
    refine wpAnyK_done (by kernel_rfl) ?_ _
    refine hK38 _ _ ?_
    clear hK38
    refine c_split h43 (b := (Bool.xor false (ptEq k x))) rfl (fun hc44 => ?_) (fun hc44 => ?_)
    ·
      have hkx : k = x := ptEq_iff.1 (by simpa using hc44)
      refine wp_seq_k fun K45 hK45 => ?_
      refine nd_start (l := [0, 1]) rfl ?_
      refine nd_batch tabOk tabZ_ok [(0, {}), (1, {})] [0, 3, 7, 8, 5, 4] (T' := [(0, .slice (some ⟨b25, 0, none⟩) xs.length c1), (3, .pointer (some ⟨b2, 0, none⟩)), (7, .int .i64 ((xs.length : Nat) : Int)), (8, .int .i64 ((i : Nat) : Int)), (5, .int .i64 ((i : Nat) : Int)), (4, .int .i64 ((i : Nat) : Int))]) (φ := True) (rest := []) h43 (by kernel_rfl) rfl trivial fun a46 h47 => ?_
      clear h43
      refine nd_done ?_
      refine hK45 _ _ ?_
      clear hK45
      refine wp_ret ?_
      try simp only [Exit.then, Exit.inBlock]
      try rw [if_pos trivial]
      exact s_ret tabOk tabZ_ok h47 [(.tmp 4, {})] (vs := [.int .i64 ((i : Nat) : Int)]) (φ := True) rfl (by kernel_rfl) trivial ⟨_, rfl, ⟨fun _ => by rw [hkx]; exact List.mem_of_getElem? hx, fun _ => by omega⟩, by intro _; omega, h47.frame⟩
    ·
      have hkx : x ≠ k := fun hq => by rw [hq, ptEq_iff.2 rfl] at hc44; simp at hc44
      refine wp_skip ?_
      refine hK34 _ _ ?_
      clear hK34
      refine nd_start (l := [0, 1]) rfl ?_
      refine nd_batch tabOk tabZ_ok [(0, {}), (1, {})] [0, 3, 7, 5, 8] (T' := [(0, .slice (some ⟨b25, 0, none⟩) xs.length c1), (3, .pointer (some ⟨b2, 0, none⟩)), (7, .int .i64 ((xs.length : Nat) : Int)), (5, .int .i64 ((i : Nat) : Int)), (8, .int .i64 (((i : Nat) : Int) + 1))]) (φ := inR .i64 (((i : Nat) : Int) + 1) ∧ True) (rest := []) h43 (by kernel_rfl) rfl ⟨⟨by omega, by omega⟩, trivial⟩ fun a48 h49 => ?_
      clear h43
      refine nd_done ?_
      have h50 := h49.memMono (L' := [(b2, ⟨[.int .i64 k.idx, .int .u64 k.st.now, .int .i8 k.st.cur, .int .u8 k.st.s0, .int .u8 k.st.s1, .int .u8 k.st.s2, .int .u8 k.st.s3, .int .u64 k.st.r0, .int .u64 k.st.r1, .int .u64 k.st.r2, .int .u64 k.st.r3, .int .u64 k.st.word, .bool k.out.refused, .int .i8 k.out.running, .int .u64 k.out.value], 66, false⟩)]) (List.Sublist.cons_cons _ (List.Sublist.cons _ List.Sublist.slnil))
      clear h49
      exact ⟨(g - 1), by omega, (i + 1), by omega, by omega, (by intro y hy; rw [Sx.take_snoc hx] at hy; rcases List.mem_append.1 hy with h1 | h1; exact hno y h1; simp at h1; subst h1; exact hkx), (h50.slotsMono (restr_spec (keep := [0, 3, 7, 8]) rfl))⟩
  ·
    have hc24f : ¬ ((i : Nat) : Int) < ((xs.length : Nat) : Int) := by simpa using hc24
    have hii : i = xs.length := by omega
    refine wp_exit ?_
    refine hK10 _ _ ?_
    clear hK10
    refine wp_seq_k fun K51 hK51 => ?_
    refine nd_start (l := [0]) rfl ?_
    refine nd_batch tabOk tabZ_ok [(0, {})] [0, 3, 7, 8, 4] (T' := [(0, .slice o1 xs.length c1), (3, .pointer (some ⟨b2, 0, none⟩)), (7, .int .i64 ((xs.length : Nat) : Int)), (8, .int .i64 ((i : Nat) : Int)), (4, .int .i64 (-1))]) (φ := True) (rest := []) h22 (by kernel_rfl) rfl trivial fun a52 h53 => ?_
    clear h22
    refine nd_done ?_
    refine hK51 _ _ ?_
    clear hK51
    refine wp_ret ?_
    try simp only [Exit.then, Exit.inBlock]
    try rw [if_pos trivial]
    exact s_ret tabOk tabZ_ok h53 [(.tmp 4, {})] (vs := [.int .i64 (-1)]) (φ := True) rfl (by kernel_rfl) trivial ⟨_, rfl, ⟨fun hq => absurd hq (by decide), fun hq => absurd rfl (hno k (by rw [hii, List.take_length]; exact hq))⟩, by intro hq; exact absurd hq (by decide), h53.frame⟩

theorem containsP_ok (xs : List Pt) (k : Pt) (o1 : Option Addr) (c1 : Nat) (F1 : List Nat) (w : World) (hA : Rws [rl ptC 66 15 xs o1 c1 F1] w) (hn : xs.length ≤ 1000000) :
    Calls Try.prog 28 #[.slice o1 xs.length c1, .agg (ptC k).toArray] w fun e w' => ∃ β : Bool, e = .returned (.bool β) ∧ (β = true ↔ k ∈ xs) ∧ Fr [] w w' := by
  refine enter (n := 9) (K := []) (A := Rws [rl ptC 66 15 xs o1 c1 F1]) (F := Ff [rl ptC 66 15 xs o1 c1 F1]) (T := [(0, .slice o1 xs.length c1), (1, .agg #[.int .i64 k.idx, .int .u64 k.st.now, .int .i8 k.st.cur, .int .u8 k.st.s0, .int .u8 k.st.s1, .int .u8 k.st.s2, .int .u8 k.st.s3, .int .u64 k.st.r0, .int .u64 k.st.r1, .int .u64 k.st.r2, .int .u64 k.st.r3, .int .u64 k.st.word, .bool k.out.refused, .int .i8 k.out.running, .int .u64 k.out.value])]) (L := []) (args := [.slice o1 xs.length c1, .agg #[.int .i64 k.idx, .int .u64 k.st.now, .int .i8 k.st.cur, .int .u8 k.st.s0, .int .u8 k.st.s1, .int .u8 k.st.s2, .int .u8 k.st.s3, .int .u64 k.st.r0, .int .u64 k.st.r1, .int .u64 k.st.r2, .int .u64 k.st.r3, .int .u64 k.st.word, .bool k.out.refused, .int .i8 k.out.running, .int .u64 k.out.value]]) Try.func28 rfl rfl rfl rfl knil (by simp) knil hA Rws.stable (hA).low knil ?_
  intro a h
  refine wp_seq_k fun K1 hK1 => ?_
  refine nd_start (l := [0, 1]) rfl ?_
  refine nd_op ?_
  refine op_new tabOk (cells := [.int .i64 k.idx, .int .u64 k.st.now, .int .i8 k.st.cur, .int .u8 k.st.s0, .int .u8 k.st.s1, .int .u8 k.st.s2, .int .u8 k.st.s3, .int .u64 k.st.r0, .int .u64 k.st.r1, .int .u64 k.st.r2, .int .u64 k.st.r3, .int .u64 k.st.word, .bool k.out.refused, .int .i8 k.out.running, .int .u64 k.out.value]) (ty := 66) (ln := none) (L1 := fun b2 => [(b2, ⟨[.int .i64 k.idx, .int .u64 k.st.now, .int .i8 k.st.cur, .int .u8 k.st.s0, .int .u8 k.st.s1, .int .u8 k.st.s2, .int .u8 k.st.s3, .int .u64 k.st.r0, .int .u64 k.st.r1, .int .u64 k.st.r2, .int .u64 k.st.r3, .int .u64 k.st.word, .bool k.out.refused, .int .i8 k.out.running, .int .u64 k.out.value], 66, false⟩)]) h rfl rfl rfl rfl (by kernel_rfl) (fun _ => rfl) fun b2 w3 a4 h5 hf6 hn7 => ?_
  clear h
  refine nd_batch tabOk tabZ_ok [(1, {})] [3, 0, 1, 4] (T' := [(3, .pointer (some ⟨b2, 0, none⟩)), (0, .slice o1 xs.length c1), (1, .agg #[.int .i64 k.idx, .int .u64 k.st.now, .int .i8 k.st.cur, .int .u8 k.st.s0, .int .u8 k.st.s1, .int .u8 k.st.s2, .int .u8 k.st.s3, .int .u64 k.st.r0, .int .u64 k.st.r1, .int .u64 k.st.r2, .int .u64 k.st.r3, .int .u64 k.st.word, .bool k.out.refused, .int .i8 k.out.running, .int .u64 k.out.value]), (4, .bool false)]) (φ := True) (rest := []) h5 (by kernel_rfl) rfl trivial fun a8 h9 => ?_
  clear h5
  refine nd_done ?_
  refine hK1 _ _ ?_
  clear hK1
  refine wp_seq_k fun K10 hK10 => ?_
  refine nd_start (l := [0, 1, 2, 3, 4]) rfl ?_
  refine nd_batch tabOk tabZ_ok [(0, {}), (1, {k := 0})] [3, 0, 1, 4, 5, 6] (T' := [(3, .pointer (some ⟨b2, 0, none⟩)), (0, .slice o1 xs.length c1), (1, .agg #[.int .i64 k.idx, .int .u64 k.st.now, .int .i8 k.st.cur, .int .u8 k.st.s0, .int .u8 k.st.s1, .int .u8 k.st.s2, .int .u8 k.st.s3, .int .u64 k.st.r0, .int .u64 k.st.r1, .int .u64 k.st.r2, .int .u64 k.st.r3, .int .u64 k.st.word, .bool k.out.refused, .int .i8 k.out.running, .int .u64 k.out.value]), (4, .bool false), (5, .slice o1 xs.length c1), (6, .agg #[.int .i64 k.idx, .int .u64 k.st.now, .int .i8 k.st.cur, .int .u8 k.st.s0, .int .u8 k.st.s1, .int .u8 k.st.s2, .int .u8 k.st.s3, .int .u64 k.st.r0, .int .u64 k.st.r1, .int .u64 k.st.r2, .int .u64 k.st.r3, .int .u64 k.st.word, .bool k.out.refused, .int .i8 k.out.running, .int .u64 k.out.value])]) (φ := (b2 = b2 ∧ Nat.ble (0 + 15) 15 = true) ∧ True) (rest := [2, 3, 4]) h9 (by kernel_rfl) rfl ⟨⟨rfl, rfl⟩, trivial⟩ fun a11 h12 => ?_
  clear h9
  refine nd_op ?_
  refine op_call h12 rfl rfl rfl (callOk Try.func56 (by decide) rfl) (args := [.slice o1 xs.length c1, .agg #[.int .i64 k.idx, .int .u64 k.st.now, .int .i8 k.st.cur, .int .u8 k.st.s0, .int .u8 k.st.s1, .int .u8 k.st.s2, .int .u8 k.st.s3, .int .u64 k.st.r0, .int .u64 k.st.r1, .int .u64 k.st.r2, .int .u64 k.st.r3, .int .u64 k.st.word, .bool k.out.refused, .int .i8 k.out.running, .int .u64 k.out.value]]) rfl (indexP_ok xs k o1 c1 F1 _ h12.inv hn) ?_
  rintro _ w14 ⟨v, rfl, hv, hv2, hfv⟩
  refine ⟨_, rfl, ?_⟩
  have h13 := (h12.grow hfv).put (d := some 7) (v := .int .i64 v) (T' := [(7, .int .i64 v), (3, .pointer (some ⟨b2, 0, none⟩)), (0, .slice o1 xs.length c1), (1, .agg #[.int .i64 k.idx, .int .u64 k.st.now, .int .i8 k.st.cur, .int .u8 k.st.s0, .int .u8 k.st.s1, .int .u8 k.st.s2, .int .u8 k.st.s3, .int .u64 k.st.r0, .int .u64 k.st.r1, .int .u64 k.st.r2, .int .u64 k.st.r3, .int .u64 k.st.word, .bool k.out.refused, .int .i8 k.out.running, .int .u64 k.out.value]), (4, .bool false), (5, .slice o1 xs.length c1), (6, .agg #[.int .i64 k.idx, .int .u64 k.st.now, .int .i8 k.st.cur, .int .u8 k.st.s0, .int .u8 k.st.s1, .int .u8 k.st.s2, .int .u8 k.st.s3, .int .u64 k.st.r0, .int .u64 k.st.r1, .int .u64 k.st.r2, .int .u64 k.st.r3, .int .u64 k.st.word, .bool k.out.refused, .int .i8 k.out.running, .int .u64 k.out.value])]) rfl
  clear h12
  refine nd_batch tabOk tabZ_ok [(3, {}), (4, {})] [3, 0, 1, 4] (T' := [(3, .pointer (some ⟨b2, 0, none⟩)), (0, .slice o1 xs.length c1), (1, .agg #[.int .i64 k.idx, .int .u64 k.st.now, .int .i8 k.st.cur, .int .u8 k.st.s0, .int .u8 k.st.s1, .int .u8 k.st.s2, .int .u8 k.st.s3, .int .u64 k.st.r0, .int .u64 k.st.r1, .int .u64 k.st.r2, .int .u64 k.st.r3, .int .u64 k.st.word, .bool k.out.refused, .int .i8 k.out.running, .int .u64 k.out.value]), (4, .bool (decide (v ≥ 0)))]) (φ := True) (rest := []) h13 (by kernel_rfl) rfl trivial fun a15 h16 => ?_
  clear h13
  refine nd_done ?_
  refine hK10 _ _ ?_
  clear hK10
  refine wp_ret ?_
  try simp only [Exit.then, Exit.inBlock]
  try rw [if_pos trivial]
  exact s_ret tabOk tabZ_ok h16 [(.tmp 4, {})] (vs := [.bool (decide (v ≥ 0))]) (φ := True) rfl (by kernel_rfl) trivial ⟨_, rfl, by rw [← hv]; simp, h16.frame⟩

end Go.Proofs.Qxb6500919a
