/-
  The model: choose. (Made by program: a symbolic walk that prints its steps.)
-/
import Derived.Test.Qxb6500918aDoorUk
namespace Go.Proofs.Qxb6500918aDoor
open Go.Sx Go.Kn
set_option maxRecDepth 100000
set_option maxHeartbeats 4000000
set_option linter.unusedVariables false
set_option linter.unusedSimpArgs false

theorem curR_set {Z : MZ} {a : AK} {y : Nat} : curR Z { a with cur := ((y : Nat) : Int) } = Z.ky y := by
  unfold curR
  dsimp only
  rw [if_neg (by omega), Int.toNat_natCast]

theorem topUp_rng (a : AK) (n : Nat) : -1 ≤ topUp a n ∧ topUp a n < n := by
  rcases topUp_cases a n with ⟨h, _⟩ | ⟨p, h1, h2, _, _⟩ <;> omega

theorem topUp_ne {a : AK} {n : Nat} (h : topUp a n ≠ -1) : a.q (.r (topUp a n).toNat) ≠ [] := by
  rcases topUp_cases a n with ⟨h1, _⟩ | ⟨p, h1, h2, h3, _⟩
  · exact absurd h1 h
  · rw [h2, Int.toNat_natCast]; exact h3

theorem kys_len (Z : MZ) (xs : List Nat) : (kys Z xs).length = xs.length := by simp [kys]

theorem pick_of {Z : MZ} {b : AK} {top pick : Int} (hp : 0 ≤ pick) (hne : b.q (.r top.toNat) ≠ []) : ∃ y, (kys Z (b.q (.r top.toNat)))[(pick % ((kys Z (b.q (.r top.toNat))).length : Int)).toNat]? = some (Z.ky y) ∧ pickNo b top pick = y ∧ y ∈ b.q (.r top.toNat) := by
  have hl : 0 < (b.q (.r top.toNat)).length := List.length_pos_iff.2 hne
  rw [kys_len]
  have hlt : (pick % ((b.q (.r top.toNat)).length : Int)).toNat < (b.q (.r top.toNat)).length := by
    have h1 := Int.emod_lt_of_pos pick (show (0 : Int) < ((b.q (.r top.toNat)).length : Int) by omega)
    have h2 := Int.emod_nonneg pick (show ((b.q (.r top.toNat)).length : Int) ≠ 0 by omega)
    omega
  refine ⟨(b.q (.r top.toNat))[(pick % ((b.q (.r top.toNat)).length : Int)).toNat], ?_, ?_, List.getElem_mem hlt⟩
  · unfold kys
    rw [List.getElem?_map, List.getElem?_eq_getElem hlt]; rfl
  · unfold pickNo
    rw [List.getElem?_eq_getElem hlt]; rfl

theorem wake_ne {Z : MZ} {a : AK} {x : Nat} (h : MP Z a) (hx : x ∈ sl Z.tl) {t : Int} (hl : ¬ t ≤ (a.th x).prio) (hne : a.q (.r t.toNat) ≠ []) : (wakeA a x).q (.r t.toNat) ≠ [] := by
  have hpr := h.pr x hx
  show qPush (qCut a.q (place (a.th x)) x) (.r (a.th x).prio.toNat) x (.r t.toNat) ≠ []
  unfold qPush qCut
  rw [if_neg (by intro hq; simp at hq; omega)]
  rw [if_neg]
  · exact hne
  · intro hq
    have := (place_r hq).2
    omega

theorem chooseI (mb : Nat) (Z : MZ) (R : MR) (a : AK) (C : CP) (pick : Int) (hpk : 0 ≤ pick ∧ pick < 4294967296) (hP : MP Z a) (hc0 : a.cur = -1) (w : World) (hH : MH mb Z R a C w) :
    Calls Tryd.prog 56 #[.pointer (some ⟨mb, 0, none⟩), .int .u32 pick] w fun e w' => e = .returned (.tuple #[]) ∧ ∃ R', MG mb Z R C w Z R' (schedA a pick) C w' := by
  have hcx : curR Z a = ⟨0, 0⟩ := by unfold curR; rw [if_pos hc0]
  obtain ⟨ty3, hg3⟩ := hH.g3
  have hho := hH.ho
  have hkk := hH.md.k
  refine enter (n := 91) (K := mdF mb Z R C) (A := MD (mdF mb Z R C) w.heap.size mb Z R a C) (F := mdF mb Z R C) (T := [(0, .pointer (some ⟨mb, 0, none⟩)), (1, .int .u32 pick)]) (L := [(3, ⟨[.int .u16 0, .int .u32 0], ty3, true⟩)]) (args := [.pointer (some ⟨mb, 0, none⟩), .int .u32 pick]) Tryd.func56 rfl rfl rfl rfl (kcons hg3 knil) (by simp) (kcons (by intro hq; cases hq) knil) hH.mD MD.stable hH.md.low (kcons (by intro hq; cases hq) knil) ?_
  intro ac h
  refine wp_seq_k fun K1 hK1 => ?_
  refine nd_start (l := [0]) rfl ?_
  refine nd_batch tabOk2 tabZ_ok2 [(0, {})] [0, 1, 4] (T' := [(0, .pointer (some ⟨mb, 0, none⟩)), (1, .int .u32 pick), (4, .int .i64 (-1))]) (φ := True) (rest := []) h (by kernel_rfl) rfl trivial fun a2 h3 => ?_
  clear h
  refine nd_done ?_
  refine hK1 _ _ ?_
  clear hK1
  refine wp_seq_k fun K4 hK4 => ?_
  refine wp_seq_k fun K5 hK5 => ?_
  refine nd_start (l := [0]) rfl ?_
  refine nd_batch tabOk2 tabZ_ok2 [(0, {})] [0, 1, 4, 7] (T' := [(0, .pointer (some ⟨mb, 0, none⟩)), (1, .int .u32 pick), (4, .int .i64 (-1)), (7, .int .i64 0)]) (φ := True) (rest := []) h3 (by kernel_rfl) rfl trivial fun a6 h7 => ?_
  clear h3
  refine nd_done ?_
  refine hK5 _ _ ?_
  clear hK5
  refine wp_block ?_
  refine wp_loop_ghost (fun g ga gw => ∃ (t : Int) (m : Nat), (g = 8 - m) ∧ (m ≤ 8) ∧ (t = topUp a m) ∧ St (MCx 91 (mdF mb Z R C) w mb Z R a C) [(0, .pointer (some ⟨mb, 0, none⟩)), (1, .int .u32 pick), (4, .int .i64 t), (7, .int .i64 ((m : Nat) : Int))] [(3, ⟨[.int .u16 0, .int .u32 0], ty3, true⟩)] ga gw) 8 ⟨(-1), 0, by omega, by omega, rfl, (h7.slotsMono (restr_spec (keep := [0, 1, 4, 7]) rfl))⟩ ?_
  clear h7
  rintro g a8 w9 ⟨t, m, hi11, hi12, hi13, h10⟩
  have hig := hi11
  have hm8 := hi12
  have htm := hi13
  have htr := topUp_rng a m
  have htu : topUp a (m + 1) = if a.q (.r m) ≠ [] then (m : Int) else topUp a m := rfl
  refine wp_seq_k fun K14 hK14 => ?_
  refine nd_start (l := [0]) rfl ?_
  refine nd_batch tabOk2 tabZ_ok2 [(0, {})] [0, 1, 4, 7, 8] (T' := [(0, .pointer (some ⟨mb, 0, none⟩)), (1, .int .u32 pick), (4, .int .i64 t), (7, .int .i64 ((m : Nat) : Int)), (8, .bool (decide (((m : Nat) : Int) < 8)))]) (φ := True) (rest := []) h10 (by kernel_rfl) rfl trivial fun a15 h16 => ?_
  clear h10
  refine nd_done ?_
  refine hK14 _ _ ?_
  clear hK14
  refine wp_seq_k fun K17 hK17 => ?_
  refine c_split h16 (b := decide (((m : Nat) : Int) < 8)) rfl (fun hc18 => ?_) (fun hc18 => ?_)
  ·
    have hc18f : ((m : Nat) : Int) < 8 := by simpa using hc18
    refine wp_skip ?_
    refine hK17 _ _ ?_
    clear hK17
    refine wp_seq_k fun K19 hK19 => ?_
    refine wp_block ?_
    refine wp_seq_k fun K20 hK20 => ?_
    refine nd_start (l := [0, 1]) rfl ?_
    refine nd_batch tabOk2 tabZ_ok2 [(0, {}), (1, {})] [0, 1, 4, 7, 5] (T' := [(0, .pointer (some ⟨mb, 0, none⟩)), (1, .int .u32 pick), (4, .int .i64 t), (7, .int .i64 ((m : Nat) : Int)), (5, .int .i64 ((m : Nat) : Int))]) (φ := True) (rest := []) h16 (by kernel_rfl) rfl trivial fun a21 h22 => ?_
    clear h16
    refine nd_done ?_
    refine hK20 _ _ ?_
    clear hK20
    refine wp_seq_k fun K23 hK23 => ?_
    refine nd_start (l := [0, 1, 2, 3, 4, 5, 6, 7]) rfl ?_
    refine nd_batch tabOk2 tabZ_ok2 [(0, {}), (1, {}), (2, {}), (3, {}), (4, {})] [0, 1, 4, 7, 5, 14] (T' := [(0, .pointer (some ⟨mb, 0, none⟩)), (1, .int .u32 pick), (4, .int .i64 t), (7, .int .i64 ((m : Nat) : Int)), (5, .int .i64 ((m : Nat) : Int)), (14, .pointer (some ⟨mb, 5 + (m * 1), none⟩))]) (φ := (0 ≤ ((m : Nat) : Int) ∧ ((m : Nat) : Int) < 8) ∧ True) (rest := [5, 6, 7]) h22 (by kernel_rfl) rfl ⟨⟨by omega, by omega⟩, trivial⟩ fun a24 h25 => ?_
    clear h22
    refine nd_op ?_
    refine op_read (b := mb) (v := .slice (R.ro m) ((kys Z (a.q (.r m))).length) (R.rk m)) h25 rfl rfl (rd_m h25 (k := 5 + (m * 1)) (v := .slice (R.ro m) ((kys Z (a.q (.r m))).length) (R.rk m)) rfl rfl rfl rfl (md_r (p := m) (by omega) (by omega))) ?_
    have h26 := h25.put (d := some 15) (v := .slice (R.ro m) ((kys Z (a.q (.r m))).length) (R.rk m)) (T' := [(15, .slice (R.ro m) ((kys Z (a.q (.r m))).length) (R.rk m)), (0, .pointer (some ⟨mb, 0, none⟩)), (1, .int .u32 pick), (4, .int .i64 t), (7, .int .i64 ((m : Nat) : Int)), (5, .int .i64 ((m : Nat) : Int)), (14, .pointer (some ⟨mb, 5 + (m * 1), none⟩))]) rfl
    clear h25
    refine nd_batch tabOk2 tabZ_ok2 [(6, {}), (7, {})] [0, 1, 4, 7, 5, 17] (T' := [(0, .pointer (some ⟨mb, 0, none⟩)), (1, .int .u32 pick), (4, .int .i64 t), (7, .int .i64 ((m : Nat) : Int)), (5, .int .i64 ((m : Nat) : Int)), (17, .bool (decide ((((kys Z (a.q (.r m))).length : Nat) : Int) > 0)))]) (φ := True) (rest := []) h26 (by kernel_rfl) rfl trivial fun a27 h28 => ?_
    clear h26
    refine nd_done ?_
    refine hK23 _ _ ?_
    clear hK23
    refine c_split h28 (b := decide ((((kys Z (a.q (.r m))).length : Nat) : Int) > 0)) rfl (fun hc29 => ?_) (fun hc29 => ?_)
    ·
      have hc29f : (((kys Z (a.q (.r m))).length : Nat) : Int) > 0 := by simpa using hc29
      rw [if_pos (fun hq => by rw [hq] at hc29f; simp [kys] at hc29f)] at htu
      refine nd_start (l := [0, 1]) rfl ?_
      refine nd_batch tabOk2 tabZ_ok2 [(0, {}), (1, {})] [0, 1, 7, 5, 4] (T' := [(0, .pointer (some ⟨mb, 0, none⟩)), (1, .int .u32 pick), (7, .int .i64 ((m : Nat) : Int)), (5, .int .i64 ((m : Nat) : Int)), (4, .int .i64 ((m : Nat) : Int))]) (φ := True) (rest := []) h28 (by kernel_rfl) rfl trivial fun a30 h31 => ?_
      clear h28
      refine nd_done ?_
      refine hK19 _ _ ?_
      clear hK19
      refine nd_start (l := [0, 1]) rfl ?_
      refine nd_batch tabOk2 tabZ_ok2 [(0, {}), (1, {})] [0, 1, 5, 4, 7] (T' := [(0, .pointer (some ⟨mb, 0, none⟩)), (1, .int .u32 pick), (5, .int .i64 ((m : Nat) : Int)), (4, .int .i64 ((m : Nat) : Int)), (7, .int .i64 (((m : Nat) : Int) + 1))]) (φ := inR .i64 (((m : Nat) : Int) + 1) ∧ True) (rest := []) h31 (by kernel_rfl) rfl ⟨⟨by omega, by omega⟩, trivial⟩ fun a32 h33 => ?_
      clear h31
      refine nd_done ?_
      exact ⟨(g - 1), by omega, ((m : Nat) : Int), (m + 1), by omega, by omega, (by rw [htu]), (h33.slotsMono (restr_spec (keep := [0, 1, 4, 7]) rfl))⟩
    ·
      have hc29f : ¬ (((kys Z (a.q (.r m))).length : Nat) : Int) > 0 := by simpa using hc29
      rw [if_neg (fun hq => hc29f (by have := List.length_pos_iff.2 hq; rw [kys_len]; omega))] at htu
      refine wp_skip ?_
      refine hK19 _ _ ?_
      clear hK19
      refine nd_start (l := [0, 1]) rfl ?_
      refine nd_batch tabOk2 tabZ_ok2 [(0, {}), (1, {})] [0, 1, 4, 5, 7] (T' := [(0, .pointer (some ⟨mb, 0, none⟩)), (1, .int .u32 pick), (4, .int .i64 t), (5, .int .i64 ((m : Nat) : Int)), (7, .int .i64 (((m : Nat) : Int) + 1))]) (φ := inR .i64 (((m : Nat) : Int) + 1) ∧ True) (rest := []) h28 (by kernel_rfl) rfl ⟨⟨by omega, by omega⟩, trivial⟩ fun a34 h35 => ?_
      clear h28
      refine nd_done ?_
      exact ⟨(g - 1), by omega, t, (m + 1), by omega, by omega, (by rw [htu] <;> exact htm), (h35.slotsMono (restr_spec (keep := [0, 1, 4, 7]) rfl))⟩
  ·
    have hc18f : ¬ ((m : Nat) : Int) < 8 := by simpa using hc18
    have hm9 : m = 8 := by omega
    have h36 := h16.slotsMono (restr_spec (keep := [0, 1, 4]) rfl)
    rw [hm9] at htm
    subst htm
    clear h16
    refine wp_exit ?_
    refine hK4 _ _ ?_
    clear hK4
    refine wp_seq_k fun K37 hK37 => ?_
    refine wp_seq_k fun K38 hK38 => ?_
    refine dr_start (KB := [3, mb]) (Bi := [[0, 1], [0, 1], [0, 1], [0, 1], [0, 1], [0, 1], [0, 1], [0, 1], [0, 1], [0, 1], [0, 1], [0, 1], [0, 1], [0, 1], [0, 1], [0, 1], [0, 1], [0, 1], [0, 1], [0, 1], [0, 1], [0, 1], [0, 1]]) mixed h36 fun w39 h40 => ?_
    clear h36
    refine dr_batch tabOk2 tabZ_ok2 (by repeat (first | with_reducible exact PF.body | with_reducible apply PF.inB | with_reducible apply PF.next)) [(0, {}), (1, {}), (2, {})] [0, 1, 4, 22] (T' := [(0, .pointer (some ⟨mb, 0, none⟩)), (1, .int .u32 pick), (4, .int .i64 (topUp a 8)), (22, .pointer (some ⟨mb, 13, none⟩))]) (φ := True) (fuel := 20) h40 (by kernel_rfl) rfl (by kernel_rfl) (by kernel_rfl) ⟨trivial, trivial, trivial, trivial⟩ trivial fun a42 h43 => ?_
    clear h40
    refine dr_read (i := 3) (b := mb) (p := 1) (v := .agg #[.int .u16 0, .int .u32 0]) (fuel := 19) (by repeat (first | with_reducible exact PF.body | with_reducible apply PF.inB | with_reducible apply PF.next)) h43 rfl rfl rfl (by kernel_rfl) (by kernel_rfl) (by kernel_rfl) rfl (rd_mA h43 (k := 13) (vs := [.int .u16 0, .int .u32 0]) rfl rfl rfl rfl rfl (by have hq9 := md_cur (Z := Z) (R := R) (a := a); rw [hcx] at hq9; exact hq9)) ?_
    have h44 := h43.put (d := some 23) (v := .agg #[.int .u16 0, .int .u32 0]) (T' := [(23, .agg #[.int .u16 0, .int .u32 0]), (0, .pointer (some ⟨mb, 0, none⟩)), (1, .int .u32 pick), (4, .int .i64 (topUp a 8)), (22, .pointer (some ⟨mb, 13, none⟩))]) rfl
    clear h43
    refine dr_batch tabOk2 tabZ_ok2 (by repeat (first | with_reducible exact PF.body | with_reducible apply PF.inB | with_reducible apply PF.next)) [(4, {k := 0, p := 0}), (5, {f := 1}), (6, {}), (7, {}), (8, {}), (9, {}), (10, {}), (11, {k := 0, p := 0}), (12, {}), (13, {}), (14, {}), (15, {k := 0, p := 0}), (16, {}), (17, {}), (18, {}), (19, {k := 0, p := 0}), (20, {}), (21, {}), (22, {})] [0, 1, 4, 42] (T' := [(0, .pointer (some ⟨mb, 0, none⟩)), (1, .int .u32 pick), (4, .int .i64 (topUp a 8)), (42, .bool false)]) (φ := (3 = 3 ∧ Nat.ble (0 + 2) 2 = true) ∧ EqRun Tryd.prog 39 (.agg #[.int .u16 0, .int .u32 0]) (.agg #[.int .u16 0, .int .u32 0]) true ∧ True) (fuel := 0) h44 (by kernel_rfl) rfl (by kernel_rfl) (by kernel_rfl) ⟨rfl, trivial, trivial, trivial, trivial, trivial, trivial, rfl, trivial, trivial, trivial, rfl, trivial, trivial, trivial, rfl, trivial, trivial, trivial, trivial⟩ ⟨⟨rfl, rfl⟩, (by have hq := runRf (⟨0, 0⟩ : Rf) (⟨0, 0⟩ : Rf); rw [show decide ((⟨0, 0⟩ : Rf) = (⟨0, 0⟩ : Rf)) = true from decide_eq_true rfl] at hq; exact hq), trivial⟩ fun a45 h46 => ?_
    clear h44
    refine wpAnyK_done (by kernel_rfl) ?_ _
    refine hK38 _ _ ?_
    clear hK38
    refine c_false h46 rfl ?_
    refine wp_skip ?_
    refine hK37 _ _ ?_
    clear hK37
    refine wp_seq_k fun K47 hK47 => ?_
    refine wp_seq_k fun K48 hK48 => ?_
    refine dr_start (KB := [3, mb]) (Bi := [[0, 1], [0, 1], [0, 1], [0, 1], [0, 1], [0, 1]]) mixed h46 fun w49 h50 => ?_
    clear h46
    refine dr_batch tabOk2 tabZ_ok2 (by repeat (first | with_reducible exact PF.body | with_reducible apply PF.inB | with_reducible apply PF.next)) [(0, {}), (1, {}), (2, {})] [0, 1, 4, 45] (T' := [(0, .pointer (some ⟨mb, 0, none⟩)), (1, .int .u32 pick), (4, .int .i64 (topUp a 8)), (45, .pointer (some ⟨mb, 13, none⟩))]) (φ := True) (fuel := 3) h50 (by kernel_rfl) rfl (by kernel_rfl) (by kernel_rfl) ⟨trivial, trivial, trivial, trivial⟩ trivial fun a52 h53 => ?_
    clear h50
    refine dr_read (i := 3) (b := mb) (p := 1) (v := .agg #[.int .u16 0, .int .u32 0]) (fuel := 2) (by repeat (first | with_reducible exact PF.body | with_reducible apply PF.inB | with_reducible apply PF.next)) h53 rfl rfl rfl (by kernel_rfl) (by kernel_rfl) (by kernel_rfl) rfl (rd_mA h53 (k := 13) (vs := [.int .u16 0, .int .u32 0]) rfl rfl rfl rfl rfl (by have hq9 := md_cur (Z := Z) (R := R) (a := a); rw [hcx] at hq9; exact hq9)) ?_
    have h54 := h53.put (d := some 46) (v := .agg #[.int .u16 0, .int .u32 0]) (T' := [(46, .agg #[.int .u16 0, .int .u32 0]), (0, .pointer (some ⟨mb, 0, none⟩)), (1, .int .u32 pick), (4, .int .i64 (topUp a 8)), (45, .pointer (some ⟨mb, 13, none⟩))]) rfl
    clear h53
    refine dr_batch tabOk2 tabZ_ok2 (by repeat (first | with_reducible exact PF.body | with_reducible apply PF.inB | with_reducible apply PF.next)) [(4, {k := 0, p := 0}), (5, {f := 1})] [0, 1, 4, 48] (T' := [(0, .pointer (some ⟨mb, 0, none⟩)), (1, .int .u32 pick), (4, .int .i64 (topUp a 8)), (48, .bool false)]) (φ := (3 = 3 ∧ Nat.ble (0 + 2) 2 = true) ∧ EqRun Tryd.prog 39 (.agg #[.int .u16 0, .int .u32 0]) (.agg #[.int .u16 0, .int .u32 0]) true ∧ True) (fuel := 0) h54 (by kernel_rfl) rfl (by kernel_rfl) (by kernel_rfl) ⟨rfl, trivial, trivial⟩ ⟨⟨rfl, rfl⟩, (by have hq := runRf (⟨0, 0⟩ : Rf) (⟨0, 0⟩ : Rf); rw [show decide ((⟨0, 0⟩ : Rf) = (⟨0, 0⟩ : Rf)) = true from decide_eq_true rfl] at hq; exact hq), trivial⟩ fun a55 h56 => ?_
    clear h54
    refine wpAnyK_done (by kernel_rfl) ?_ _
    refine hK48 _ _ ?_
    clear hK48
    refine c_false h56 rfl ?_
    refine wp_skip ?_
    refine hK47 _ _ ?_
    clear hK47
    refine wp_seq_k fun K57 hK57 => ?_
    refine wp_seq_k fun K58 hK58 => ?_
    refine nd_start (l := [0, 1]) rfl ?_
    refine nd_batch tabOk2 tabZ_ok2 [(0, {}), (1, {})] [0, 1, 4, 56] (T' := [(0, .pointer (some ⟨mb, 0, none⟩)), (1, .int .u32 pick), (4, .int .i64 (topUp a 8)), (56, .bool ((topUp a 8) == -1))]) (φ := True) (rest := []) h56 (by kernel_rfl) rfl trivial fun a59 h60 => ?_
    clear h56
    refine nd_done ?_
    refine hK58 _ _ ?_
    clear hK58
    refine c_split h60 (b := ((topUp a 8) == -1)) rfl (fun hc61 => ?_) (fun hc61 => ?_)
    ·
      have hc61f : (topUp a 8) = -1 := by simpa using hc61
      refine wp_ret ?_
      try simp only [Exit.then, Exit.inBlock]
      try rw [if_pos trivial]
      exact s_ret tabOk2 tabZ_ok2 h60 [] (vs := []) (φ := True) rfl (by kernel_rfl) trivial ⟨rfl, _, mg_end hH h60 hho (by unfold schedA; rw [if_neg (fun q => q hc0), if_pos (by omega)])⟩
    ·
      have hc61f : (topUp a 8) ≠ -1 := by simpa using hc61
      have ht8 : 0 ≤ topUp a 8 ∧ topUp a 8 < 8 := by have := topUp_rng a 8; omega
      have hne9 : a.q (.r (topUp a 8).toNat) ≠ [] := topUp_ne (by omega)
      obtain ⟨y, hky, hno, hyq⟩ := pick_of (Z := Z) (top := topUp a 8) hpk.1 hne9
      have hy := (hP.mq (.r (topUp a 8).toNat) (show _ < 8 by omega) y hyq).1
      have hkl : 0 < (kys Z (a.q (.r (topUp a 8).toNat))).length := by rw [kys_len]; exact List.length_pos_iff.2 hne9
      have hkl2 : (kys Z (a.q (.r (topUp a 8).toNat))).length ≤ 256 := hP.klen hkk (show _ < 8 by omega)
      have hmod := Int.emod_lt_of_pos pick (show (0 : Int) < ((kys Z (a.q (.r (topUp a 8).toNat))).length : Int) by omega)
      have hmod2 := Int.emod_nonneg pick (show ((kys Z (a.q (.r (topUp a 8).toNat))).length : Int) ≠ 0 by omega)
      obtain ⟨rb, hrb, hrF⟩ := rrow_blk h60.inv.1 (p := (topUp a 8).toNat) (by omega) hho hky
      refine wp_skip ?_
      refine hK57 _ _ ?_
      clear hK57
      refine wp_seq_k fun K62 hK62 => ?_
      refine dr_start (KB := [3, mb, rb]) (Bi := [[0, 1, 2], [0, 1, 2], [0, 1, 2], [0, 1, 2], [0, 1, 2], [0, 1, 2], [0, 1, 2], [0, 1, 2], [0, 1, 2], [0, 1, 2], [0, 1, 2], [0, 1, 2], [0, 1, 2], [0, 1, 2], [0, 1, 2], [0, 1, 2], [0, 1, 2], [0, 1, 2], [0, 1, 2], [1, 2], []]) mixed h60 fun w63 h64 => ?_
      clear h60
      refine dr_batch tabOk2 tabZ_ok2 (by repeat (first | with_reducible exact PF.body | with_reducible apply PF.inB | with_reducible apply PF.next)) [(0, {}), (1, {}), (2, {}), (3, {}), (4, {})] [0, 1, 4, 61] (T' := [(0, .pointer (some ⟨mb, 0, none⟩)), (1, .int .u32 pick), (4, .int .i64 (topUp a 8)), (61, .pointer (some ⟨mb, 5 + (((topUp a 8).toNat) * 1), none⟩))]) (φ := (0 ≤ (topUp a 8) ∧ (topUp a 8) < 8) ∧ True) (fuel := 16) h64 (by kernel_rfl) rfl (by kernel_rfl) (by kernel_rfl) ⟨trivial, trivial, trivial, trivial, trivial, trivial⟩ ⟨⟨by omega, by omega⟩, trivial⟩ fun a66 h67 => ?_
      clear h64
      refine dr_read (i := 5) (b := mb) (p := 1) (v := .slice (some ⟨rb, 0, none⟩) ((kys Z (a.q (.r ((topUp a 8).toNat)))).length) (R.rk ((topUp a 8).toNat))) (fuel := 15) (by repeat (first | with_reducible exact PF.body | with_reducible apply PF.inB | with_reducible apply PF.next)) h67 rfl rfl rfl (by kernel_rfl) (by kernel_rfl) (by kernel_rfl) rfl (by rw [← hrb]; exact (rd_m h67 (k := 5 + (((topUp a 8).toNat) * 1)) (v := .slice (R.ro ((topUp a 8).toNat)) ((kys Z (a.q (.r ((topUp a 8).toNat)))).length) (R.rk ((topUp a 8).toNat))) rfl rfl rfl rfl (md_r (p := ((topUp a 8).toNat)) (by omega) (by omega)))) ?_
      have h68 := h67.put (d := some 62) (v := .slice (some ⟨rb, 0, none⟩) ((kys Z (a.q (.r ((topUp a 8).toNat)))).length) (R.rk ((topUp a 8).toNat))) (T' := [(62, .slice (some ⟨rb, 0, none⟩) ((kys Z (a.q (.r ((topUp a 8).toNat)))).length) (R.rk ((topUp a 8).toNat))), (0, .pointer (some ⟨mb, 0, none⟩)), (1, .int .u32 pick), (4, .int .i64 (topUp a 8)), (61, .pointer (some ⟨mb, 5 + (((topUp a 8).toNat) * 1), none⟩))]) rfl
      clear h67
      refine dr_batch tabOk2 tabZ_ok2 (by repeat (first | with_reducible exact PF.body | with_reducible apply PF.inB | with_reducible apply PF.next)) [(6, {}), (7, {}), (8, {}), (9, {}), (10, {}), (11, {}), (12, {})] [62, 0, 1, 4, 64, 69] (T' := [(62, .slice (some ⟨rb, 0, none⟩) ((kys Z (a.q (.r ((topUp a 8).toNat)))).length) (R.rk ((topUp a 8).toNat))), (0, .pointer (some ⟨mb, 0, none⟩)), (1, .int .u32 pick), (4, .int .i64 (topUp a 8)), (64, .int .u64 pick), (69, .pointer (some ⟨mb, 5 + (((topUp a 8).toNat) * 1), none⟩))]) (φ := inR .u64 pick ∧ (0 ≤ (topUp a 8) ∧ (topUp a 8) < 8) ∧ True) (fuel := 8) h68 (by kernel_rfl) rfl (by kernel_rfl) (by kernel_rfl) ⟨trivial, trivial, trivial, trivial, trivial, trivial, trivial, trivial⟩ ⟨⟨by omega, by omega⟩, ⟨by omega, by omega⟩, trivial⟩ fun a69 h70 => ?_
      clear h68
      refine dr_read (i := 13) (b := mb) (p := 1) (v := .slice (some ⟨rb, 0, none⟩) ((kys Z (a.q (.r ((topUp a 8).toNat)))).length) (R.rk ((topUp a 8).toNat))) (fuel := 7) (by repeat (first | with_reducible exact PF.body | with_reducible apply PF.inB | with_reducible apply PF.next)) h70 rfl rfl rfl (by kernel_rfl) (by kernel_rfl) (by kernel_rfl) rfl (by rw [← hrb]; exact (rd_m h70 (k := 5 + (((topUp a 8).toNat) * 1)) (v := .slice (R.ro ((topUp a 8).toNat)) ((kys Z (a.q (.r ((topUp a 8).toNat)))).length) (R.rk ((topUp a 8).toNat))) rfl rfl rfl rfl (md_r (p := ((topUp a 8).toNat)) (by omega) (by omega)))) ?_
      have h71 := h70.put (d := some 70) (v := .slice (some ⟨rb, 0, none⟩) ((kys Z (a.q (.r ((topUp a 8).toNat)))).length) (R.rk ((topUp a 8).toNat))) (T' := [(70, .slice (some ⟨rb, 0, none⟩) ((kys Z (a.q (.r ((topUp a 8).toNat)))).length) (R.rk ((topUp a 8).toNat))), (62, .slice (some ⟨rb, 0, none⟩) ((kys Z (a.q (.r ((topUp a 8).toNat)))).length) (R.rk ((topUp a 8).toNat))), (0, .pointer (some ⟨mb, 0, none⟩)), (1, .int .u32 pick), (4, .int .i64 (topUp a 8)), (64, .int .u64 pick), (69, .pointer (some ⟨mb, 5 + (((topUp a 8).toNat) * 1), none⟩))]) rfl
      clear h70
      refine dr_batch tabOk2 tabZ_ok2 (by repeat (first | with_reducible exact PF.body | with_reducible apply PF.inB | with_reducible apply PF.next)) [(14, {}), (15, {}), (16, {}), (17, {})] [0, 1, 4, 74] (T' := [(0, .pointer (some ⟨mb, 0, none⟩)), (1, .int .u32 pick), (4, .int .i64 (topUp a 8)), (74, .pointer (some ⟨rb, 0 + (((pick % (((kys Z (a.q (.r ((topUp a 8).toNat)))).length : Nat) : Int)).toNat) * 2), none⟩))]) (φ := inR .u64 (((kys Z (a.q (.r ((topUp a 8).toNat)))).length : Nat) : Int) ∧ (0 ≤ pick ∧ 0 < (((kys Z (a.q (.r ((topUp a 8).toNat)))).length : Nat) : Int)) ∧ (0 ≤ (pick % (((kys Z (a.q (.r ((topUp a 8).toNat)))).length : Nat) : Int)) ∧ (pick % (((kys Z (a.q (.r ((topUp a 8).toNat)))).length : Nat) : Int)) < (((kys Z (a.q (.r ((topUp a 8).toNat)))).length : Nat) : Int)) ∧ True) (fuel := 3) h71 (by kernel_rfl) rfl (by kernel_rfl) (by kernel_rfl) ⟨trivial, trivial, trivial, trivial, trivial⟩ ⟨⟨by omega, by omega⟩, ⟨by omega, by omega⟩, ⟨by omega, by omega⟩, trivial⟩ fun a72 h73 => ?_
      clear h71
      refine dr_read (i := 18) (b := rb) (p := 2) (v := .agg #[.int .u16 ((Z.ky y).idx), .int .u32 ((Z.ky y).gen)]) (fuel := 2) (by repeat (first | with_reducible exact PF.body | with_reducible apply PF.inB | with_reducible apply PF.next)) h73 rfl rfl rfl (by kernel_rfl) (by kernel_rfl) (by kernel_rfl) rfl (rd_rrow h73 (p := (topUp a 8).toNat) (b := rb) (r := Z.ky y) (by omega) hho hrb hky (Nat.zero_add _) rfl rfl rfl rfl rfl) ?_
      have h74 := h73.put (d := some 75) (v := .agg #[.int .u16 ((Z.ky y).idx), .int .u32 ((Z.ky y).gen)]) (T' := [(75, .agg #[.int .u16 ((Z.ky y).idx), .int .u32 ((Z.ky y).gen)]), (0, .pointer (some ⟨mb, 0, none⟩)), (1, .int .u32 pick), (4, .int .i64 (topUp a 8)), (74, .pointer (some ⟨rb, 0 + (((pick % (((kys Z (a.q (.r ((topUp a 8).toNat)))).length : Nat) : Int)).toNat) * 2), none⟩))]) rfl
      clear h73
      refine wpAnyK_one (i := 19) (fuel := 1) (by kernel_rfl) ?_
      refine op_new tabOk2 (cells := [.int .u16 0, .int .u32 0]) (ty := 39) (ln := none) (L1 := fun b75 => [(3, ⟨[.int .u16 0, .int .u32 0], ty3, true⟩), (b75, ⟨[.int .u16 0, .int .u32 0], 39, false⟩)]) h74 rfl rfl rfl rfl (by kernel_rfl) (fun _ => rfl) fun b75 w76 a77 h78 hf79 hn80 => ?_
      refine ⟨(keepCons (kpM h74.inv.1 (l := .m) trivial (List.mem_cons_self ..) hf79) (keepCons (kpM h74.inv.1 (l := (.rr (topUp a 8).toNat)) (show _ < 8 by omega) (by rw [hrF]; simp) hf79) keepNil)), ?_⟩
      clear h74
      refine wpAnyK_one (i := 20) (fuel := 0) (by kernel_rfl) ?_
      refine op_store tabOk2 {k := 1} (L' := [(3, ⟨[.int .u16 0, .int .u32 0], ty3, true⟩), (b75, ⟨[.int .u16 ((Z.ky y).idx), .int .u32 ((Z.ky y).gen)], 39, false⟩)]) (φ := b75 = b75 ∧ Nat.ble (0 + 2) 2 = true) h78 rfl rfl rfl (by kernel_rfl) ⟨rfl, rfl⟩ fun w81 h82 => ?_
      refine ⟨keepNil, ?_⟩
      clear h78
      refine wpAnyK_done (by kernel_rfl) ?_ _
      refine hK62 _ _ ?_
      clear hK62
      refine wp_seq_k fun K83 hK83 => ?_
      refine nd_start (l := [0, 1, 2]) rfl ?_
      refine nd_batch tabOk2 tabZ_ok2 [(0, {}), (1, {k := 1})] [6, 0, 1, 4, 76, 77] (T' := [(6, .pointer (some ⟨b75, 0, none⟩)), (0, .pointer (some ⟨mb, 0, none⟩)), (1, .int .u32 pick), (4, .int .i64 (topUp a 8)), (76, .pointer (some ⟨mb, 0, none⟩)), (77, .agg #[.int .u16 ((Z.ky y).idx), .int .u32 ((Z.ky y).gen)])]) (φ := (b75 = b75 ∧ Nat.ble (0 + 2) 2 = true) ∧ True) (rest := [2]) h82 (by kernel_rfl) rfl ⟨⟨rfl, rfl⟩, trivial⟩ fun a84 h85 => ?_
      clear h82
      refine nd_op ?_
      refine op_call h85 rfl rfl rfl (callOk Tryd.func87 (by decide) rfl) (args := [.pointer (some ⟨mb, 0, none⟩), .agg #[.int .u16 ((Z.ky y).idx), .int .u32 ((Z.ky y).gen)]]) rfl (idle_ok mb Z _ a _ y hy hP _ (mh_of h85 hho (k := 0) rfl)) ?_
      rintro _ w86 ⟨rfl, R87, hg88⟩
      refine ⟨_, rfl, ?_⟩
      have h89a := st_mg h85 hg88 (kcons (fun _ => rfl) (kcons (fun hq => by cases hq) knil))
      have h89 := h89a.put (d := some 78) (v := .tuple #[]) (T' := [(78, .tuple #[]), (6, .pointer (some ⟨b75, 0, none⟩)), (0, .pointer (some ⟨mb, 0, none⟩)), (1, .int .u32 pick), (4, .int .i64 (topUp a 8)), (76, .pointer (some ⟨mb, 0, none⟩)), (77, .agg #[.int .u16 ((Z.ky y).idx), .int .u32 ((Z.ky y).gen)])]) rfl
      have hhoh89 := hg88.mh.ho
      obtain ⟨a90, ea90⟩ : ∃ z : AK, z = leaveA a y := ⟨_, rfl⟩
      rw [← ea90] at h89
      clear h85 h89a
      have ht91 : a90.th y = { a.th y with st := 0, wait := ⟨0, 0⟩ } := by rw [ea90, leave_th]
      have hP92 : MP Z a90 := by rw [ea90]; exact MP.leave hP hkk hy
      refine nd_done ?_
      refine hK83 _ _ ?_
      clear hK83
      refine wp_seq_k fun K93 hK93 => ?_
      refine dr_start (KB := [3, b75, mb, Z.tb]) (Bi := [[0, 1, 2, 3], [0, 1, 2, 3], [0, 1, 2, 3], [0, 1, 2, 3], [0, 1, 2, 3], [0, 1, 2, 3], [0, 1, 2, 3], [0, 1, 2, 3], []]) mixed h89 fun w94 h95 => ?_
      clear h89
      refine dr_batch tabOk2 tabZ_ok2 (by repeat (first | with_reducible exact PF.body | with_reducible apply PF.inB | with_reducible apply PF.next)) [(0, {}), (1, {}), (2, {})] [6, 0, 1, 4, 81] (T' := [(6, .pointer (some ⟨b75, 0, none⟩)), (0, .pointer (some ⟨mb, 0, none⟩)), (1, .int .u32 pick), (4, .int .i64 (topUp a 8)), (81, .pointer (some ⟨mb, 2, none⟩))]) (φ := True) (fuel := 6) h95 (by kernel_rfl) rfl (by kernel_rfl) (by kernel_rfl) ⟨trivial, trivial, trivial, trivial⟩ trivial fun a97 h98 => ?_
      clear h95
      refine dr_read (i := 3) (b := mb) (p := 2) (v := .map (some Z.tb)) (fuel := 5) (by repeat (first | with_reducible exact PF.body | with_reducible apply PF.inB | with_reducible apply PF.next)) h98 rfl rfl rfl (by kernel_rfl) (by kernel_rfl) (by kernel_rfl) rfl (rd_m h98 (k := 2) (v := .map (some Z.tb)) rfl rfl rfl rfl (md_p ⟨rfl, trivial⟩)) ?_
      have h99 := h98.put (d := some 82) (v := .map (some Z.tb)) (T' := [(82, .map (some Z.tb)), (6, .pointer (some ⟨b75, 0, none⟩)), (0, .pointer (some ⟨mb, 0, none⟩)), (1, .int .u32 pick), (4, .int .i64 (topUp a 8)), (81, .pointer (some ⟨mb, 2, none⟩))]) rfl
      clear h98
      refine dr_batch tabOk2 tabZ_ok2 (by repeat (first | with_reducible exact PF.body | with_reducible apply PF.inB | with_reducible apply PF.next)) [(4, {k := 1, p := 1})] [82, 6, 0, 1, 4, 83] (T' := [(82, .map (some Z.tb)), (6, .pointer (some ⟨b75, 0, none⟩)), (0, .pointer (some ⟨mb, 0, none⟩)), (1, .int .u32 pick), (4, .int .i64 (topUp a 8)), (83, .agg #[.int .u16 ((Z.ky y).idx), .int .u32 ((Z.ky y).gen)])]) (φ := (b75 = b75 ∧ Nat.ble (0 + 2) 2 = true) ∧ True) (fuel := 4) h99 (by kernel_rfl) rfl (by kernel_rfl) (by kernel_rfl) ⟨rfl, trivial⟩ ⟨⟨rfl, rfl⟩, trivial⟩ fun a100 h101 => ?_
      clear h99
      refine dr_read (i := 5) (b := Z.tb) (p := 3) (v := .pointer (some ⟨(Z.tp y), 0, none⟩)) (fuel := 3) (by repeat (first | with_reducible exact PF.body | with_reducible apply PF.inB | with_reducible apply PF.next)) h101 rfl rfl rfl (by kernel_rfl) (by kernel_rfl) (by kernel_rfl) rfl (rd_T h101 (x := y) hy rfl rfl rfl) ?_
      have h102 := h101.put (d := some 84) (v := .pointer (some ⟨(Z.tp y), 0, none⟩)) (T' := [(84, .pointer (some ⟨(Z.tp y), 0, none⟩)), (82, .map (some Z.tb)), (6, .pointer (some ⟨b75, 0, none⟩)), (0, .pointer (some ⟨mb, 0, none⟩)), (1, .int .u32 pick), (4, .int .i64 (topUp a 8)), (83, .agg #[.int .u16 ((Z.ky y).idx), .int .u32 ((Z.ky y).gen)])]) rfl
      clear h101
      refine dr_batch tabOk2 tabZ_ok2 (by repeat (first | with_reducible exact PF.body | with_reducible apply PF.inB | with_reducible apply PF.next)) [(6, {}), (7, {})] [6, 0, 1, 4, 86] (T' := [(6, .pointer (some ⟨b75, 0, none⟩)), (0, .pointer (some ⟨mb, 0, none⟩)), (1, .int .u32 pick), (4, .int .i64 (topUp a 8)), (86, .pointer (some ⟨(Z.tp y), 0, none⟩))]) (φ := True) (fuel := 1) h102 (by kernel_rfl) rfl (by kernel_rfl) (by kernel_rfl) ⟨trivial, trivial, trivial⟩ trivial fun a103 h104 => ?_
      clear h102
      refine wpAnyK_one (i := 8) (fuel := 0) (by kernel_rfl) ?_
      refine op_mTh (x := y) (off := 0) (v := .int .u8 2) (y := { a.th y with st := 2, wait := ⟨0, 0⟩ }) h104 rfl rfl rfl rfl rfl rfl rfl rfl rfl hy rfl (by rw [ht91]; rfl) (kcons (fun _ => rfl) (kcons (fun hq => by cases hq) knil)) fun w105 hf106 h107 => ?_
      obtain ⟨a108, ea108⟩ : ∃ z : AK, z = a90.setT y { a.th y with st := 2, wait := ⟨0, 0⟩ } := ⟨_, rfl⟩
      rw [← ea108] at h107
      refine ⟨keepNil, ?_⟩
      clear h104
      have ht109 : a108.th y = { a.th y with st := 2, wait := ⟨0, 0⟩ } := by rw [ea108]; exact upd_same _ _ _
      refine wpAnyK_done (by kernel_rfl) ?_ _
      refine hK93 _ _ ?_
      clear hK93
      refine nd_start (l := [0, 1, 2, 3, 4]) rfl ?_
      refine nd_batch tabOk2 tabZ_ok2 [(0, {}), (1, {k := 1}), (2, {}), (3, {})] [6, 0, 1, 4, 88, 90] (T' := [(6, .pointer (some ⟨b75, 0, none⟩)), (0, .pointer (some ⟨mb, 0, none⟩)), (1, .int .u32 pick), (4, .int .i64 (topUp a 8)), (88, .agg #[.int .u16 ((Z.ky y).idx), .int .u32 ((Z.ky y).gen)]), (90, .pointer (some ⟨mb, 13, none⟩))]) (φ := (b75 = b75 ∧ Nat.ble (0 + 2) 2 = true) ∧ True) (rest := [4]) h107 (by kernel_rfl) rfl ⟨⟨rfl, rfl⟩, trivial⟩ fun a111 h112 => ?_
      clear h107
      refine nd_op ?_
      refine op_mM (off := 13) (v := .agg #[.int .u16 ((Z.ky y).idx), .int .u32 ((Z.ky y).gen)]) (a' := { a108 with cur := ((y : Nat) : Int) }) h112 rfl rfl rfl rfl rfl rfl rfl rfl rfl (by show 13 + 2 ≤ 80; omega) (md_cur_w (r := (Z.ky y)) (c := ((y : Nat) : Int)) curR_set) rfl rfl rfl (kcons (fun _ => rfl) (kcons (fun hq => by cases hq) knil)) fun w113 hf114 h115 => ?_
      obtain ⟨a116, ea116⟩ : ∃ z : AK, z = { a108 with cur := ((y : Nat) : Int) } := ⟨_, rfl⟩
      rw [← ea116] at h115
      clear h112
      have ht117 : a116.th y = { a.th y with st := 2, wait := ⟨0, 0⟩ } := by rw [ea116] <;> exact ht109
      refine nd_done ?_
      try simp only [Exit.then, Exit.inBlock]
      try rw [if_pos trivial]
      exact s_end tabOk2 tabZ_ok2 h115 [] (vs := []) (φ := True) rfl (by kernel_rfl) trivial ⟨rfl, _, mg_end hH h115 hhoh89 (by rw [show schedA a pick = pickA a (topUp a 8) pick by unfold schedA; rw [if_neg (fun q => q hc0), if_neg (by omega)]]; show _ = pickA a (topUp a 8) pick; unfold pickA; rw [hno]; subst ea116 ea108 ea90; rw [leave_th])⟩

theorem chooseC (mb : Nat) (Z : MZ) (R : MR) (a : AK) (C : CP) (pick : Int) (hpk : 0 ≤ pick ∧ pick < 4294967296) (hP : MP Z a) (x : Nat) (hx : x ∈ sl Z.tl) (hcu : a.cur = (x : Int)) (w : World) (hH : MH mb Z R a C w) :
    Calls Tryd.prog 56 #[.pointer (some ⟨mb, 0, none⟩), .int .u32 pick] w fun e w' => e = .returned (.tuple #[]) ∧ ∃ R', MG mb Z R C w Z R' (schedA a pick) C w' := by
  have hcx : curR Z a = Z.ky x := by unfold curR; rw [if_neg (by omega), hcu, Int.toNat_natCast]
  have hcn : a.cur.toNat = x := by rw [hcu]; exact Int.toNat_natCast x
  have hpr := hP.pr x hx
  obtain ⟨ty3, hg3⟩ := hH.g3
  have hho := hH.ho
  have hkk := hH.md.k
  refine enter (n := 91) (K := mdF mb Z R C) (A := MD (mdF mb Z R C) w.heap.size mb Z R a C) (F := mdF mb Z R C) (T := [(0, .pointer (some ⟨mb, 0, none⟩)), (1, .int .u32 pick)]) (L := [(3, ⟨[.int .u16 0, .int .u32 0], ty3, true⟩)]) (args := [.pointer (some ⟨mb, 0, none⟩), .int .u32 pick]) Tryd.func56 rfl rfl rfl rfl (kcons hg3 knil) (by simp) (kcons (by intro hq; cases hq) knil) hH.mD MD.stable hH.md.low (kcons (by intro hq; cases hq) knil) ?_
  intro ac h
  refine wp_seq_k fun K1 hK1 => ?_
  refine nd_start (l := [0]) rfl ?_
  refine nd_batch tabOk2 tabZ_ok2 [(0, {})] [0, 1, 4] (T' := [(0, .pointer (some ⟨mb, 0, none⟩)), (1, .int .u32 pick), (4, .int .i64 (-1))]) (φ := True) (rest := []) h (by kernel_rfl) rfl trivial fun a2 h3 => ?_
  clear h
  refine nd_done ?_
  refine hK1 _ _ ?_
  clear hK1
  refine wp_seq_k fun K4 hK4 => ?_
  refine wp_seq_k fun K5 hK5 => ?_
  refine nd_start (l := [0]) rfl ?_
  refine nd_batch tabOk2 tabZ_ok2 [(0, {})] [0, 1, 4, 7] (T' := [(0, .pointer (some ⟨mb, 0, none⟩)), (1, .int .u32 pick), (4, .int .i64 (-1)), (7, .int .i64 0)]) (φ := True) (rest := []) h3 (by kernel_rfl) rfl trivial fun a6 h7 => ?_
  clear h3
  refine nd_done ?_
  refine hK5 _ _ ?_
  clear hK5
  refine wp_block ?_
  refine wp_loop_ghost (fun g ga gw => ∃ (t : Int) (m : Nat), (g = 8 - m) ∧ (m ≤ 8) ∧ (t = topUp a m) ∧ St (MCx 91 (mdF mb Z R C) w mb Z R a C) [(0, .pointer (some ⟨mb, 0, none⟩)), (1, .int .u32 pick), (4, .int .i64 t), (7, .int .i64 ((m : Nat) : Int))] [(3, ⟨[.int .u16 0, .int .u32 0], ty3, true⟩)] ga gw) 8 ⟨(-1), 0, by omega, by omega, rfl, (h7.slotsMono (restr_spec (keep := [0, 1, 4, 7]) rfl))⟩ ?_
  clear h7
  rintro g a8 w9 ⟨t, m, hi11, hi12, hi13, h10⟩
  have hig := hi11
  have hm8 := hi12
  have htm := hi13
  have htr := topUp_rng a m
  have htu : topUp a (m + 1) = if a.q (.r m) ≠ [] then (m : Int) else topUp a m := rfl
  refine wp_seq_k fun K14 hK14 => ?_
  refine nd_start (l := [0]) rfl ?_
  refine nd_batch tabOk2 tabZ_ok2 [(0, {})] [0, 1, 4, 7, 8] (T' := [(0, .pointer (some ⟨mb, 0, none⟩)), (1, .int .u32 pick), (4, .int .i64 t), (7, .int .i64 ((m : Nat) : Int)), (8, .bool (decide (((m : Nat) : Int) < 8)))]) (φ := True) (rest := []) h10 (by kernel_rfl) rfl trivial fun a15 h16 => ?_
  clear h10
  refine nd_done ?_
  refine hK14 _ _ ?_
  clear hK14
  refine wp_seq_k fun K17 hK17 => ?_
  refine c_split h16 (b := decide (((m : Nat) : Int) < 8)) rfl (fun hc18 => ?_) (fun hc18 => ?_)
  ·
    have hc18f : ((m : Nat) : Int) < 8 := by simpa using hc18
    refine wp_skip ?_
    refine hK17 _ _ ?_
    clear hK17
    refine wp_seq_k fun K19 hK19 => ?_
    refine wp_block ?_
    refine wp_seq_k fun K20 hK20 => ?_
    refine nd_start (l := [0, 1]) rfl ?_
    refine nd_batch tabOk2 tabZ_ok2 [(0, {}), (1, {})] [0, 1, 4, 7, 5] (T' := [(0, .pointer (some ⟨mb, 0, none⟩)), (1, .int .u32 pick), (4, .int .i64 t), (7, .int .i64 ((m : Nat) : Int)), (5, .int .i64 ((m : Nat) : Int))]) (φ := True) (rest := []) h16 (by kernel_rfl) rfl trivial fun a21 h22 => ?_
    clear h16
    refine nd_done ?_
    refine hK20 _ _ ?_
    clear hK20
    refine wp_seq_k fun K23 hK23 => ?_
    refine nd_start (l := [0, 1, 2, 3, 4, 5, 6, 7]) rfl ?_
    refine nd_batch tabOk2 tabZ_ok2 [(0, {}), (1, {}), (2, {}), (3, {}), (4, {})] [0, 1, 4, 7, 5, 14] (T' := [(0, .pointer (some ⟨mb, 0, none⟩)), (1, .int .u32 pick), (4, .int .i64 t), (7, .int .i64 ((m : Nat) : Int)), (5, .int .i64 ((m : Nat) : Int)), (14, .pointer (some ⟨mb, 5 + (m * 1), none⟩))]) (φ := (0 ≤ ((m : Nat) : Int) ∧ ((m : Nat) : Int) < 8) ∧ True) (rest := [5, 6, 7]) h22 (by kernel_rfl) rfl ⟨⟨by omega, by omega⟩, trivial⟩ fun a24 h25 => ?_
    clear h22
    refine nd_op ?_
    refine op_read (b := mb) (v := .slice (R.ro m) ((kys Z (a.q (.r m))).length) (R.rk m)) h25 rfl rfl (rd_m h25 (k := 5 + (m * 1)) (v := .slice (R.ro m) ((kys Z (a.q (.r m))).length) (R.rk m)) rfl rfl rfl rfl (md_r (p := m) (by omega) (by omega))) ?_
    have h26 := h25.put (d := some 15) (v := .slice (R.ro m) ((kys Z (a.q (.r m))).length) (R.rk m)) (T' := [(15, .slice (R.ro m) ((kys Z (a.q (.r m))).length) (R.rk m)), (0, .pointer (some ⟨mb, 0, none⟩)), (1, .int .u32 pick), (4, .int .i64 t), (7, .int .i64 ((m : Nat) : Int)), (5, .int .i64 ((m : Nat) : Int)), (14, .pointer (some ⟨mb, 5 + (m * 1), none⟩))]) rfl
    clear h25
    refine nd_batch tabOk2 tabZ_ok2 [(6, {}), (7, {})] [0, 1, 4, 7, 5, 17] (T' := [(0, .pointer (some ⟨mb, 0, none⟩)), (1, .int .u32 pick), (4, .int .i64 t), (7, .int .i64 ((m : Nat) : Int)), (5, .int .i64 ((m : Nat) : Int)), (17, .bool (decide ((((kys Z (a.q (.r m))).length : Nat) : Int) > 0)))]) (φ := True) (rest := []) h26 (by kernel_rfl) rfl trivial fun a27 h28 => ?_
    clear h26
    refine nd_done ?_
    refine hK23 _ _ ?_
    clear hK23
    refine c_split h28 (b := decide ((((kys Z (a.q (.r m))).length : Nat) : Int) > 0)) rfl (fun hc29 => ?_) (fun hc29 => ?_)
    ·
      have hc29f : (((kys Z (a.q (.r m))).length : Nat) : Int) > 0 := by simpa using hc29
      rw [if_pos (fun hq => by rw [hq] at hc29f; simp [kys] at hc29f)] at htu
      refine nd_start (l := [0, 1]) rfl ?_
      refine nd_batch tabOk2 tabZ_ok2 [(0, {}), (1, {})] [0, 1, 7, 5, 4] (T' := [(0, .pointer (some ⟨mb, 0, none⟩)), (1, .int .u32 pick), (7, .int .i64 ((m : Nat) : Int)), (5, .int .i64 ((m : Nat) : Int)), (4, .int .i64 ((m : Nat) : Int))]) (φ := True) (rest := []) h28 (by kernel_rfl) rfl trivial fun a30 h31 => ?_
      clear h28
      refine nd_done ?_
      refine hK19 _ _ ?_
      clear hK19
      refine nd_start (l := [0, 1]) rfl ?_
      refine nd_batch tabOk2 tabZ_ok2 [(0, {}), (1, {})] [0, 1, 5, 4, 7] (T' := [(0, .pointer (some ⟨mb, 0, none⟩)), (1, .int .u32 pick), (5, .int .i64 ((m : Nat) : Int)), (4, .int .i64 ((m : Nat) : Int)), (7, .int .i64 (((m : Nat) : Int) + 1))]) (φ := inR .i64 (((m : Nat) : Int) + 1) ∧ True) (rest := []) h31 (by kernel_rfl) rfl ⟨⟨by omega, by omega⟩, trivial⟩ fun a32 h33 => ?_
      clear h31
      refine nd_done ?_
      exact ⟨(g - 1), by omega, ((m : Nat) : Int), (m + 1), by omega, by omega, (by rw [htu]), (h33.slotsMono (restr_spec (keep := [0, 1, 4, 7]) rfl))⟩
    ·
      have hc29f : ¬ (((kys Z (a.q (.r m))).length : Nat) : Int) > 0 := by simpa using hc29
      rw [if_neg (fun hq => hc29f (by have := List.length_pos_iff.2 hq; rw [kys_len]; omega))] at htu
      refine wp_skip ?_
      refine hK19 _ _ ?_
      clear hK19
      refine nd_start (l := [0, 1]) rfl ?_
      refine nd_batch tabOk2 tabZ_ok2 [(0, {}), (1, {})] [0, 1, 4, 5, 7] (T' := [(0, .pointer (some ⟨mb, 0, none⟩)), (1, .int .u32 pick), (4, .int .i64 t), (5, .int .i64 ((m : Nat) : Int)), (7, .int .i64 (((m : Nat) : Int) + 1))]) (φ := inR .i64 (((m : Nat) : Int) + 1) ∧ True) (rest := []) h28 (by kernel_rfl) rfl ⟨⟨by omega, by omega⟩, trivial⟩ fun a34 h35 => ?_
      clear h28
      refine nd_done ?_
      exact ⟨(g - 1), by omega, t, (m + 1), by omega, by omega, (by rw [htu] <;> exact htm), (h35.slotsMono (restr_spec (keep := [0, 1, 4, 7]) rfl))⟩
  ·
    have hc18f : ¬ ((m : Nat) : Int) < 8 := by simpa using hc18
    have hm9 : m = 8 := by omega
    have h36 := h16.slotsMono (restr_spec (keep := [0, 1, 4]) rfl)
    rw [hm9] at htm
    subst htm
    clear h16
    refine wp_exit ?_
    refine hK4 _ _ ?_
    clear hK4
    refine wp_seq_k fun K37 hK37 => ?_
    refine wp_seq_k fun K38 hK38 => ?_
    refine dr_start (KB := [3, mb, Z.tb, (Z.tp x)]) (Bi := [[0, 1, 2, 3], [0, 1, 2, 3], [0, 1, 2, 3], [0, 1, 2, 3], [0, 1, 2, 3], [0, 1, 2, 3], [0, 1, 2, 3], [0, 1, 2, 3], [0, 1, 2, 3], [0, 1, 2, 3], [0, 1, 2, 3], [0, 1, 2, 3], [0, 1, 2, 3], [0, 1, 2, 3], [0, 1, 2, 3], [0, 1, 2, 3], [0, 1, 2, 3], [0, 1, 2, 3], [0, 1, 2, 3], [0, 1, 2, 3], [0, 1, 2, 3], [0, 1, 2, 3], [0, 1, 2, 3]]) mixed h36 fun w39 h40 => ?_
    clear h36
    refine dr_batch tabOk2 tabZ_ok2 (by repeat (first | with_reducible exact PF.body | with_reducible apply PF.inB | with_reducible apply PF.next)) [(0, {}), (1, {}), (2, {})] [0, 1, 4, 22] (T' := [(0, .pointer (some ⟨mb, 0, none⟩)), (1, .int .u32 pick), (4, .int .i64 (topUp a 8)), (22, .pointer (some ⟨mb, 13, none⟩))]) (φ := True) (fuel := 20) h40 (by kernel_rfl) rfl (by kernel_rfl) (by kernel_rfl) ⟨trivial, trivial, trivial, trivial⟩ trivial fun a42 h43 => ?_
    clear h40
    refine dr_read (i := 3) (b := mb) (p := 1) (v := .agg #[.int .u16 ((Z.ky x).idx), .int .u32 ((Z.ky x).gen)]) (fuel := 19) (by repeat (first | with_reducible exact PF.body | with_reducible apply PF.inB | with_reducible apply PF.next)) h43 rfl rfl rfl (by kernel_rfl) (by kernel_rfl) (by kernel_rfl) rfl (rd_mA h43 (k := 13) (vs := [.int .u16 ((Z.ky x).idx), .int .u32 ((Z.ky x).gen)]) rfl rfl rfl rfl rfl (by rw [← hcx]; exact md_cur)) ?_
    have h44 := h43.put (d := some 23) (v := .agg #[.int .u16 ((Z.ky x).idx), .int .u32 ((Z.ky x).gen)]) (T' := [(23, .agg #[.int .u16 ((Z.ky x).idx), .int .u32 ((Z.ky x).gen)]), (0, .pointer (some ⟨mb, 0, none⟩)), (1, .int .u32 pick), (4, .int .i64 (topUp a 8)), (22, .pointer (some ⟨mb, 13, none⟩))]) rfl
    clear h43
    refine dr_batch tabOk2 tabZ_ok2 (by repeat (first | with_reducible exact PF.body | with_reducible apply PF.inB | with_reducible apply PF.next)) [(4, {k := 0, p := 0}), (5, {f := 2}), (6, {}), (7, {}), (8, {}), (9, {}), (10, {})] [0, 1, 4, 26, 27, 30] (T' := [(0, .pointer (some ⟨mb, 0, none⟩)), (1, .int .u32 pick), (4, .int .i64 (topUp a 8)), (26, .bool true), (27, .int .i64 (topUp a 8)), (30, .pointer (some ⟨mb, 2, none⟩))]) (φ := (3 = 3 ∧ Nat.ble (0 + 2) 2 = true) ∧ EqRun Tryd.prog 39 (.agg #[.int .u16 ((Z.ky x).idx), .int .u32 ((Z.ky x).gen)]) (.agg #[.int .u16 0, .int .u32 0]) false ∧ True) (fuel := 12) h44 (by kernel_rfl) rfl (by kernel_rfl) (by kernel_rfl) ⟨rfl, trivial, trivial, trivial, trivial, trivial, trivial, trivial⟩ ⟨⟨rfl, rfl⟩, (by have hq := runRf (Z.ky x) (⟨0, 0⟩ : Rf); rw [show decide (Z.ky x = (⟨0, 0⟩ : Rf)) = false from decide_eq_false (hkk.ne0 (hkk.tx x hx))] at hq; exact hq), trivial⟩ fun a45 h46 => ?_
    clear h44
    refine dr_read (i := 11) (b := mb) (p := 1) (v := .map (some Z.tb)) (fuel := 11) (by repeat (first | with_reducible exact PF.body | with_reducible apply PF.inB | with_reducible apply PF.next)) h46 rfl rfl rfl (by kernel_rfl) (by kernel_rfl) (by kernel_rfl) rfl (rd_m h46 (k := 2) (v := .map (some Z.tb)) rfl rfl rfl rfl (md_p ⟨rfl, trivial⟩)) ?_
    have h47 := h46.put (d := some 31) (v := .map (some Z.tb)) (T' := [(31, .map (some Z.tb)), (0, .pointer (some ⟨mb, 0, none⟩)), (1, .int .u32 pick), (4, .int .i64 (topUp a 8)), (26, .bool true), (27, .int .i64 (topUp a 8)), (30, .pointer (some ⟨mb, 2, none⟩))]) rfl
    clear h46
    refine dr_batch tabOk2 tabZ_ok2 (by repeat (first | with_reducible exact PF.body | with_reducible apply PF.inB | with_reducible apply PF.next)) [(12, {}), (13, {}), (14, {})] [31, 0, 1, 4, 26, 27, 34] (T' := [(31, .map (some Z.tb)), (0, .pointer (some ⟨mb, 0, none⟩)), (1, .int .u32 pick), (4, .int .i64 (topUp a 8)), (26, .bool true), (27, .int .i64 (topUp a 8)), (34, .pointer (some ⟨mb, 13, none⟩))]) (φ := True) (fuel := 8) h47 (by kernel_rfl) rfl (by kernel_rfl) (by kernel_rfl) ⟨trivial, trivial, trivial, trivial⟩ trivial fun a48 h49 => ?_
    clear h47
    refine dr_read (i := 15) (b := mb) (p := 1) (v := .agg #[.int .u16 ((Z.ky x).idx), .int .u32 ((Z.ky x).gen)]) (fuel := 7) (by repeat (first | with_reducible exact PF.body | with_reducible apply PF.inB | with_reducible apply PF.next)) h49 rfl rfl rfl (by kernel_rfl) (by kernel_rfl) (by kernel_rfl) rfl (rd_mA h49 (k := 13) (vs := [.int .u16 ((Z.ky x).idx), .int .u32 ((Z.ky x).gen)]) rfl rfl rfl rfl rfl (by rw [← hcx]; exact md_cur)) ?_
    have h50 := h49.put (d := some 35) (v := .agg #[.int .u16 ((Z.ky x).idx), .int .u32 ((Z.ky x).gen)]) (T' := [(35, .agg #[.int .u16 ((Z.ky x).idx), .int .u32 ((Z.ky x).gen)]), (31, .map (some Z.tb)), (0, .pointer (some ⟨mb, 0, none⟩)), (1, .int .u32 pick), (4, .int .i64 (topUp a 8)), (26, .bool true), (27, .int .i64 (topUp a 8)), (34, .pointer (some ⟨mb, 13, none⟩))]) rfl
    clear h49
    refine dr_read (i := 16) (b := Z.tb) (p := 2) (v := .pointer (some ⟨(Z.tp x), 0, none⟩)) (fuel := 6) (by repeat (first | with_reducible exact PF.body | with_reducible apply PF.inB | with_reducible apply PF.next)) h50 rfl rfl rfl (by kernel_rfl) (by kernel_rfl) (by kernel_rfl) rfl (rd_T h50 (x := x) hx rfl rfl rfl) ?_
    have h51 := h50.put (d := some 36) (v := .pointer (some ⟨(Z.tp x), 0, none⟩)) (T' := [(36, .pointer (some ⟨(Z.tp x), 0, none⟩)), (35, .agg #[.int .u16 ((Z.ky x).idx), .int .u32 ((Z.ky x).gen)]), (31, .map (some Z.tb)), (0, .pointer (some ⟨mb, 0, none⟩)), (1, .int .u32 pick), (4, .int .i64 (topUp a 8)), (26, .bool true), (27, .int .i64 (topUp a 8)), (34, .pointer (some ⟨mb, 13, none⟩))]) rfl
    clear h50
    refine dr_batch tabOk2 tabZ_ok2 (by repeat (first | with_reducible exact PF.body | with_reducible apply PF.inB | with_reducible apply PF.next)) [(17, {}), (18, {})] [0, 1, 4, 26, 27, 38] (T' := [(0, .pointer (some ⟨mb, 0, none⟩)), (1, .int .u32 pick), (4, .int .i64 (topUp a 8)), (26, .bool true), (27, .int .i64 (topUp a 8)), (38, .pointer (some ⟨(Z.tp x), 1, none⟩))]) (φ := True) (fuel := 4) h51 (by kernel_rfl) rfl (by kernel_rfl) (by kernel_rfl) ⟨trivial, trivial, trivial⟩ trivial fun a52 h53 => ?_
    clear h51
    refine dr_read (i := 19) (b := (Z.tp x)) (p := 3) (v := .int .u8 ((a.th x).prio)) (fuel := 3) (by repeat (first | with_reducible exact PF.body | with_reducible apply PF.inB | with_reducible apply PF.next)) h53 rfl rfl rfl (by kernel_rfl) (by kernel_rfl) (by kernel_rfl) rfl (rd_th h53 (x := x) (k := 1) (v := .int .u8 ((a.th x).prio)) hx rfl rfl rfl rfl ⟨rfl, trivial⟩) ?_
    have h54 := h53.put (d := some 39) (v := .int .u8 ((a.th x).prio)) (T' := [(39, .int .u8 ((a.th x).prio)), (0, .pointer (some ⟨mb, 0, none⟩)), (1, .int .u32 pick), (4, .int .i64 (topUp a 8)), (26, .bool true), (27, .int .i64 (topUp a 8)), (38, .pointer (some ⟨(Z.tp x), 1, none⟩))]) rfl
    clear h53
    refine dr_batch tabOk2 tabZ_ok2 (by repeat (first | with_reducible exact PF.body | with_reducible apply PF.inB | with_reducible apply PF.next)) [(20, {}), (21, {}), (22, {})] [0, 1, 4, 42] (T' := [(0, .pointer (some ⟨mb, 0, none⟩)), (1, .int .u32 pick), (4, .int .i64 (topUp a 8)), (42, .bool (decide ((topUp a 8) ≤ (a.th x).prio)))]) (φ := inR .i64 ((a.th x).prio) ∧ True) (fuel := 0) h54 (by kernel_rfl) rfl (by kernel_rfl) (by kernel_rfl) ⟨trivial, trivial, trivial, trivial⟩ ⟨⟨by omega, by omega⟩, trivial⟩ fun a55 h56 => ?_
    clear h54
    refine wpAnyK_done (by kernel_rfl) ?_ _
    refine hK38 _ _ ?_
    clear hK38
    refine c_split h56 (b := decide ((topUp a 8) ≤ (a.th x).prio)) rfl (fun hc57 => ?_) (fun hc57 => ?_)
    ·
      have hc57f : (topUp a 8) ≤ (a.th x).prio := by simpa using hc57
      have hle : topUp a 8 ≤ (a.th x).prio := by simpa using hc57
      refine wp_ret ?_
      try simp only [Exit.then, Exit.inBlock]
      try rw [if_pos trivial]
      exact s_ret tabOk2 tabZ_ok2 h56 [] (vs := []) (φ := True) rfl (by kernel_rfl) trivial ⟨rfl, _, mg_end hH h56 hho (by unfold schedA; rw [if_pos (by omega), hcn, if_pos hle])⟩
    ·
      have hc57f : ¬ (topUp a 8) ≤ (a.th x).prio := by simpa using hc57
      have hle : ¬ topUp a 8 ≤ (a.th x).prio := by simpa using hc57
      refine wp_skip ?_
      refine hK37 _ _ ?_
      clear hK37
      refine wp_seq_k fun K58 hK58 => ?_
      refine wp_seq_k fun K59 hK59 => ?_
      refine dr_start (KB := [3, mb]) (Bi := [[0, 1], [0, 1], [0, 1], [0, 1], [0, 1], [0, 1]]) mixed h56 fun w60 h61 => ?_
      clear h56
      refine dr_batch tabOk2 tabZ_ok2 (by repeat (first | with_reducible exact PF.body | with_reducible apply PF.inB | with_reducible apply PF.next)) [(0, {}), (1, {}), (2, {})] [0, 1, 4, 45] (T' := [(0, .pointer (some ⟨mb, 0, none⟩)), (1, .int .u32 pick), (4, .int .i64 (topUp a 8)), (45, .pointer (some ⟨mb, 13, none⟩))]) (φ := True) (fuel := 3) h61 (by kernel_rfl) rfl (by kernel_rfl) (by kernel_rfl) ⟨trivial, trivial, trivial, trivial⟩ trivial fun a63 h64 => ?_
      clear h61
      refine dr_read (i := 3) (b := mb) (p := 1) (v := .agg #[.int .u16 ((Z.ky x).idx), .int .u32 ((Z.ky x).gen)]) (fuel := 2) (by repeat (first | with_reducible exact PF.body | with_reducible apply PF.inB | with_reducible apply PF.next)) h64 rfl rfl rfl (by kernel_rfl) (by kernel_rfl) (by kernel_rfl) rfl (rd_mA h64 (k := 13) (vs := [.int .u16 ((Z.ky x).idx), .int .u32 ((Z.ky x).gen)]) rfl rfl rfl rfl rfl (by rw [← hcx]; exact md_cur)) ?_
      have h65 := h64.put (d := some 46) (v := .agg #[.int .u16 ((Z.ky x).idx), .int .u32 ((Z.ky x).gen)]) (T' := [(46, .agg #[.int .u16 ((Z.ky x).idx), .int .u32 ((Z.ky x).gen)]), (0, .pointer (some ⟨mb, 0, none⟩)), (1, .int .u32 pick), (4, .int .i64 (topUp a 8)), (45, .pointer (some ⟨mb, 13, none⟩))]) rfl
      clear h64
      refine dr_batch tabOk2 tabZ_ok2 (by repeat (first | with_reducible exact PF.body | with_reducible apply PF.inB | with_reducible apply PF.next)) [(4, {k := 0, p := 0}), (5, {f := 2})] [0, 1, 4, 48] (T' := [(0, .pointer (some ⟨mb, 0, none⟩)), (1, .int .u32 pick), (4, .int .i64 (topUp a 8)), (48, .bool true)]) (φ := (3 = 3 ∧ Nat.ble (0 + 2) 2 = true) ∧ EqRun Tryd.prog 39 (.agg #[.int .u16 ((Z.ky x).idx), .int .u32 ((Z.ky x).gen)]) (.agg #[.int .u16 0, .int .u32 0]) false ∧ True) (fuel := 0) h65 (by kernel_rfl) rfl (by kernel_rfl) (by kernel_rfl) ⟨rfl, trivial, trivial⟩ ⟨⟨rfl, rfl⟩, (by have hq := runRf (Z.ky x) (⟨0, 0⟩ : Rf); rw [show decide (Z.ky x = (⟨0, 0⟩ : Rf)) = false from decide_eq_false (hkk.ne0 (hkk.tx x hx))] at hq; exact hq), trivial⟩ fun a66 h67 => ?_
      clear h65
      refine wpAnyK_done (by kernel_rfl) ?_ _
      refine hK59 _ _ ?_
      clear hK59
      refine c_true h67 rfl ?_
      refine nd_start (l := [0, 1, 2, 3, 4, 5]) rfl ?_
      refine nd_batch tabOk2 tabZ_ok2 [(0, {}), (1, {}), (2, {}), (3, {})] [0, 1, 4, 49, 52] (T' := [(0, .pointer (some ⟨mb, 0, none⟩)), (1, .int .u32 pick), (4, .int .i64 (topUp a 8)), (49, .pointer (some ⟨mb, 0, none⟩)), (52, .pointer (some ⟨mb, 13, none⟩))]) (φ := True) (rest := [4, 5]) h67 (by kernel_rfl) rfl trivial fun a68 h69 => ?_
      clear h67
      refine nd_op ?_
      refine op_read (b := mb) (v := .agg #[.int .u16 ((Z.ky x).idx), .int .u32 ((Z.ky x).gen)]) h69 rfl rfl (rd_mA h69 (k := 13) (vs := [.int .u16 ((Z.ky x).idx), .int .u32 ((Z.ky x).gen)]) rfl rfl rfl rfl rfl (by rw [← hcx]; exact md_cur)) ?_
      have h70 := h69.put (d := some 53) (v := .agg #[.int .u16 ((Z.ky x).idx), .int .u32 ((Z.ky x).gen)]) (T' := [(53, .agg #[.int .u16 ((Z.ky x).idx), .int .u32 ((Z.ky x).gen)]), (0, .pointer (some ⟨mb, 0, none⟩)), (1, .int .u32 pick), (4, .int .i64 (topUp a 8)), (49, .pointer (some ⟨mb, 0, none⟩)), (52, .pointer (some ⟨mb, 13, none⟩))]) rfl
      clear h69
      refine nd_op ?_
      refine op_call h70 rfl rfl rfl (callOk Tryd.func52 (by decide) rfl) (args := [.pointer (some ⟨mb, 0, none⟩), .agg #[.int .u16 ((Z.ky x).idx), .int .u32 ((Z.ky x).gen)]]) rfl (mready_ok mb Z _ a _ x hx hP _ (mh_of h70 hho (k := 0) rfl)) ?_
      rintro _ w71 ⟨rfl, R72, hg73⟩
      refine ⟨_, rfl, ?_⟩
      have h74a := st_mg h70 hg73 (kcons (fun _ => rfl) knil)
      have h74 := h74a.put (d := some 54) (v := .tuple #[]) (T' := [(54, .tuple #[]), (53, .agg #[.int .u16 ((Z.ky x).idx), .int .u32 ((Z.ky x).gen)]), (0, .pointer (some ⟨mb, 0, none⟩)), (1, .int .u32 pick), (4, .int .i64 (topUp a 8)), (49, .pointer (some ⟨mb, 0, none⟩)), (52, .pointer (some ⟨mb, 13, none⟩))]) rfl
      have hhoh74 := hg73.mh.ho
      obtain ⟨a75, ea75⟩ : ∃ z : AK, z = wakeA a x := ⟨_, rfl⟩
      rw [← ea75] at h74
      clear h70 h74a
      have ht76 : a75.th x = { a.th x with st := 1, wait := ⟨0, 0⟩ } := by rw [ea75, wake_th]
      have hP77 : MP Z a75 := by rw [ea75]; exact MP.wake hP hkk hx
      refine nd_done ?_
      refine hK58 _ _ ?_
      clear hK58
      refine wp_seq_k fun K78 hK78 => ?_
      refine wp_seq_k fun K79 hK79 => ?_
      refine nd_start (l := [0, 1]) rfl ?_
      refine nd_batch tabOk2 tabZ_ok2 [(0, {}), (1, {})] [0, 1, 4, 56] (T' := [(0, .pointer (some ⟨mb, 0, none⟩)), (1, .int .u32 pick), (4, .int .i64 (topUp a 8)), (56, .bool ((topUp a 8) == -1))]) (φ := True) (rest := []) h74 (by kernel_rfl) rfl trivial fun a80 h81 => ?_
      clear h74
      refine nd_done ?_
      refine hK79 _ _ ?_
      clear hK79
      refine c_split h81 (b := ((topUp a 8) == -1)) rfl (fun hc82 => ?_) (fun hc82 => ?_)
      ·
        have hc82f : (topUp a 8) = -1 := by simpa using hc82
        refine wp_ret ?_
        try simp only [Exit.then, Exit.inBlock]
        try rw [if_pos trivial]
        exact s_ret tabOk2 tabZ_ok2 h81 [] (vs := []) (φ := True) rfl (by kernel_rfl) trivial ⟨rfl, _, mg_end hH h81 hhoh74 (by exfalso; omega)⟩
      ·
        have hc82f : (topUp a 8) ≠ -1 := by simpa using hc82
        have ht8 : 0 ≤ topUp a 8 ∧ topUp a 8 < 8 := by have := topUp_rng a 8; omega
        have hne9 : a75.q (.r (topUp a 8).toNat) ≠ [] := by rw [ea75]; exact wake_ne hP hx hle (topUp_ne (by omega))
        obtain ⟨y, hky, hno, hyq⟩ := pick_of (Z := Z) (top := topUp a 8) hpk.1 hne9
        have hy := (hP77.mq (.r (topUp a 8).toNat) (show _ < 8 by omega) y hyq).1
        have hkl : 0 < (kys Z (a75.q (.r (topUp a 8).toNat))).length := by rw [kys_len]; exact List.length_pos_iff.2 hne9
        have hkl2 : (kys Z (a75.q (.r (topUp a 8).toNat))).length ≤ 256 := hP77.klen hkk (show _ < 8 by omega)
        have hmod := Int.emod_lt_of_pos pick (show (0 : Int) < ((kys Z (a75.q (.r (topUp a 8).toNat))).length : Int) by omega)
        have hmod2 := Int.emod_nonneg pick (show ((kys Z (a75.q (.r (topUp a 8).toNat))).length : Int) ≠ 0 by omega)
        obtain ⟨rb, hrb, hrF⟩ := rrow_blk h81.inv.1 (p := (topUp a 8).toNat) (by omega) hhoh74 hky
        refine wp_skip ?_
        refine hK78 _ _ ?_
        clear hK78
        refine wp_seq_k fun K83 hK83 => ?_
        refine dr_start (KB := [3, mb, rb]) (Bi := [[0, 1, 2], [0, 1, 2], [0, 1, 2], [0, 1, 2], [0, 1, 2], [0, 1, 2], [0, 1, 2], [0, 1, 2], [0, 1, 2], [0, 1, 2], [0, 1, 2], [0, 1, 2], [0, 1, 2], [0, 1, 2], [0, 1, 2], [0, 1, 2], [0, 1, 2], [0, 1, 2], [0, 1, 2], [1, 2], []]) mixed h81 fun w84 h85 => ?_
        clear h81
        refine dr_batch tabOk2 tabZ_ok2 (by repeat (first | with_reducible exact PF.body | with_reducible apply PF.inB | with_reducible apply PF.next)) [(0, {}), (1, {}), (2, {}), (3, {}), (4, {})] [0, 1, 4, 61] (T' := [(0, .pointer (some ⟨mb, 0, none⟩)), (1, .int .u32 pick), (4, .int .i64 (topUp a 8)), (61, .pointer (some ⟨mb, 5 + (((topUp a 8).toNat) * 1), none⟩))]) (φ := (0 ≤ (topUp a 8) ∧ (topUp a 8) < 8) ∧ True) (fuel := 16) h85 (by kernel_rfl) rfl (by kernel_rfl) (by kernel_rfl) ⟨trivial, trivial, trivial, trivial, trivial, trivial⟩ ⟨⟨by omega, by omega⟩, trivial⟩ fun a87 h88 => ?_
        clear h85
        refine dr_read (i := 5) (b := mb) (p := 1) (v := .slice (some ⟨rb, 0, none⟩) ((kys Z (a75.q (.r ((topUp a 8).toNat)))).length) (R72.rk ((topUp a 8).toNat))) (fuel := 15) (by repeat (first | with_reducible exact PF.body | with_reducible apply PF.inB | with_reducible apply PF.next)) h88 rfl rfl rfl (by kernel_rfl) (by kernel_rfl) (by kernel_rfl) rfl (by rw [← hrb]; exact (rd_m h88 (k := 5 + (((topUp a 8).toNat) * 1)) (v := .slice (R72.ro ((topUp a 8).toNat)) ((kys Z (a75.q (.r ((topUp a 8).toNat)))).length) (R72.rk ((topUp a 8).toNat))) rfl rfl rfl rfl (md_r (p := ((topUp a 8).toNat)) (by omega) (by omega)))) ?_
        have h89 := h88.put (d := some 62) (v := .slice (some ⟨rb, 0, none⟩) ((kys Z (a75.q (.r ((topUp a 8).toNat)))).length) (R72.rk ((topUp a 8).toNat))) (T' := [(62, .slice (some ⟨rb, 0, none⟩) ((kys Z (a75.q (.r ((topUp a 8).toNat)))).length) (R72.rk ((topUp a 8).toNat))), (0, .pointer (some ⟨mb, 0, none⟩)), (1, .int .u32 pick), (4, .int .i64 (topUp a 8)), (61, .pointer (some ⟨mb, 5 + (((topUp a 8).toNat) * 1), none⟩))]) rfl
        clear h88
        refine dr_batch tabOk2 tabZ_ok2 (by repeat (first | with_reducible exact PF.body | with_reducible apply PF.inB | with_reducible apply PF.next)) [(6, {}), (7, {}), (8, {}), (9, {}), (10, {}), (11, {}), (12, {})] [62, 0, 1, 4, 64, 69] (T' := [(62, .slice (some ⟨rb, 0, none⟩) ((kys Z (a75.q (.r ((topUp a 8).toNat)))).length) (R72.rk ((topUp a 8).toNat))), (0, .pointer (some ⟨mb, 0, none⟩)), (1, .int .u32 pick), (4, .int .i64 (topUp a 8)), (64, .int .u64 pick), (69, .pointer (some ⟨mb, 5 + (((topUp a 8).toNat) * 1), none⟩))]) (φ := inR .u64 pick ∧ (0 ≤ (topUp a 8) ∧ (topUp a 8) < 8) ∧ True) (fuel := 8) h89 (by kernel_rfl) rfl (by kernel_rfl) (by kernel_rfl) ⟨trivial, trivial, trivial, trivial, trivial, trivial, trivial, trivial⟩ ⟨⟨by omega, by omega⟩, ⟨by omega, by omega⟩, trivial⟩ fun a90 h91 => ?_
        clear h89
        refine dr_read (i := 13) (b := mb) (p := 1) (v := .slice (some ⟨rb, 0, none⟩) ((kys Z (a75.q (.r ((topUp a 8).toNat)))).length) (R72.rk ((topUp a 8).toNat))) (fuel := 7) (by repeat (first | with_reducible exact PF.body | with_reducible apply PF.inB | with_reducible apply PF.next)) h91 rfl rfl rfl (by kernel_rfl) (by kernel_rfl) (by kernel_rfl) rfl (by rw [← hrb]; exact (rd_m h91 (k := 5 + (((topUp a 8).toNat) * 1)) (v := .slice (R72.ro ((topUp a 8).toNat)) ((kys Z (a75.q (.r ((topUp a 8).toNat)))).length) (R72.rk ((topUp a 8).toNat))) rfl rfl rfl rfl (md_r (p := ((topUp a 8).toNat)) (by omega) (by omega)))) ?_
        have h92 := h91.put (d := some 70) (v := .slice (some ⟨rb, 0, none⟩) ((kys Z (a75.q (.r ((topUp a 8).toNat)))).length) (R72.rk ((topUp a 8).toNat))) (T' := [(70, .slice (some ⟨rb, 0, none⟩) ((kys Z (a75.q (.r ((topUp a 8).toNat)))).length) (R72.rk ((topUp a 8).toNat))), (62, .slice (some ⟨rb, 0, none⟩) ((kys Z (a75.q (.r ((topUp a 8).toNat)))).length) (R72.rk ((topUp a 8).toNat))), (0, .pointer (some ⟨mb, 0, none⟩)), (1, .int .u32 pick), (4, .int .i64 (topUp a 8)), (64, .int .u64 pick), (69, .pointer (some ⟨mb, 5 + (((topUp a 8).toNat) * 1), none⟩))]) rfl
        clear h91
        refine dr_batch tabOk2 tabZ_ok2 (by repeat (first | with_reducible exact PF.body | with_reducible apply PF.inB | with_reducible apply PF.next)) [(14, {}), (15, {}), (16, {}), (17, {})] [0, 1, 4, 74] (T' := [(0, .pointer (some ⟨mb, 0, none⟩)), (1, .int .u32 pick), (4, .int .i64 (topUp a 8)), (74, .pointer (some ⟨rb, 0 + (((pick % (((kys Z (a75.q (.r ((topUp a 8).toNat)))).length : Nat) : Int)).toNat) * 2), none⟩))]) (φ := inR .u64 (((kys Z (a75.q (.r ((topUp a 8).toNat)))).length : Nat) : Int) ∧ (0 ≤ pick ∧ 0 < (((kys Z (a75.q (.r ((topUp a 8).toNat)))).length : Nat) : Int)) ∧ (0 ≤ (pick % (((kys Z (a75.q (.r ((topUp a 8).toNat)))).length : Nat) : Int)) ∧ (pick % (((kys Z (a75.q (.r ((topUp a 8).toNat)))).length : Nat) : Int)) < (((kys Z (a75.q (.r ((topUp a 8).toNat)))).length : Nat) : Int)) ∧ True) (fuel := 3) h92 (by kernel_rfl) rfl (by kernel_rfl) (by kernel_rfl) ⟨trivial, trivial, trivial, trivial, trivial⟩ ⟨⟨by omega, by omega⟩, ⟨by omega, by omega⟩, ⟨by omega, by omega⟩, trivial⟩ fun a93 h94 => ?_
        clear h92
        refine dr_read (i := 18) (b := rb) (p := 2) (v := .agg #[.int .u16 ((Z.ky y).idx), .int .u32 ((Z.ky y).gen)]) (fuel := 2) (by repeat (first | with_reducible exact PF.body | with_reducible apply PF.inB | with_reducible apply PF.next)) h94 rfl rfl rfl (by kernel_rfl) (by kernel_rfl) (by kernel_rfl) rfl (rd_rrow h94 (p := (topUp a 8).toNat) (b := rb) (r := Z.ky y) (by omega) hhoh74 hrb hky (Nat.zero_add _) rfl rfl rfl rfl rfl) ?_
        have h95 := h94.put (d := some 75) (v := .agg #[.int .u16 ((Z.ky y).idx), .int .u32 ((Z.ky y).gen)]) (T' := [(75, .agg #[.int .u16 ((Z.ky y).idx), .int .u32 ((Z.ky y).gen)]), (0, .pointer (some ⟨mb, 0, none⟩)), (1, .int .u32 pick), (4, .int .i64 (topUp a 8)), (74, .pointer (some ⟨rb, 0 + (((pick % (((kys Z (a75.q (.r ((topUp a 8).toNat)))).length : Nat) : Int)).toNat) * 2), none⟩))]) rfl
        clear h94
        refine wpAnyK_one (i := 19) (fuel := 1) (by kernel_rfl) ?_
        refine op_new tabOk2 (cells := [.int .u16 0, .int .u32 0]) (ty := 39) (ln := none) (L1 := fun b96 => [(3, ⟨[.int .u16 0, .int .u32 0], ty3, true⟩), (b96, ⟨[.int .u16 0, .int .u32 0], 39, false⟩)]) h95 rfl rfl rfl rfl (by kernel_rfl) (fun _ => rfl) fun b96 w97 a98 h99 hf100 hn101 => ?_
        refine ⟨(keepCons (kpM h95.inv.1 (l := .m) trivial (List.mem_cons_self ..) hf100) (keepCons (kpM h95.inv.1 (l := (.rr (topUp a 8).toNat)) (show _ < 8 by omega) (by rw [hrF]; simp) hf100) keepNil)), ?_⟩
        clear h95
        refine wpAnyK_one (i := 20) (fuel := 0) (by kernel_rfl) ?_
        refine op_store tabOk2 {k := 1} (L' := [(3, ⟨[.int .u16 0, .int .u32 0], ty3, true⟩), (b96, ⟨[.int .u16 ((Z.ky y).idx), .int .u32 ((Z.ky y).gen)], 39, false⟩)]) (φ := b96 = b96 ∧ Nat.ble (0 + 2) 2 = true) h99 rfl rfl rfl (by kernel_rfl) ⟨rfl, rfl⟩ fun w102 h103 => ?_
        refine ⟨keepNil, ?_⟩
        clear h99
        refine wpAnyK_done (by kernel_rfl) ?_ _
        refine hK83 _ _ ?_
        clear hK83
        refine wp_seq_k fun K104 hK104 => ?_
        refine nd_start (l := [0, 1, 2]) rfl ?_
        refine nd_batch tabOk2 tabZ_ok2 [(0, {}), (1, {k := 1})] [6, 0, 1, 4, 76, 77] (T' := [(6, .pointer (some ⟨b96, 0, none⟩)), (0, .pointer (some ⟨mb, 0, none⟩)), (1, .int .u32 pick), (4, .int .i64 (topUp a 8)), (76, .pointer (some ⟨mb, 0, none⟩)), (77, .agg #[.int .u16 ((Z.ky y).idx), .int .u32 ((Z.ky y).gen)])]) (φ := (b96 = b96 ∧ Nat.ble (0 + 2) 2 = true) ∧ True) (rest := [2]) h103 (by kernel_rfl) rfl ⟨⟨rfl, rfl⟩, trivial⟩ fun a105 h106 => ?_
        clear h103
        refine nd_op ?_
        refine op_call h106 rfl rfl rfl (callOk Tryd.func87 (by decide) rfl) (args := [.pointer (some ⟨mb, 0, none⟩), .agg #[.int .u16 ((Z.ky y).idx), .int .u32 ((Z.ky y).gen)]]) rfl (idle_ok mb Z _ a75 _ y hy hP77 _ (mh_of h106 hhoh74 (k := 0) rfl)) ?_
        rintro _ w107 ⟨rfl, R108, hg109⟩
        refine ⟨_, rfl, ?_⟩
        have h110a := st_mg h106 hg109 (kcons (fun _ => rfl) (kcons (fun hq => by cases hq) knil))
        have h110 := h110a.put (d := some 78) (v := .tuple #[]) (T' := [(78, .tuple #[]), (6, .pointer (some ⟨b96, 0, none⟩)), (0, .pointer (some ⟨mb, 0, none⟩)), (1, .int .u32 pick), (4, .int .i64 (topUp a 8)), (76, .pointer (some ⟨mb, 0, none⟩)), (77, .agg #[.int .u16 ((Z.ky y).idx), .int .u32 ((Z.ky y).gen)])]) rfl
        have hhoh110 := hg109.mh.ho
        obtain ⟨a111, ea111⟩ : ∃ z : AK, z = leaveA a75 y := ⟨_, rfl⟩
        rw [← ea111] at h110
        clear h106 h110a
        have ht112 : a111.th y = { a75.th y with st := 0, wait := ⟨0, 0⟩ } := by rw [ea111, leave_th]
        have hP113 : MP Z a111 := by rw [ea111]; exact MP.leave hP77 hkk hy
        refine nd_done ?_
        refine hK104 _ _ ?_
        clear hK104
        refine wp_seq_k fun K114 hK114 => ?_
        refine dr_start (KB := [3, b96, mb, Z.tb]) (Bi := [[0, 1, 2, 3], [0, 1, 2, 3], [0, 1, 2, 3], [0, 1, 2, 3], [0, 1, 2, 3], [0, 1, 2, 3], [0, 1, 2, 3], [0, 1, 2, 3], []]) mixed h110 fun w115 h116 => ?_
        clear h110
        refine dr_batch tabOk2 tabZ_ok2 (by repeat (first | with_reducible exact PF.body | with_reducible apply PF.inB | with_reducible apply PF.next)) [(0, {}), (1, {}), (2, {})] [6, 0, 1, 4, 81] (T' := [(6, .pointer (some ⟨b96, 0, none⟩)), (0, .pointer (some ⟨mb, 0, none⟩)), (1, .int .u32 pick), (4, .int .i64 (topUp a 8)), (81, .pointer (some ⟨mb, 2, none⟩))]) (φ := True) (fuel := 6) h116 (by kernel_rfl) rfl (by kernel_rfl) (by kernel_rfl) ⟨trivial, trivial, trivial, trivial⟩ trivial fun a118 h119 => ?_
        clear h116
        refine dr_read (i := 3) (b := mb) (p := 2) (v := .map (some Z.tb)) (fuel := 5) (by repeat (first | with_reducible exact PF.body | with_reducible apply PF.inB | with_reducible apply PF.next)) h119 rfl rfl rfl (by kernel_rfl) (by kernel_rfl) (by kernel_rfl) rfl (rd_m h119 (k := 2) (v := .map (some Z.tb)) rfl rfl rfl rfl (md_p ⟨rfl, trivial⟩)) ?_
        have h120 := h119.put (d := some 82) (v := .map (some Z.tb)) (T' := [(82, .map (some Z.tb)), (6, .pointer (some ⟨b96, 0, none⟩)), (0, .pointer (some ⟨mb, 0, none⟩)), (1, .int .u32 pick), (4, .int .i64 (topUp a 8)), (81, .pointer (some ⟨mb, 2, none⟩))]) rfl
        clear h119
        refine dr_batch tabOk2 tabZ_ok2 (by repeat (first | with_reducible exact PF.body | with_reducible apply PF.inB | with_reducible apply PF.next)) [(4, {k := 1, p := 1})] [82, 6, 0, 1, 4, 83] (T' := [(82, .map (some Z.tb)), (6, .pointer (some ⟨b96, 0, none⟩)), (0, .pointer (some ⟨mb, 0, none⟩)), (1, .int .u32 pick), (4, .int .i64 (topUp a 8)), (83, .agg #[.int .u16 ((Z.ky y).idx), .int .u32 ((Z.ky y).gen)])]) (φ := (b96 = b96 ∧ Nat.ble (0 + 2) 2 = true) ∧ True) (fuel := 4) h120 (by kernel_rfl) rfl (by kernel_rfl) (by kernel_rfl) ⟨rfl, trivial⟩ ⟨⟨rfl, rfl⟩, trivial⟩ fun a121 h122 => ?_
        clear h120
        refine dr_read (i := 5) (b := Z.tb) (p := 3) (v := .pointer (some ⟨(Z.tp y), 0, none⟩)) (fuel := 3) (by repeat (first | with_reducible exact PF.body | with_reducible apply PF.inB | with_reducible apply PF.next)) h122 rfl rfl rfl (by kernel_rfl) (by kernel_rfl) (by kernel_rfl) rfl (rd_T h122 (x := y) hy rfl rfl rfl) ?_
        have h123 := h122.put (d := some 84) (v := .pointer (some ⟨(Z.tp y), 0, none⟩)) (T' := [(84, .pointer (some ⟨(Z.tp y), 0, none⟩)), (82, .map (some Z.tb)), (6, .pointer (some ⟨b96, 0, none⟩)), (0, .pointer (some ⟨mb, 0, none⟩)), (1, .int .u32 pick), (4, .int .i64 (topUp a 8)), (83, .agg #[.int .u16 ((Z.ky y).idx), .int .u32 ((Z.ky y).gen)])]) rfl
        clear h122
        refine dr_batch tabOk2 tabZ_ok2 (by repeat (first | with_reducible exact PF.body | with_reducible apply PF.inB | with_reducible apply PF.next)) [(6, {}), (7, {})] [6, 0, 1, 4, 86] (T' := [(6, .pointer (some ⟨b96, 0, none⟩)), (0, .pointer (some ⟨mb, 0, none⟩)), (1, .int .u32 pick), (4, .int .i64 (topUp a 8)), (86, .pointer (some ⟨(Z.tp y), 0, none⟩))]) (φ := True) (fuel := 1) h123 (by kernel_rfl) rfl (by kernel_rfl) (by kernel_rfl) ⟨trivial, trivial, trivial⟩ trivial fun a124 h125 => ?_
        clear h123
        refine wpAnyK_one (i := 8) (fuel := 0) (by kernel_rfl) ?_
        refine op_mTh (x := y) (off := 0) (v := .int .u8 2) (y := { a75.th y with st := 2, wait := ⟨0, 0⟩ }) h125 rfl rfl rfl rfl rfl rfl rfl rfl rfl hy rfl (by rw [ht112]; rfl) (kcons (fun _ => rfl) (kcons (fun hq => by cases hq) knil)) fun w126 hf127 h128 => ?_
        obtain ⟨a129, ea129⟩ : ∃ z : AK, z = a111.setT y { a75.th y with st := 2, wait := ⟨0, 0⟩ } := ⟨_, rfl⟩
        rw [← ea129] at h128
        refine ⟨keepNil, ?_⟩
        clear h125
        have ht130 : a129.th y = { a75.th y with st := 2, wait := ⟨0, 0⟩ } := by rw [ea129]; exact upd_same _ _ _
        refine wpAnyK_done (by kernel_rfl) ?_ _
        refine hK114 _ _ ?_
        clear hK114
        refine nd_start (l := [0, 1, 2, 3, 4]) rfl ?_
        refine nd_batch tabOk2 tabZ_ok2 [(0, {}), (1, {k := 1}), (2, {}), (3, {})] [6, 0, 1, 4, 88, 90] (T' := [(6, .pointer (some ⟨b96, 0, none⟩)), (0, .pointer (some ⟨mb, 0, none⟩)), (1, .int .u32 pick), (4, .int .i64 (topUp a 8)), (88, .agg #[.int .u16 ((Z.ky y).idx), .int .u32 ((Z.ky y).gen)]), (90, .pointer (some ⟨mb, 13, none⟩))]) (φ := (b96 = b96 ∧ Nat.ble (0 + 2) 2 = true) ∧ True) (rest := [4]) h128 (by kernel_rfl) rfl ⟨⟨rfl, rfl⟩, trivial⟩ fun a132 h133 => ?_
        clear h128
        refine nd_op ?_
        refine op_mM (off := 13) (v := .agg #[.int .u16 ((Z.ky y).idx), .int .u32 ((Z.ky y).gen)]) (a' := { a129 with cur := ((y : Nat) : Int) }) h133 rfl rfl rfl rfl rfl rfl rfl rfl rfl (by show 13 + 2 ≤ 80; omega) (md_cur_w (r := (Z.ky y)) (c := ((y : Nat) : Int)) curR_set) rfl rfl rfl (kcons (fun _ => rfl) (kcons (fun hq => by cases hq) knil)) fun w134 hf135 h136 => ?_
        obtain ⟨a137, ea137⟩ : ∃ z : AK, z = { a129 with cur := ((y : Nat) : Int) } := ⟨_, rfl⟩
        rw [← ea137] at h136
        clear h133
        have ht138 : a137.th y = { a75.th y with st := 2, wait := ⟨0, 0⟩ } := by rw [ea137] <;> exact ht130
        refine nd_done ?_
        try simp only [Exit.then, Exit.inBlock]
        try rw [if_pos trivial]
        exact s_end tabOk2 tabZ_ok2 h136 [] (vs := []) (φ := True) rfl (by kernel_rfl) trivial ⟨rfl, _, mg_end hH h136 hhoh110 (by rw [show schedA a pick = pickA a75 (topUp a 8) pick by rw [ea75]; unfold schedA; rw [if_pos (by omega), hcn, if_neg hle, if_neg (by omega)]]; show _ = pickA a75 (topUp a 8) pick; unfold pickA; rw [hno]; subst ea137 ea129 ea111; rw [leave_th])⟩

theorem choose_ok (mb : Nat) (Z : MZ) (R : MR) (a : AK) (C : CP) (pick : Int) (hpk : 0 ≤ pick ∧ pick < 4294967296) (hP : MP Z a) (w : World) (hH : MH mb Z R a C w) :
    Calls Tryd.prog 56 #[.pointer (some ⟨mb, 0, none⟩), .int .u32 pick] w fun e w' => e = .returned (.tuple #[]) ∧ ∃ R', MG mb Z R C w Z R' (schedA a pick) C w' := by
  rcases hP.cr with hc | ⟨x, hx, hc⟩
  · exact chooseI mb Z R a C pick hpk hP hc w hH
  · exact chooseC mb Z R a C pick hpk hP x hx hc w hH

end Go.Proofs.Qxb6500918aDoor
