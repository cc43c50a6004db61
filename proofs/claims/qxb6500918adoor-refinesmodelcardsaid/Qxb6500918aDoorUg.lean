/-
  The model: first, cellOf, capOf. (Made by program: a symbolic walk that prints its steps.)
-/
import Derived.Test.Qxb6500918aDoorUf
import Derived.Test.Qxb6500918aDoorQe
namespace Go.Proofs.Qxb6500918aDoor
open Go.Sx Go.Kn
set_option maxRecDepth 100000
set_option maxHeartbeats 4000000
set_option linter.unusedVariables false
set_option linter.unusedSimpArgs false

/-- The oldest waiter's name, if it waits in state s. -/
def firstR (Z : MZ) (a : AK) (i : Nat) (s : Int) : Rf := match a.q (.w i) with | [] => ⟨0, 0⟩ | y :: _ => if (a.th y).st = s then Z.ky y else ⟨0, 0⟩

theorem old_nil {Z : MZ} {a : AK} {i : Nat} {s : Int} (hk : (Z.ky i).idx = (i : Int)) (hq : a.q (.w i) = []) : oldestA a (Z.ky i) s = -1 := by
  unfold oldestA
  rw [hk, Int.toNat_natCast, hq]
  exact if_neg (fun h => h.1 rfl)
theorem old_cons {Z : MZ} {a : AK} {i y : Nat} {r : List Nat} {s : Int} (hk : (Z.ky i).idx = (i : Int)) (hq : a.q (.w i) = y :: r) : oldestA a (Z.ky i) s = if (a.th y).st = s then (y : Int) else -1 := by
  unfold oldestA
  rw [hk, Int.toNat_natCast, hq]
  by_cases e : (a.th y).st = s
  · rw [if_pos e]; exact if_pos ⟨by simp [hdI], by simpa [hdI] using e⟩
  · rw [if_neg e]; exact if_neg (fun h => e (by simpa [hdI] using h.2))

theorem firstR_old {Z : MZ} {R : MR} {a : AK} {i : Nat} {s : Int} (hk : MK Z R) (hi : i < 256) : firstR Z a i s = if oldestA a (Z.ky i) s = -1 then ⟨0, 0⟩ else Z.ky (oldestA a (Z.ky i) s).toNat := by
  unfold firstR
  split
  · rename_i hq
    rw [if_pos (old_nil (hk.kx i hi) hq)]
  · rename_i y r hq
    rw [old_cons (hk.kx i hi) hq]
    by_cases e : (a.th y).st = s
    · rw [if_pos e, if_pos e, if_neg (by omega), Int.toNat_natCast]
    · rw [if_neg e, if_neg e, if_pos rfl]

theorem MP.old {Z : MZ} {a : AK} {g : Int} (h : MP Z a) {i : Nat} (hi : i < 256) {s : Int} (ho : Z.ky i = ⟨(i : Int), g⟩) (hn : oldestA a (Z.ky i) s ≠ -1) : ∃ y : Nat, oldestA a (Z.ky i) s = (y : Int) ∧ y ∈ sl Z.tl ∧ y ∈ a.q (.w i) ∧ (a.th y).st = s := by
  unfold oldestA at hn ⊢
  have e0 : (Z.ky i).idx.toNat = i := by rw [ho]; exact Int.toNat_natCast i
  rw [e0] at hn ⊢
  split at hn
  · rename_i e
    rw [if_pos e]
    cases hq : a.q (.w i) with
    | nil => rw [hq] at e; exact absurd rfl e.1
    | cons y r =>
      rw [hq] at e
      exact ⟨y, rfl, (h.mq (.w i) hi y (by rw [hq]; simp)).1, by simp, by have := e.2; simpa [hdI] using this⟩
  · exact absurd rfl hn

theorem first_ok (mb : Nat) (Z : MZ) (R : MR) (a : AK) (C : CP) (i : Nat) (hi : i ∈ sl Z.ql) (s : Int) (hP : MP Z a) (w : World) (hH : MH mb Z R a C w) :
    Calls Tryd.prog 88 #[.pointer (some ⟨mb, 0, none⟩), .agg #[.int .u16 ((Z.ky i).idx), .int .u32 ((Z.ky i).gen)], .int .u8 s] w fun e w' => e = .returned (.agg #[.int .u16 ((firstR Z a i s).idx), .int .u32 ((firstR Z a i s).gen)]) ∧ MG mb Z R C w Z R a C w' := by
  have hokw : (QL.w i).ok := hH.md.k.qx i hi
  obtain ⟨ty3, hg3⟩ := hH.g3
  have hho := hH.ho
  have hkk := hH.md.k
  refine enter (n := 44) (K := mdF mb Z R C) (A := MD (mdF mb Z R C) w.heap.size mb Z R a C) (F := mdF mb Z R C) (T := [(0, .pointer (some ⟨mb, 0, none⟩)), (1, .agg #[.int .u16 ((Z.ky i).idx), .int .u32 ((Z.ky i).gen)]), (2, .int .u8 s)]) (L := [(3, ⟨[.int .u16 0, .int .u32 0], ty3, true⟩)]) (args := [.pointer (some ⟨mb, 0, none⟩), .agg #[.int .u16 ((Z.ky i).idx), .int .u32 ((Z.ky i).gen)], .int .u8 s]) Tryd.func88 rfl rfl rfl rfl (kcons hg3 knil) (by simp) (kcons (by intro hq; cases hq) knil) hH.mD MD.stable hH.md.low (kcons (by intro hq; cases hq) knil) ?_
  intro ac h
  refine wp_seq_k fun K1 hK1 => ?_
  refine nd_start (l := [0, 1]) rfl ?_
  refine nd_op ?_
  refine op_new tabOk2 (cells := [.int .u16 ((Z.ky i).idx), .int .u32 ((Z.ky i).gen)]) (ty := 39) (ln := none) (L1 := fun b2 => [(3, ⟨[.int .u16 0, .int .u32 0], ty3, true⟩), (b2, ⟨[.int .u16 ((Z.ky i).idx), .int .u32 ((Z.ky i).gen)], 39, false⟩)]) h rfl rfl rfl rfl (by kernel_rfl) (fun _ => rfl) fun b2 w3 a4 h5 hf6 hn7 => ?_
  clear h
  refine nd_op ?_
  refine op_new tabOk2 (cells := [.int .u16 0, .int .u32 0]) (ty := 39) (ln := none) (L1 := fun b8 => [(3, ⟨[.int .u16 0, .int .u32 0], ty3, true⟩), (b2, ⟨[.int .u16 ((Z.ky i).idx), .int .u32 ((Z.ky i).gen)], 39, false⟩), (b8, ⟨[.int .u16 0, .int .u32 0], 39, false⟩)]) h5 rfl rfl rfl rfl (by kernel_rfl) (fun _ => rfl) fun b8 w9 a10 h11 hf12 hn13 => ?_
  clear h5
  refine nd_done ?_
  refine hK1 _ _ ?_
  clear hK1
  refine wp_seq_k fun K14 hK14 => ?_
  refine wp_seq_k fun K15 hK15 => ?_
  rcases Bool.eq_false_or_eq_true (decide ((((kys Z (a.q (.w i))).length : Nat) : Int) > 0)) with hb16 | hb16
  ·
    have hb16f : (((kys Z (a.q (.w i))).length : Nat) : Int) > 0 := by simpa using hb16
    obtain ⟨y, ys, hq⟩ : ∃ y ys, a.q (.w i) = y :: ys := by cases hq : a.q (.w i) with | nil => rw [hq] at hb16f; simp [kys] at hb16f | cons y ys => exact ⟨y, ys, rfl⟩
    obtain ⟨hym, _⟩ := hP.mq (.w i) hokw y (by rw [hq]; simp)
    have hky : (kys Z (a.q (.w i)))[0]? = some (Z.ky y) := by rw [hq]; rfl
    obtain ⟨rb, hrb, hrF⟩ := qrow_blk hH.md hi hho hky
    refine dr_start (KB := [3, b2, b8, mb, Z.qb, rb, Z.tb, (Z.tp y)]) (Bi := [[0, 1, 2, 3, 4, 5, 6, 7], [0, 1, 2, 3, 4, 5, 6, 7], [0, 1, 2, 3, 4, 5, 6, 7], [0, 1, 2, 3, 4, 5, 6, 7], [0, 1, 2, 3, 4, 5, 6, 7], [0, 1, 2, 3, 4, 5, 6, 7], [0, 1, 2, 3, 4, 5, 6, 7], [0, 1, 2, 3, 4, 5, 6, 7], [0, 1, 2, 3, 4, 5, 6, 7], [0, 1, 2, 3, 4, 5, 6, 7], [0, 1, 2, 3, 4, 5, 6, 7], [0, 1, 2, 3, 4, 5, 6, 7], [0, 1, 2, 3, 4, 5, 6, 7], [0, 1, 2, 3, 4, 5, 6, 7], [0, 1, 2, 3, 4, 5, 6, 7], [0, 1, 2, 3, 4, 5, 6, 7], [0, 1, 2, 3, 4, 5, 6, 7], [0, 1, 2, 3, 4, 5, 6, 7], [0, 1, 2, 3, 4, 5, 6, 7], [0, 1, 2, 3, 4, 5, 6, 7], [0, 1, 2, 3, 4, 5, 6, 7], [0, 1, 2, 3, 4, 5, 6, 7], [0, 1, 2, 3, 4, 5, 6, 7], [0, 1, 2, 3, 4, 5, 6, 7], [0, 1, 2, 3, 4, 5, 6, 7], [0, 1, 2, 3, 4, 5, 6, 7], [0, 1, 2, 3, 4, 5, 6, 7], [0, 1, 2, 3, 4, 5, 6, 7]]) mixed h11 fun w17 h18 => ?_
    clear h11
    refine dr_batch tabOk2 tabZ_ok2 (by repeat (first | with_reducible exact PF.body | with_reducible apply PF.inB | with_reducible apply PF.next)) [(0, {}), (1, {}), (2, {})] [6, 4, 0, 1, 2, 9] (T' := [(6, .pointer (some ⟨b8, 0, none⟩)), (4, .pointer (some ⟨b2, 0, none⟩)), (0, .pointer (some ⟨mb, 0, none⟩)), (1, .agg #[.int .u16 ((Z.ky i).idx), .int .u32 ((Z.ky i).gen)]), (2, .int .u8 s), (9, .pointer (some ⟨mb, 3, none⟩))]) (φ := True) (fuel := 25) h18 (by kernel_rfl) rfl (by kernel_rfl) (by kernel_rfl) ⟨trivial, trivial, trivial, trivial⟩ trivial fun a20 h21 => ?_
    clear h18
    refine dr_read (i := 3) (b := mb) (p := 3) (v := .map (some Z.qb)) (fuel := 24) (by repeat (first | with_reducible exact PF.body | with_reducible apply PF.inB | with_reducible apply PF.next)) h21 rfl rfl rfl (by kernel_rfl) (by kernel_rfl) (by kernel_rfl) rfl (rd_m h21 (k := 3) (v := .map (some Z.qb)) rfl rfl rfl rfl (md_p ⟨rfl, trivial⟩)) ?_
    have h22 := h21.put (d := some 10) (v := .map (some Z.qb)) (T' := [(10, .map (some Z.qb)), (6, .pointer (some ⟨b8, 0, none⟩)), (4, .pointer (some ⟨b2, 0, none⟩)), (0, .pointer (some ⟨mb, 0, none⟩)), (1, .agg #[.int .u16 ((Z.ky i).idx), .int .u32 ((Z.ky i).gen)]), (2, .int .u8 s), (9, .pointer (some ⟨mb, 3, none⟩))]) rfl
    clear h21
    refine dr_batch tabOk2 tabZ_ok2 (by repeat (first | with_reducible exact PF.body | with_reducible apply PF.inB | with_reducible apply PF.next)) [(4, {k := 1, p := 1})] [10, 6, 4, 0, 1, 2, 11] (T' := [(10, .map (some Z.qb)), (6, .pointer (some ⟨b8, 0, none⟩)), (4, .pointer (some ⟨b2, 0, none⟩)), (0, .pointer (some ⟨mb, 0, none⟩)), (1, .agg #[.int .u16 ((Z.ky i).idx), .int .u32 ((Z.ky i).gen)]), (2, .int .u8 s), (11, .agg #[.int .u16 ((Z.ky i).idx), .int .u32 ((Z.ky i).gen)])]) (φ := (b2 = b2 ∧ Nat.ble (0 + 2) 2 = true) ∧ True) (fuel := 23) h22 (by kernel_rfl) rfl (by kernel_rfl) (by kernel_rfl) ⟨rfl, trivial⟩ ⟨⟨rfl, rfl⟩, trivial⟩ fun a23 h24 => ?_
    clear h22
    refine dr_read (i := 5) (b := Z.qb) (p := 4) (v := .slice (some ⟨rb, 0, none⟩) ((kys Z (a.q (.w i))).length) (R.qk i)) (fuel := 22) (by repeat (first | with_reducible exact PF.body | with_reducible apply PF.inB | with_reducible apply PF.next)) h24 rfl rfl rfl (by kernel_rfl) (by kernel_rfl) (by kernel_rfl) rfl (by rw [← hrb]; exact (rd_Q h24 (x := i) hi rfl rfl rfl)) ?_
    have h25 := h24.put (d := some 12) (v := .slice (some ⟨rb, 0, none⟩) ((kys Z (a.q (.w i))).length) (R.qk i)) (T' := [(12, .slice (some ⟨rb, 0, none⟩) ((kys Z (a.q (.w i))).length) (R.qk i)), (10, .map (some Z.qb)), (6, .pointer (some ⟨b8, 0, none⟩)), (4, .pointer (some ⟨b2, 0, none⟩)), (0, .pointer (some ⟨mb, 0, none⟩)), (1, .agg #[.int .u16 ((Z.ky i).idx), .int .u32 ((Z.ky i).gen)]), (2, .int .u8 s), (11, .agg #[.int .u16 ((Z.ky i).idx), .int .u32 ((Z.ky i).gen)])]) rfl
    clear h24
    refine dr_batch tabOk2 tabZ_ok2 (by repeat (first | with_reducible exact PF.body | with_reducible apply PF.inB | with_reducible apply PF.next)) [(6, {}), (7, {f := 2}), (8, {}), (9, {}), (10, {}), (11, {})] [6, 4, 0, 1, 2, 15, 18] (T' := [(6, .pointer (some ⟨b8, 0, none⟩)), (4, .pointer (some ⟨b2, 0, none⟩)), (0, .pointer (some ⟨mb, 0, none⟩)), (1, .agg #[.int .u16 ((Z.ky i).idx), .int .u32 ((Z.ky i).gen)]), (2, .int .u8 s), (15, .bool true), (18, .pointer (some ⟨mb, 2, none⟩))]) (φ := (decide ((((kys Z (a.q (.w i))).length : Nat) : Int) > 0)) = true ∧ True) (fuel := 16) h25 (by kernel_rfl) rfl (by kernel_rfl) (by kernel_rfl) ⟨trivial, trivial, trivial, trivial, trivial, trivial, trivial⟩ ⟨hb16, trivial⟩ fun a26 h27 => ?_
    clear h25
    refine dr_read (i := 12) (b := mb) (p := 3) (v := .map (some Z.tb)) (fuel := 15) (by repeat (first | with_reducible exact PF.body | with_reducible apply PF.inB | with_reducible apply PF.next)) h27 rfl rfl rfl (by kernel_rfl) (by kernel_rfl) (by kernel_rfl) rfl (rd_m h27 (k := 2) (v := .map (some Z.tb)) rfl rfl rfl rfl (md_p ⟨rfl, trivial⟩)) ?_
    have h28 := h27.put (d := some 19) (v := .map (some Z.tb)) (T' := [(19, .map (some Z.tb)), (6, .pointer (some ⟨b8, 0, none⟩)), (4, .pointer (some ⟨b2, 0, none⟩)), (0, .pointer (some ⟨mb, 0, none⟩)), (1, .agg #[.int .u16 ((Z.ky i).idx), .int .u32 ((Z.ky i).gen)]), (2, .int .u8 s), (15, .bool true), (18, .pointer (some ⟨mb, 2, none⟩))]) rfl
    clear h27
    refine dr_batch tabOk2 tabZ_ok2 (by repeat (first | with_reducible exact PF.body | with_reducible apply PF.inB | with_reducible apply PF.next)) [(13, {}), (14, {}), (15, {})] [19, 6, 4, 0, 1, 2, 15, 22] (T' := [(19, .map (some Z.tb)), (6, .pointer (some ⟨b8, 0, none⟩)), (4, .pointer (some ⟨b2, 0, none⟩)), (0, .pointer (some ⟨mb, 0, none⟩)), (1, .agg #[.int .u16 ((Z.ky i).idx), .int .u32 ((Z.ky i).gen)]), (2, .int .u8 s), (15, .bool true), (22, .pointer (some ⟨mb, 3, none⟩))]) (φ := True) (fuel := 12) h28 (by kernel_rfl) rfl (by kernel_rfl) (by kernel_rfl) ⟨trivial, trivial, trivial, trivial⟩ trivial fun a29 h30 => ?_
    clear h28
    refine dr_read (i := 16) (b := mb) (p := 3) (v := .map (some Z.qb)) (fuel := 11) (by repeat (first | with_reducible exact PF.body | with_reducible apply PF.inB | with_reducible apply PF.next)) h30 rfl rfl rfl (by kernel_rfl) (by kernel_rfl) (by kernel_rfl) rfl (rd_m h30 (k := 3) (v := .map (some Z.qb)) rfl rfl rfl rfl (md_p ⟨rfl, trivial⟩)) ?_
    have h31 := h30.put (d := some 23) (v := .map (some Z.qb)) (T' := [(23, .map (some Z.qb)), (19, .map (some Z.tb)), (6, .pointer (some ⟨b8, 0, none⟩)), (4, .pointer (some ⟨b2, 0, none⟩)), (0, .pointer (some ⟨mb, 0, none⟩)), (1, .agg #[.int .u16 ((Z.ky i).idx), .int .u32 ((Z.ky i).gen)]), (2, .int .u8 s), (15, .bool true), (22, .pointer (some ⟨mb, 3, none⟩))]) rfl
    clear h30
    refine dr_batch tabOk2 tabZ_ok2 (by repeat (first | with_reducible exact PF.body | with_reducible apply PF.inB | with_reducible apply PF.next)) [(17, {k := 1, p := 1})] [23, 19, 6, 4, 0, 1, 2, 15, 24] (T' := [(23, .map (some Z.qb)), (19, .map (some Z.tb)), (6, .pointer (some ⟨b8, 0, none⟩)), (4, .pointer (some ⟨b2, 0, none⟩)), (0, .pointer (some ⟨mb, 0, none⟩)), (1, .agg #[.int .u16 ((Z.ky i).idx), .int .u32 ((Z.ky i).gen)]), (2, .int .u8 s), (15, .bool true), (24, .agg #[.int .u16 ((Z.ky i).idx), .int .u32 ((Z.ky i).gen)])]) (φ := (b2 = b2 ∧ Nat.ble (0 + 2) 2 = true) ∧ True) (fuel := 10) h31 (by kernel_rfl) rfl (by kernel_rfl) (by kernel_rfl) ⟨rfl, trivial⟩ ⟨⟨rfl, rfl⟩, trivial⟩ fun a32 h33 => ?_
    clear h31
    refine dr_read (i := 18) (b := Z.qb) (p := 4) (v := .slice (some ⟨rb, 0, none⟩) ((kys Z (a.q (.w i))).length) (R.qk i)) (fuel := 9) (by repeat (first | with_reducible exact PF.body | with_reducible apply PF.inB | with_reducible apply PF.next)) h33 rfl rfl rfl (by kernel_rfl) (by kernel_rfl) (by kernel_rfl) rfl (by rw [← hrb]; exact (rd_Q h33 (x := i) hi rfl rfl rfl)) ?_
    have h34 := h33.put (d := some 25) (v := .slice (some ⟨rb, 0, none⟩) ((kys Z (a.q (.w i))).length) (R.qk i)) (T' := [(25, .slice (some ⟨rb, 0, none⟩) ((kys Z (a.q (.w i))).length) (R.qk i)), (23, .map (some Z.qb)), (19, .map (some Z.tb)), (6, .pointer (some ⟨b8, 0, none⟩)), (4, .pointer (some ⟨b2, 0, none⟩)), (0, .pointer (some ⟨mb, 0, none⟩)), (1, .agg #[.int .u16 ((Z.ky i).idx), .int .u32 ((Z.ky i).gen)]), (2, .int .u8 s), (15, .bool true), (24, .agg #[.int .u16 ((Z.ky i).idx), .int .u32 ((Z.ky i).gen)])]) rfl
    clear h33
    refine dr_batch tabOk2 tabZ_ok2 (by repeat (first | with_reducible exact PF.body | with_reducible apply PF.inB | with_reducible apply PF.next)) [(19, {})] [19, 6, 4, 0, 1, 2, 15, 26] (T' := [(19, .map (some Z.tb)), (6, .pointer (some ⟨b8, 0, none⟩)), (4, .pointer (some ⟨b2, 0, none⟩)), (0, .pointer (some ⟨mb, 0, none⟩)), (1, .agg #[.int .u16 ((Z.ky i).idx), .int .u32 ((Z.ky i).gen)]), (2, .int .u8 s), (15, .bool true), (26, .pointer (some ⟨rb, 0, none⟩))]) (φ := (0 ≤ (0 : Int) ∧ (0 : Int) < (((kys Z (a.q (.w i))).length : Nat) : Int)) ∧ True) (fuel := 8) h34 (by kernel_rfl) rfl (by kernel_rfl) (by kernel_rfl) ⟨trivial, trivial⟩ ⟨⟨by omega, by omega⟩, trivial⟩ fun a35 h36 => ?_
    clear h34
    refine dr_read (i := 20) (b := rb) (p := 5) (v := .agg #[.int .u16 ((Z.ky y).idx), .int .u32 ((Z.ky y).gen)]) (fuel := 7) (by repeat (first | with_reducible exact PF.body | with_reducible apply PF.inB | with_reducible apply PF.next)) h36 rfl rfl rfl (by kernel_rfl) (by kernel_rfl) (by kernel_rfl) rfl (rd_qrow h36 (x := i) (b := rb) (j := 0) (r := Z.ky y) hi hho hrb hky rfl rfl rfl rfl rfl rfl) ?_
    have h37 := h36.put (d := some 27) (v := .agg #[.int .u16 ((Z.ky y).idx), .int .u32 ((Z.ky y).gen)]) (T' := [(27, .agg #[.int .u16 ((Z.ky y).idx), .int .u32 ((Z.ky y).gen)]), (19, .map (some Z.tb)), (6, .pointer (some ⟨b8, 0, none⟩)), (4, .pointer (some ⟨b2, 0, none⟩)), (0, .pointer (some ⟨mb, 0, none⟩)), (1, .agg #[.int .u16 ((Z.ky i).idx), .int .u32 ((Z.ky i).gen)]), (2, .int .u8 s), (15, .bool true), (26, .pointer (some ⟨rb, 0, none⟩))]) rfl
    clear h36
    refine dr_read (i := 21) (b := Z.tb) (p := 6) (v := .pointer (some ⟨(Z.tp y), 0, none⟩)) (fuel := 6) (by repeat (first | with_reducible exact PF.body | with_reducible apply PF.inB | with_reducible apply PF.next)) h37 rfl rfl rfl (by kernel_rfl) (by kernel_rfl) (by kernel_rfl) rfl (rd_T h37 (x := y) hym rfl rfl rfl) ?_
    have h38 := h37.put (d := some 28) (v := .pointer (some ⟨(Z.tp y), 0, none⟩)) (T' := [(28, .pointer (some ⟨(Z.tp y), 0, none⟩)), (27, .agg #[.int .u16 ((Z.ky y).idx), .int .u32 ((Z.ky y).gen)]), (19, .map (some Z.tb)), (6, .pointer (some ⟨b8, 0, none⟩)), (4, .pointer (some ⟨b2, 0, none⟩)), (0, .pointer (some ⟨mb, 0, none⟩)), (1, .agg #[.int .u16 ((Z.ky i).idx), .int .u32 ((Z.ky i).gen)]), (2, .int .u8 s), (15, .bool true), (26, .pointer (some ⟨rb, 0, none⟩))]) rfl
    clear h37
    refine dr_batch tabOk2 tabZ_ok2 (by repeat (first | with_reducible exact PF.body | with_reducible apply PF.inB | with_reducible apply PF.next)) [(22, {}), (23, {})] [6, 4, 0, 1, 2, 15, 30] (T' := [(6, .pointer (some ⟨b8, 0, none⟩)), (4, .pointer (some ⟨b2, 0, none⟩)), (0, .pointer (some ⟨mb, 0, none⟩)), (1, .agg #[.int .u16 ((Z.ky i).idx), .int .u32 ((Z.ky i).gen)]), (2, .int .u8 s), (15, .bool true), (30, .pointer (some ⟨(Z.tp y), 0, none⟩))]) (φ := True) (fuel := 4) h38 (by kernel_rfl) rfl (by kernel_rfl) (by kernel_rfl) ⟨trivial, trivial, trivial⟩ trivial fun a39 h40 => ?_
    clear h38
    refine dr_read (i := 24) (b := (Z.tp y)) (p := 7) (v := .int .u8 ((a.th y).st)) (fuel := 3) (by repeat (first | with_reducible exact PF.body | with_reducible apply PF.inB | with_reducible apply PF.next)) h40 rfl rfl rfl (by kernel_rfl) (by kernel_rfl) (by kernel_rfl) rfl (rd_th h40 (x := y) (k := 0) (v := .int .u8 ((a.th y).st)) hym rfl rfl rfl rfl ⟨rfl, trivial⟩) ?_
    have h41 := h40.put (d := some 31) (v := .int .u8 ((a.th y).st)) (T' := [(31, .int .u8 ((a.th y).st)), (6, .pointer (some ⟨b8, 0, none⟩)), (4, .pointer (some ⟨b2, 0, none⟩)), (0, .pointer (some ⟨mb, 0, none⟩)), (1, .agg #[.int .u16 ((Z.ky i).idx), .int .u32 ((Z.ky i).gen)]), (2, .int .u8 s), (15, .bool true), (30, .pointer (some ⟨(Z.tp y), 0, none⟩))]) rfl
    clear h40
    refine dr_batch tabOk2 tabZ_ok2 (by repeat (first | with_reducible exact PF.body | with_reducible apply PF.inB | with_reducible apply PF.next)) [(25, {}), (26, {}), (27, {})] [6, 4, 0, 1, 2, 34] (T' := [(6, .pointer (some ⟨b8, 0, none⟩)), (4, .pointer (some ⟨b2, 0, none⟩)), (0, .pointer (some ⟨mb, 0, none⟩)), (1, .agg #[.int .u16 ((Z.ky i).idx), .int .u32 ((Z.ky i).gen)]), (2, .int .u8 s), (34, .bool ((a.th y).st == s))]) (φ := True) (fuel := 0) h41 (by kernel_rfl) rfl (by kernel_rfl) (by kernel_rfl) ⟨trivial, trivial, trivial, trivial⟩ trivial fun a42 h43 => ?_
    clear h41
    refine wpAnyK_done (by kernel_rfl) ?_ _
    refine hK15 _ _ ?_
    clear hK15
    refine c_split h43 (b := ((a.th y).st == s)) rfl (fun hc44 => ?_) (fun hc44 => ?_)
    ·
      have hc44f : (a.th y).st = s := by simpa using hc44
      refine wp_seq_k fun K45 hK45 => ?_
      refine dr_start (KB := [3, b2, b8, mb, Z.qb, rb]) (Bi := [[0, 1, 2, 3, 4, 5], [0, 1, 2, 3, 4, 5], [0, 1, 2, 3, 4, 5], [0, 1, 2, 3, 4, 5], [0, 1, 2, 3, 4, 5], [0, 1, 2, 3, 4, 5], [0, 1, 2, 3, 4, 5], [0, 1, 2, 3, 4, 5], []]) mixed h43 fun w46 h47 => ?_
      clear h43
      refine dr_batch tabOk2 tabZ_ok2 (by repeat (first | with_reducible exact PF.body | with_reducible apply PF.inB | with_reducible apply PF.next)) [(0, {}), (1, {}), (2, {})] [6, 4, 0, 1, 2, 37] (T' := [(6, .pointer (some ⟨b8, 0, none⟩)), (4, .pointer (some ⟨b2, 0, none⟩)), (0, .pointer (some ⟨mb, 0, none⟩)), (1, .agg #[.int .u16 ((Z.ky i).idx), .int .u32 ((Z.ky i).gen)]), (2, .int .u8 s), (37, .pointer (some ⟨mb, 3, none⟩))]) (φ := True) (fuel := 6) h47 (by kernel_rfl) rfl (by kernel_rfl) (by kernel_rfl) ⟨trivial, trivial, trivial, trivial⟩ trivial fun a49 h50 => ?_
      clear h47
      refine dr_read (i := 3) (b := mb) (p := 3) (v := .map (some Z.qb)) (fuel := 5) (by repeat (first | with_reducible exact PF.body | with_reducible apply PF.inB | with_reducible apply PF.next)) h50 rfl rfl rfl (by kernel_rfl) (by kernel_rfl) (by kernel_rfl) rfl (rd_m h50 (k := 3) (v := .map (some Z.qb)) rfl rfl rfl rfl (md_p ⟨rfl, trivial⟩)) ?_
      have h51 := h50.put (d := some 38) (v := .map (some Z.qb)) (T' := [(38, .map (some Z.qb)), (6, .pointer (some ⟨b8, 0, none⟩)), (4, .pointer (some ⟨b2, 0, none⟩)), (0, .pointer (some ⟨mb, 0, none⟩)), (1, .agg #[.int .u16 ((Z.ky i).idx), .int .u32 ((Z.ky i).gen)]), (2, .int .u8 s), (37, .pointer (some ⟨mb, 3, none⟩))]) rfl
      clear h50
      refine dr_batch tabOk2 tabZ_ok2 (by repeat (first | with_reducible exact PF.body | with_reducible apply PF.inB | with_reducible apply PF.next)) [(4, {k := 1, p := 1})] [38, 6, 4, 0, 1, 2, 39] (T' := [(38, .map (some Z.qb)), (6, .pointer (some ⟨b8, 0, none⟩)), (4, .pointer (some ⟨b2, 0, none⟩)), (0, .pointer (some ⟨mb, 0, none⟩)), (1, .agg #[.int .u16 ((Z.ky i).idx), .int .u32 ((Z.ky i).gen)]), (2, .int .u8 s), (39, .agg #[.int .u16 ((Z.ky i).idx), .int .u32 ((Z.ky i).gen)])]) (φ := (b2 = b2 ∧ Nat.ble (0 + 2) 2 = true) ∧ True) (fuel := 4) h51 (by kernel_rfl) rfl (by kernel_rfl) (by kernel_rfl) ⟨rfl, trivial⟩ ⟨⟨rfl, rfl⟩, trivial⟩ fun a52 h53 => ?_
      clear h51
      refine dr_read (i := 5) (b := Z.qb) (p := 4) (v := .slice (some ⟨rb, 0, none⟩) ((kys Z (a.q (.w i))).length) (R.qk i)) (fuel := 3) (by repeat (first | with_reducible exact PF.body | with_reducible apply PF.inB | with_reducible apply PF.next)) h53 rfl rfl rfl (by kernel_rfl) (by kernel_rfl) (by kernel_rfl) rfl (by rw [← hrb]; exact (rd_Q h53 (x := i) hi rfl rfl rfl)) ?_
      have h54 := h53.put (d := some 40) (v := .slice (some ⟨rb, 0, none⟩) ((kys Z (a.q (.w i))).length) (R.qk i)) (T' := [(40, .slice (some ⟨rb, 0, none⟩) ((kys Z (a.q (.w i))).length) (R.qk i)), (38, .map (some Z.qb)), (6, .pointer (some ⟨b8, 0, none⟩)), (4, .pointer (some ⟨b2, 0, none⟩)), (0, .pointer (some ⟨mb, 0, none⟩)), (1, .agg #[.int .u16 ((Z.ky i).idx), .int .u32 ((Z.ky i).gen)]), (2, .int .u8 s), (39, .agg #[.int .u16 ((Z.ky i).idx), .int .u32 ((Z.ky i).gen)])]) rfl
      clear h53
      refine dr_batch tabOk2 tabZ_ok2 (by repeat (first | with_reducible exact PF.body | with_reducible apply PF.inB | with_reducible apply PF.next)) [(6, {})] [6, 4, 0, 1, 2, 41] (T' := [(6, .pointer (some ⟨b8, 0, none⟩)), (4, .pointer (some ⟨b2, 0, none⟩)), (0, .pointer (some ⟨mb, 0, none⟩)), (1, .agg #[.int .u16 ((Z.ky i).idx), .int .u32 ((Z.ky i).gen)]), (2, .int .u8 s), (41, .pointer (some ⟨rb, 0, none⟩))]) (φ := (0 ≤ (0 : Int) ∧ (0 : Int) < (((kys Z (a.q (.w i))).length : Nat) : Int)) ∧ True) (fuel := 2) h54 (by kernel_rfl) rfl (by kernel_rfl) (by kernel_rfl) ⟨trivial, trivial⟩ ⟨⟨by omega, by omega⟩, trivial⟩ fun a55 h56 => ?_
      clear h54
      refine dr_read (i := 7) (b := rb) (p := 5) (v := .agg #[.int .u16 ((Z.ky y).idx), .int .u32 ((Z.ky y).gen)]) (fuel := 1) (by repeat (first | with_reducible exact PF.body | with_reducible apply PF.inB | with_reducible apply PF.next)) h56 rfl rfl rfl (by kernel_rfl) (by kernel_rfl) (by kernel_rfl) rfl (rd_qrow h56 (x := i) (b := rb) (j := 0) (r := Z.ky y) hi hho hrb hky rfl rfl rfl rfl rfl rfl) ?_
      have h57 := h56.put (d := some 42) (v := .agg #[.int .u16 ((Z.ky y).idx), .int .u32 ((Z.ky y).gen)]) (T' := [(42, .agg #[.int .u16 ((Z.ky y).idx), .int .u32 ((Z.ky y).gen)]), (6, .pointer (some ⟨b8, 0, none⟩)), (4, .pointer (some ⟨b2, 0, none⟩)), (0, .pointer (some ⟨mb, 0, none⟩)), (1, .agg #[.int .u16 ((Z.ky i).idx), .int .u32 ((Z.ky i).gen)]), (2, .int .u8 s), (41, .pointer (some ⟨rb, 0, none⟩))]) rfl
      clear h56
      refine wpAnyK_one (i := 8) (fuel := 0) (by kernel_rfl) ?_
      refine op_store tabOk2 {k := 2} (L' := [(3, ⟨[.int .u16 0, .int .u32 0], ty3, true⟩), (b2, ⟨[.int .u16 ((Z.ky i).idx), .int .u32 ((Z.ky i).gen)], 39, false⟩), (b8, ⟨[.int .u16 ((Z.ky y).idx), .int .u32 ((Z.ky y).gen)], 39, false⟩)]) (φ := b8 = b8 ∧ Nat.ble (0 + 2) 2 = true) h57 rfl rfl rfl (by kernel_rfl) ⟨rfl, rfl⟩ fun w58 h59 => ?_
      refine ⟨keepNil, ?_⟩
      clear h57
      refine wpAnyK_done (by kernel_rfl) ?_ _
      refine hK45 _ _ ?_
      clear hK45
      refine wp_ret ?_
      try simp only [Exit.then, Exit.inBlock]
      try rw [if_pos trivial]
      exact s_ret tabOk2 tabZ_ok2 h59 [(.cell 6 39, {k := 2})] (vs := [.agg #[.int .u16 ((Z.ky y).idx), .int .u32 ((Z.ky y).gen)]]) (φ := (b8 = b8 ∧ Nat.ble (0 + 2) 2 = true) ∧ True) rfl (by kernel_rfl) ⟨⟨rfl, rfl⟩, trivial⟩ ⟨(by rw [show firstR Z a i s = Z.ky y by unfold firstR; rw [hq]; simp only; rw [if_pos hc44f]]; rfl), mg_end hH h59 hho rfl⟩
    ·
      have hc44f : (a.th y).st ≠ s := by simpa using hc44
      refine wp_skip ?_
      refine hK14 _ _ ?_
      clear hK14
      refine wp_seq_k fun K60 hK60 => ?_
      refine nd_start (l := [0, 1]) rfl ?_
      refine nd_batch tabOk2 tabZ_ok2 [(0, {k := 0})] [6, 4, 0, 1, 2, 43] (T' := [(6, .pointer (some ⟨b8, 0, none⟩)), (4, .pointer (some ⟨b2, 0, none⟩)), (0, .pointer (some ⟨mb, 0, none⟩)), (1, .agg #[.int .u16 ((Z.ky i).idx), .int .u32 ((Z.ky i).gen)]), (2, .int .u8 s), (43, .agg #[.int .u16 0, .int .u32 0])]) (φ := (3 = 3 ∧ Nat.ble (0 + 2) 2 = true) ∧ True) (rest := [1]) h43 (by kernel_rfl) rfl ⟨⟨rfl, rfl⟩, trivial⟩ fun a61 h62 => ?_
      clear h43
      refine nd_op ?_
      refine op_store tabOk2 {k := 2} (L' := [(3, ⟨[.int .u16 0, .int .u32 0], ty3, true⟩), (b2, ⟨[.int .u16 ((Z.ky i).idx), .int .u32 ((Z.ky i).gen)], 39, false⟩), (b8, ⟨[.int .u16 0, .int .u32 0], 39, false⟩)]) (φ := b8 = b8 ∧ Nat.ble (0 + 2) 2 = true) h62 rfl rfl rfl (by kernel_rfl) ⟨rfl, rfl⟩ fun w63 h64 => ?_
      clear h62
      refine nd_done ?_
      refine hK60 _ _ ?_
      clear hK60
      refine wp_ret ?_
      try simp only [Exit.then, Exit.inBlock]
      try rw [if_pos trivial]
      exact s_ret tabOk2 tabZ_ok2 h64 [(.cell 6 39, {k := 2})] (vs := [.agg #[.int .u16 0, .int .u32 0]]) (φ := (b8 = b8 ∧ Nat.ble (0 + 2) 2 = true) ∧ True) rfl (by kernel_rfl) ⟨⟨rfl, rfl⟩, trivial⟩ ⟨(by rw [show firstR Z a i s = ⟨0, 0⟩ by unfold firstR; rw [hq]; simp only; rw [if_neg hc44f]]; rfl), mg_end hH h64 hho rfl⟩
  ·
    have hb16f : ¬ ((((kys Z (a.q (.w i))).length : Nat) : Int) > 0) := by simpa using hb16
    have hq : a.q (.w i) = [] := by cases hq : a.q (.w i) with | nil => rfl | cons y ys => rw [hq] at hb16f; simp [kys] at hb16f
    refine dr_start (KB := [3, b2, b8, mb, Z.qb]) (Bi := [[0, 1, 2, 3, 4], [0, 1, 2, 3, 4], [0, 1, 2, 3, 4], [0, 1, 2, 3, 4], [0, 1, 2, 3, 4], [0, 1, 2, 3, 4], [0, 1, 2, 3, 4], [0, 1, 2, 3, 4], [0, 1, 2, 3, 4], [0, 1, 2, 3, 4], [0, 1, 2, 3, 4], [0, 1, 2, 3, 4], [0, 1, 2, 3, 4], [0, 1, 2, 3, 4], [0, 1, 2, 3, 4], [0, 1, 2, 3, 4], [0, 1, 2, 3, 4], [0, 1, 2, 3, 4], [0, 1, 2, 3, 4], [0, 1, 2, 3, 4], [0, 1, 2, 3, 4], [0, 1, 2, 3, 4], [0, 1, 2, 3, 4], [0, 1, 2, 3, 4], [0, 1, 2, 3, 4], [0, 1, 2, 3, 4], [0, 1, 2, 3, 4], [0, 1, 2, 3, 4]]) mixed h11 fun w65 h66 => ?_
    clear h11
    refine dr_batch tabOk2 tabZ_ok2 (by repeat (first | with_reducible exact PF.body | with_reducible apply PF.inB | with_reducible apply PF.next)) [(0, {}), (1, {}), (2, {})] [6, 4, 0, 1, 2, 9] (T' := [(6, .pointer (some ⟨b8, 0, none⟩)), (4, .pointer (some ⟨b2, 0, none⟩)), (0, .pointer (some ⟨mb, 0, none⟩)), (1, .agg #[.int .u16 ((Z.ky i).idx), .int .u32 ((Z.ky i).gen)]), (2, .int .u8 s), (9, .pointer (some ⟨mb, 3, none⟩))]) (φ := True) (fuel := 25) h66 (by kernel_rfl) rfl (by kernel_rfl) (by kernel_rfl) ⟨trivial, trivial, trivial, trivial⟩ trivial fun a68 h69 => ?_
    clear h66
    refine dr_read (i := 3) (b := mb) (p := 3) (v := .map (some Z.qb)) (fuel := 24) (by repeat (first | with_reducible exact PF.body | with_reducible apply PF.inB | with_reducible apply PF.next)) h69 rfl rfl rfl (by kernel_rfl) (by kernel_rfl) (by kernel_rfl) rfl (rd_m h69 (k := 3) (v := .map (some Z.qb)) rfl rfl rfl rfl (md_p ⟨rfl, trivial⟩)) ?_
    have h70 := h69.put (d := some 10) (v := .map (some Z.qb)) (T' := [(10, .map (some Z.qb)), (6, .pointer (some ⟨b8, 0, none⟩)), (4, .pointer (some ⟨b2, 0, none⟩)), (0, .pointer (some ⟨mb, 0, none⟩)), (1, .agg #[.int .u16 ((Z.ky i).idx), .int .u32 ((Z.ky i).gen)]), (2, .int .u8 s), (9, .pointer (some ⟨mb, 3, none⟩))]) rfl
    clear h69
    refine dr_batch tabOk2 tabZ_ok2 (by repeat (first | with_reducible exact PF.body | with_reducible apply PF.inB | with_reducible apply PF.next)) [(4, {k := 1, p := 1})] [10, 6, 4, 0, 1, 2, 11] (T' := [(10, .map (some Z.qb)), (6, .pointer (some ⟨b8, 0, none⟩)), (4, .pointer (some ⟨b2, 0, none⟩)), (0, .pointer (some ⟨mb, 0, none⟩)), (1, .agg #[.int .u16 ((Z.ky i).idx), .int .u32 ((Z.ky i).gen)]), (2, .int .u8 s), (11, .agg #[.int .u16 ((Z.ky i).idx), .int .u32 ((Z.ky i).gen)])]) (φ := (b2 = b2 ∧ Nat.ble (0 + 2) 2 = true) ∧ True) (fuel := 23) h70 (by kernel_rfl) rfl (by kernel_rfl) (by kernel_rfl) ⟨rfl, trivial⟩ ⟨⟨rfl, rfl⟩, trivial⟩ fun a71 h72 => ?_
    clear h70
    refine dr_read (i := 5) (b := Z.qb) (p := 4) (v := .slice (R.qo i) ((kys Z (a.q (.w i))).length) (R.qk i)) (fuel := 22) (by repeat (first | with_reducible exact PF.body | with_reducible apply PF.inB | with_reducible apply PF.next)) h72 rfl rfl rfl (by kernel_rfl) (by kernel_rfl) (by kernel_rfl) rfl (rd_Q h72 (x := i) hi rfl rfl rfl) ?_
    have h73 := h72.put (d := some 12) (v := .slice (R.qo i) ((kys Z (a.q (.w i))).length) (R.qk i)) (T' := [(12, .slice (R.qo i) ((kys Z (a.q (.w i))).length) (R.qk i)), (10, .map (some Z.qb)), (6, .pointer (some ⟨b8, 0, none⟩)), (4, .pointer (some ⟨b2, 0, none⟩)), (0, .pointer (some ⟨mb, 0, none⟩)), (1, .agg #[.int .u16 ((Z.ky i).idx), .int .u32 ((Z.ky i).gen)]), (2, .int .u8 s), (11, .agg #[.int .u16 ((Z.ky i).idx), .int .u32 ((Z.ky i).gen)])]) rfl
    clear h72
    refine dr_batch tabOk2 tabZ_ok2 (by repeat (first | with_reducible exact PF.body | with_reducible apply PF.inB | with_reducible apply PF.next)) [(6, {}), (7, {f := 1}), (8, {}), (9, {}), (10, {}), (11, {}), (12, {k := 0, p := 0}), (13, {}), (14, {}), (15, {}), (16, {k := 0, p := 0}), (17, {k := 0, p := 0}), (18, {}), (19, {}), (20, {k := 0, p := 0}), (21, {}), (22, {}), (23, {}), (24, {k := 0, p := 0}), (25, {}), (26, {}), (27, {})] [6, 4, 0, 1, 2, 34] (T' := [(6, .pointer (some ⟨b8, 0, none⟩)), (4, .pointer (some ⟨b2, 0, none⟩)), (0, .pointer (some ⟨mb, 0, none⟩)), (1, .agg #[.int .u16 ((Z.ky i).idx), .int .u32 ((Z.ky i).gen)]), (2, .int .u8 s), (34, .bool false)]) (φ := (decide ((((kys Z (a.q (.w i))).length : Nat) : Int) > 0)) = false ∧ True) (fuel := 0) h73 (by kernel_rfl) rfl (by kernel_rfl) (by kernel_rfl) ⟨trivial, trivial, trivial, trivial, trivial, trivial, rfl, trivial, trivial, trivial, rfl, rfl, trivial, trivial, rfl, trivial, trivial, trivial, rfl, trivial, trivial, trivial, trivial⟩ ⟨hb16, trivial⟩ fun a74 h75 => ?_
    clear h73
    refine wpAnyK_done (by kernel_rfl) ?_ _
    refine hK15 _ _ ?_
    clear hK15
    refine c_false h75 rfl ?_
    refine wp_skip ?_
    refine hK14 _ _ ?_
    clear hK14
    refine wp_seq_k fun K76 hK76 => ?_
    refine nd_start (l := [0, 1]) rfl ?_
    refine nd_batch tabOk2 tabZ_ok2 [(0, {k := 0})] [6, 4, 0, 1, 2, 43] (T' := [(6, .pointer (some ⟨b8, 0, none⟩)), (4, .pointer (some ⟨b2, 0, none⟩)), (0, .pointer (some ⟨mb, 0, none⟩)), (1, .agg #[.int .u16 ((Z.ky i).idx), .int .u32 ((Z.ky i).gen)]), (2, .int .u8 s), (43, .agg #[.int .u16 0, .int .u32 0])]) (φ := (3 = 3 ∧ Nat.ble (0 + 2) 2 = true) ∧ True) (rest := [1]) h75 (by kernel_rfl) rfl ⟨⟨rfl, rfl⟩, trivial⟩ fun a77 h78 => ?_
    clear h75
    refine nd_op ?_
    refine op_store tabOk2 {k := 2} (L' := [(3, ⟨[.int .u16 0, .int .u32 0], ty3, true⟩), (b2, ⟨[.int .u16 ((Z.ky i).idx), .int .u32 ((Z.ky i).gen)], 39, false⟩), (b8, ⟨[.int .u16 0, .int .u32 0], 39, false⟩)]) (φ := b8 = b8 ∧ Nat.ble (0 + 2) 2 = true) h78 rfl rfl rfl (by kernel_rfl) ⟨rfl, rfl⟩ fun w79 h80 => ?_
    clear h78
    refine nd_done ?_
    refine hK76 _ _ ?_
    clear hK76
    refine wp_ret ?_
    try simp only [Exit.then, Exit.inBlock]
    try rw [if_pos trivial]
    exact s_ret tabOk2 tabZ_ok2 h80 [(.cell 6 39, {k := 2})] (vs := [.agg #[.int .u16 0, .int .u32 0]]) (φ := (b8 = b8 ∧ Nat.ble (0 + 2) 2 = true) ∧ True) rfl (by kernel_rfl) ⟨⟨rfl, rfl⟩, trivial⟩ ⟨(by rw [show firstR Z a i s = ⟨0, 0⟩ by unfold firstR; rw [hq]]; rfl), mg_end hH h80 hho rfl⟩

theorem cellOf_ok (mb : Nat) (Z : MZ) (R : MR) (a : AK) (C : CP) (x : Nat) (hx : x ∈ sl Z.tl) (hcx : curR Z a = Z.ky x) (hci : 0 ≤ (a.th x).cs.idx ∧ (a.th x).cs.idx < 256) (ad : Int) (had : 0 ≤ ad ∧ ad < 4294967296) {s k : Int} (el : lookP C.ent (a.th x).cs ad = (s, k)) (w : World) (hH : MH mb Z R a C w) :
    Calls Tryd.prog 93 #[.pointer (some ⟨mb, 0, none⟩), .int .u32 ad] w fun e w' => e = .returned (.tuple #[.int .i64 s, .int .u8 k]) ∧ MG mb Z R C w Z R a C w' := by
  obtain ⟨ty3, hg3⟩ := hH.g3
  have hho := hH.ho
  have hkk := hH.md.k
  refine enter (n := 26) (K := mdF mb Z R C) (A := MD (mdF mb Z R C) w.heap.size mb Z R a C) (F := mdF mb Z R C) (T := [(0, .pointer (some ⟨mb, 0, none⟩)), (1, .int .u32 ad)]) (L := [(3, ⟨[.int .u16 0, .int .u32 0], ty3, true⟩)]) (args := [.pointer (some ⟨mb, 0, none⟩), .int .u32 ad]) Tryd.func93 rfl rfl rfl rfl (kcons hg3 knil) (by simp) (kcons (by intro hq; cases hq) knil) hH.mD MD.stable hH.md.low (kcons (by intro hq; cases hq) knil) ?_
  intro ac h
  refine wp_seq_k fun K1 hK1 => ?_
  refine nd_start (l := [0, 1]) rfl ?_
  refine nd_batch tabOk2 tabZ_ok2 [(0, {}), (1, {})] [0, 1, 4, 5] (T' := [(0, .pointer (some ⟨mb, 0, none⟩)), (1, .int .u32 ad), (4, .int .i64 0), (5, .int .u8 0)]) (φ := True) (rest := []) h (by kernel_rfl) rfl trivial fun a2 h3 => ?_
  clear h
  refine nd_done ?_
  refine hK1 _ _ ?_
  clear hK1
  refine wp_seq_k fun K4 hK4 => ?_
  refine dr_start (KB := [3, mb, Z.tb, (Z.tp x)]) (Bi := [[0, 1, 2, 3], [0, 1, 2, 3], [0, 1, 2, 3], [0, 1, 2, 3], [0, 1, 2, 3], [0, 1, 2, 3], [0, 1, 2, 3], [0, 1, 2, 3], [0, 1, 2, 3], [0, 1, 2, 3], [0, 1, 2, 3], [0, 1, 2, 3], [0, 1, 2, 3], [0, 1, 2, 3], [0, 1, 2, 3], [0, 1, 2, 3], [0, 1, 2, 3], [], [0, 1, 2, 3], [0, 1, 2, 3], [0, 1, 2, 3], [0, 1, 2, 3]]) mixed h3 fun w5 h6 => ?_
  clear h3
  refine dr_batch tabOk2 tabZ_ok2 (by repeat (first | with_reducible exact PF.body | with_reducible apply PF.inB | with_reducible apply PF.next)) [(0, {}), (1, {}), (2, {})] [0, 1, 4, 5, 8] (T' := [(0, .pointer (some ⟨mb, 0, none⟩)), (1, .int .u32 ad), (4, .int .i64 0), (5, .int .u8 0), (8, .pointer (some ⟨mb, 1, none⟩))]) (φ := True) (fuel := 19) h6 (by kernel_rfl) rfl (by kernel_rfl) (by kernel_rfl) ⟨trivial, trivial, trivial, trivial⟩ trivial fun a8 h9 => ?_
  clear h6
  refine dr_read (i := 3) (b := mb) (p := 1) (v := .pointer (some ⟨Z.mc, 0, none⟩)) (fuel := 18) (by repeat (first | with_reducible exact PF.body | with_reducible apply PF.inB | with_reducible apply PF.next)) h9 rfl rfl rfl (by kernel_rfl) (by kernel_rfl) (by kernel_rfl) rfl (rd_m h9 (k := 1) (v := .pointer (some ⟨Z.mc, 0, none⟩)) rfl rfl rfl rfl (md_p ⟨rfl, trivial⟩)) ?_
  have h10 := h9.put (d := some 9) (v := .pointer (some ⟨Z.mc, 0, none⟩)) (T' := [(9, .pointer (some ⟨Z.mc, 0, none⟩)), (0, .pointer (some ⟨mb, 0, none⟩)), (1, .int .u32 ad), (4, .int .i64 0), (5, .int .u8 0), (8, .pointer (some ⟨mb, 1, none⟩))]) rfl
  clear h9
  refine dr_batch tabOk2 tabZ_ok2 (by repeat (first | with_reducible exact PF.body | with_reducible apply PF.inB | with_reducible apply PF.next)) [(4, {}), (5, {}), (6, {})] [9, 0, 1, 4, 5, 12] (T' := [(9, .pointer (some ⟨Z.mc, 0, none⟩)), (0, .pointer (some ⟨mb, 0, none⟩)), (1, .int .u32 ad), (4, .int .i64 0), (5, .int .u8 0), (12, .pointer (some ⟨mb, 2, none⟩))]) (φ := True) (fuel := 15) h10 (by kernel_rfl) rfl (by kernel_rfl) (by kernel_rfl) ⟨trivial, trivial, trivial, trivial⟩ trivial fun a11 h12 => ?_
  clear h10
  refine dr_read (i := 7) (b := mb) (p := 1) (v := .map (some Z.tb)) (fuel := 14) (by repeat (first | with_reducible exact PF.body | with_reducible apply PF.inB | with_reducible apply PF.next)) h12 rfl rfl rfl (by kernel_rfl) (by kernel_rfl) (by kernel_rfl) rfl (rd_m h12 (k := 2) (v := .map (some Z.tb)) rfl rfl rfl rfl (md_p ⟨rfl, trivial⟩)) ?_
  have h13 := h12.put (d := some 13) (v := .map (some Z.tb)) (T' := [(13, .map (some Z.tb)), (9, .pointer (some ⟨Z.mc, 0, none⟩)), (0, .pointer (some ⟨mb, 0, none⟩)), (1, .int .u32 ad), (4, .int .i64 0), (5, .int .u8 0), (12, .pointer (some ⟨mb, 2, none⟩))]) rfl
  clear h12
  refine dr_batch tabOk2 tabZ_ok2 (by repeat (first | with_reducible exact PF.body | with_reducible apply PF.inB | with_reducible apply PF.next)) [(8, {}), (9, {}), (10, {})] [13, 9, 0, 1, 4, 5, 16] (T' := [(13, .map (some Z.tb)), (9, .pointer (some ⟨Z.mc, 0, none⟩)), (0, .pointer (some ⟨mb, 0, none⟩)), (1, .int .u32 ad), (4, .int .i64 0), (5, .int .u8 0), (16, .pointer (some ⟨mb, 13, none⟩))]) (φ := True) (fuel := 11) h13 (by kernel_rfl) rfl (by kernel_rfl) (by kernel_rfl) ⟨trivial, trivial, trivial, trivial⟩ trivial fun a14 h15 => ?_
  clear h13
  refine dr_read (i := 11) (b := mb) (p := 1) (v := .agg #[.int .u16 ((Z.ky x).idx), .int .u32 ((Z.ky x).gen)]) (fuel := 10) (by repeat (first | with_reducible exact PF.body | with_reducible apply PF.inB | with_reducible apply PF.next)) h15 rfl rfl rfl (by kernel_rfl) (by kernel_rfl) (by kernel_rfl) rfl (rd_mA h15 (k := 13) (vs := [.int .u16 ((Z.ky x).idx), .int .u32 ((Z.ky x).gen)]) rfl rfl rfl rfl rfl (by rw [← hcx]; exact md_cur)) ?_
  have h16 := h15.put (d := some 17) (v := .agg #[.int .u16 ((Z.ky x).idx), .int .u32 ((Z.ky x).gen)]) (T' := [(17, .agg #[.int .u16 ((Z.ky x).idx), .int .u32 ((Z.ky x).gen)]), (13, .map (some Z.tb)), (9, .pointer (some ⟨Z.mc, 0, none⟩)), (0, .pointer (some ⟨mb, 0, none⟩)), (1, .int .u32 ad), (4, .int .i64 0), (5, .int .u8 0), (16, .pointer (some ⟨mb, 13, none⟩))]) rfl
  clear h15
  refine dr_read (i := 12) (b := Z.tb) (p := 2) (v := .pointer (some ⟨(Z.tp x), 0, none⟩)) (fuel := 9) (by repeat (first | with_reducible exact PF.body | with_reducible apply PF.inB | with_reducible apply PF.next)) h16 rfl rfl rfl (by kernel_rfl) (by kernel_rfl) (by kernel_rfl) rfl (rd_T h16 (x := x) hx rfl rfl rfl) ?_
  have h17 := h16.put (d := some 18) (v := .pointer (some ⟨(Z.tp x), 0, none⟩)) (T' := [(18, .pointer (some ⟨(Z.tp x), 0, none⟩)), (17, .agg #[.int .u16 ((Z.ky x).idx), .int .u32 ((Z.ky x).gen)]), (13, .map (some Z.tb)), (9, .pointer (some ⟨Z.mc, 0, none⟩)), (0, .pointer (some ⟨mb, 0, none⟩)), (1, .int .u32 ad), (4, .int .i64 0), (5, .int .u8 0), (16, .pointer (some ⟨mb, 13, none⟩))]) rfl
  clear h16
  refine dr_batch tabOk2 tabZ_ok2 (by repeat (first | with_reducible exact PF.body | with_reducible apply PF.inB | with_reducible apply PF.next)) [(13, {}), (14, {})] [9, 0, 1, 4, 5, 20] (T' := [(9, .pointer (some ⟨Z.mc, 0, none⟩)), (0, .pointer (some ⟨mb, 0, none⟩)), (1, .int .u32 ad), (4, .int .i64 0), (5, .int .u8 0), (20, .pointer (some ⟨(Z.tp x), 4, none⟩))]) (φ := True) (fuel := 7) h17 (by kernel_rfl) rfl (by kernel_rfl) (by kernel_rfl) ⟨trivial, trivial, trivial⟩ trivial fun a18 h19 => ?_
  clear h17
  refine dr_read (i := 15) (b := (Z.tp x)) (p := 3) (v := .agg #[.int .u16 ((a.th x).cs.idx), .int .u32 ((a.th x).cs.gen)]) (fuel := 6) (by repeat (first | with_reducible exact PF.body | with_reducible apply PF.inB | with_reducible apply PF.next)) h19 rfl rfl rfl (by kernel_rfl) (by kernel_rfl) (by kernel_rfl) rfl (rd_thA h19 (x := x) (k := 4) (vs := [.int .u16 ((a.th x).cs.idx), .int .u32 ((a.th x).cs.gen)]) hx rfl rfl rfl rfl rfl ⟨rfl, rfl, trivial⟩) ?_
  have h20 := h19.put (d := some 21) (v := .agg #[.int .u16 ((a.th x).cs.idx), .int .u32 ((a.th x).cs.gen)]) (T' := [(21, .agg #[.int .u16 ((a.th x).cs.idx), .int .u32 ((a.th x).cs.gen)]), (9, .pointer (some ⟨Z.mc, 0, none⟩)), (0, .pointer (some ⟨mb, 0, none⟩)), (1, .int .u32 ad), (4, .int .i64 0), (5, .int .u8 0), (20, .pointer (some ⟨(Z.tp x), 4, none⟩))]) rfl
  clear h19
  refine dr_batch tabOk2 tabZ_ok2 (by repeat (first | with_reducible exact PF.body | with_reducible apply PF.inB | with_reducible apply PF.next)) [(16, {})] [21, 9, 0, 1, 4, 5, 22] (T' := [(21, .agg #[.int .u16 ((a.th x).cs.idx), .int .u32 ((a.th x).cs.gen)]), (9, .pointer (some ⟨Z.mc, 0, none⟩)), (0, .pointer (some ⟨mb, 0, none⟩)), (1, .int .u32 ad), (4, .int .i64 0), (5, .int .u8 0), (22, .int .u32 ad)]) (φ := True) (fuel := 5) h20 (by kernel_rfl) rfl (by kernel_rfl) (by kernel_rfl) ⟨trivial, trivial⟩ trivial fun a21 h22 => ?_
  clear h20
  refine wpAnyK_one (i := 17) (fuel := 4) (by kernel_rfl) ?_
  refine op_call h22 rfl rfl rfl (callOk Tryd.func39 (by decide) rfl) (args := [.pointer (some ⟨Z.mc, 0, none⟩), .agg #[.int .u16 ((a.th x).cs.idx), .int .u32 ((a.th x).cs.gen)], .int .u32 ad]) rfl (lookupE (E := C.ent) Z.mo Z.mc Z.nd C.pres (a.th x).cs ad ⟨by omega, by omega⟩ ⟨by omega, by omega⟩ _ h22.inv.1.cp.sp h22.inv.1.cp.st h22.inv.1.cp.ap.symm el) ?_
  rintro _ w23 ⟨rfl, hf25⟩
  refine ⟨_, rfl, ?_⟩
  have h24 := (h22.grow hf25).put (d := some 23) (v := .tuple #[.int .i64 s, .int .u8 k]) (T' := [(23, .tuple #[.int .i64 s, .int .u8 k]), (21, .agg #[.int .u16 ((a.th x).cs.idx), .int .u32 ((a.th x).cs.gen)]), (9, .pointer (some ⟨Z.mc, 0, none⟩)), (0, .pointer (some ⟨mb, 0, none⟩)), (1, .int .u32 ad), (4, .int .i64 0), (5, .int .u8 0), (22, .int .u32 ad)]) rfl
  refine ⟨keepNil, ?_⟩
  clear h22
  refine dr_batch tabOk2 tabZ_ok2 (by repeat (first | with_reducible exact PF.body | with_reducible apply PF.inB | with_reducible apply PF.next)) [(18, {}), (19, {}), (20, {}), (21, {})] [0, 1, 4, 5] (T' := [(0, .pointer (some ⟨mb, 0, none⟩)), (1, .int .u32 ad), (4, .int .i64 s), (5, .int .u8 k)]) (φ := True) (fuel := 0) h24 (by kernel_rfl) rfl (by kernel_rfl) (by kernel_rfl) ⟨trivial, trivial, trivial, trivial, trivial⟩ trivial fun a26 h27 => ?_
  clear h24
  refine wpAnyK_done (by kernel_rfl) ?_ _
  refine hK4 _ _ ?_
  clear hK4
  refine wp_ret ?_
  try simp only [Exit.then, Exit.inBlock]
  try rw [if_pos trivial]
  exact s_ret tabOk2 tabZ_ok2 h27 [(.tmp 4, {}), (.tmp 5, {})] (vs := [.int .i64 s, .int .u8 k]) (φ := True) rfl (by kernel_rfl) trivial ⟨rfl, mg_end hH h27 hho rfl⟩

theorem capOf_bad (mb : Nat) (Z : MZ) (R : MR) (a : AK) (C : CP) (x : Nat) (hx : x ∈ sl Z.tl) (hcx : curR Z a = Z.ky x) (hci : 0 ≤ (a.th x).cs.idx ∧ (a.th x).cs.idx < 256) (hcn : a.cur.toNat = x) (ad want need : Int) (had : 0 ≤ ad ∧ ad < 4294967296) (el : lookP C.ent (a.th x).cs ad = (-1, 2)) (w : World) (hH : MH mb Z R a C w) :
    Calls Tryd.prog 90 #[.pointer (some ⟨mb, 0, none⟩), .int .u32 ad, .int .u8 want, .int .u8 need] w fun e w' => e = .returned (.tuple #[.agg (cpC (findA a C ad want need).1).toArray, .int .u8 (findA a C ad want need).2.2]) ∧ MG mb Z R C w Z R a C w' := by
  obtain ⟨ty3, hg3⟩ := hH.g3
  have hho := hH.ho
  have hkk := hH.md.k
  refine enter (n := 46) (K := mdF mb Z R C) (A := MD (mdF mb Z R C) w.heap.size mb Z R a C) (F := mdF mb Z R C) (T := [(0, .pointer (some ⟨mb, 0, none⟩)), (1, .int .u32 ad), (2, .int .u8 want), (3, .int .u8 need)]) (L := [(3, ⟨[.int .u16 0, .int .u32 0], ty3, true⟩)]) (args := [.pointer (some ⟨mb, 0, none⟩), .int .u32 ad, .int .u8 want, .int .u8 need]) Tryd.func90 rfl rfl rfl rfl (kcons hg3 knil) (by simp) (kcons (by intro hq; cases hq) knil) hH.mD MD.stable hH.md.low (kcons (by intro hq; cases hq) knil) ?_
  intro ac h
  refine wp_seq_k fun K1 hK1 => ?_
  refine nd_start (l := [0, 1]) rfl ?_
  refine nd_op ?_
  refine op_new tabOk2 (cells := [.int .u8 0, .int .u16 0, .int .u32 0, .int .u8 0, .int .u64 0]) (ty := 49) (ln := none) (L1 := fun b2 => [(3, ⟨[.int .u16 0, .int .u32 0], ty3, true⟩), (b2, ⟨[.int .u8 0, .int .u16 0, .int .u32 0, .int .u8 0, .int .u64 0], 49, false⟩)]) h rfl rfl rfl rfl (by kernel_rfl) (fun _ => rfl) fun b2 w3 a4 h5 hf6 hn7 => ?_
  clear h
  refine nd_batch tabOk2 tabZ_ok2 [(1, {})] [8, 0, 1, 2, 3, 9] (T' := [(8, .pointer (some ⟨b2, 0, none⟩)), (0, .pointer (some ⟨mb, 0, none⟩)), (1, .int .u32 ad), (2, .int .u8 want), (3, .int .u8 need), (9, .int .u8 0)]) (φ := True) (rest := []) h5 (by kernel_rfl) rfl trivial fun a8 h9 => ?_
  clear h5
  refine nd_done ?_
  refine hK1 _ _ ?_
  clear hK1
  refine wp_seq_k fun K10 hK10 => ?_
  refine nd_start (l := [0, 1, 2, 3, 4, 5, 6, 7]) rfl ?_
  refine nd_batch tabOk2 tabZ_ok2 [(0, {}), (1, {})] [8, 0, 1, 2, 3, 9, 14, 15] (T' := [(8, .pointer (some ⟨b2, 0, none⟩)), (0, .pointer (some ⟨mb, 0, none⟩)), (1, .int .u32 ad), (2, .int .u8 want), (3, .int .u8 need), (9, .int .u8 0), (14, .pointer (some ⟨mb, 0, none⟩)), (15, .int .u32 ad)]) (φ := True) (rest := [2, 3, 4, 5, 6, 7]) h9 (by kernel_rfl) rfl trivial fun a11 h12 => ?_
  clear h9
  refine nd_op ?_
  refine op_call h12 rfl rfl rfl (callOk Tryd.func93 (by decide) rfl) (args := [.pointer (some ⟨mb, 0, none⟩), .int .u32 ad]) rfl (cellOf_ok mb Z _ a C x hx hcx hci ad had el _ (mh_of h12 hho (k := 0) rfl)) ?_
  rintro _ w13 ⟨rfl, hg15⟩
  refine ⟨_, rfl, ?_⟩
  have h16a := st_mg h12 hg15 (kcons (fun _ => rfl) (kcons (fun hq => by cases hq) knil))
  have h16 := h16a.put (d := some 16) (v := .tuple #[.int .i64 (-1), .int .u8 2]) (T' := [(16, .tuple #[.int .i64 (-1), .int .u8 2]), (8, .pointer (some ⟨b2, 0, none⟩)), (0, .pointer (some ⟨mb, 0, none⟩)), (1, .int .u32 ad), (2, .int .u8 want), (3, .int .u8 need), (9, .int .u8 0), (14, .pointer (some ⟨mb, 0, none⟩)), (15, .int .u32 ad)]) rfl
  have hhoh16 := hg15.mh.ho
  clear h12 h16a
  refine nd_batch tabOk2 tabZ_ok2 [(3, {}), (4, {}), (5, {}), (6, {}), (7, {})] [8, 0, 1, 2, 3, 9, 10, 11] (T' := [(8, .pointer (some ⟨b2, 0, none⟩)), (0, .pointer (some ⟨mb, 0, none⟩)), (1, .int .u32 ad), (2, .int .u8 want), (3, .int .u8 need), (9, .int .u8 0), (10, .int .i64 (-1)), (11, .int .u8 2)]) (φ := True) (rest := []) h16 (by kernel_rfl) rfl trivial fun a17 h18 => ?_
  clear h16
  refine nd_done ?_
  refine hK10 _ _ ?_
  clear hK10
  refine wp_seq_k fun K19 hK19 => ?_
  refine wp_seq_k fun K20 hK20 => ?_
  refine nd_start (l := [0, 1]) rfl ?_
  refine nd_batch tabOk2 tabZ_ok2 [(0, {}), (1, {})] [8, 0, 1, 2, 3, 9, 10, 11, 20] (T' := [(8, .pointer (some ⟨b2, 0, none⟩)), (0, .pointer (some ⟨mb, 0, none⟩)), (1, .int .u32 ad), (2, .int .u8 want), (3, .int .u8 need), (9, .int .u8 0), (10, .int .i64 (-1)), (11, .int .u8 2), (20, .bool true)]) (φ := True) (rest := []) h18 (by kernel_rfl) rfl trivial fun a21 h22 => ?_
  clear h18
  refine nd_done ?_
  refine hK20 _ _ ?_
  clear hK20
  refine c_true h22 rfl ?_
  refine wp_seq_k fun K23 hK23 => ?_
  refine nd_start (l := [0, 1, 2, 3]) rfl ?_
  refine nd_batch tabOk2 tabZ_ok2 [(0, {}), (1, {})] [8, 0, 1, 2, 3, 9, 10, 11, 21, 22] (T' := [(8, .pointer (some ⟨b2, 0, none⟩)), (0, .pointer (some ⟨mb, 0, none⟩)), (1, .int .u32 ad), (2, .int .u8 want), (3, .int .u8 need), (9, .int .u8 0), (10, .int .i64 (-1)), (11, .int .u8 2), (21, .agg #[.int .u8 0, .int .u16 0, .int .u32 0, .int .u8 0, .int .u64 0]), (22, .int .u8 2)]) (φ := True) (rest := [2, 3]) h22 (by kernel_rfl) rfl trivial fun a24 h25 => ?_
  clear h22
  refine nd_op ?_
  refine op_store tabOk2 {k := 1} (L' := [(3, ⟨[.int .u16 0, .int .u32 0], ty3, true⟩), (b2, ⟨[.int .u8 0, .int .u16 0, .int .u32 0, .int .u8 0, .int .u64 0], 49, false⟩)]) (φ := b2 = b2 ∧ Nat.ble (0 + 5) 5 = true) h25 rfl rfl rfl (by kernel_rfl) ⟨rfl, rfl⟩ fun w26 h27 => ?_
  clear h25
  refine nd_batch tabOk2 tabZ_ok2 [(3, {})] [8, 0, 1, 2, 3, 10, 11, 9] (T' := [(8, .pointer (some ⟨b2, 0, none⟩)), (0, .pointer (some ⟨mb, 0, none⟩)), (1, .int .u32 ad), (2, .int .u8 want), (3, .int .u8 need), (10, .int .i64 (-1)), (11, .int .u8 2), (9, .int .u8 2)]) (φ := True) (rest := []) h27 (by kernel_rfl) rfl trivial fun a28 h29 => ?_
  clear h27
  refine nd_done ?_
  refine hK23 _ _ ?_
  clear hK23
  refine wp_ret ?_
  try simp only [Exit.then, Exit.inBlock]
  try rw [if_pos trivial]
  exact s_ret tabOk2 tabZ_ok2 h29 [(.cell 8 49, {k := 1}), (.tmp 9, {})] (vs := [.agg #[.int .u8 0, .int .u16 0, .int .u32 0, .int .u8 0, .int .u64 0], .int .u8 2]) (φ := (b2 = b2 ∧ Nat.ble (0 + 5) 5 = true) ∧ True) rfl (by kernel_rfl) ⟨⟨rfl, rfl⟩, trivial⟩ ⟨(by unfold findA; rw [hcn, el]; simp only [ne_eq, if_true, cp0]; rfl), mg_end hH h29 hhoh16 rfl⟩

theorem capOf_good (mb : Nat) (Z : MZ) (R : MR) (a : AK) (C : CP) (x : Nat) (hx : x ∈ sl Z.tl) (hcx : curR Z a = Z.ky x) (hci : 0 ≤ (a.th x).cs.idx ∧ (a.th x).cs.idx < 256) (hcn : a.cur.toNat = x) (ad want need : Int) (had : 0 ≤ ad ∧ ad < 4294967296) (i j : Nat) (hi : i < 256) (hj : j < 16) (hp : C.pres i = true) (el : lookP C.ent (a.th x).cs ad = (((i * 16 + j : Nat) : Int), 0)) (w : World) (hH : MH mb Z R a C w) :
    Calls Tryd.prog 90 #[.pointer (some ⟨mb, 0, none⟩), .int .u32 ad, .int .u8 want, .int .u8 need] w fun e w' => e = .returned (.tuple #[.agg (cpC (findA a C ad want need).1).toArray, .int .u8 (findA a C ad want need).2.2]) ∧ MG mb Z R C w Z R a C w' := by
  obtain ⟨ty3, hg3⟩ := hH.g3
  have hho := hH.ho
  have hkk := hH.md.k
  refine enter (n := 46) (K := mdF mb Z R C) (A := MD (mdF mb Z R C) w.heap.size mb Z R a C) (F := mdF mb Z R C) (T := [(0, .pointer (some ⟨mb, 0, none⟩)), (1, .int .u32 ad), (2, .int .u8 want), (3, .int .u8 need)]) (L := [(3, ⟨[.int .u16 0, .int .u32 0], ty3, true⟩)]) (args := [.pointer (some ⟨mb, 0, none⟩), .int .u32 ad, .int .u8 want, .int .u8 need]) Tryd.func90 rfl rfl rfl rfl (kcons hg3 knil) (by simp) (kcons (by intro hq; cases hq) knil) hH.mD MD.stable hH.md.low (kcons (by intro hq; cases hq) knil) ?_
  intro ac h
  refine wp_seq_k fun K1 hK1 => ?_
  refine nd_start (l := [0, 1]) rfl ?_
  refine nd_op ?_
  refine op_new tabOk2 (cells := [.int .u8 0, .int .u16 0, .int .u32 0, .int .u8 0, .int .u64 0]) (ty := 49) (ln := none) (L1 := fun b2 => [(3, ⟨[.int .u16 0, .int .u32 0], ty3, true⟩), (b2, ⟨[.int .u8 0, .int .u16 0, .int .u32 0, .int .u8 0, .int .u64 0], 49, false⟩)]) h rfl rfl rfl rfl (by kernel_rfl) (fun _ => rfl) fun b2 w3 a4 h5 hf6 hn7 => ?_
  clear h
  refine nd_batch tabOk2 tabZ_ok2 [(1, {})] [8, 0, 1, 2, 3, 9] (T' := [(8, .pointer (some ⟨b2, 0, none⟩)), (0, .pointer (some ⟨mb, 0, none⟩)), (1, .int .u32 ad), (2, .int .u8 want), (3, .int .u8 need), (9, .int .u8 0)]) (φ := True) (rest := []) h5 (by kernel_rfl) rfl trivial fun a8 h9 => ?_
  clear h5
  refine nd_done ?_
  refine hK1 _ _ ?_
  clear hK1
  refine wp_seq_k fun K10 hK10 => ?_
  refine nd_start (l := [0, 1, 2, 3, 4, 5, 6, 7]) rfl ?_
  refine nd_batch tabOk2 tabZ_ok2 [(0, {}), (1, {})] [8, 0, 1, 2, 3, 9, 14, 15] (T' := [(8, .pointer (some ⟨b2, 0, none⟩)), (0, .pointer (some ⟨mb, 0, none⟩)), (1, .int .u32 ad), (2, .int .u8 want), (3, .int .u8 need), (9, .int .u8 0), (14, .pointer (some ⟨mb, 0, none⟩)), (15, .int .u32 ad)]) (φ := True) (rest := [2, 3, 4, 5, 6, 7]) h9 (by kernel_rfl) rfl trivial fun a11 h12 => ?_
  clear h9
  refine nd_op ?_
  refine op_call h12 rfl rfl rfl (callOk Tryd.func93 (by decide) rfl) (args := [.pointer (some ⟨mb, 0, none⟩), .int .u32 ad]) rfl (cellOf_ok mb Z _ a C x hx hcx hci ad had el _ (mh_of h12 hho (k := 0) rfl)) ?_
  rintro _ w13 ⟨rfl, hg15⟩
  refine ⟨_, rfl, ?_⟩
  have h16a := st_mg h12 hg15 (kcons (fun _ => rfl) (kcons (fun hq => by cases hq) knil))
  have h16 := h16a.put (d := some 16) (v := .tuple #[.int .i64 ((i * 16 + j : Nat) : Int), .int .u8 0]) (T' := [(16, .tuple #[.int .i64 ((i * 16 + j : Nat) : Int), .int .u8 0]), (8, .pointer (some ⟨b2, 0, none⟩)), (0, .pointer (some ⟨mb, 0, none⟩)), (1, .int .u32 ad), (2, .int .u8 want), (3, .int .u8 need), (9, .int .u8 0), (14, .pointer (some ⟨mb, 0, none⟩)), (15, .int .u32 ad)]) rfl
  have hhoh16 := hg15.mh.ho
  clear h12 h16a
  refine nd_batch tabOk2 tabZ_ok2 [(3, {}), (4, {}), (5, {}), (6, {}), (7, {})] [8, 0, 1, 2, 3, 9, 10, 11] (T' := [(8, .pointer (some ⟨b2, 0, none⟩)), (0, .pointer (some ⟨mb, 0, none⟩)), (1, .int .u32 ad), (2, .int .u8 want), (3, .int .u8 need), (9, .int .u8 0), (10, .int .i64 ((i * 16 + j : Nat) : Int)), (11, .int .u8 0)]) (φ := True) (rest := []) h16 (by kernel_rfl) rfl trivial fun a17 h18 => ?_
  clear h16
  refine nd_done ?_
  refine hK10 _ _ ?_
  clear hK10
  refine wp_seq_k fun K19 hK19 => ?_
  refine wp_seq_k fun K20 hK20 => ?_
  refine nd_start (l := [0, 1]) rfl ?_
  refine nd_batch tabOk2 tabZ_ok2 [(0, {}), (1, {})] [8, 0, 1, 2, 3, 9, 10, 11, 20] (T' := [(8, .pointer (some ⟨b2, 0, none⟩)), (0, .pointer (some ⟨mb, 0, none⟩)), (1, .int .u32 ad), (2, .int .u8 want), (3, .int .u8 need), (9, .int .u8 0), (10, .int .i64 ((i * 16 + j : Nat) : Int)), (11, .int .u8 0), (20, .bool false)]) (φ := True) (rest := []) h18 (by kernel_rfl) rfl trivial fun a21 h22 => ?_
  clear h18
  refine nd_done ?_
  refine hK20 _ _ ?_
  clear hK20
  refine c_false h22 rfl ?_
  refine wp_skip ?_
  refine hK19 _ _ ?_
  clear hK19
  refine wp_seq_k fun K23 hK23 => ?_
  refine nd_start (l := [0, 1, 2, 3, 4, 5, 6, 7]) rfl ?_
  refine nd_batch tabOk2 tabZ_ok2 [(0, {}), (1, {}), (2, {})] [8, 0, 1, 2, 3, 9, 10, 11, 25] (T' := [(8, .pointer (some ⟨b2, 0, none⟩)), (0, .pointer (some ⟨mb, 0, none⟩)), (1, .int .u32 ad), (2, .int .u8 want), (3, .int .u8 need), (9, .int .u8 0), (10, .int .i64 ((i * 16 + j : Nat) : Int)), (11, .int .u8 0), (25, .pointer (some ⟨mb, 1, none⟩))]) (φ := True) (rest := [3, 4, 5, 6, 7]) h22 (by kernel_rfl) rfl trivial fun a24 h25 => ?_
  clear h22
  refine nd_op ?_
  refine op_read (b := mb) (v := .pointer (some ⟨Z.mc, 0, none⟩)) h25 rfl rfl (rd_m h25 (k := 1) (v := .pointer (some ⟨Z.mc, 0, none⟩)) rfl rfl rfl rfl (md_p ⟨rfl, trivial⟩)) ?_
  have h26 := h25.put (d := some 26) (v := .pointer (some ⟨Z.mc, 0, none⟩)) (T' := [(26, .pointer (some ⟨Z.mc, 0, none⟩)), (8, .pointer (some ⟨b2, 0, none⟩)), (0, .pointer (some ⟨mb, 0, none⟩)), (1, .int .u32 ad), (2, .int .u8 want), (3, .int .u8 need), (9, .int .u8 0), (10, .int .i64 ((i * 16 + j : Nat) : Int)), (11, .int .u8 0), (25, .pointer (some ⟨mb, 1, none⟩))]) rfl
  clear h25
  refine nd_batch tabOk2 tabZ_ok2 [(4, {})] [26, 8, 0, 1, 2, 3, 9, 10, 11, 27] (T' := [(26, .pointer (some ⟨Z.mc, 0, none⟩)), (8, .pointer (some ⟨b2, 0, none⟩)), (0, .pointer (some ⟨mb, 0, none⟩)), (1, .int .u32 ad), (2, .int .u8 want), (3, .int .u8 need), (9, .int .u8 0), (10, .int .i64 ((i * 16 + j : Nat) : Int)), (11, .int .u8 0), (27, .int .i64 ((i * 16 + j : Nat) : Int))]) (φ := True) (rest := [5, 6, 7]) h26 (by kernel_rfl) rfl trivial fun a27 h28 => ?_
  clear h26
  refine nd_op ?_
  refine op_call h28 rfl rfl rfl (callOk Tryd.func62 (by decide) rfl) (args := [.pointer (some ⟨Z.mc, 0, none⟩), .int .i64 ((i * 16 + j : Nat) : Int)]) rfl (at_ok Z.mo Z.mc Z.nd C.pres C.cel i j hi hj hp _ h28.inv.1.cp.sp (h28.inv.1.cp.no hi hp) (h28.inv.1.cp.n1 hi hp).2.symm) ?_
  rintro _ w29 ⟨rfl, hf31⟩
  refine ⟨_, rfl, ?_⟩
  have h30 := (h28.grow hf31).put (d := some 28) (v := .agg #[.int .u8 ((C.cel (i * 16 + j)).cap.ty), .int .u16 ((C.cel (i * 16 + j)).cap.obj.idx), .int .u32 ((C.cel (i * 16 + j)).cap.obj.gen), .int .u8 ((C.cel (i * 16 + j)).cap.rights), .int .u64 ((C.cel (i * 16 + j)).cap.badge)]) (T' := [(28, .agg #[.int .u8 ((C.cel (i * 16 + j)).cap.ty), .int .u16 ((C.cel (i * 16 + j)).cap.obj.idx), .int .u32 ((C.cel (i * 16 + j)).cap.obj.gen), .int .u8 ((C.cel (i * 16 + j)).cap.rights), .int .u64 ((C.cel (i * 16 + j)).cap.badge)]), (26, .pointer (some ⟨Z.mc, 0, none⟩)), (8, .pointer (some ⟨b2, 0, none⟩)), (0, .pointer (some ⟨mb, 0, none⟩)), (1, .int .u32 ad), (2, .int .u8 want), (3, .int .u8 need), (9, .int .u8 0), (10, .int .i64 ((i * 16 + j : Nat) : Int)), (11, .int .u8 0), (27, .int .i64 ((i * 16 + j : Nat) : Int))]) rfl
  clear h28
  refine nd_op ?_
  refine op_new tabOk2 (cells := [.int .u8 0, .int .u16 0, .int .u32 0, .int .u8 0, .int .u64 0]) (ty := 49) (ln := none) (L1 := fun b32 => [(3, ⟨[.int .u16 0, .int .u32 0], ty3, true⟩), (b2, ⟨[.int .u8 0, .int .u16 0, .int .u32 0, .int .u8 0, .int .u64 0], 49, false⟩), (b32, ⟨[.int .u8 0, .int .u16 0, .int .u32 0, .int .u8 0, .int .u64 0], 49, false⟩)]) h30 rfl rfl rfl rfl (by kernel_rfl) (fun _ => rfl) fun b32 w33 a34 h35 hf36 hn37 => ?_
  clear h30
  refine nd_op ?_
  refine op_store tabOk2 {k := 2} (L' := [(3, ⟨[.int .u16 0, .int .u32 0], ty3, true⟩), (b2, ⟨[.int .u8 0, .int .u16 0, .int .u32 0, .int .u8 0, .int .u64 0], 49, false⟩), (b32, ⟨[.int .u8 ((C.cel (i * 16 + j)).cap.ty), .int .u16 ((C.cel (i * 16 + j)).cap.obj.idx), .int .u32 ((C.cel (i * 16 + j)).cap.obj.gen), .int .u8 ((C.cel (i * 16 + j)).cap.rights), .int .u64 ((C.cel (i * 16 + j)).cap.badge)], 49, false⟩)]) (φ := b32 = b32 ∧ Nat.ble (0 + 5) 5 = true) h35 rfl rfl rfl (by kernel_rfl) ⟨rfl, rfl⟩ fun w38 h39 => ?_
  clear h35
  refine nd_done ?_
  refine hK23 _ _ ?_
  clear hK23
  refine wp_seq_k fun K40 hK40 => ?_
  refine wp_seq_k fun K41 hK41 => ?_
  refine nd_start (l := [0, 1, 2]) rfl ?_
  refine nd_batch tabOk2 tabZ_ok2 [(0, {}), (1, {k := 2}), (2, {})] [12, 8, 0, 1, 2, 3, 9, 10, 11, 31] (T' := [(12, .pointer (some ⟨b32, 0, none⟩)), (8, .pointer (some ⟨b2, 0, none⟩)), (0, .pointer (some ⟨mb, 0, none⟩)), (1, .int .u32 ad), (2, .int .u8 want), (3, .int .u8 need), (9, .int .u8 0), (10, .int .i64 ((i * 16 + j : Nat) : Int)), (11, .int .u8 0), (31, .bool ((C.cel (i * 16 + j)).cap.ty == 0))]) (φ := (b32 = b32 ∧ Nat.ble (0 + 1) 5 = true) ∧ True) (rest := []) h39 (by kernel_rfl) rfl ⟨⟨rfl, rfl⟩, trivial⟩ fun a42 h43 => ?_
  clear h39
  refine nd_done ?_
  refine hK41 _ _ ?_
  clear hK41
  refine c_split h43 (b := ((C.cel (i * 16 + j)).cap.ty == 0)) rfl (fun hc44 => ?_) (fun hc44 => ?_)
  ·
    have hc44f : (C.cel (i * 16 + j)).cap.ty = 0 := by simpa using hc44
    refine wp_seq_k fun K45 hK45 => ?_
    refine nd_start (l := [0, 1, 2]) rfl ?_
    refine nd_batch tabOk2 tabZ_ok2 [(0, {k := 2})] [12, 8, 0, 1, 2, 3, 9, 10, 11, 32] (T' := [(12, .pointer (some ⟨b32, 0, none⟩)), (8, .pointer (some ⟨b2, 0, none⟩)), (0, .pointer (some ⟨mb, 0, none⟩)), (1, .int .u32 ad), (2, .int .u8 want), (3, .int .u8 need), (9, .int .u8 0), (10, .int .i64 ((i * 16 + j : Nat) : Int)), (11, .int .u8 0), (32, .agg #[.int .u8 ((C.cel (i * 16 + j)).cap.ty), .int .u16 ((C.cel (i * 16 + j)).cap.obj.idx), .int .u32 ((C.cel (i * 16 + j)).cap.obj.gen), .int .u8 ((C.cel (i * 16 + j)).cap.rights), .int .u64 ((C.cel (i * 16 + j)).cap.badge)])]) (φ := (b32 = b32 ∧ Nat.ble (0 + 5) 5 = true) ∧ True) (rest := [1, 2]) h43 (by kernel_rfl) rfl ⟨⟨rfl, rfl⟩, trivial⟩ fun a46 h47 => ?_
    clear h43
    refine nd_op ?_
    refine op_store tabOk2 {k := 1} (L' := [(3, ⟨[.int .u16 0, .int .u32 0], ty3, true⟩), (b2, ⟨[.int .u8 ((C.cel (i * 16 + j)).cap.ty), .int .u16 ((C.cel (i * 16 + j)).cap.obj.idx), .int .u32 ((C.cel (i * 16 + j)).cap.obj.gen), .int .u8 ((C.cel (i * 16 + j)).cap.rights), .int .u64 ((C.cel (i * 16 + j)).cap.badge)], 49, false⟩), (b32, ⟨[.int .u8 ((C.cel (i * 16 + j)).cap.ty), .int .u16 ((C.cel (i * 16 + j)).cap.obj.idx), .int .u32 ((C.cel (i * 16 + j)).cap.obj.gen), .int .u8 ((C.cel (i * 16 + j)).cap.rights), .int .u64 ((C.cel (i * 16 + j)).cap.badge)], 49, false⟩)]) (φ := b2 = b2 ∧ Nat.ble (0 + 5) 5 = true) h47 rfl rfl rfl (by kernel_rfl) ⟨rfl, rfl⟩ fun w48 h49 => ?_
    clear h47
    refine nd_batch tabOk2 tabZ_ok2 [(2, {})] [12, 8, 0, 1, 2, 3, 10, 11, 9] (T' := [(12, .pointer (some ⟨b32, 0, none⟩)), (8, .pointer (some ⟨b2, 0, none⟩)), (0, .pointer (some ⟨mb, 0, none⟩)), (1, .int .u32 ad), (2, .int .u8 want), (3, .int .u8 need), (10, .int .i64 ((i * 16 + j : Nat) : Int)), (11, .int .u8 0), (9, .int .u8 3)]) (φ := True) (rest := []) h49 (by kernel_rfl) rfl trivial fun a50 h51 => ?_
    clear h49
    refine nd_done ?_
    refine hK45 _ _ ?_
    clear hK45
    refine wp_ret ?_
    try simp only [Exit.then, Exit.inBlock]
    try rw [if_pos trivial]
    exact s_ret tabOk2 tabZ_ok2 h51 [(.cell 8 49, {k := 1}), (.tmp 9, {})] (vs := [.agg #[.int .u8 ((C.cel (i * 16 + j)).cap.ty), .int .u16 ((C.cel (i * 16 + j)).cap.obj.idx), .int .u32 ((C.cel (i * 16 + j)).cap.obj.gen), .int .u8 ((C.cel (i * 16 + j)).cap.rights), .int .u64 ((C.cel (i * 16 + j)).cap.badge)], .int .u8 3]) (φ := (b2 = b2 ∧ Nat.ble (0 + 5) 5 = true) ∧ True) rfl (by kernel_rfl) ⟨⟨rfl, rfl⟩, trivial⟩ ⟨(by unfold findA; rw [hcn, el]; simp only [ne_eq, not_true_eq_false, if_false, Int.toNat_natCast]; (first | rw [if_pos hc44f] | rw [if_pos (fun hz => hz hc44f)]); rfl), mg_end hH h51 hhoh16 rfl⟩
  ·
    have hc44f : (C.cel (i * 16 + j)).cap.ty ≠ 0 := by simpa using hc44
    refine wp_skip ?_
    refine hK40 _ _ ?_
    clear hK40
    refine wp_seq_k fun K52 hK52 => ?_
    refine wp_seq_k fun K53 hK53 => ?_
    refine nd_start (l := [0, 1, 2, 3]) rfl ?_
    refine nd_batch tabOk2 tabZ_ok2 [(0, {}), (1, {k := 2}), (2, {}), (3, {})] [12, 8, 0, 1, 2, 3, 9, 10, 11, 36] (T' := [(12, .pointer (some ⟨b32, 0, none⟩)), (8, .pointer (some ⟨b2, 0, none⟩)), (0, .pointer (some ⟨mb, 0, none⟩)), (1, .int .u32 ad), (2, .int .u8 want), (3, .int .u8 need), (9, .int .u8 0), (10, .int .i64 ((i * 16 + j : Nat) : Int)), (11, .int .u8 0), (36, .bool ((C.cel (i * 16 + j)).cap.ty != want))]) (φ := (b32 = b32 ∧ Nat.ble (0 + 1) 5 = true) ∧ True) (rest := []) h43 (by kernel_rfl) rfl ⟨⟨rfl, rfl⟩, trivial⟩ fun a54 h55 => ?_
    clear h43
    refine nd_done ?_
    refine hK53 _ _ ?_
    clear hK53
    refine c_split h55 (b := ((C.cel (i * 16 + j)).cap.ty != want)) rfl (fun hc56 => ?_) (fun hc56 => ?_)
    ·
      have hc56f : (C.cel (i * 16 + j)).cap.ty ≠ want := by simpa using hc56
      refine wp_seq_k fun K57 hK57 => ?_
      refine nd_start (l := [0, 1, 2]) rfl ?_
      refine nd_batch tabOk2 tabZ_ok2 [(0, {k := 2})] [12, 8, 0, 1, 2, 3, 9, 10, 11, 37] (T' := [(12, .pointer (some ⟨b32, 0, none⟩)), (8, .pointer (some ⟨b2, 0, none⟩)), (0, .pointer (some ⟨mb, 0, none⟩)), (1, .int .u32 ad), (2, .int .u8 want), (3, .int .u8 need), (9, .int .u8 0), (10, .int .i64 ((i * 16 + j : Nat) : Int)), (11, .int .u8 0), (37, .agg #[.int .u8 ((C.cel (i * 16 + j)).cap.ty), .int .u16 ((C.cel (i * 16 + j)).cap.obj.idx), .int .u32 ((C.cel (i * 16 + j)).cap.obj.gen), .int .u8 ((C.cel (i * 16 + j)).cap.rights), .int .u64 ((C.cel (i * 16 + j)).cap.badge)])]) (φ := (b32 = b32 ∧ Nat.ble (0 + 5) 5 = true) ∧ True) (rest := [1, 2]) h55 (by kernel_rfl) rfl ⟨⟨rfl, rfl⟩, trivial⟩ fun a58 h59 => ?_
      clear h55
      refine nd_op ?_
      refine op_store tabOk2 {k := 1} (L' := [(3, ⟨[.int .u16 0, .int .u32 0], ty3, true⟩), (b2, ⟨[.int .u8 ((C.cel (i * 16 + j)).cap.ty), .int .u16 ((C.cel (i * 16 + j)).cap.obj.idx), .int .u32 ((C.cel (i * 16 + j)).cap.obj.gen), .int .u8 ((C.cel (i * 16 + j)).cap.rights), .int .u64 ((C.cel (i * 16 + j)).cap.badge)], 49, false⟩), (b32, ⟨[.int .u8 ((C.cel (i * 16 + j)).cap.ty), .int .u16 ((C.cel (i * 16 + j)).cap.obj.idx), .int .u32 ((C.cel (i * 16 + j)).cap.obj.gen), .int .u8 ((C.cel (i * 16 + j)).cap.rights), .int .u64 ((C.cel (i * 16 + j)).cap.badge)], 49, false⟩)]) (φ := b2 = b2 ∧ Nat.ble (0 + 5) 5 = true) h59 rfl rfl rfl (by kernel_rfl) ⟨rfl, rfl⟩ fun w60 h61 => ?_
      clear h59
      refine nd_batch tabOk2 tabZ_ok2 [(2, {})] [12, 8, 0, 1, 2, 3, 10, 11, 9] (T' := [(12, .pointer (some ⟨b32, 0, none⟩)), (8, .pointer (some ⟨b2, 0, none⟩)), (0, .pointer (some ⟨mb, 0, none⟩)), (1, .int .u32 ad), (2, .int .u8 want), (3, .int .u8 need), (10, .int .i64 ((i * 16 + j : Nat) : Int)), (11, .int .u8 0), (9, .int .u8 4)]) (φ := True) (rest := []) h61 (by kernel_rfl) rfl trivial fun a62 h63 => ?_
      clear h61
      refine nd_done ?_
      refine hK57 _ _ ?_
      clear hK57
      refine wp_ret ?_
      try simp only [Exit.then, Exit.inBlock]
      try rw [if_pos trivial]
      exact s_ret tabOk2 tabZ_ok2 h63 [(.cell 8 49, {k := 1}), (.tmp 9, {})] (vs := [.agg #[.int .u8 ((C.cel (i * 16 + j)).cap.ty), .int .u16 ((C.cel (i * 16 + j)).cap.obj.idx), .int .u32 ((C.cel (i * 16 + j)).cap.obj.gen), .int .u8 ((C.cel (i * 16 + j)).cap.rights), .int .u64 ((C.cel (i * 16 + j)).cap.badge)], .int .u8 4]) (φ := (b2 = b2 ∧ Nat.ble (0 + 5) 5 = true) ∧ True) rfl (by kernel_rfl) ⟨⟨rfl, rfl⟩, trivial⟩ ⟨(by unfold findA; rw [hcn, el]; simp only [ne_eq, not_true_eq_false, if_false, Int.toNat_natCast]; (first | rw [if_neg hc44f] | rw [if_neg (fun hz => hz hc44f)]); (first | rw [if_pos hc56f] | rw [if_pos (fun hz => hz hc56f)]); rfl), mg_end hH h63 hhoh16 rfl⟩
    ·
      have hc56f : (C.cel (i * 16 + j)).cap.ty = want := by simpa using hc56
      refine wp_skip ?_
      refine hK52 _ _ ?_
      clear hK52
      refine wp_seq_k fun K64 hK64 => ?_
      refine wp_seq_k fun K65 hK65 => ?_
      refine nd_start (l := [0, 1, 2, 3, 4, 5]) rfl ?_
      refine nd_batch tabOk2 tabZ_ok2 [(0, {}), (1, {k := 2}), (2, {}), (3, {}), (4, {}), (5, {})] [12, 8, 0, 1, 2, 3, 9, 10, 11, 43] (T' := [(12, .pointer (some ⟨b32, 0, none⟩)), (8, .pointer (some ⟨b2, 0, none⟩)), (0, .pointer (some ⟨mb, 0, none⟩)), (1, .int .u32 ad), (2, .int .u8 want), (3, .int .u8 need), (9, .int .u8 0), (10, .int .i64 ((i * 16 + j : Nat) : Int)), (11, .int .u8 0), (43, .bool (bitI .and .u8 ((C.cel (i * 16 + j)).cap.rights) need != need))]) (φ := (b32 = b32 ∧ Nat.ble (3 + 1) 5 = true) ∧ True) (rest := []) h55 (by kernel_rfl) rfl ⟨⟨rfl, rfl⟩, trivial⟩ fun a66 h67 => ?_
      clear h55
      refine nd_done ?_
      refine hK65 _ _ ?_
      clear hK65
      refine c_split h67 (b := (bitI .and .u8 ((C.cel (i * 16 + j)).cap.rights) need != need)) rfl (fun hc68 => ?_) (fun hc68 => ?_)
      ·
        have hc68f : bitI .and .u8 ((C.cel (i * 16 + j)).cap.rights) need ≠ need := by simpa using hc68
        refine wp_seq_k fun K69 hK69 => ?_
        refine nd_start (l := [0, 1, 2]) rfl ?_
        refine nd_batch tabOk2 tabZ_ok2 [(0, {k := 2})] [12, 8, 0, 1, 2, 3, 9, 10, 11, 44] (T' := [(12, .pointer (some ⟨b32, 0, none⟩)), (8, .pointer (some ⟨b2, 0, none⟩)), (0, .pointer (some ⟨mb, 0, none⟩)), (1, .int .u32 ad), (2, .int .u8 want), (3, .int .u8 need), (9, .int .u8 0), (10, .int .i64 ((i * 16 + j : Nat) : Int)), (11, .int .u8 0), (44, .agg #[.int .u8 ((C.cel (i * 16 + j)).cap.ty), .int .u16 ((C.cel (i * 16 + j)).cap.obj.idx), .int .u32 ((C.cel (i * 16 + j)).cap.obj.gen), .int .u8 ((C.cel (i * 16 + j)).cap.rights), .int .u64 ((C.cel (i * 16 + j)).cap.badge)])]) (φ := (b32 = b32 ∧ Nat.ble (0 + 5) 5 = true) ∧ True) (rest := [1, 2]) h67 (by kernel_rfl) rfl ⟨⟨rfl, rfl⟩, trivial⟩ fun a70 h71 => ?_
        clear h67
        refine nd_op ?_
        refine op_store tabOk2 {k := 1} (L' := [(3, ⟨[.int .u16 0, .int .u32 0], ty3, true⟩), (b2, ⟨[.int .u8 ((C.cel (i * 16 + j)).cap.ty), .int .u16 ((C.cel (i * 16 + j)).cap.obj.idx), .int .u32 ((C.cel (i * 16 + j)).cap.obj.gen), .int .u8 ((C.cel (i * 16 + j)).cap.rights), .int .u64 ((C.cel (i * 16 + j)).cap.badge)], 49, false⟩), (b32, ⟨[.int .u8 ((C.cel (i * 16 + j)).cap.ty), .int .u16 ((C.cel (i * 16 + j)).cap.obj.idx), .int .u32 ((C.cel (i * 16 + j)).cap.obj.gen), .int .u8 ((C.cel (i * 16 + j)).cap.rights), .int .u64 ((C.cel (i * 16 + j)).cap.badge)], 49, false⟩)]) (φ := b2 = b2 ∧ Nat.ble (0 + 5) 5 = true) h71 rfl rfl rfl (by kernel_rfl) ⟨rfl, rfl⟩ fun w72 h73 => ?_
        clear h71
        refine nd_batch tabOk2 tabZ_ok2 [(2, {})] [12, 8, 0, 1, 2, 3, 10, 11, 9] (T' := [(12, .pointer (some ⟨b32, 0, none⟩)), (8, .pointer (some ⟨b2, 0, none⟩)), (0, .pointer (some ⟨mb, 0, none⟩)), (1, .int .u32 ad), (2, .int .u8 want), (3, .int .u8 need), (10, .int .i64 ((i * 16 + j : Nat) : Int)), (11, .int .u8 0), (9, .int .u8 5)]) (φ := True) (rest := []) h73 (by kernel_rfl) rfl trivial fun a74 h75 => ?_
        clear h73
        refine nd_done ?_
        refine hK69 _ _ ?_
        clear hK69
        refine wp_ret ?_
        try simp only [Exit.then, Exit.inBlock]
        try rw [if_pos trivial]
        exact s_ret tabOk2 tabZ_ok2 h75 [(.cell 8 49, {k := 1}), (.tmp 9, {})] (vs := [.agg #[.int .u8 ((C.cel (i * 16 + j)).cap.ty), .int .u16 ((C.cel (i * 16 + j)).cap.obj.idx), .int .u32 ((C.cel (i * 16 + j)).cap.obj.gen), .int .u8 ((C.cel (i * 16 + j)).cap.rights), .int .u64 ((C.cel (i * 16 + j)).cap.badge)], .int .u8 5]) (φ := (b2 = b2 ∧ Nat.ble (0 + 5) 5 = true) ∧ True) rfl (by kernel_rfl) ⟨⟨rfl, rfl⟩, trivial⟩ ⟨(by unfold findA; rw [hcn, el]; simp only [ne_eq, not_true_eq_false, if_false, Int.toNat_natCast]; (first | rw [if_neg hc44f] | rw [if_neg (fun hz => hz hc44f)]); (first | rw [if_neg hc56f] | rw [if_neg (fun hz => hz hc56f)]); (first | rw [if_pos hc68f] | rw [if_pos (fun hz => hz hc68f)]); rfl), mg_end hH h75 hhoh16 rfl⟩
      ·
        have hc68f : bitI .and .u8 ((C.cel (i * 16 + j)).cap.rights) need = need := by simpa using hc68
        refine wp_skip ?_
        refine hK64 _ _ ?_
        clear hK64
        refine wp_seq_k fun K76 hK76 => ?_
        refine nd_start (l := [0, 1, 2]) rfl ?_
        refine nd_batch tabOk2 tabZ_ok2 [(0, {k := 2})] [12, 8, 0, 1, 2, 3, 9, 10, 11, 45] (T' := [(12, .pointer (some ⟨b32, 0, none⟩)), (8, .pointer (some ⟨b2, 0, none⟩)), (0, .pointer (some ⟨mb, 0, none⟩)), (1, .int .u32 ad), (2, .int .u8 want), (3, .int .u8 need), (9, .int .u8 0), (10, .int .i64 ((i * 16 + j : Nat) : Int)), (11, .int .u8 0), (45, .agg #[.int .u8 ((C.cel (i * 16 + j)).cap.ty), .int .u16 ((C.cel (i * 16 + j)).cap.obj.idx), .int .u32 ((C.cel (i * 16 + j)).cap.obj.gen), .int .u8 ((C.cel (i * 16 + j)).cap.rights), .int .u64 ((C.cel (i * 16 + j)).cap.badge)])]) (φ := (b32 = b32 ∧ Nat.ble (0 + 5) 5 = true) ∧ True) (rest := [1, 2]) h67 (by kernel_rfl) rfl ⟨⟨rfl, rfl⟩, trivial⟩ fun a77 h78 => ?_
        clear h67
        refine nd_op ?_
        refine op_store tabOk2 {k := 1} (L' := [(3, ⟨[.int .u16 0, .int .u32 0], ty3, true⟩), (b2, ⟨[.int .u8 ((C.cel (i * 16 + j)).cap.ty), .int .u16 ((C.cel (i * 16 + j)).cap.obj.idx), .int .u32 ((C.cel (i * 16 + j)).cap.obj.gen), .int .u8 ((C.cel (i * 16 + j)).cap.rights), .int .u64 ((C.cel (i * 16 + j)).cap.badge)], 49, false⟩), (b32, ⟨[.int .u8 ((C.cel (i * 16 + j)).cap.ty), .int .u16 ((C.cel (i * 16 + j)).cap.obj.idx), .int .u32 ((C.cel (i * 16 + j)).cap.obj.gen), .int .u8 ((C.cel (i * 16 + j)).cap.rights), .int .u64 ((C.cel (i * 16 + j)).cap.badge)], 49, false⟩)]) (φ := b2 = b2 ∧ Nat.ble (0 + 5) 5 = true) h78 rfl rfl rfl (by kernel_rfl) ⟨rfl, rfl⟩ fun w79 h80 => ?_
        clear h78
        refine nd_batch tabOk2 tabZ_ok2 [(2, {})] [12, 8, 0, 1, 2, 3, 10, 11, 9] (T' := [(12, .pointer (some ⟨b32, 0, none⟩)), (8, .pointer (some ⟨b2, 0, none⟩)), (0, .pointer (some ⟨mb, 0, none⟩)), (1, .int .u32 ad), (2, .int .u8 want), (3, .int .u8 need), (10, .int .i64 ((i * 16 + j : Nat) : Int)), (11, .int .u8 0), (9, .int .u8 0)]) (φ := True) (rest := []) h80 (by kernel_rfl) rfl trivial fun a81 h82 => ?_
        clear h80
        refine nd_done ?_
        refine hK76 _ _ ?_
        clear hK76
        refine wp_ret ?_
        try simp only [Exit.then, Exit.inBlock]
        try rw [if_pos trivial]
        exact s_ret tabOk2 tabZ_ok2 h82 [(.cell 8 49, {k := 1}), (.tmp 9, {})] (vs := [.agg #[.int .u8 ((C.cel (i * 16 + j)).cap.ty), .int .u16 ((C.cel (i * 16 + j)).cap.obj.idx), .int .u32 ((C.cel (i * 16 + j)).cap.obj.gen), .int .u8 ((C.cel (i * 16 + j)).cap.rights), .int .u64 ((C.cel (i * 16 + j)).cap.badge)], .int .u8 0]) (φ := (b2 = b2 ∧ Nat.ble (0 + 5) 5 = true) ∧ True) rfl (by kernel_rfl) ⟨⟨rfl, rfl⟩, trivial⟩ ⟨(by unfold findA; rw [hcn, el]; simp only [ne_eq, not_true_eq_false, if_false, Int.toNat_natCast]; (first | rw [if_neg hc44f] | rw [if_neg (fun hz => hz hc44f)]); (first | rw [if_neg hc56f] | rw [if_neg (fun hz => hz hc56f)]); (first | rw [if_neg hc68f] | rw [if_neg (fun hz => hz hc68f)]); rfl), mg_end hH h82 hhoh16 rfl⟩

theorem capOf_ok (mb : Nat) (Z : MZ) (R : MR) (a : AK) (C : CP) (x : Nat) (hx : x ∈ sl Z.tl) (hcx : curR Z a = Z.ky x) (hci : 0 ≤ (a.th x).cs.idx ∧ (a.th x).cs.idx < 256) (hcn : a.cur.toNat = x) (hC : CI C) (ad want need : Int) (had : 0 ≤ ad ∧ ad < 4294967296) (w : World) (hH : MH mb Z R a C w) {c : Cp} {s k : Int} (hf : findA a C ad want need = (c, s, k)) :
    Calls Tryd.prog 90 #[.pointer (some ⟨mb, 0, none⟩), .int .u32 ad, .int .u8 want, .int .u8 need] w fun e w' => e = .returned (.tuple #[.agg (cpC c).toArray, .int .u8 k]) ∧ MG mb Z R C w Z R a C w' := by
  rcases look_cases hC (r := (a.th x).cs) hci.1 had.1 with e | ⟨i, j, h1, h2, h3, e⟩
  · have h := capOf_bad mb Z R a C x hx hcx hci hcn ad want need had e w hH
    rw [hf] at h; exact h
  · have h := capOf_good mb Z R a C x hx hcx hci hcn ad want need had i j h1 h2 h3 e w hH
    rw [hf] at h; exact h

end Go.Proofs.Qxb6500918aDoor
