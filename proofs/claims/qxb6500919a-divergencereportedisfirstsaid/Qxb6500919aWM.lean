/-
  An edit of a log. (Made by program: a symbolic walk that prints its steps.)
-/
import Derived.Test.Qxb6500919aTab
import Derived.Test.Qxb6500919aRw
import Derived.Test.Qxb6500919aLw
import Derived.Test.Qxb6500919aL7
import Derived.Test.Qxb6500919aW1
import Derived.Test.Qxb6500919aW2
import Derived.Test.Qxb6500919aW3
import Derived.Test.Qxb6500919aW4
namespace Go.Proofs.Qxb6500919a
open Go.Sx Go.Rp
set_option maxRecDepth 100000
set_option maxHeartbeats 4000000
set_option linter.unusedVariables false
set_option linter.unusedSimpArgs false

theorem tamper_ok (bl : Nat) (d : Hd) (lg : Lg) (w : World) (hl : LogAt w bl d lg) (op : Opn) (hb0 : 0 ≤ lg.base.idx) (hb1 : lg.base.idx ≤ 900000000) (hlen : lg.evs.length ≤ 1000) (hml : lg.mks.length ≤ 1000) (hsl : lg.sns.length ≤ 1000) :
    Calls Try.prog 22 #[.pointer (some ⟨bl, 0, none⟩), .agg (opC op).toArray] w fun e w' => e = .returned (.tuple #[]) ∧ LogAt w' bl d (tampR lg op) ∧ Fr (bl :: d.F) w w' := by
  have hfq : lg.fin = lg.base.idx + (lg.evs.length : Int) := rfl
  obtain ⟨eo, ec, eF, mo, mc, mF, so, sc, sF⟩ := d
  obtain ⟨hbl, hA, hsep⟩ := hl
  refine enter (n := 138) (K := (bl :: (eF ++ (mF ++ (sF ++ []))))) (A := Rws [rl evC 33 3 lg.evs eo ec eF, rl mkC 78 2 lg.mks mo mc mF, rl ptC 66 15 lg.sns so sc sF]) (F := Ff [rl evC 33 3 lg.evs eo ec eF, rl mkC 78 2 lg.mks mo mc mF, rl ptC 66 15 lg.sns so sc sF]) (T := [(0, .pointer (some ⟨bl, 0, none⟩)), (1, .agg #[.int .u8 op.kind, .int .i64 op.n, .int .i64 op.m, .int .u8 op.ev.kind, .int .u32 op.ev.pick, .int .u64 op.ev.arg])]) (L := [(bl, ⟨logC lg.base (.slice eo lg.evs.length ec) (.slice mo lg.mks.length mc) (.slice so lg.sns.length sc), 69, false⟩)]) (args := [.pointer (some ⟨bl, 0, none⟩), .agg #[.int .u8 op.kind, .int .i64 op.n, .int .i64 op.m, .int .u8 op.ev.kind, .int .u32 op.ev.pick, .int .u64 op.ev.arg]]) Try.func22 rfl rfl rfl rfl (kcons hbl knil) (by simp) (kcons (by simp) knil) hA Rws.stable (hA).low (kcons (fun _ => hsep) knil) ?_
  intro a h
  refine wp_seq_k fun K1 hK1 => ?_
  refine nd_start (l := [0]) rfl ?_
  refine nd_op ?_
  refine op_new tabOk (cells := [.int .u8 op.kind, .int .i64 op.n, .int .i64 op.m, .int .u8 op.ev.kind, .int .u32 op.ev.pick, .int .u64 op.ev.arg]) (ty := 35) (ln := none) (L1 := fun b2 => [(bl, ⟨logC lg.base (.slice eo lg.evs.length ec) (.slice mo lg.mks.length mc) (.slice so lg.sns.length sc), 69, false⟩), (b2, ⟨[.int .u8 op.kind, .int .i64 op.n, .int .i64 op.m, .int .u8 op.ev.kind, .int .u32 op.ev.pick, .int .u64 op.ev.arg], 35, false⟩)]) h rfl rfl rfl rfl (by kernel_rfl) (fun _ => rfl) fun b2 w3 a4 h5 hf6 hn7 => ?_
  clear h
  refine nd_done ?_
  refine hK1 _ _ ?_
  clear hK1
  refine wp_block ?_
  refine wp_seq_k fun K8 hK8 => ?_
  rcases Bool.eq_false_or_eq_true ((op.kind == 9)) with hb9 | hb9
  ·
    have hb9f : op.kind = 9 := by simpa using hb9
    rcases Bool.eq_false_or_eq_true (decide (op.n ≥ lg.base.idx)) with hb10 | hb10
    ·
      have hb10f : op.n ≥ lg.base.idx := by simpa using hb10
      refine dr_start (KB := [bl, b2]) (Bi := [[0, 1], [0, 1], [0, 1], [0, 1], [0, 1], [0, 1], [0, 1], [0, 1], [0, 1], [0, 1], [0, 1], [0, 1], [0, 1], [0, 1], [0, 1], [0, 1], [0, 1], [1], [0, 1], [0, 1], [0, 1]]) mixed h5 fun w11 h12 => ?_
      clear h5
      refine dr_batch tabOk tabZ_ok (by repeat (first | exact PF.body | with_reducible apply PF.inB | with_reducible apply PF.next)) [(0, {}), (1, {k := 1, p := 1}), (2, {f := 2}), (3, {}), (4, {}), (5, {k := 1, p := 1}), (6, {}), (7, {}), (8, {}), (9, {}), (10, {k := 0, p := 0}), (11, {f := 2}), (12, {}), (13, {}), (14, {}), (15, {k := 1, p := 1}), (16, {})] [3, 0, 1, 18, 20, 21] (T' := [(3, .pointer (some ⟨b2, 0, none⟩)), (0, .pointer (some ⟨bl, 0, none⟩)), (1, .agg #[.int .u8 op.kind, .int .i64 op.n, .int .i64 op.m, .int .u8 op.ev.kind, .int .u32 op.ev.pick, .int .u64 op.ev.arg]), (18, .bool true), (20, .int .i64 op.n), (21, .pointer (some ⟨bl, 0, none⟩))]) (φ := (b2 = b2 ∧ Nat.ble (0 + 1) 6 = true) ∧ ((op.kind == 9)) = true ∧ (b2 = b2 ∧ Nat.ble (1 + 1) 6 = true) ∧ (bl = bl ∧ Nat.ble (0 + 1) 18 = true) ∧ (decide (op.n ≥ lg.base.idx)) = true ∧ (b2 = b2 ∧ Nat.ble (1 + 1) 6 = true) ∧ True) (fuel := 4) h12 (by kernel_rfl) rfl (by kernel_rfl) (by kernel_rfl) ⟨trivial, rfl, trivial, trivial, trivial, rfl, trivial, trivial, trivial, trivial, rfl, trivial, trivial, trivial, trivial, rfl, trivial, trivial⟩ ⟨⟨rfl, rfl⟩, hb9, ⟨rfl, rfl⟩, ⟨rfl, rfl⟩, hb10, ⟨rfl, rfl⟩, trivial⟩ fun a14 h15 => ?_
      clear h12
      refine wpAnyK_one (i := 17) (fuel := 3) (by kernel_rfl) ?_
      refine op_call h15 rfl rfl rfl (callOk Try.func20 (by decide) rfl) (args := [.pointer (some ⟨bl, 0, none⟩)]) rfl (end_ok bl lg.base eo lg.evs.length ec _ _ false _ (h15.kn (k := 0) rfl) hb0 (by omega) (by omega)) ?_
      rintro _ w16 ⟨rfl, hf18⟩
      refine ⟨_, rfl, ?_⟩
      have h17 := (h15.grow hf18).put (d := some 22) (v := .int .i64 (lg.base.idx + (lg.evs.length : Int))) (T' := [(22, .int .i64 (lg.base.idx + (lg.evs.length : Int))), (3, .pointer (some ⟨b2, 0, none⟩)), (0, .pointer (some ⟨bl, 0, none⟩)), (1, .agg #[.int .u8 op.kind, .int .i64 op.n, .int .i64 op.m, .int .u8 op.ev.kind, .int .u32 op.ev.pick, .int .u64 op.ev.arg]), (18, .bool true), (20, .int .i64 op.n), (21, .pointer (some ⟨bl, 0, none⟩))]) rfl
      refine ⟨(h15.keepFr hf18 (kcons (by simp) knil)), ?_⟩
      clear h15
      refine dr_batch tabOk tabZ_ok (by repeat (first | exact PF.body | with_reducible apply PF.inB | with_reducible apply PF.next)) [(18, {}), (19, {}), (20, {})] [3, 0, 1, 4] (T' := [(3, .pointer (some ⟨b2, 0, none⟩)), (0, .pointer (some ⟨bl, 0, none⟩)), (1, .agg #[.int .u8 op.kind, .int .i64 op.n, .int .i64 op.m, .int .u8 op.ev.kind, .int .u32 op.ev.pick, .int .u64 op.ev.arg]), (4, .bool (decide (op.n < (lg.base.idx + (lg.evs.length : Int)))))]) (φ := True) (fuel := 0) h17 (by kernel_rfl) rfl (by kernel_rfl) (by kernel_rfl) ⟨trivial, trivial, trivial, trivial⟩ trivial fun a19 h20 => ?_
      clear h17
      refine wpAnyK_done (by kernel_rfl) ?_ _
      refine hK8 _ _ ?_
      clear hK8
      refine c_split h20 (b := decide (op.n < (lg.base.idx + (lg.evs.length : Int)))) rfl (fun hc21 => ?_) (fun hc21 => ?_)
      ·
        have hc21f : op.n < (lg.base.idx + (lg.evs.length : Int)) := by simpa using hc21
        obtain ⟨x, hx⟩ := Sx.get_some (xs := lg.evs) (i := (op.n - lg.base.idx).toNat) (by omega)
        obtain ⟨rb22, cs23, ho, hbr, hlr, hcr, htr, hFr⟩ := Row.open_ (h20.inv.get (j := 0) (r := rl evC 33 3 lg.evs eo ec eF) rfl) (by show 0 < lg.evs.length; omega)
        simp only at ho hFr
        subst ho hFr
        have hcr2 : lg.evs.length ≤ ec := hcr
        have hlr2 : cs23.length = ec * 3 := hlr
        have h24 := h20.rowTake (R' := [rl mkC 78 2 lg.mks mo mc mF, rl ptC 66 15 lg.sns so sc sF]) (r := rl evC 33 3 lg.evs (some ⟨rb22, 0, none⟩) ec ([rb22])) (List.perm_append_comm (l₁ := [rl evC 33 3 lg.evs (some ⟨rb22, 0, none⟩) ec ([rb22])]) (l₂ := [rl mkC 78 2 lg.mks mo mc mF, rl ptC 66 15 lg.sns so sc sF])) rfl hbr (.inl (by simp)) (kcons (by intro hq; cases hq) (kcons (by intro hq; cases hq) knil))
        clear h20
        refine dr_start (KB := [bl, b2, rb22]) (Bi := [[0, 1, 2], [0, 1, 2], [0, 1, 2], [0, 1, 2], [0, 1, 2], [0, 1, 2], [0, 1, 2], [0, 1, 2], [0, 1, 2], [0, 1, 2], [0, 1, 2], [0, 1, 2], [0, 1, 2], [0, 1, 2], [0, 1, 2], []]) mixed h24 fun w25 h26 => ?_
        clear h24
        refine dr_batch tabOk tabZ_ok (by repeat (first | exact PF.body | with_reducible apply PF.inB | with_reducible apply PF.next)) [(0, {}), (1, {}), (2, {}), (3, {k := 0, p := 0}), (4, {}), (5, {k := 1, p := 1}), (6, {}), (7, {}), (8, {}), (9, {}), (10, {k := 0, p := 0}), (11, {}), (12, {}), (13, {k := 1, p := 1}), (14, {})] [3, 0, 1, 38, 39] (T' := [(3, .pointer (some ⟨b2, 0, none⟩)), (0, .pointer (some ⟨bl, 0, none⟩)), (1, .agg #[.int .u8 op.kind, .int .i64 op.n, .int .i64 op.m, .int .u8 op.ev.kind, .int .u32 op.ev.pick, .int .u64 op.ev.arg]), (38, .agg #[.int .u8 op.ev.kind, .int .u32 op.ev.pick, .int .u64 op.ev.arg]), (39, .pointer (some ⟨rb22, 0 + (((op.n - lg.base.idx).toNat) * 3), none⟩))]) (φ := (bl = bl ∧ Nat.ble (15 + 1) 18 = true) ∧ (b2 = b2 ∧ Nat.ble (1 + 1) 6 = true) ∧ (bl = bl ∧ Nat.ble (0 + 1) 18 = true) ∧ inR .i64 (op.n - lg.base.idx) ∧ (b2 = b2 ∧ Nat.ble (3 + 3) 6 = true) ∧ (0 ≤ (op.n - lg.base.idx) ∧ (op.n - lg.base.idx) < ((lg.evs.length : Nat) : Int)) ∧ True) (fuel := 1) h26 (by kernel_rfl) rfl (by kernel_rfl) (by kernel_rfl) ⟨trivial, trivial, trivial, rfl, trivial, rfl, trivial, trivial, trivial, trivial, rfl, trivial, trivial, rfl, trivial, trivial⟩ ⟨⟨rfl, rfl⟩, ⟨rfl, rfl⟩, ⟨rfl, rfl⟩, ⟨by omega, by omega⟩, ⟨rfl, rfl⟩, ⟨by omega, by omega⟩, trivial⟩ fun a28 h29 => ?_
        clear h26
        refine wpAnyK_one (i := 15) (fuel := 0) (by kernel_rfl) ?_
        refine op_store tabOk {k := 2, m := 1, vs := (splice cs23 (((op.n - lg.base.idx).toNat) * 3 + 0) [.int .u8 op.ev.kind, .int .u32 op.ev.pick, .int .u64 op.ev.arg])} (L' := [(bl, ⟨logC lg.base (.slice (some ⟨rb22, 0, none⟩) lg.evs.length ec) (.slice mo lg.mks.length mc) (.slice so lg.sns.length sc), 69, false⟩), (b2, ⟨[.int .u8 op.kind, .int .i64 op.n, .int .i64 op.m, .int .u8 op.ev.kind, .int .u32 op.ev.pick, .int .u64 op.ev.arg], 35, false⟩), (rb22, ⟨(splice cs23 (((op.n - lg.base.idx).toNat) * 3 + 0) [.int .u8 op.ev.kind, .int .u32 op.ev.pick, .int .u64 op.ev.arg]), 33, false⟩)]) (φ := rb22 = rb22 ∧ Nat.ble (0 + (((op.n - lg.base.idx).toNat) * 3) + 3) cs23.length = true ∧ splice cs23 (0 + (((op.n - lg.base.idx).toNat) * 3)) [.int .u8 op.ev.kind, .int .u32 op.ev.pick, .int .u64 op.ev.arg] = (splice cs23 (((op.n - lg.base.idx).toNat) * 3 + 0) [.int .u8 op.ev.kind, .int .u32 op.ev.pick, .int .u64 op.ev.arg])) h29 rfl rfl rfl (by kernel_rfl) ⟨rfl, (by rw [Nat.ble_eq]; omega), (by simp only [Nat.zero_add, Nat.add_zero, Nat.add_assoc])⟩ fun w30 h31 => ?_
        have hkh31 := h29.known
        refine ⟨keepNil, ?_⟩
        clear h29
        refine wpAnyK_done (by kernel_rfl) ?_ _
        have hT : tampR lg op = ({ lg with evs := lg.evs.set (op.n - lg.base.idx).toNat op.ev } : Lg) := by unfold tampR; rw [if_pos (by omega)]
        have hrow : (rl evC 33 3 (lg.evs.set (op.n - lg.base.idx).toNat op.ev) (some ⟨rb22, 0, none⟩) ec ([rb22])).at _ := row_set (off := 0) (vs := [.int .u8 op.ev.kind, .int .u32 op.ev.pick, .int .u64 op.ev.arg]) evC_len (by simp) hx rfl hlr2 hcr2 htr (h31.kn (k := 2) (blk := ⟨(splice cs23 (((op.n - lg.base.idx).toNat) * 3 + 0) [.int .u8 op.ev.kind, .int .u32 op.ev.pick, .int .u64 op.ev.arg]), 33, false⟩) rfl)
        have h32 := h31.rowOf (L := [(bl, ⟨logC lg.base (.slice (some ⟨rb22, 0, none⟩) lg.evs.length ec) (.slice mo lg.mks.length mc) (.slice so lg.sns.length sc), 69, false⟩), (b2, ⟨[.int .u8 op.kind, .int .i64 op.n, .int .i64 op.m, .int .u8 op.ev.kind, .int .u32 op.ev.pick, .int .u64 op.ev.arg], 35, false⟩)]) (r := rl evC 33 3 (lg.evs.set (op.n - lg.base.idx).toNat op.ev) (some ⟨rb22, 0, none⟩) ec ([rb22])) rfl hrow
        have hlen2 : (lg.evs.set (op.n - lg.base.idx).toNat op.ev).length = lg.evs.length := List.length_set
        try simp only [Exit.then, Exit.inBlock]
        try rw [if_pos trivial]
        exact s_end tabOk tabZ_ok h32 [] (vs := []) (φ := True) rfl (by kernel_rfl) trivial ⟨rfl, by rw [hT]; exact LogAt.of (d := ⟨(some ⟨rb22, 0, none⟩), ec, [rb22], mo, mc, mF, so, sc, sF⟩) (lg := ({ lg with evs := lg.evs.set (op.n - lg.base.idx).toNat op.ev } : Lg)) (by have hq := h32.kn (k := 0) rfl; rw [← hlen2] at hq; exact hq) (Rws.perm h32.inv (List.perm_append_comm (l₁ := [rl mkC 78 2 lg.mks mo mc mF, rl ptC 66 15 lg.sns so sc sF]) (l₂ := [rl evC 33 3 (lg.evs.set (op.n - lg.base.idx).toNat op.ev) (some ⟨rb22, 0, none⟩) ec ([rb22])]))) hsep, h32.frame⟩
      ·
        have hc21f : ¬ op.n < (lg.base.idx + (lg.evs.length : Int)) := by simpa using hc21
        refine wp_seq_k fun K33 hK33 => ?_
        rcases Bool.eq_false_or_eq_true ((op.kind == 10)) with hb34 | hb34
        ·
          have hb34f : op.kind = 10 := by simpa using hb34
          rcases Bool.eq_false_or_eq_true (decide (op.n ≥ 0)) with hb35 | hb35
          ·
            have hb35f : op.n ≥ 0 := by simpa using hb35
            refine dr_start (KB := [bl, b2]) (Bi := [[0, 1], [0, 1], [0, 1], [0, 1], [0, 1], [0, 1], [0, 1], [0, 1], [0, 1], [0, 1], [0, 1], [0, 1], [0, 1], [0, 1], [0, 1], [0, 1], [0, 1], [0, 1], [0, 1]]) mixed h20 fun w36 h37 => ?_
            clear h20
            refine dr_batch tabOk tabZ_ok (by repeat (first | exact PF.body | with_reducible apply PF.inB | with_reducible apply PF.next)) [(0, {}), (1, {k := 1, p := 1}), (2, {f := 2}), (3, {}), (4, {}), (5, {k := 1, p := 1}), (6, {f := 2}), (7, {}), (8, {}), (9, {}), (10, {k := 1, p := 1}), (11, {}), (12, {}), (13, {}), (14, {k := 0, p := 0}), (15, {}), (16, {}), (17, {}), (18, {})] [3, 0, 1, 40] (T' := [(3, .pointer (some ⟨b2, 0, none⟩)), (0, .pointer (some ⟨bl, 0, none⟩)), (1, .agg #[.int .u8 op.kind, .int .i64 op.n, .int .i64 op.m, .int .u8 op.ev.kind, .int .u32 op.ev.pick, .int .u64 op.ev.arg]), (40, .bool (decide (op.n < ((lg.mks.length : Nat) : Int))))]) (φ := (b2 = b2 ∧ Nat.ble (0 + 1) 6 = true) ∧ ((op.kind == 10)) = true ∧ (b2 = b2 ∧ Nat.ble (1 + 1) 6 = true) ∧ (decide (op.n ≥ 0)) = true ∧ (b2 = b2 ∧ Nat.ble (1 + 1) 6 = true) ∧ (bl = bl ∧ Nat.ble (16 + 1) 18 = true) ∧ True) (fuel := 0) h37 (by kernel_rfl) rfl (by kernel_rfl) (by kernel_rfl) ⟨trivial, rfl, trivial, trivial, trivial, rfl, trivial, trivial, trivial, trivial, rfl, trivial, trivial, trivial, rfl, trivial, trivial, trivial, trivial, trivial⟩ ⟨⟨rfl, rfl⟩, hb34, ⟨rfl, rfl⟩, hb35, ⟨rfl, rfl⟩, ⟨rfl, rfl⟩, trivial⟩ fun a39 h40 => ?_
            clear h37
            refine wpAnyK_done (by kernel_rfl) ?_ _
            refine hK33 _ _ ?_
            clear hK33
            refine c_split h40 (b := decide (op.n < ((lg.mks.length : Nat) : Int))) rfl (fun hc41 => ?_) (fun hc41 => ?_)
            ·
              have hc41f : op.n < ((lg.mks.length : Nat) : Int) := by simpa using hc41
              obtain ⟨x, hx⟩ := Sx.get_some (xs := lg.mks) (i := op.n.toNat) (by omega)
              obtain ⟨rb42, cs43, ho, hbr, hlr, hcr, htr, hFr⟩ := Row.open_ (h40.inv.get (j := 1) (r := rl mkC 78 2 lg.mks mo mc mF) rfl) (by show 0 < lg.mks.length; omega)
              simp only at ho hFr
              subst ho hFr
              have hcr2 : lg.mks.length ≤ mc := hcr
              have hlr2 : cs43.length = mc * 2 := hlr
              have h44 := h40.rowTake (R' := [rl evC 33 3 lg.evs eo ec eF, rl ptC 66 15 lg.sns so sc sF]) (r := rl mkC 78 2 lg.mks (some ⟨rb42, 0, none⟩) mc ([rb42])) (List.Perm.cons _ (List.Perm.swap _ _ _)) rfl hbr (.inl (by simp)) (kcons (by intro hq; cases hq) (kcons (by intro hq; cases hq) knil))
              clear h40
              refine dr_start (KB := [bl, b2, rb42]) (Bi := [[0, 1, 2], [0, 1, 2], [0, 1, 2], [0, 1, 2], [0, 1, 2], [0, 1, 2], [0, 1, 2], [0, 1, 2], [0, 1, 2], [0, 1, 2], [0, 1, 2], []]) mixed h44 fun w45 h46 => ?_
              clear h44
              refine dr_batch tabOk tabZ_ok (by repeat (first | exact PF.body | with_reducible apply PF.inB | with_reducible apply PF.next)) [(0, {}), (1, {}), (2, {}), (3, {k := 0, p := 0}), (4, {}), (5, {k := 1, p := 1}), (6, {}), (7, {}), (8, {k := 1, p := 1}), (9, {}), (10, {})] [3, 0, 1, 67, 69] (T' := [(3, .pointer (some ⟨b2, 0, none⟩)), (0, .pointer (some ⟨bl, 0, none⟩)), (1, .agg #[.int .u8 op.kind, .int .i64 op.n, .int .i64 op.m, .int .u8 op.ev.kind, .int .u32 op.ev.pick, .int .u64 op.ev.arg]), (67, .int .u64 op.ev.arg), (69, .pointer (some ⟨rb42, 0 + (op.n.toNat * 2) + 1, none⟩))]) (φ := (bl = bl ∧ Nat.ble (16 + 1) 18 = true) ∧ (b2 = b2 ∧ Nat.ble (1 + 1) 6 = true) ∧ (b2 = b2 ∧ Nat.ble (5 + 1) 6 = true) ∧ (0 ≤ op.n ∧ op.n < ((lg.mks.length : Nat) : Int)) ∧ True) (fuel := 1) h46 (by kernel_rfl) rfl (by kernel_rfl) (by kernel_rfl) ⟨trivial, trivial, trivial, rfl, trivial, rfl, trivial, trivial, rfl, trivial, trivial, trivial⟩ ⟨⟨rfl, rfl⟩, ⟨rfl, rfl⟩, ⟨rfl, rfl⟩, ⟨by omega, by omega⟩, trivial⟩ fun a48 h49 => ?_
              clear h46
              refine wpAnyK_one (i := 11) (fuel := 0) (by kernel_rfl) ?_
              refine op_store tabOk {k := 2, m := 1, vs := (splice cs43 (op.n.toNat * 2 + 1) [.int .u64 op.ev.arg])} (L' := [(bl, ⟨logC lg.base (.slice eo lg.evs.length ec) (.slice (some ⟨rb42, 0, none⟩) lg.mks.length mc) (.slice so lg.sns.length sc), 69, false⟩), (b2, ⟨[.int .u8 op.kind, .int .i64 op.n, .int .i64 op.m, .int .u8 op.ev.kind, .int .u32 op.ev.pick, .int .u64 op.ev.arg], 35, false⟩), (rb42, ⟨(splice cs43 (op.n.toNat * 2 + 1) [.int .u64 op.ev.arg]), 78, false⟩)]) (φ := rb42 = rb42 ∧ Nat.ble (0 + (op.n.toNat * 2) + 1 + 1) cs43.length = true ∧ splice cs43 (0 + (op.n.toNat * 2) + 1) [.int .u64 op.ev.arg] = (splice cs43 (op.n.toNat * 2 + 1) [.int .u64 op.ev.arg])) h49 rfl rfl rfl (by kernel_rfl) ⟨rfl, (by rw [Nat.ble_eq]; omega), (by simp only [Nat.zero_add, Nat.add_zero, Nat.add_assoc])⟩ fun w50 h51 => ?_
              have hkh51 := h49.known
              refine ⟨keepNil, ?_⟩
              clear h49
              refine wpAnyK_done (by kernel_rfl) ?_ _
              have hT : tampR lg op = ({ lg with mks := lg.mks.set op.n.toNat ({ x with sum := op.ev.arg } : Mk) } : Lg) := by unfold tampR; rw [if_neg (by omega), if_pos (by omega)]; simp only [hx]
              have hrow : (rl mkC 78 2 (lg.mks.set op.n.toNat ({ x with sum := op.ev.arg } : Mk)) (some ⟨rb42, 0, none⟩) mc ([rb42])).at _ := row_set (off := 1) (vs := [.int .u64 op.ev.arg]) mkC_len (by simp) hx rfl hlr2 hcr2 htr (h51.kn (k := 2) (blk := ⟨(splice cs43 (op.n.toNat * 2 + 1) [.int .u64 op.ev.arg]), 78, false⟩) rfl)
              have h52 := h51.rowOf (L := [(bl, ⟨logC lg.base (.slice eo lg.evs.length ec) (.slice (some ⟨rb42, 0, none⟩) lg.mks.length mc) (.slice so lg.sns.length sc), 69, false⟩), (b2, ⟨[.int .u8 op.kind, .int .i64 op.n, .int .i64 op.m, .int .u8 op.ev.kind, .int .u32 op.ev.pick, .int .u64 op.ev.arg], 35, false⟩)]) (r := rl mkC 78 2 (lg.mks.set op.n.toNat ({ x with sum := op.ev.arg } : Mk)) (some ⟨rb42, 0, none⟩) mc ([rb42])) rfl hrow
              have hlen2 : (lg.mks.set op.n.toNat ({ x with sum := op.ev.arg } : Mk)).length = lg.mks.length := List.length_set
              try simp only [Exit.then, Exit.inBlock]
              try rw [if_pos trivial]
              exact s_end tabOk tabZ_ok h52 [] (vs := []) (φ := True) rfl (by kernel_rfl) trivial ⟨rfl, by rw [hT]; exact LogAt.of (d := ⟨eo, ec, eF, (some ⟨rb42, 0, none⟩), mc, [rb42], so, sc, sF⟩) (lg := ({ lg with mks := lg.mks.set op.n.toNat ({ x with sum := op.ev.arg } : Mk) } : Lg)) (by have hq := h52.kn (k := 0) rfl; rw [← hlen2] at hq; exact hq) (Rws.perm h52.inv (List.Perm.cons _ (List.Perm.swap _ _ _))) hsep, h52.frame⟩
            ·
              have hc41f : ¬ op.n < ((lg.mks.length : Nat) : Int) := by simpa using hc41
              refine wp_seq_k fun K53 hK53 => ?_
              rcases Bool.eq_false_or_eq_true ((op.kind == 11)) with hb54 | hb54
              ·
                have hb54f : op.kind = 11 := by simpa using hb54
                rcases Bool.eq_false_or_eq_true (decide (op.n ≥ 0)) with hb55 | hb55
                ·
                  have hb55f : op.n ≥ 0 := by simpa using hb55
                  rcases Bool.eq_false_or_eq_true (decide (op.n < ((lg.sns.length : Nat) : Int))) with hb56 | hb56
                  ·
                    have hb56f : op.n < ((lg.sns.length : Nat) : Int) := by simpa using hb56
                    refine dr_start (KB := [bl, b2]) (Bi := [[0, 1], [0, 1], [0, 1], [0, 1], [0, 1], [0, 1], [0, 1], [0, 1], [0, 1], [0, 1], [0, 1], [0, 1], [0, 1], [0, 1], [0, 1], [0, 1], [0, 1], [0, 1], [0, 1], [0, 1], [0, 1], [0, 1], [0, 1], [0, 1], [0, 1]]) mixed h40 fun w57 h58 => ?_
                    clear h40
                    refine dr_batch tabOk tabZ_ok (by repeat (first | exact PF.body | with_reducible apply PF.inB | with_reducible apply PF.next)) [(0, {}), (1, {k := 1, p := 1}), (2, {f := 2}), (3, {}), (4, {}), (5, {k := 1, p := 1}), (6, {f := 2}), (7, {}), (8, {}), (9, {}), (10, {k := 1, p := 1}), (11, {}), (12, {}), (13, {}), (14, {k := 0, p := 0}), (15, {}), (16, {f := 2}), (17, {}), (18, {}), (19, {}), (20, {k := 1, p := 1}), (21, {m := 1}), (22, {}), (23, {}), (24, {})] [3, 0, 1, 70] (T' := [(3, .pointer (some ⟨b2, 0, none⟩)), (0, .pointer (some ⟨bl, 0, none⟩)), (1, .agg #[.int .u8 op.kind, .int .i64 op.n, .int .i64 op.m, .int .u8 op.ev.kind, .int .u32 op.ev.pick, .int .u64 op.ev.arg]), (70, .bool ((op.m.tmod 2) == 0))]) (φ := (b2 = b2 ∧ Nat.ble (0 + 1) 6 = true) ∧ ((op.kind == 11)) = true ∧ (b2 = b2 ∧ Nat.ble (1 + 1) 6 = true) ∧ (decide (op.n ≥ 0)) = true ∧ (b2 = b2 ∧ Nat.ble (1 + 1) 6 = true) ∧ (bl = bl ∧ Nat.ble (17 + 1) 18 = true) ∧ (decide (op.n < ((lg.sns.length : Nat) : Int))) = true ∧ (b2 = b2 ∧ Nat.ble (2 + 1) 6 = true) ∧ (2 : Int) ≠ 0 ∧ True) (fuel := 0) h58 (by kernel_rfl) rfl (by kernel_rfl) (by kernel_rfl) ⟨trivial, rfl, trivial, trivial, trivial, rfl, trivial, trivial, trivial, trivial, rfl, trivial, trivial, trivial, rfl, trivial, trivial, trivial, trivial, trivial, rfl, trivial, trivial, trivial, trivial, trivial⟩ ⟨⟨rfl, rfl⟩, hb54, ⟨rfl, rfl⟩, hb55, ⟨rfl, rfl⟩, ⟨rfl, rfl⟩, hb56, ⟨rfl, rfl⟩, (by decide), trivial⟩ fun a60 h61 => ?_
                    clear h58
                    refine wpAnyK_done (by kernel_rfl) ?_ _
                    refine hK53 _ _ ?_
                    clear hK53
                    refine c_split h61 (b := ((op.m.tmod 2) == 0)) rfl (fun hc62 => ?_) (fun hc62 => ?_)
                    ·
                      have hc62f : (op.m.tmod 2) = 0 := by simpa using hc62
                      have hmm : op.m.tmod 2 = 0 := hc62f
                      obtain ⟨x, hx⟩ := Sx.get_some (xs := lg.sns) (i := op.n.toNat) (by omega)
                      obtain ⟨rb63, cs64, ho, hbr, hlr, hcr, htr, hFr⟩ := Row.open_ (h61.inv.get (j := 2) (r := rl ptC 66 15 lg.sns so sc sF) rfl) (by show 0 < lg.sns.length; omega)
                      simp only at ho hFr
                      subst ho hFr
                      have hcr2 : lg.sns.length ≤ sc := hcr
                      have hlr2 : cs64.length = sc * 15 := hlr
                      have h65 := h61.rowTake (R' := [rl evC 33 3 lg.evs eo ec eF, rl mkC 78 2 lg.mks mo mc mF]) (r := rl ptC 66 15 lg.sns (some ⟨rb63, 0, none⟩) sc ([rb63])) (List.Perm.refl _) rfl hbr (.inl (by simp)) (kcons (by intro hq; cases hq) (kcons (by intro hq; cases hq) knil))
                      clear h61
                      refine dr_start (KB := [bl, b2, rb63]) (Bi := [[0, 1, 2], [0, 1, 2], [0, 1, 2], [0, 1, 2], [0, 1, 2], [0, 1, 2], [0, 1, 2], [0, 1, 2], [0, 1, 2], [0, 1, 2], [0, 1, 2], [0, 1, 2], []]) mixed h65 fun w66 h67 => ?_
                      clear h65
                      refine dr_batch tabOk tabZ_ok (by repeat (first | exact PF.body | with_reducible apply PF.inB | with_reducible apply PF.next)) [(0, {}), (1, {}), (2, {}), (3, {k := 0, p := 0}), (4, {}), (5, {k := 1, p := 1}), (6, {}), (7, {}), (8, {k := 1, p := 1}), (9, {}), (10, {}), (11, {})] [3, 0, 1, 103, 106] (T' := [(3, .pointer (some ⟨b2, 0, none⟩)), (0, .pointer (some ⟨bl, 0, none⟩)), (1, .agg #[.int .u8 op.kind, .int .i64 op.n, .int .i64 op.m, .int .u8 op.ev.kind, .int .u32 op.ev.pick, .int .u64 op.ev.arg]), (103, .int .u64 op.ev.arg), (106, .pointer (some ⟨rb63, 0 + (op.n.toNat * 15) + 1, none⟩))]) (φ := (bl = bl ∧ Nat.ble (17 + 1) 18 = true) ∧ (b2 = b2 ∧ Nat.ble (1 + 1) 6 = true) ∧ (b2 = b2 ∧ Nat.ble (5 + 1) 6 = true) ∧ (0 ≤ op.n ∧ op.n < ((lg.sns.length : Nat) : Int)) ∧ True) (fuel := 1) h67 (by kernel_rfl) rfl (by kernel_rfl) (by kernel_rfl) ⟨trivial, trivial, trivial, rfl, trivial, rfl, trivial, trivial, rfl, trivial, trivial, trivial, trivial⟩ ⟨⟨rfl, rfl⟩, ⟨rfl, rfl⟩, ⟨rfl, rfl⟩, ⟨by omega, by omega⟩, trivial⟩ fun a69 h70 => ?_
                      clear h67
                      refine wpAnyK_one (i := 12) (fuel := 0) (by kernel_rfl) ?_
                      refine op_store tabOk {k := 2, m := 1, vs := (splice cs64 (op.n.toNat * 15 + 1) [.int .u64 op.ev.arg])} (L' := [(bl, ⟨logC lg.base (.slice eo lg.evs.length ec) (.slice mo lg.mks.length mc) (.slice (some ⟨rb63, 0, none⟩) lg.sns.length sc), 69, false⟩), (b2, ⟨[.int .u8 op.kind, .int .i64 op.n, .int .i64 op.m, .int .u8 op.ev.kind, .int .u32 op.ev.pick, .int .u64 op.ev.arg], 35, false⟩), (rb63, ⟨(splice cs64 (op.n.toNat * 15 + 1) [.int .u64 op.ev.arg]), 66, false⟩)]) (φ := rb63 = rb63 ∧ Nat.ble (0 + (op.n.toNat * 15) + 1 + 1) cs64.length = true ∧ splice cs64 (0 + (op.n.toNat * 15) + 1) [.int .u64 op.ev.arg] = (splice cs64 (op.n.toNat * 15 + 1) [.int .u64 op.ev.arg])) h70 rfl rfl rfl (by kernel_rfl) ⟨rfl, (by rw [Nat.ble_eq]; omega), (by simp only [Nat.zero_add, Nat.add_zero, Nat.add_assoc])⟩ fun w71 h72 => ?_
                      have hkh72 := h70.known
                      refine ⟨keepNil, ?_⟩
                      clear h70
                      refine wpAnyK_done (by kernel_rfl) ?_ _
                      have hT : tampR lg op = ({ lg with sns := lg.sns.set op.n.toNat ({ x with st := { x.st with now := op.ev.arg } } : Pt) } : Lg) := by have he : edS op x = ({ x with st := { x.st with now := op.ev.arg } } : Pt) := (by unfold edS; rw [if_pos hmm]); unfold tampR; rw [if_neg (by omega), if_neg (by omega), if_pos (by omega)]; simp only [hx, he]
                      have hrow : (rl ptC 66 15 (lg.sns.set op.n.toNat ({ x with st := { x.st with now := op.ev.arg } } : Pt)) (some ⟨rb63, 0, none⟩) sc ([rb63])).at _ := row_set (off := 1) (vs := [.int .u64 op.ev.arg]) ptC_len (by simp) hx rfl hlr2 hcr2 htr (h72.kn (k := 2) (blk := ⟨(splice cs64 (op.n.toNat * 15 + 1) [.int .u64 op.ev.arg]), 66, false⟩) rfl)
                      have h73 := h72.rowOf (L := [(bl, ⟨logC lg.base (.slice eo lg.evs.length ec) (.slice mo lg.mks.length mc) (.slice (some ⟨rb63, 0, none⟩) lg.sns.length sc), 69, false⟩), (b2, ⟨[.int .u8 op.kind, .int .i64 op.n, .int .i64 op.m, .int .u8 op.ev.kind, .int .u32 op.ev.pick, .int .u64 op.ev.arg], 35, false⟩)]) (r := rl ptC 66 15 (lg.sns.set op.n.toNat ({ x with st := { x.st with now := op.ev.arg } } : Pt)) (some ⟨rb63, 0, none⟩) sc ([rb63])) rfl hrow
                      have hlen2 : (lg.sns.set op.n.toNat ({ x with st := { x.st with now := op.ev.arg } } : Pt)).length = lg.sns.length := List.length_set
                      try simp only [Exit.then, Exit.inBlock]
                      try rw [if_pos trivial]
                      exact s_end tabOk tabZ_ok h73 [] (vs := []) (φ := True) rfl (by kernel_rfl) trivial ⟨rfl, by rw [hT]; exact LogAt.of (d := ⟨eo, ec, eF, mo, mc, mF, (some ⟨rb63, 0, none⟩), sc, [rb63]⟩) (lg := ({ lg with sns := lg.sns.set op.n.toNat ({ x with st := { x.st with now := op.ev.arg } } : Pt) } : Lg)) (by have hq := h73.kn (k := 0) rfl; rw [← hlen2] at hq; exact hq) (Rws.perm h73.inv (List.Perm.refl _)) hsep, h73.frame⟩
                    ·
                      have hc62f : (op.m.tmod 2) ≠ 0 := by simpa using hc62
                      refine wp_seq_k fun K74 hK74 => ?_
                      rcases Bool.eq_false_or_eq_true ((op.kind == 11)) with hb75 | hb75
                      ·
                        have hb75f : op.kind = 11 := by simpa using hb75
                        rcases Bool.eq_false_or_eq_true (decide (op.n ≥ 0)) with hb76 | hb76
                        ·
                          have hb76f : op.n ≥ 0 := by simpa using hb76
                          refine dr_start (KB := [bl, b2]) (Bi := [[0, 1], [0, 1], [0, 1], [0, 1], [0, 1], [0, 1], [0, 1], [0, 1], [0, 1], [0, 1], [0, 1], [0, 1], [0, 1], [0, 1], [0, 1], [0, 1], [0, 1], [0, 1], [0, 1]]) mixed h61 fun w77 h78 => ?_
                          clear h61
                          refine dr_batch tabOk tabZ_ok (by repeat (first | exact PF.body | with_reducible apply PF.inB | with_reducible apply PF.next)) [(0, {}), (1, {k := 1, p := 1}), (2, {f := 2}), (3, {}), (4, {}), (5, {k := 1, p := 1}), (6, {f := 2}), (7, {}), (8, {}), (9, {}), (10, {k := 1, p := 1}), (11, {}), (12, {}), (13, {}), (14, {k := 0, p := 0}), (15, {}), (16, {}), (17, {}), (18, {})] [3, 0, 1, 107] (T' := [(3, .pointer (some ⟨b2, 0, none⟩)), (0, .pointer (some ⟨bl, 0, none⟩)), (1, .agg #[.int .u8 op.kind, .int .i64 op.n, .int .i64 op.m, .int .u8 op.ev.kind, .int .u32 op.ev.pick, .int .u64 op.ev.arg]), (107, .bool (decide (op.n < ((lg.sns.length : Nat) : Int))))]) (φ := (b2 = b2 ∧ Nat.ble (0 + 1) 6 = true) ∧ ((op.kind == 11)) = true ∧ (b2 = b2 ∧ Nat.ble (1 + 1) 6 = true) ∧ (decide (op.n ≥ 0)) = true ∧ (b2 = b2 ∧ Nat.ble (1 + 1) 6 = true) ∧ (bl = bl ∧ Nat.ble (17 + 1) 18 = true) ∧ True) (fuel := 0) h78 (by kernel_rfl) rfl (by kernel_rfl) (by kernel_rfl) ⟨trivial, rfl, trivial, trivial, trivial, rfl, trivial, trivial, trivial, trivial, rfl, trivial, trivial, trivial, rfl, trivial, trivial, trivial, trivial, trivial⟩ ⟨⟨rfl, rfl⟩, hb75, ⟨rfl, rfl⟩, hb76, ⟨rfl, rfl⟩, ⟨rfl, rfl⟩, trivial⟩ fun a80 h81 => ?_
                          clear h78
                          refine wpAnyK_done (by kernel_rfl) ?_ _
                          refine hK74 _ _ ?_
                          clear hK74
                          refine c_split h81 (b := decide (op.n < ((lg.sns.length : Nat) : Int))) rfl (fun hc82 => ?_) (fun hc82 => ?_)
                          ·
                            have hc82f : op.n < ((lg.sns.length : Nat) : Int) := by simpa using hc82
                            have hmm : op.m.tmod 2 ≠ 0 := hc62f
                            obtain ⟨x, hx⟩ := Sx.get_some (xs := lg.sns) (i := op.n.toNat) (by omega)
                            obtain ⟨rb83, cs84, ho, hbr, hlr, hcr, htr, hFr⟩ := Row.open_ (h81.inv.get (j := 2) (r := rl ptC 66 15 lg.sns so sc sF) rfl) (by show 0 < lg.sns.length; omega)
                            simp only at ho hFr
                            subst ho hFr
                            have hcr2 : lg.sns.length ≤ sc := hcr
                            have hlr2 : cs84.length = sc * 15 := hlr
                            have h85 := h81.rowTake (R' := [rl evC 33 3 lg.evs eo ec eF, rl mkC 78 2 lg.mks mo mc mF]) (r := rl ptC 66 15 lg.sns (some ⟨rb83, 0, none⟩) sc ([rb83])) (List.Perm.refl _) rfl hbr (.inl (by simp)) (kcons (by intro hq; cases hq) (kcons (by intro hq; cases hq) knil))
                            clear h81
                            refine dr_start (KB := [bl, b2, rb83]) (Bi := [[0, 1, 2], [0, 1, 2], [0, 1, 2], [0, 1, 2], [0, 1, 2], [0, 1, 2], [0, 1, 2], [0, 1, 2], [0, 1, 2], [0, 1, 2], [0, 1, 2], [0, 1, 2], []]) mixed h85 fun w86 h87 => ?_
                            clear h85
                            refine dr_batch tabOk tabZ_ok (by repeat (first | exact PF.body | with_reducible apply PF.inB | with_reducible apply PF.next)) [(0, {}), (1, {}), (2, {}), (3, {k := 0, p := 0}), (4, {}), (5, {k := 1, p := 1}), (6, {}), (7, {}), (8, {k := 1, p := 1}), (9, {}), (10, {}), (11, {})] [3, 0, 1, 134, 137] (T' := [(3, .pointer (some ⟨b2, 0, none⟩)), (0, .pointer (some ⟨bl, 0, none⟩)), (1, .agg #[.int .u8 op.kind, .int .i64 op.n, .int .i64 op.m, .int .u8 op.ev.kind, .int .u32 op.ev.pick, .int .u64 op.ev.arg]), (134, .int .u64 op.ev.arg), (137, .pointer (some ⟨rb83, 0 + (op.n.toNat * 15) + 12 + 2, none⟩))]) (φ := (bl = bl ∧ Nat.ble (17 + 1) 18 = true) ∧ (b2 = b2 ∧ Nat.ble (1 + 1) 6 = true) ∧ (b2 = b2 ∧ Nat.ble (5 + 1) 6 = true) ∧ (0 ≤ op.n ∧ op.n < ((lg.sns.length : Nat) : Int)) ∧ True) (fuel := 1) h87 (by kernel_rfl) rfl (by kernel_rfl) (by kernel_rfl) ⟨trivial, trivial, trivial, rfl, trivial, rfl, trivial, trivial, rfl, trivial, trivial, trivial, trivial⟩ ⟨⟨rfl, rfl⟩, ⟨rfl, rfl⟩, ⟨rfl, rfl⟩, ⟨by omega, by omega⟩, trivial⟩ fun a89 h90 => ?_
                            clear h87
                            refine wpAnyK_one (i := 12) (fuel := 0) (by kernel_rfl) ?_
                            refine op_store tabOk {k := 2, m := 1, vs := (splice cs84 (op.n.toNat * 15 + 14) [.int .u64 op.ev.arg])} (L' := [(bl, ⟨logC lg.base (.slice eo lg.evs.length ec) (.slice mo lg.mks.length mc) (.slice (some ⟨rb83, 0, none⟩) lg.sns.length sc), 69, false⟩), (b2, ⟨[.int .u8 op.kind, .int .i64 op.n, .int .i64 op.m, .int .u8 op.ev.kind, .int .u32 op.ev.pick, .int .u64 op.ev.arg], 35, false⟩), (rb83, ⟨(splice cs84 (op.n.toNat * 15 + 14) [.int .u64 op.ev.arg]), 66, false⟩)]) (φ := rb83 = rb83 ∧ Nat.ble (0 + (op.n.toNat * 15) + 12 + 2 + 1) cs84.length = true ∧ splice cs84 (0 + (op.n.toNat * 15) + 12 + 2) [.int .u64 op.ev.arg] = (splice cs84 (op.n.toNat * 15 + 14) [.int .u64 op.ev.arg])) h90 rfl rfl rfl (by kernel_rfl) ⟨rfl, (by rw [Nat.ble_eq]; omega), (by simp only [Nat.zero_add, Nat.add_zero, Nat.add_assoc])⟩ fun w91 h92 => ?_
                            have hkh92 := h90.known
                            refine ⟨keepNil, ?_⟩
                            clear h90
                            refine wpAnyK_done (by kernel_rfl) ?_ _
                            have hT : tampR lg op = ({ lg with sns := lg.sns.set op.n.toNat ({ x with out := { x.out with value := op.ev.arg } } : Pt) } : Lg) := by have he : edS op x = ({ x with out := { x.out with value := op.ev.arg } } : Pt) := (by unfold edS; rw [if_neg hmm]); unfold tampR; rw [if_neg (by omega), if_neg (by omega), if_pos (by omega)]; simp only [hx, he]
                            have hrow : (rl ptC 66 15 (lg.sns.set op.n.toNat ({ x with out := { x.out with value := op.ev.arg } } : Pt)) (some ⟨rb83, 0, none⟩) sc ([rb83])).at _ := row_set (off := 14) (vs := [.int .u64 op.ev.arg]) ptC_len (by simp) hx rfl hlr2 hcr2 htr (h92.kn (k := 2) (blk := ⟨(splice cs84 (op.n.toNat * 15 + 14) [.int .u64 op.ev.arg]), 66, false⟩) rfl)
                            have h93 := h92.rowOf (L := [(bl, ⟨logC lg.base (.slice eo lg.evs.length ec) (.slice mo lg.mks.length mc) (.slice (some ⟨rb83, 0, none⟩) lg.sns.length sc), 69, false⟩), (b2, ⟨[.int .u8 op.kind, .int .i64 op.n, .int .i64 op.m, .int .u8 op.ev.kind, .int .u32 op.ev.pick, .int .u64 op.ev.arg], 35, false⟩)]) (r := rl ptC 66 15 (lg.sns.set op.n.toNat ({ x with out := { x.out with value := op.ev.arg } } : Pt)) (some ⟨rb83, 0, none⟩) sc ([rb83])) rfl hrow
                            have hlen2 : (lg.sns.set op.n.toNat ({ x with out := { x.out with value := op.ev.arg } } : Pt)).length = lg.sns.length := List.length_set
                            try simp only [Exit.then, Exit.inBlock]
                            try rw [if_pos trivial]
                            exact s_end tabOk tabZ_ok h93 [] (vs := []) (φ := True) rfl (by kernel_rfl) trivial ⟨rfl, by rw [hT]; exact LogAt.of (d := ⟨eo, ec, eF, mo, mc, mF, (some ⟨rb83, 0, none⟩), sc, [rb83]⟩) (lg := ({ lg with sns := lg.sns.set op.n.toNat ({ x with out := { x.out with value := op.ev.arg } } : Pt) } : Lg)) (by have hq := h93.kn (k := 0) rfl; rw [← hlen2] at hq; exact hq) (Rws.perm h93.inv (List.Perm.refl _)) hsep, h93.frame⟩
                          ·
                            exact absurd (hc82.symm.trans hb56) (by decide)
                        ·
                          exact absurd (hb76.symm.trans hb55) (by decide)
                      ·
                        exact absurd (hb75.symm.trans hb54) (by decide)
                  ·
                    have hb56f : ¬ op.n < ((lg.sns.length : Nat) : Int) := by simpa using hb56
                    refine dr_start (KB := [bl, b2]) (Bi := [[0, 1], [0, 1], [0, 1], [0, 1], [0, 1], [0, 1], [0, 1], [0, 1], [0, 1], [0, 1], [0, 1], [0, 1], [0, 1], [0, 1], [0, 1], [0, 1], [0, 1], [0, 1], [0, 1], [0, 1], [0, 1], [0, 1], [0, 1], [0, 1], [0, 1]]) mixed h40 fun w94 h95 => ?_
                    clear h40
                    refine dr_batch tabOk tabZ_ok (by repeat (first | exact PF.body | with_reducible apply PF.inB | with_reducible apply PF.next)) [(0, {}), (1, {k := 1, p := 1}), (2, {f := 2}), (3, {}), (4, {}), (5, {k := 1, p := 1}), (6, {f := 2}), (7, {}), (8, {}), (9, {}), (10, {k := 1, p := 1}), (11, {}), (12, {}), (13, {}), (14, {k := 0, p := 0}), (15, {}), (16, {f := 1}), (17, {}), (18, {}), (19, {}), (20, {k := 0, p := 0}), (21, {}), (22, {}), (23, {}), (24, {})] [3, 0, 1, 70] (T' := [(3, .pointer (some ⟨b2, 0, none⟩)), (0, .pointer (some ⟨bl, 0, none⟩)), (1, .agg #[.int .u8 op.kind, .int .i64 op.n, .int .i64 op.m, .int .u8 op.ev.kind, .int .u32 op.ev.pick, .int .u64 op.ev.arg]), (70, .bool false)]) (φ := (b2 = b2 ∧ Nat.ble (0 + 1) 6 = true) ∧ ((op.kind == 11)) = true ∧ (b2 = b2 ∧ Nat.ble (1 + 1) 6 = true) ∧ (decide (op.n ≥ 0)) = true ∧ (b2 = b2 ∧ Nat.ble (1 + 1) 6 = true) ∧ (bl = bl ∧ Nat.ble (17 + 1) 18 = true) ∧ (decide (op.n < ((lg.sns.length : Nat) : Int))) = false ∧ True) (fuel := 0) h95 (by kernel_rfl) rfl (by kernel_rfl) (by kernel_rfl) ⟨trivial, rfl, trivial, trivial, trivial, rfl, trivial, trivial, trivial, trivial, rfl, trivial, trivial, trivial, rfl, trivial, trivial, trivial, trivial, trivial, rfl, trivial, trivial, trivial, trivial, trivial⟩ ⟨⟨rfl, rfl⟩, hb54, ⟨rfl, rfl⟩, hb55, ⟨rfl, rfl⟩, ⟨rfl, rfl⟩, hb56, trivial⟩ fun a97 h98 => ?_
                    clear h95
                    refine wpAnyK_done (by kernel_rfl) ?_ _
                    refine hK53 _ _ ?_
                    clear hK53
                    refine c_false h98 rfl ?_
                    refine wp_seq_k fun K99 hK99 => ?_
                    rcases Bool.eq_false_or_eq_true ((op.kind == 11)) with hb100 | hb100
                    ·
                      have hb100f : op.kind = 11 := by simpa using hb100
                      rcases Bool.eq_false_or_eq_true (decide (op.n ≥ 0)) with hb101 | hb101
                      ·
                        have hb101f : op.n ≥ 0 := by simpa using hb101
                        refine dr_start (KB := [bl, b2]) (Bi := [[0, 1], [0, 1], [0, 1], [0, 1], [0, 1], [0, 1], [0, 1], [0, 1], [0, 1], [0, 1], [0, 1], [0, 1], [0, 1], [0, 1], [0, 1], [0, 1], [0, 1], [0, 1], [0, 1]]) mixed h98 fun w102 h103 => ?_
                        clear h98
                        refine dr_batch tabOk tabZ_ok (by repeat (first | exact PF.body | with_reducible apply PF.inB | with_reducible apply PF.next)) [(0, {}), (1, {k := 1, p := 1}), (2, {f := 2}), (3, {}), (4, {}), (5, {k := 1, p := 1}), (6, {f := 2}), (7, {}), (8, {}), (9, {}), (10, {k := 1, p := 1}), (11, {}), (12, {}), (13, {}), (14, {k := 0, p := 0}), (15, {}), (16, {}), (17, {}), (18, {})] [3, 0, 1, 107] (T' := [(3, .pointer (some ⟨b2, 0, none⟩)), (0, .pointer (some ⟨bl, 0, none⟩)), (1, .agg #[.int .u8 op.kind, .int .i64 op.n, .int .i64 op.m, .int .u8 op.ev.kind, .int .u32 op.ev.pick, .int .u64 op.ev.arg]), (107, .bool (decide (op.n < ((lg.sns.length : Nat) : Int))))]) (φ := (b2 = b2 ∧ Nat.ble (0 + 1) 6 = true) ∧ ((op.kind == 11)) = true ∧ (b2 = b2 ∧ Nat.ble (1 + 1) 6 = true) ∧ (decide (op.n ≥ 0)) = true ∧ (b2 = b2 ∧ Nat.ble (1 + 1) 6 = true) ∧ (bl = bl ∧ Nat.ble (17 + 1) 18 = true) ∧ True) (fuel := 0) h103 (by kernel_rfl) rfl (by kernel_rfl) (by kernel_rfl) ⟨trivial, rfl, trivial, trivial, trivial, rfl, trivial, trivial, trivial, trivial, rfl, trivial, trivial, trivial, rfl, trivial, trivial, trivial, trivial, trivial⟩ ⟨⟨rfl, rfl⟩, hb100, ⟨rfl, rfl⟩, hb101, ⟨rfl, rfl⟩, ⟨rfl, rfl⟩, trivial⟩ fun a105 h106 => ?_
                        clear h103
                        refine wpAnyK_done (by kernel_rfl) ?_ _
                        refine hK99 _ _ ?_
                        clear hK99
                        refine c_split h106 (b := decide (op.n < ((lg.sns.length : Nat) : Int))) rfl (fun hc107 => ?_) (fun hc107 => ?_)
                        ·
                          exact absurd (hc107.symm.trans hb56) (by decide)
                        ·
                          have hc107f : ¬ op.n < ((lg.sns.length : Nat) : Int) := by simpa using hc107
                          refine wp_skip ?_
                          have hT : tampR lg op = lg := by unfold tampR; rw [if_neg (by omega), if_neg (by omega), if_neg (by omega)]
                          try simp only [Exit.then, Exit.inBlock]
                          try rw [if_pos trivial]
                          exact s_end tabOk tabZ_ok h106 [] (vs := []) (φ := True) rfl (by kernel_rfl) trivial ⟨rfl, by rw [hT]; exact LogAt.of (h106.kn (k := 0) rfl) h106.inv hsep, h106.frame⟩
                      ·
                        exact absurd (hb101.symm.trans hb55) (by decide)
                    ·
                      exact absurd (hb100.symm.trans hb54) (by decide)
                ·
                  exact absurd (hb55.symm.trans hb35) (by decide)
              ·
                have hb54f : op.kind ≠ 11 := by simpa using hb54
                refine dr_start (KB := [bl, b2]) (Bi := [[0, 1], [0, 1], [0, 1], [0, 1], [0, 1], [0, 1], [0, 1], [0, 1], [0, 1], [0, 1], [0, 1], [0, 1], [0, 1], [0, 1], [0, 1], [0, 1], [0, 1], [0, 1], [0, 1], [0, 1], [0, 1], [0, 1], [0, 1], [0, 1], [0, 1]]) mixed h40 fun w108 h109 => ?_
                clear h40
                refine dr_batch tabOk tabZ_ok (by repeat (first | exact PF.body | with_reducible apply PF.inB | with_reducible apply PF.next)) [(0, {}), (1, {k := 1, p := 1}), (2, {f := 1}), (3, {}), (4, {}), (5, {k := 0, p := 0}), (6, {}), (7, {}), (8, {}), (9, {}), (10, {k := 0, p := 0}), (11, {}), (12, {}), (13, {}), (14, {k := 0, p := 0}), (15, {}), (16, {}), (17, {}), (18, {}), (19, {}), (20, {k := 0, p := 0}), (21, {}), (22, {}), (23, {}), (24, {})] [3, 0, 1, 70] (T' := [(3, .pointer (some ⟨b2, 0, none⟩)), (0, .pointer (some ⟨bl, 0, none⟩)), (1, .agg #[.int .u8 op.kind, .int .i64 op.n, .int .i64 op.m, .int .u8 op.ev.kind, .int .u32 op.ev.pick, .int .u64 op.ev.arg]), (70, .bool false)]) (φ := (b2 = b2 ∧ Nat.ble (0 + 1) 6 = true) ∧ ((op.kind == 11)) = false ∧ True) (fuel := 0) h109 (by kernel_rfl) rfl (by kernel_rfl) (by kernel_rfl) ⟨trivial, rfl, trivial, trivial, trivial, rfl, trivial, trivial, trivial, trivial, rfl, trivial, trivial, trivial, rfl, trivial, trivial, trivial, trivial, trivial, rfl, trivial, trivial, trivial, trivial, trivial⟩ ⟨⟨rfl, rfl⟩, hb54, trivial⟩ fun a111 h112 => ?_
                clear h109
                refine wpAnyK_done (by kernel_rfl) ?_ _
                refine hK53 _ _ ?_
                clear hK53
                refine c_false h112 rfl ?_
                refine wp_seq_k fun K113 hK113 => ?_
                rcases Bool.eq_false_or_eq_true ((op.kind == 11)) with hb114 | hb114
                ·
                  exact absurd (hb114.symm.trans hb54) (by decide)
                ·
                  have hb114f : op.kind ≠ 11 := by simpa using hb114
                  refine dr_start (KB := [bl, b2]) (Bi := [[0, 1], [0, 1], [0, 1], [0, 1], [0, 1], [0, 1], [0, 1], [0, 1], [0, 1], [0, 1], [0, 1], [0, 1], [0, 1], [0, 1], [0, 1], [0, 1], [0, 1], [0, 1], [0, 1]]) mixed h112 fun w115 h116 => ?_
                  clear h112
                  refine dr_batch tabOk tabZ_ok (by repeat (first | exact PF.body | with_reducible apply PF.inB | with_reducible apply PF.next)) [(0, {}), (1, {k := 1, p := 1}), (2, {f := 1}), (3, {}), (4, {}), (5, {k := 0, p := 0}), (6, {}), (7, {}), (8, {}), (9, {}), (10, {k := 0, p := 0}), (11, {}), (12, {}), (13, {}), (14, {k := 0, p := 0}), (15, {}), (16, {}), (17, {}), (18, {})] [3, 0, 1, 107] (T' := [(3, .pointer (some ⟨b2, 0, none⟩)), (0, .pointer (some ⟨bl, 0, none⟩)), (1, .agg #[.int .u8 op.kind, .int .i64 op.n, .int .i64 op.m, .int .u8 op.ev.kind, .int .u32 op.ev.pick, .int .u64 op.ev.arg]), (107, .bool false)]) (φ := (b2 = b2 ∧ Nat.ble (0 + 1) 6 = true) ∧ ((op.kind == 11)) = false ∧ True) (fuel := 0) h116 (by kernel_rfl) rfl (by kernel_rfl) (by kernel_rfl) ⟨trivial, rfl, trivial, trivial, trivial, rfl, trivial, trivial, trivial, trivial, rfl, trivial, trivial, trivial, rfl, trivial, trivial, trivial, trivial, trivial⟩ ⟨⟨rfl, rfl⟩, hb114, trivial⟩ fun a118 h119 => ?_
                  clear h116
                  refine wpAnyK_done (by kernel_rfl) ?_ _
                  refine hK113 _ _ ?_
                  clear hK113
                  refine c_false h119 rfl ?_
                  refine wp_skip ?_
                  have hT : tampR lg op = lg := by unfold tampR; rw [if_neg (by omega), if_neg (by omega), if_neg (by omega)]
                  try simp only [Exit.then, Exit.inBlock]
                  try rw [if_pos trivial]
                  exact s_end tabOk tabZ_ok h119 [] (vs := []) (φ := True) rfl (by kernel_rfl) trivial ⟨rfl, by rw [hT]; exact LogAt.of (h119.kn (k := 0) rfl) h119.inv hsep, h119.frame⟩
          ·
            have hb35f : ¬ op.n ≥ 0 := by simpa using hb35
            refine dr_start (KB := [bl, b2]) (Bi := [[0, 1], [0, 1], [0, 1], [0, 1], [0, 1], [0, 1], [0, 1], [0, 1], [0, 1], [0, 1], [0, 1], [0, 1], [0, 1], [0, 1], [0, 1], [0, 1], [0, 1], [0, 1], [0, 1]]) mixed h20 fun w120 h121 => ?_
            clear h20
            refine dr_batch tabOk tabZ_ok (by repeat (first | exact PF.body | with_reducible apply PF.inB | with_reducible apply PF.next)) [(0, {}), (1, {k := 1, p := 1}), (2, {f := 2}), (3, {}), (4, {}), (5, {k := 1, p := 1}), (6, {f := 1}), (7, {}), (8, {}), (9, {}), (10, {k := 0, p := 0}), (11, {}), (12, {}), (13, {}), (14, {k := 0, p := 0}), (15, {}), (16, {}), (17, {}), (18, {})] [3, 0, 1, 40] (T' := [(3, .pointer (some ⟨b2, 0, none⟩)), (0, .pointer (some ⟨bl, 0, none⟩)), (1, .agg #[.int .u8 op.kind, .int .i64 op.n, .int .i64 op.m, .int .u8 op.ev.kind, .int .u32 op.ev.pick, .int .u64 op.ev.arg]), (40, .bool false)]) (φ := (b2 = b2 ∧ Nat.ble (0 + 1) 6 = true) ∧ ((op.kind == 10)) = true ∧ (b2 = b2 ∧ Nat.ble (1 + 1) 6 = true) ∧ (decide (op.n ≥ 0)) = false ∧ True) (fuel := 0) h121 (by kernel_rfl) rfl (by kernel_rfl) (by kernel_rfl) ⟨trivial, rfl, trivial, trivial, trivial, rfl, trivial, trivial, trivial, trivial, rfl, trivial, trivial, trivial, rfl, trivial, trivial, trivial, trivial, trivial⟩ ⟨⟨rfl, rfl⟩, hb34, ⟨rfl, rfl⟩, hb35, trivial⟩ fun a123 h124 => ?_
            clear h121
            refine wpAnyK_done (by kernel_rfl) ?_ _
            refine hK33 _ _ ?_
            clear hK33
            refine c_false h124 rfl ?_
            refine wp_seq_k fun K125 hK125 => ?_
            rcases Bool.eq_false_or_eq_true ((op.kind == 11)) with hb126 | hb126
            ·
              have hb126f : op.kind = 11 := by simpa using hb126
              rcases Bool.eq_false_or_eq_true (decide (op.n ≥ 0)) with hb127 | hb127
              ·
                exact absurd (hb127.symm.trans hb35) (by decide)
              ·
                have hb127f : ¬ op.n ≥ 0 := by simpa using hb127
                refine dr_start (KB := [bl, b2]) (Bi := [[0, 1], [0, 1], [0, 1], [0, 1], [0, 1], [0, 1], [0, 1], [0, 1], [0, 1], [0, 1], [0, 1], [0, 1], [0, 1], [0, 1], [0, 1], [0, 1], [0, 1], [0, 1], [0, 1], [0, 1], [0, 1], [0, 1], [0, 1], [0, 1], [0, 1]]) mixed h124 fun w128 h129 => ?_
                clear h124
                refine dr_batch tabOk tabZ_ok (by repeat (first | exact PF.body | with_reducible apply PF.inB | with_reducible apply PF.next)) [(0, {}), (1, {k := 1, p := 1}), (2, {f := 2}), (3, {}), (4, {}), (5, {k := 1, p := 1}), (6, {f := 1}), (7, {}), (8, {}), (9, {}), (10, {k := 0, p := 0}), (11, {}), (12, {}), (13, {}), (14, {k := 0, p := 0}), (15, {}), (16, {}), (17, {}), (18, {}), (19, {}), (20, {k := 0, p := 0}), (21, {}), (22, {}), (23, {}), (24, {})] [3, 0, 1, 70] (T' := [(3, .pointer (some ⟨b2, 0, none⟩)), (0, .pointer (some ⟨bl, 0, none⟩)), (1, .agg #[.int .u8 op.kind, .int .i64 op.n, .int .i64 op.m, .int .u8 op.ev.kind, .int .u32 op.ev.pick, .int .u64 op.ev.arg]), (70, .bool false)]) (φ := (b2 = b2 ∧ Nat.ble (0 + 1) 6 = true) ∧ ((op.kind == 11)) = true ∧ (b2 = b2 ∧ Nat.ble (1 + 1) 6 = true) ∧ (decide (op.n ≥ 0)) = false ∧ True) (fuel := 0) h129 (by kernel_rfl) rfl (by kernel_rfl) (by kernel_rfl) ⟨trivial, rfl, trivial, trivial, trivial, rfl, trivial, trivial, trivial, trivial, rfl, trivial, trivial, trivial, rfl, trivial, trivial, trivial, trivial, trivial, rfl, trivial, trivial, trivial, trivial, trivial⟩ ⟨⟨rfl, rfl⟩, hb126, ⟨rfl, rfl⟩, hb127, trivial⟩ fun a131 h132 => ?_
                clear h129
                refine wpAnyK_done (by kernel_rfl) ?_ _
                refine hK125 _ _ ?_
                clear hK125
                refine c_false h132 rfl ?_
                refine wp_seq_k fun K133 hK133 => ?_
                rcases Bool.eq_false_or_eq_true ((op.kind == 11)) with hb134 | hb134
                ·
                  have hb134f : op.kind = 11 := by simpa using hb134
                  rcases Bool.eq_false_or_eq_true (decide (op.n ≥ 0)) with hb135 | hb135
                  ·
                    exact absurd (hb135.symm.trans hb127) (by decide)
                  ·
                    have hb135f : ¬ op.n ≥ 0 := by simpa using hb135
                    refine dr_start (KB := [bl, b2]) (Bi := [[0, 1], [0, 1], [0, 1], [0, 1], [0, 1], [0, 1], [0, 1], [0, 1], [0, 1], [0, 1], [0, 1], [0, 1], [0, 1], [0, 1], [0, 1], [0, 1], [0, 1], [0, 1], [0, 1]]) mixed h132 fun w136 h137 => ?_
                    clear h132
                    refine dr_batch tabOk tabZ_ok (by repeat (first | exact PF.body | with_reducible apply PF.inB | with_reducible apply PF.next)) [(0, {}), (1, {k := 1, p := 1}), (2, {f := 2}), (3, {}), (4, {}), (5, {k := 1, p := 1}), (6, {f := 1}), (7, {}), (8, {}), (9, {}), (10, {k := 0, p := 0}), (11, {}), (12, {}), (13, {}), (14, {k := 0, p := 0}), (15, {}), (16, {}), (17, {}), (18, {})] [3, 0, 1, 107] (T' := [(3, .pointer (some ⟨b2, 0, none⟩)), (0, .pointer (some ⟨bl, 0, none⟩)), (1, .agg #[.int .u8 op.kind, .int .i64 op.n, .int .i64 op.m, .int .u8 op.ev.kind, .int .u32 op.ev.pick, .int .u64 op.ev.arg]), (107, .bool false)]) (φ := (b2 = b2 ∧ Nat.ble (0 + 1) 6 = true) ∧ ((op.kind == 11)) = true ∧ (b2 = b2 ∧ Nat.ble (1 + 1) 6 = true) ∧ (decide (op.n ≥ 0)) = false ∧ True) (fuel := 0) h137 (by kernel_rfl) rfl (by kernel_rfl) (by kernel_rfl) ⟨trivial, rfl, trivial, trivial, trivial, rfl, trivial, trivial, trivial, trivial, rfl, trivial, trivial, trivial, rfl, trivial, trivial, trivial, trivial, trivial⟩ ⟨⟨rfl, rfl⟩, hb134, ⟨rfl, rfl⟩, hb135, trivial⟩ fun a139 h140 => ?_
                    clear h137
                    refine wpAnyK_done (by kernel_rfl) ?_ _
                    refine hK133 _ _ ?_
                    clear hK133
                    refine c_false h140 rfl ?_
                    refine wp_skip ?_
                    have hT : tampR lg op = lg := by unfold tampR; rw [if_neg (by omega), if_neg (by omega), if_neg (by omega)]
                    try simp only [Exit.then, Exit.inBlock]
                    try rw [if_pos trivial]
                    exact s_end tabOk tabZ_ok h140 [] (vs := []) (φ := True) rfl (by kernel_rfl) trivial ⟨rfl, by rw [hT]; exact LogAt.of (h140.kn (k := 0) rfl) h140.inv hsep, h140.frame⟩
                ·
                  exact absurd (hb134.symm.trans hb126) (by decide)
            ·
              have hb126f : op.kind ≠ 11 := by simpa using hb126
              refine dr_start (KB := [bl, b2]) (Bi := [[0, 1], [0, 1], [0, 1], [0, 1], [0, 1], [0, 1], [0, 1], [0, 1], [0, 1], [0, 1], [0, 1], [0, 1], [0, 1], [0, 1], [0, 1], [0, 1], [0, 1], [0, 1], [0, 1], [0, 1], [0, 1], [0, 1], [0, 1], [0, 1], [0, 1]]) mixed h124 fun w141 h142 => ?_
              clear h124
              refine dr_batch tabOk tabZ_ok (by repeat (first | exact PF.body | with_reducible apply PF.inB | with_reducible apply PF.next)) [(0, {}), (1, {k := 1, p := 1}), (2, {f := 1}), (3, {}), (4, {}), (5, {k := 0, p := 0}), (6, {}), (7, {}), (8, {}), (9, {}), (10, {k := 0, p := 0}), (11, {}), (12, {}), (13, {}), (14, {k := 0, p := 0}), (15, {}), (16, {}), (17, {}), (18, {}), (19, {}), (20, {k := 0, p := 0}), (21, {}), (22, {}), (23, {}), (24, {})] [3, 0, 1, 70] (T' := [(3, .pointer (some ⟨b2, 0, none⟩)), (0, .pointer (some ⟨bl, 0, none⟩)), (1, .agg #[.int .u8 op.kind, .int .i64 op.n, .int .i64 op.m, .int .u8 op.ev.kind, .int .u32 op.ev.pick, .int .u64 op.ev.arg]), (70, .bool false)]) (φ := (b2 = b2 ∧ Nat.ble (0 + 1) 6 = true) ∧ ((op.kind == 11)) = false ∧ True) (fuel := 0) h142 (by kernel_rfl) rfl (by kernel_rfl) (by kernel_rfl) ⟨trivial, rfl, trivial, trivial, trivial, rfl, trivial, trivial, trivial, trivial, rfl, trivial, trivial, trivial, rfl, trivial, trivial, trivial, trivial, trivial, rfl, trivial, trivial, trivial, trivial, trivial⟩ ⟨⟨rfl, rfl⟩, hb126, trivial⟩ fun a144 h145 => ?_
              clear h142
              refine wpAnyK_done (by kernel_rfl) ?_ _
              refine hK125 _ _ ?_
              clear hK125
              refine c_false h145 rfl ?_
              refine wp_seq_k fun K146 hK146 => ?_
              rcases Bool.eq_false_or_eq_true ((op.kind == 11)) with hb147 | hb147
              ·
                exact absurd (hb147.symm.trans hb126) (by decide)
              ·
                have hb147f : op.kind ≠ 11 := by simpa using hb147
                refine dr_start (KB := [bl, b2]) (Bi := [[0, 1], [0, 1], [0, 1], [0, 1], [0, 1], [0, 1], [0, 1], [0, 1], [0, 1], [0, 1], [0, 1], [0, 1], [0, 1], [0, 1], [0, 1], [0, 1], [0, 1], [0, 1], [0, 1]]) mixed h145 fun w148 h149 => ?_
                clear h145
                refine dr_batch tabOk tabZ_ok (by repeat (first | exact PF.body | with_reducible apply PF.inB | with_reducible apply PF.next)) [(0, {}), (1, {k := 1, p := 1}), (2, {f := 1}), (3, {}), (4, {}), (5, {k := 0, p := 0}), (6, {}), (7, {}), (8, {}), (9, {}), (10, {k := 0, p := 0}), (11, {}), (12, {}), (13, {}), (14, {k := 0, p := 0}), (15, {}), (16, {}), (17, {}), (18, {})] [3, 0, 1, 107] (T' := [(3, .pointer (some ⟨b2, 0, none⟩)), (0, .pointer (some ⟨bl, 0, none⟩)), (1, .agg #[.int .u8 op.kind, .int .i64 op.n, .int .i64 op.m, .int .u8 op.ev.kind, .int .u32 op.ev.pick, .int .u64 op.ev.arg]), (107, .bool false)]) (φ := (b2 = b2 ∧ Nat.ble (0 + 1) 6 = true) ∧ ((op.kind == 11)) = false ∧ True) (fuel := 0) h149 (by kernel_rfl) rfl (by kernel_rfl) (by kernel_rfl) ⟨trivial, rfl, trivial, trivial, trivial, rfl, trivial, trivial, trivial, trivial, rfl, trivial, trivial, trivial, rfl, trivial, trivial, trivial, trivial, trivial⟩ ⟨⟨rfl, rfl⟩, hb147, trivial⟩ fun a151 h152 => ?_
                clear h149
                refine wpAnyK_done (by kernel_rfl) ?_ _
                refine hK146 _ _ ?_
                clear hK146
                refine c_false h152 rfl ?_
                refine wp_skip ?_
                have hT : tampR lg op = lg := by unfold tampR; rw [if_neg (by omega), if_neg (by omega), if_neg (by omega)]
                try simp only [Exit.then, Exit.inBlock]
                try rw [if_pos trivial]
                exact s_end tabOk tabZ_ok h152 [] (vs := []) (φ := True) rfl (by kernel_rfl) trivial ⟨rfl, by rw [hT]; exact LogAt.of (h152.kn (k := 0) rfl) h152.inv hsep, h152.frame⟩
        ·
          have hb34f : op.kind ≠ 10 := by simpa using hb34
          refine dr_start (KB := [bl, b2]) (Bi := [[0, 1], [0, 1], [0, 1], [0, 1], [0, 1], [0, 1], [0, 1], [0, 1], [0, 1], [0, 1], [0, 1], [0, 1], [0, 1], [0, 1], [0, 1], [0, 1], [0, 1], [0, 1], [0, 1]]) mixed h20 fun w153 h154 => ?_
          clear h20
          refine dr_batch tabOk tabZ_ok (by repeat (first | exact PF.body | with_reducible apply PF.inB | with_reducible apply PF.next)) [(0, {}), (1, {k := 1, p := 1}), (2, {f := 1}), (3, {}), (4, {}), (5, {k := 0, p := 0}), (6, {}), (7, {}), (8, {}), (9, {}), (10, {k := 0, p := 0}), (11, {}), (12, {}), (13, {}), (14, {k := 0, p := 0}), (15, {}), (16, {}), (17, {}), (18, {})] [3, 0, 1, 40] (T' := [(3, .pointer (some ⟨b2, 0, none⟩)), (0, .pointer (some ⟨bl, 0, none⟩)), (1, .agg #[.int .u8 op.kind, .int .i64 op.n, .int .i64 op.m, .int .u8 op.ev.kind, .int .u32 op.ev.pick, .int .u64 op.ev.arg]), (40, .bool false)]) (φ := (b2 = b2 ∧ Nat.ble (0 + 1) 6 = true) ∧ ((op.kind == 10)) = false ∧ True) (fuel := 0) h154 (by kernel_rfl) rfl (by kernel_rfl) (by kernel_rfl) ⟨trivial, rfl, trivial, trivial, trivial, rfl, trivial, trivial, trivial, trivial, rfl, trivial, trivial, trivial, rfl, trivial, trivial, trivial, trivial, trivial⟩ ⟨⟨rfl, rfl⟩, hb34, trivial⟩ fun a156 h157 => ?_
          clear h154
          refine wpAnyK_done (by kernel_rfl) ?_ _
          refine hK33 _ _ ?_
          clear hK33
          refine c_false h157 rfl ?_
          refine wp_seq_k fun K158 hK158 => ?_
          rcases Bool.eq_false_or_eq_true ((op.kind == 11)) with hb159 | hb159
          ·
            have hb159f : op.kind = 11 := by simpa using hb159
            rcases Bool.eq_false_or_eq_true (decide (op.n ≥ 0)) with hb160 | hb160
            ·
              have hb160f : op.n ≥ 0 := by simpa using hb160
              rcases Bool.eq_false_or_eq_true (decide (op.n < ((lg.sns.length : Nat) : Int))) with hb161 | hb161
              ·
                have hb161f : op.n < ((lg.sns.length : Nat) : Int) := by simpa using hb161
                refine dr_start (KB := [bl, b2]) (Bi := [[0, 1], [0, 1], [0, 1], [0, 1], [0, 1], [0, 1], [0, 1], [0, 1], [0, 1], [0, 1], [0, 1], [0, 1], [0, 1], [0, 1], [0, 1], [0, 1], [0, 1], [0, 1], [0, 1], [0, 1], [0, 1], [0, 1], [0, 1], [0, 1], [0, 1]]) mixed h157 fun w162 h163 => ?_
                clear h157
                refine dr_batch tabOk tabZ_ok (by repeat (first | exact PF.body | with_reducible apply PF.inB | with_reducible apply PF.next)) [(0, {}), (1, {k := 1, p := 1}), (2, {f := 2}), (3, {}), (4, {}), (5, {k := 1, p := 1}), (6, {f := 2}), (7, {}), (8, {}), (9, {}), (10, {k := 1, p := 1}), (11, {}), (12, {}), (13, {}), (14, {k := 0, p := 0}), (15, {}), (16, {f := 2}), (17, {}), (18, {}), (19, {}), (20, {k := 1, p := 1}), (21, {m := 1}), (22, {}), (23, {}), (24, {})] [3, 0, 1, 70] (T' := [(3, .pointer (some ⟨b2, 0, none⟩)), (0, .pointer (some ⟨bl, 0, none⟩)), (1, .agg #[.int .u8 op.kind, .int .i64 op.n, .int .i64 op.m, .int .u8 op.ev.kind, .int .u32 op.ev.pick, .int .u64 op.ev.arg]), (70, .bool ((op.m.tmod 2) == 0))]) (φ := (b2 = b2 ∧ Nat.ble (0 + 1) 6 = true) ∧ ((op.kind == 11)) = true ∧ (b2 = b2 ∧ Nat.ble (1 + 1) 6 = true) ∧ (decide (op.n ≥ 0)) = true ∧ (b2 = b2 ∧ Nat.ble (1 + 1) 6 = true) ∧ (bl = bl ∧ Nat.ble (17 + 1) 18 = true) ∧ (decide (op.n < ((lg.sns.length : Nat) : Int))) = true ∧ (b2 = b2 ∧ Nat.ble (2 + 1) 6 = true) ∧ (2 : Int) ≠ 0 ∧ True) (fuel := 0) h163 (by kernel_rfl) rfl (by kernel_rfl) (by kernel_rfl) ⟨trivial, rfl, trivial, trivial, trivial, rfl, trivial, trivial, trivial, trivial, rfl, trivial, trivial, trivial, rfl, trivial, trivial, trivial, trivial, trivial, rfl, trivial, trivial, trivial, trivial, trivial⟩ ⟨⟨rfl, rfl⟩, hb159, ⟨rfl, rfl⟩, hb160, ⟨rfl, rfl⟩, ⟨rfl, rfl⟩, hb161, ⟨rfl, rfl⟩, (by decide), trivial⟩ fun a165 h166 => ?_
                clear h163
                refine wpAnyK_done (by kernel_rfl) ?_ _
                refine hK158 _ _ ?_
                clear hK158
                refine c_split h166 (b := ((op.m.tmod 2) == 0)) rfl (fun hc167 => ?_) (fun hc167 => ?_)
                ·
                  have hc167f : (op.m.tmod 2) = 0 := by simpa using hc167
                  have hmm : op.m.tmod 2 = 0 := hc167f
                  obtain ⟨x, hx⟩ := Sx.get_some (xs := lg.sns) (i := op.n.toNat) (by omega)
                  obtain ⟨rb168, cs169, ho, hbr, hlr, hcr, htr, hFr⟩ := Row.open_ (h166.inv.get (j := 2) (r := rl ptC 66 15 lg.sns so sc sF) rfl) (by show 0 < lg.sns.length; omega)
                  simp only at ho hFr
                  subst ho hFr
                  have hcr2 : lg.sns.length ≤ sc := hcr
                  have hlr2 : cs169.length = sc * 15 := hlr
                  have h170 := h166.rowTake (R' := [rl evC 33 3 lg.evs eo ec eF, rl mkC 78 2 lg.mks mo mc mF]) (r := rl ptC 66 15 lg.sns (some ⟨rb168, 0, none⟩) sc ([rb168])) (List.Perm.refl _) rfl hbr (.inl (by simp)) (kcons (by intro hq; cases hq) (kcons (by intro hq; cases hq) knil))
                  clear h166
                  refine dr_start (KB := [bl, b2, rb168]) (Bi := [[0, 1, 2], [0, 1, 2], [0, 1, 2], [0, 1, 2], [0, 1, 2], [0, 1, 2], [0, 1, 2], [0, 1, 2], [0, 1, 2], [0, 1, 2], [0, 1, 2], [0, 1, 2], []]) mixed h170 fun w171 h172 => ?_
                  clear h170
                  refine dr_batch tabOk tabZ_ok (by repeat (first | exact PF.body | with_reducible apply PF.inB | with_reducible apply PF.next)) [(0, {}), (1, {}), (2, {}), (3, {k := 0, p := 0}), (4, {}), (5, {k := 1, p := 1}), (6, {}), (7, {}), (8, {k := 1, p := 1}), (9, {}), (10, {}), (11, {})] [3, 0, 1, 103, 106] (T' := [(3, .pointer (some ⟨b2, 0, none⟩)), (0, .pointer (some ⟨bl, 0, none⟩)), (1, .agg #[.int .u8 op.kind, .int .i64 op.n, .int .i64 op.m, .int .u8 op.ev.kind, .int .u32 op.ev.pick, .int .u64 op.ev.arg]), (103, .int .u64 op.ev.arg), (106, .pointer (some ⟨rb168, 0 + (op.n.toNat * 15) + 1, none⟩))]) (φ := (bl = bl ∧ Nat.ble (17 + 1) 18 = true) ∧ (b2 = b2 ∧ Nat.ble (1 + 1) 6 = true) ∧ (b2 = b2 ∧ Nat.ble (5 + 1) 6 = true) ∧ (0 ≤ op.n ∧ op.n < ((lg.sns.length : Nat) : Int)) ∧ True) (fuel := 1) h172 (by kernel_rfl) rfl (by kernel_rfl) (by kernel_rfl) ⟨trivial, trivial, trivial, rfl, trivial, rfl, trivial, trivial, rfl, trivial, trivial, trivial, trivial⟩ ⟨⟨rfl, rfl⟩, ⟨rfl, rfl⟩, ⟨rfl, rfl⟩, ⟨by omega, by omega⟩, trivial⟩ fun a174 h175 => ?_
                  clear h172
                  refine wpAnyK_one (i := 12) (fuel := 0) (by kernel_rfl) ?_
                  refine op_store tabOk {k := 2, m := 1, vs := (splice cs169 (op.n.toNat * 15 + 1) [.int .u64 op.ev.arg])} (L' := [(bl, ⟨logC lg.base (.slice eo lg.evs.length ec) (.slice mo lg.mks.length mc) (.slice (some ⟨rb168, 0, none⟩) lg.sns.length sc), 69, false⟩), (b2, ⟨[.int .u8 op.kind, .int .i64 op.n, .int .i64 op.m, .int .u8 op.ev.kind, .int .u32 op.ev.pick, .int .u64 op.ev.arg], 35, false⟩), (rb168, ⟨(splice cs169 (op.n.toNat * 15 + 1) [.int .u64 op.ev.arg]), 66, false⟩)]) (φ := rb168 = rb168 ∧ Nat.ble (0 + (op.n.toNat * 15) + 1 + 1) cs169.length = true ∧ splice cs169 (0 + (op.n.toNat * 15) + 1) [.int .u64 op.ev.arg] = (splice cs169 (op.n.toNat * 15 + 1) [.int .u64 op.ev.arg])) h175 rfl rfl rfl (by kernel_rfl) ⟨rfl, (by rw [Nat.ble_eq]; omega), (by simp only [Nat.zero_add, Nat.add_zero, Nat.add_assoc])⟩ fun w176 h177 => ?_
                  have hkh177 := h175.known
                  refine ⟨keepNil, ?_⟩
                  clear h175
                  refine wpAnyK_done (by kernel_rfl) ?_ _
                  have hT : tampR lg op = ({ lg with sns := lg.sns.set op.n.toNat ({ x with st := { x.st with now := op.ev.arg } } : Pt) } : Lg) := by have he : edS op x = ({ x with st := { x.st with now := op.ev.arg } } : Pt) := (by unfold edS; rw [if_pos hmm]); unfold tampR; rw [if_neg (by omega), if_neg (by omega), if_pos (by omega)]; simp only [hx, he]
                  have hrow : (rl ptC 66 15 (lg.sns.set op.n.toNat ({ x with st := { x.st with now := op.ev.arg } } : Pt)) (some ⟨rb168, 0, none⟩) sc ([rb168])).at _ := row_set (off := 1) (vs := [.int .u64 op.ev.arg]) ptC_len (by simp) hx rfl hlr2 hcr2 htr (h177.kn (k := 2) (blk := ⟨(splice cs169 (op.n.toNat * 15 + 1) [.int .u64 op.ev.arg]), 66, false⟩) rfl)
                  have h178 := h177.rowOf (L := [(bl, ⟨logC lg.base (.slice eo lg.evs.length ec) (.slice mo lg.mks.length mc) (.slice (some ⟨rb168, 0, none⟩) lg.sns.length sc), 69, false⟩), (b2, ⟨[.int .u8 op.kind, .int .i64 op.n, .int .i64 op.m, .int .u8 op.ev.kind, .int .u32 op.ev.pick, .int .u64 op.ev.arg], 35, false⟩)]) (r := rl ptC 66 15 (lg.sns.set op.n.toNat ({ x with st := { x.st with now := op.ev.arg } } : Pt)) (some ⟨rb168, 0, none⟩) sc ([rb168])) rfl hrow
                  have hlen2 : (lg.sns.set op.n.toNat ({ x with st := { x.st with now := op.ev.arg } } : Pt)).length = lg.sns.length := List.length_set
                  try simp only [Exit.then, Exit.inBlock]
                  try rw [if_pos trivial]
                  exact s_end tabOk tabZ_ok h178 [] (vs := []) (φ := True) rfl (by kernel_rfl) trivial ⟨rfl, by rw [hT]; exact LogAt.of (d := ⟨eo, ec, eF, mo, mc, mF, (some ⟨rb168, 0, none⟩), sc, [rb168]⟩) (lg := ({ lg with sns := lg.sns.set op.n.toNat ({ x with st := { x.st with now := op.ev.arg } } : Pt) } : Lg)) (by have hq := h178.kn (k := 0) rfl; rw [← hlen2] at hq; exact hq) (Rws.perm h178.inv (List.Perm.refl _)) hsep, h178.frame⟩
                ·
                  have hc167f : (op.m.tmod 2) ≠ 0 := by simpa using hc167
                  refine wp_seq_k fun K179 hK179 => ?_
                  rcases Bool.eq_false_or_eq_true ((op.kind == 11)) with hb180 | hb180
                  ·
                    have hb180f : op.kind = 11 := by simpa using hb180
                    rcases Bool.eq_false_or_eq_true (decide (op.n ≥ 0)) with hb181 | hb181
                    ·
                      have hb181f : op.n ≥ 0 := by simpa using hb181
                      refine dr_start (KB := [bl, b2]) (Bi := [[0, 1], [0, 1], [0, 1], [0, 1], [0, 1], [0, 1], [0, 1], [0, 1], [0, 1], [0, 1], [0, 1], [0, 1], [0, 1], [0, 1], [0, 1], [0, 1], [0, 1], [0, 1], [0, 1]]) mixed h166 fun w182 h183 => ?_
                      clear h166
                      refine dr_batch tabOk tabZ_ok (by repeat (first | exact PF.body | with_reducible apply PF.inB | with_reducible apply PF.next)) [(0, {}), (1, {k := 1, p := 1}), (2, {f := 2}), (3, {}), (4, {}), (5, {k := 1, p := 1}), (6, {f := 2}), (7, {}), (8, {}), (9, {}), (10, {k := 1, p := 1}), (11, {}), (12, {}), (13, {}), (14, {k := 0, p := 0}), (15, {}), (16, {}), (17, {}), (18, {})] [3, 0, 1, 107] (T' := [(3, .pointer (some ⟨b2, 0, none⟩)), (0, .pointer (some ⟨bl, 0, none⟩)), (1, .agg #[.int .u8 op.kind, .int .i64 op.n, .int .i64 op.m, .int .u8 op.ev.kind, .int .u32 op.ev.pick, .int .u64 op.ev.arg]), (107, .bool (decide (op.n < ((lg.sns.length : Nat) : Int))))]) (φ := (b2 = b2 ∧ Nat.ble (0 + 1) 6 = true) ∧ ((op.kind == 11)) = true ∧ (b2 = b2 ∧ Nat.ble (1 + 1) 6 = true) ∧ (decide (op.n ≥ 0)) = true ∧ (b2 = b2 ∧ Nat.ble (1 + 1) 6 = true) ∧ (bl = bl ∧ Nat.ble (17 + 1) 18 = true) ∧ True) (fuel := 0) h183 (by kernel_rfl) rfl (by kernel_rfl) (by kernel_rfl) ⟨trivial, rfl, trivial, trivial, trivial, rfl, trivial, trivial, trivial, trivial, rfl, trivial, trivial, trivial, rfl, trivial, trivial, trivial, trivial, trivial⟩ ⟨⟨rfl, rfl⟩, hb180, ⟨rfl, rfl⟩, hb181, ⟨rfl, rfl⟩, ⟨rfl, rfl⟩, trivial⟩ fun a185 h186 => ?_
                      clear h183
                      refine wpAnyK_done (by kernel_rfl) ?_ _
                      refine hK179 _ _ ?_
                      clear hK179
                      refine c_split h186 (b := decide (op.n < ((lg.sns.length : Nat) : Int))) rfl (fun hc187 => ?_) (fun hc187 => ?_)
                      ·
                        have hc187f : op.n < ((lg.sns.length : Nat) : Int) := by simpa using hc187
                        have hmm : op.m.tmod 2 ≠ 0 := hc167f
                        obtain ⟨x, hx⟩ := Sx.get_some (xs := lg.sns) (i := op.n.toNat) (by omega)
                        obtain ⟨rb188, cs189, ho, hbr, hlr, hcr, htr, hFr⟩ := Row.open_ (h186.inv.get (j := 2) (r := rl ptC 66 15 lg.sns so sc sF) rfl) (by show 0 < lg.sns.length; omega)
                        simp only at ho hFr
                        subst ho hFr
                        have hcr2 : lg.sns.length ≤ sc := hcr
                        have hlr2 : cs189.length = sc * 15 := hlr
                        have h190 := h186.rowTake (R' := [rl evC 33 3 lg.evs eo ec eF, rl mkC 78 2 lg.mks mo mc mF]) (r := rl ptC 66 15 lg.sns (some ⟨rb188, 0, none⟩) sc ([rb188])) (List.Perm.refl _) rfl hbr (.inl (by simp)) (kcons (by intro hq; cases hq) (kcons (by intro hq; cases hq) knil))
                        clear h186
                        refine dr_start (KB := [bl, b2, rb188]) (Bi := [[0, 1, 2], [0, 1, 2], [0, 1, 2], [0, 1, 2], [0, 1, 2], [0, 1, 2], [0, 1, 2], [0, 1, 2], [0, 1, 2], [0, 1, 2], [0, 1, 2], [0, 1, 2], []]) mixed h190 fun w191 h192 => ?_
                        clear h190
                        refine dr_batch tabOk tabZ_ok (by repeat (first | exact PF.body | with_reducible apply PF.inB | with_reducible apply PF.next)) [(0, {}), (1, {}), (2, {}), (3, {k := 0, p := 0}), (4, {}), (5, {k := 1, p := 1}), (6, {}), (7, {}), (8, {k := 1, p := 1}), (9, {}), (10, {}), (11, {})] [3, 0, 1, 134, 137] (T' := [(3, .pointer (some ⟨b2, 0, none⟩)), (0, .pointer (some ⟨bl, 0, none⟩)), (1, .agg #[.int .u8 op.kind, .int .i64 op.n, .int .i64 op.m, .int .u8 op.ev.kind, .int .u32 op.ev.pick, .int .u64 op.ev.arg]), (134, .int .u64 op.ev.arg), (137, .pointer (some ⟨rb188, 0 + (op.n.toNat * 15) + 12 + 2, none⟩))]) (φ := (bl = bl ∧ Nat.ble (17 + 1) 18 = true) ∧ (b2 = b2 ∧ Nat.ble (1 + 1) 6 = true) ∧ (b2 = b2 ∧ Nat.ble (5 + 1) 6 = true) ∧ (0 ≤ op.n ∧ op.n < ((lg.sns.length : Nat) : Int)) ∧ True) (fuel := 1) h192 (by kernel_rfl) rfl (by kernel_rfl) (by kernel_rfl) ⟨trivial, trivial, trivial, rfl, trivial, rfl, trivial, trivial, rfl, trivial, trivial, trivial, trivial⟩ ⟨⟨rfl, rfl⟩, ⟨rfl, rfl⟩, ⟨rfl, rfl⟩, ⟨by omega, by omega⟩, trivial⟩ fun a194 h195 => ?_
                        clear h192
                        refine wpAnyK_one (i := 12) (fuel := 0) (by kernel_rfl) ?_
                        refine op_store tabOk {k := 2, m := 1, vs := (splice cs189 (op.n.toNat * 15 + 14) [.int .u64 op.ev.arg])} (L' := [(bl, ⟨logC lg.base (.slice eo lg.evs.length ec) (.slice mo lg.mks.length mc) (.slice (some ⟨rb188, 0, none⟩) lg.sns.length sc), 69, false⟩), (b2, ⟨[.int .u8 op.kind, .int .i64 op.n, .int .i64 op.m, .int .u8 op.ev.kind, .int .u32 op.ev.pick, .int .u64 op.ev.arg], 35, false⟩), (rb188, ⟨(splice cs189 (op.n.toNat * 15 + 14) [.int .u64 op.ev.arg]), 66, false⟩)]) (φ := rb188 = rb188 ∧ Nat.ble (0 + (op.n.toNat * 15) + 12 + 2 + 1) cs189.length = true ∧ splice cs189 (0 + (op.n.toNat * 15) + 12 + 2) [.int .u64 op.ev.arg] = (splice cs189 (op.n.toNat * 15 + 14) [.int .u64 op.ev.arg])) h195 rfl rfl rfl (by kernel_rfl) ⟨rfl, (by rw [Nat.ble_eq]; omega), (by simp only [Nat.zero_add, Nat.add_zero, Nat.add_assoc])⟩ fun w196 h197 => ?_
                        have hkh197 := h195.known
                        refine ⟨keepNil, ?_⟩
                        clear h195
                        refine wpAnyK_done (by kernel_rfl) ?_ _
                        have hT : tampR lg op = ({ lg with sns := lg.sns.set op.n.toNat ({ x with out := { x.out with value := op.ev.arg } } : Pt) } : Lg) := by have he : edS op x = ({ x with out := { x.out with value := op.ev.arg } } : Pt) := (by unfold edS; rw [if_neg hmm]); unfold tampR; rw [if_neg (by omega), if_neg (by omega), if_pos (by omega)]; simp only [hx, he]
                        have hrow : (rl ptC 66 15 (lg.sns.set op.n.toNat ({ x with out := { x.out with value := op.ev.arg } } : Pt)) (some ⟨rb188, 0, none⟩) sc ([rb188])).at _ := row_set (off := 14) (vs := [.int .u64 op.ev.arg]) ptC_len (by simp) hx rfl hlr2 hcr2 htr (h197.kn (k := 2) (blk := ⟨(splice cs189 (op.n.toNat * 15 + 14) [.int .u64 op.ev.arg]), 66, false⟩) rfl)
                        have h198 := h197.rowOf (L := [(bl, ⟨logC lg.base (.slice eo lg.evs.length ec) (.slice mo lg.mks.length mc) (.slice (some ⟨rb188, 0, none⟩) lg.sns.length sc), 69, false⟩), (b2, ⟨[.int .u8 op.kind, .int .i64 op.n, .int .i64 op.m, .int .u8 op.ev.kind, .int .u32 op.ev.pick, .int .u64 op.ev.arg], 35, false⟩)]) (r := rl ptC 66 15 (lg.sns.set op.n.toNat ({ x with out := { x.out with value := op.ev.arg } } : Pt)) (some ⟨rb188, 0, none⟩) sc ([rb188])) rfl hrow
                        have hlen2 : (lg.sns.set op.n.toNat ({ x with out := { x.out with value := op.ev.arg } } : Pt)).length = lg.sns.length := List.length_set
                        try simp only [Exit.then, Exit.inBlock]
                        try rw [if_pos trivial]
                        exact s_end tabOk tabZ_ok h198 [] (vs := []) (φ := True) rfl (by kernel_rfl) trivial ⟨rfl, by rw [hT]; exact LogAt.of (d := ⟨eo, ec, eF, mo, mc, mF, (some ⟨rb188, 0, none⟩), sc, [rb188]⟩) (lg := ({ lg with sns := lg.sns.set op.n.toNat ({ x with out := { x.out with value := op.ev.arg } } : Pt) } : Lg)) (by have hq := h198.kn (k := 0) rfl; rw [← hlen2] at hq; exact hq) (Rws.perm h198.inv (List.Perm.refl _)) hsep, h198.frame⟩
                      ·
                        exact absurd (hc187.symm.trans hb161) (by decide)
                    ·
                      exact absurd (hb181.symm.trans hb160) (by decide)
                  ·
                    exact absurd (hb180.symm.trans hb159) (by decide)
              ·
                have hb161f : ¬ op.n < ((lg.sns.length : Nat) : Int) := by simpa using hb161
                refine dr_start (KB := [bl, b2]) (Bi := [[0, 1], [0, 1], [0, 1], [0, 1], [0, 1], [0, 1], [0, 1], [0, 1], [0, 1], [0, 1], [0, 1], [0, 1], [0, 1], [0, 1], [0, 1], [0, 1], [0, 1], [0, 1], [0, 1], [0, 1], [0, 1], [0, 1], [0, 1], [0, 1], [0, 1]]) mixed h157 fun w199 h200 => ?_
                clear h157
                refine dr_batch tabOk tabZ_ok (by repeat (first | exact PF.body | with_reducible apply PF.inB | with_reducible apply PF.next)) [(0, {}), (1, {k := 1, p := 1}), (2, {f := 2}), (3, {}), (4, {}), (5, {k := 1, p := 1}), (6, {f := 2}), (7, {}), (8, {}), (9, {}), (10, {k := 1, p := 1}), (11, {}), (12, {}), (13, {}), (14, {k := 0, p := 0}), (15, {}), (16, {f := 1}), (17, {}), (18, {}), (19, {}), (20, {k := 0, p := 0}), (21, {}), (22, {}), (23, {}), (24, {})] [3, 0, 1, 70] (T' := [(3, .pointer (some ⟨b2, 0, none⟩)), (0, .pointer (some ⟨bl, 0, none⟩)), (1, .agg #[.int .u8 op.kind, .int .i64 op.n, .int .i64 op.m, .int .u8 op.ev.kind, .int .u32 op.ev.pick, .int .u64 op.ev.arg]), (70, .bool false)]) (φ := (b2 = b2 ∧ Nat.ble (0 + 1) 6 = true) ∧ ((op.kind == 11)) = true ∧ (b2 = b2 ∧ Nat.ble (1 + 1) 6 = true) ∧ (decide (op.n ≥ 0)) = true ∧ (b2 = b2 ∧ Nat.ble (1 + 1) 6 = true) ∧ (bl = bl ∧ Nat.ble (17 + 1) 18 = true) ∧ (decide (op.n < ((lg.sns.length : Nat) : Int))) = false ∧ True) (fuel := 0) h200 (by kernel_rfl) rfl (by kernel_rfl) (by kernel_rfl) ⟨trivial, rfl, trivial, trivial, trivial, rfl, trivial, trivial, trivial, trivial, rfl, trivial, trivial, trivial, rfl, trivial, trivial, trivial, trivial, trivial, rfl, trivial, trivial, trivial, trivial, trivial⟩ ⟨⟨rfl, rfl⟩, hb159, ⟨rfl, rfl⟩, hb160, ⟨rfl, rfl⟩, ⟨rfl, rfl⟩, hb161, trivial⟩ fun a202 h203 => ?_
                clear h200
                refine wpAnyK_done (by kernel_rfl) ?_ _
                refine hK158 _ _ ?_
                clear hK158
                refine c_false h203 rfl ?_
                refine wp_seq_k fun K204 hK204 => ?_
                rcases Bool.eq_false_or_eq_true ((op.kind == 11)) with hb205 | hb205
                ·
                  have hb205f : op.kind = 11 := by simpa using hb205
                  rcases Bool.eq_false_or_eq_true (decide (op.n ≥ 0)) with hb206 | hb206
                  ·
                    have hb206f : op.n ≥ 0 := by simpa using hb206
                    refine dr_start (KB := [bl, b2]) (Bi := [[0, 1], [0, 1], [0, 1], [0, 1], [0, 1], [0, 1], [0, 1], [0, 1], [0, 1], [0, 1], [0, 1], [0, 1], [0, 1], [0, 1], [0, 1], [0, 1], [0, 1], [0, 1], [0, 1]]) mixed h203 fun w207 h208 => ?_
                    clear h203
                    refine dr_batch tabOk tabZ_ok (by repeat (first | exact PF.body | with_reducible apply PF.inB | with_reducible apply PF.next)) [(0, {}), (1, {k := 1, p := 1}), (2, {f := 2}), (3, {}), (4, {}), (5, {k := 1, p := 1}), (6, {f := 2}), (7, {}), (8, {}), (9, {}), (10, {k := 1, p := 1}), (11, {}), (12, {}), (13, {}), (14, {k := 0, p := 0}), (15, {}), (16, {}), (17, {}), (18, {})] [3, 0, 1, 107] (T' := [(3, .pointer (some ⟨b2, 0, none⟩)), (0, .pointer (some ⟨bl, 0, none⟩)), (1, .agg #[.int .u8 op.kind, .int .i64 op.n, .int .i64 op.m, .int .u8 op.ev.kind, .int .u32 op.ev.pick, .int .u64 op.ev.arg]), (107, .bool (decide (op.n < ((lg.sns.length : Nat) : Int))))]) (φ := (b2 = b2 ∧ Nat.ble (0 + 1) 6 = true) ∧ ((op.kind == 11)) = true ∧ (b2 = b2 ∧ Nat.ble (1 + 1) 6 = true) ∧ (decide (op.n ≥ 0)) = true ∧ (b2 = b2 ∧ Nat.ble (1 + 1) 6 = true) ∧ (bl = bl ∧ Nat.ble (17 + 1) 18 = true) ∧ True) (fuel := 0) h208 (by kernel_rfl) rfl (by kernel_rfl) (by kernel_rfl) ⟨trivial, rfl, trivial, trivial, trivial, rfl, trivial, trivial, trivial, trivial, rfl, trivial, trivial, trivial, rfl, trivial, trivial, trivial, trivial, trivial⟩ ⟨⟨rfl, rfl⟩, hb205, ⟨rfl, rfl⟩, hb206, ⟨rfl, rfl⟩, ⟨rfl, rfl⟩, trivial⟩ fun a210 h211 => ?_
                    clear h208
                    refine wpAnyK_done (by kernel_rfl) ?_ _
                    refine hK204 _ _ ?_
                    clear hK204
                    refine c_split h211 (b := decide (op.n < ((lg.sns.length : Nat) : Int))) rfl (fun hc212 => ?_) (fun hc212 => ?_)
                    ·
                      exact absurd (hc212.symm.trans hb161) (by decide)
                    ·
                      have hc212f : ¬ op.n < ((lg.sns.length : Nat) : Int) := by simpa using hc212
                      refine wp_skip ?_
                      have hT : tampR lg op = lg := by unfold tampR; rw [if_neg (by omega), if_neg (by omega), if_neg (by omega)]
                      try simp only [Exit.then, Exit.inBlock]
                      try rw [if_pos trivial]
                      exact s_end tabOk tabZ_ok h211 [] (vs := []) (φ := True) rfl (by kernel_rfl) trivial ⟨rfl, by rw [hT]; exact LogAt.of (h211.kn (k := 0) rfl) h211.inv hsep, h211.frame⟩
                  ·
                    exact absurd (hb206.symm.trans hb160) (by decide)
                ·
                  exact absurd (hb205.symm.trans hb159) (by decide)
            ·
              have hb160f : ¬ op.n ≥ 0 := by simpa using hb160
              refine dr_start (KB := [bl, b2]) (Bi := [[0, 1], [0, 1], [0, 1], [0, 1], [0, 1], [0, 1], [0, 1], [0, 1], [0, 1], [0, 1], [0, 1], [0, 1], [0, 1], [0, 1], [0, 1], [0, 1], [0, 1], [0, 1], [0, 1], [0, 1], [0, 1], [0, 1], [0, 1], [0, 1], [0, 1]]) mixed h157 fun w213 h214 => ?_
              clear h157
              refine dr_batch tabOk tabZ_ok (by repeat (first | exact PF.body | with_reducible apply PF.inB | with_reducible apply PF.next)) [(0, {}), (1, {k := 1, p := 1}), (2, {f := 2}), (3, {}), (4, {}), (5, {k := 1, p := 1}), (6, {f := 1}), (7, {}), (8, {}), (9, {}), (10, {k := 0, p := 0}), (11, {}), (12, {}), (13, {}), (14, {k := 0, p := 0}), (15, {}), (16, {}), (17, {}), (18, {}), (19, {}), (20, {k := 0, p := 0}), (21, {}), (22, {}), (23, {}), (24, {})] [3, 0, 1, 70] (T' := [(3, .pointer (some ⟨b2, 0, none⟩)), (0, .pointer (some ⟨bl, 0, none⟩)), (1, .agg #[.int .u8 op.kind, .int .i64 op.n, .int .i64 op.m, .int .u8 op.ev.kind, .int .u32 op.ev.pick, .int .u64 op.ev.arg]), (70, .bool false)]) (φ := (b2 = b2 ∧ Nat.ble (0 + 1) 6 = true) ∧ ((op.kind == 11)) = true ∧ (b2 = b2 ∧ Nat.ble (1 + 1) 6 = true) ∧ (decide (op.n ≥ 0)) = false ∧ True) (fuel := 0) h214 (by kernel_rfl) rfl (by kernel_rfl) (by kernel_rfl) ⟨trivial, rfl, trivial, trivial, trivial, rfl, trivial, trivial, trivial, trivial, rfl, trivial, trivial, trivial, rfl, trivial, trivial, trivial, trivial, trivial, rfl, trivial, trivial, trivial, trivial, trivial⟩ ⟨⟨rfl, rfl⟩, hb159, ⟨rfl, rfl⟩, hb160, trivial⟩ fun a216 h217 => ?_
              clear h214
              refine wpAnyK_done (by kernel_rfl) ?_ _
              refine hK158 _ _ ?_
              clear hK158
              refine c_false h217 rfl ?_
              refine wp_seq_k fun K218 hK218 => ?_
              rcases Bool.eq_false_or_eq_true ((op.kind == 11)) with hb219 | hb219
              ·
                have hb219f : op.kind = 11 := by simpa using hb219
                rcases Bool.eq_false_or_eq_true (decide (op.n ≥ 0)) with hb220 | hb220
                ·
                  exact absurd (hb220.symm.trans hb160) (by decide)
                ·
                  have hb220f : ¬ op.n ≥ 0 := by simpa using hb220
                  refine dr_start (KB := [bl, b2]) (Bi := [[0, 1], [0, 1], [0, 1], [0, 1], [0, 1], [0, 1], [0, 1], [0, 1], [0, 1], [0, 1], [0, 1], [0, 1], [0, 1], [0, 1], [0, 1], [0, 1], [0, 1], [0, 1], [0, 1]]) mixed h217 fun w221 h222 => ?_
                  clear h217
                  refine dr_batch tabOk tabZ_ok (by repeat (first | exact PF.body | with_reducible apply PF.inB | with_reducible apply PF.next)) [(0, {}), (1, {k := 1, p := 1}), (2, {f := 2}), (3, {}), (4, {}), (5, {k := 1, p := 1}), (6, {f := 1}), (7, {}), (8, {}), (9, {}), (10, {k := 0, p := 0}), (11, {}), (12, {}), (13, {}), (14, {k := 0, p := 0}), (15, {}), (16, {}), (17, {}), (18, {})] [3, 0, 1, 107] (T' := [(3, .pointer (some ⟨b2, 0, none⟩)), (0, .pointer (some ⟨bl, 0, none⟩)), (1, .agg #[.int .u8 op.kind, .int .i64 op.n, .int .i64 op.m, .int .u8 op.ev.kind, .int .u32 op.ev.pick, .int .u64 op.ev.arg]), (107, .bool false)]) (φ := (b2 = b2 ∧ Nat.ble (0 + 1) 6 = true) ∧ ((op.kind == 11)) = true ∧ (b2 = b2 ∧ Nat.ble (1 + 1) 6 = true) ∧ (decide (op.n ≥ 0)) = false ∧ True) (fuel := 0) h222 (by kernel_rfl) rfl (by kernel_rfl) (by kernel_rfl) ⟨trivial, rfl, trivial, trivial, trivial, rfl, trivial, trivial, trivial, trivial, rfl, trivial, trivial, trivial, rfl, trivial, trivial, trivial, trivial, trivial⟩ ⟨⟨rfl, rfl⟩, hb219, ⟨rfl, rfl⟩, hb220, trivial⟩ fun a224 h225 => ?_
                  clear h222
                  refine wpAnyK_done (by kernel_rfl) ?_ _
                  refine hK218 _ _ ?_
                  clear hK218
                  refine c_false h225 rfl ?_
                  refine wp_skip ?_
                  have hT : tampR lg op = lg := by unfold tampR; rw [if_neg (by omega), if_neg (by omega), if_neg (by omega)]
                  try simp only [Exit.then, Exit.inBlock]
                  try rw [if_pos trivial]
                  exact s_end tabOk tabZ_ok h225 [] (vs := []) (φ := True) rfl (by kernel_rfl) trivial ⟨rfl, by rw [hT]; exact LogAt.of (h225.kn (k := 0) rfl) h225.inv hsep, h225.frame⟩
              ·
                exact absurd (hb219.symm.trans hb159) (by decide)
          ·
            have hb159f : op.kind ≠ 11 := by simpa using hb159
            refine dr_start (KB := [bl, b2]) (Bi := [[0, 1], [0, 1], [0, 1], [0, 1], [0, 1], [0, 1], [0, 1], [0, 1], [0, 1], [0, 1], [0, 1], [0, 1], [0, 1], [0, 1], [0, 1], [0, 1], [0, 1], [0, 1], [0, 1], [0, 1], [0, 1], [0, 1], [0, 1], [0, 1], [0, 1]]) mixed h157 fun w226 h227 => ?_
            clear h157
            refine dr_batch tabOk tabZ_ok (by repeat (first | exact PF.body | with_reducible apply PF.inB | with_reducible apply PF.next)) [(0, {}), (1, {k := 1, p := 1}), (2, {f := 1}), (3, {}), (4, {}), (5, {k := 0, p := 0}), (6, {}), (7, {}), (8, {}), (9, {}), (10, {k := 0, p := 0}), (11, {}), (12, {}), (13, {}), (14, {k := 0, p := 0}), (15, {}), (16, {}), (17, {}), (18, {}), (19, {}), (20, {k := 0, p := 0}), (21, {}), (22, {}), (23, {}), (24, {})] [3, 0, 1, 70] (T' := [(3, .pointer (some ⟨b2, 0, none⟩)), (0, .pointer (some ⟨bl, 0, none⟩)), (1, .agg #[.int .u8 op.kind, .int .i64 op.n, .int .i64 op.m, .int .u8 op.ev.kind, .int .u32 op.ev.pick, .int .u64 op.ev.arg]), (70, .bool false)]) (φ := (b2 = b2 ∧ Nat.ble (0 + 1) 6 = true) ∧ ((op.kind == 11)) = false ∧ True) (fuel := 0) h227 (by kernel_rfl) rfl (by kernel_rfl) (by kernel_rfl) ⟨trivial, rfl, trivial, trivial, trivial, rfl, trivial, trivial, trivial, trivial, rfl, trivial, trivial, trivial, rfl, trivial, trivial, trivial, trivial, trivial, rfl, trivial, trivial, trivial, trivial, trivial⟩ ⟨⟨rfl, rfl⟩, hb159, trivial⟩ fun a229 h230 => ?_
            clear h227
            refine wpAnyK_done (by kernel_rfl) ?_ _
            refine hK158 _ _ ?_
            clear hK158
            refine c_false h230 rfl ?_
            refine wp_seq_k fun K231 hK231 => ?_
            rcases Bool.eq_false_or_eq_true ((op.kind == 11)) with hb232 | hb232
            ·
              exact absurd (hb232.symm.trans hb159) (by decide)
            ·
              have hb232f : op.kind ≠ 11 := by simpa using hb232
              refine dr_start (KB := [bl, b2]) (Bi := [[0, 1], [0, 1], [0, 1], [0, 1], [0, 1], [0, 1], [0, 1], [0, 1], [0, 1], [0, 1], [0, 1], [0, 1], [0, 1], [0, 1], [0, 1], [0, 1], [0, 1], [0, 1], [0, 1]]) mixed h230 fun w233 h234 => ?_
              clear h230
              refine dr_batch tabOk tabZ_ok (by repeat (first | exact PF.body | with_reducible apply PF.inB | with_reducible apply PF.next)) [(0, {}), (1, {k := 1, p := 1}), (2, {f := 1}), (3, {}), (4, {}), (5, {k := 0, p := 0}), (6, {}), (7, {}), (8, {}), (9, {}), (10, {k := 0, p := 0}), (11, {}), (12, {}), (13, {}), (14, {k := 0, p := 0}), (15, {}), (16, {}), (17, {}), (18, {})] [3, 0, 1, 107] (T' := [(3, .pointer (some ⟨b2, 0, none⟩)), (0, .pointer (some ⟨bl, 0, none⟩)), (1, .agg #[.int .u8 op.kind, .int .i64 op.n, .int .i64 op.m, .int .u8 op.ev.kind, .int .u32 op.ev.pick, .int .u64 op.ev.arg]), (107, .bool false)]) (φ := (b2 = b2 ∧ Nat.ble (0 + 1) 6 = true) ∧ ((op.kind == 11)) = false ∧ True) (fuel := 0) h234 (by kernel_rfl) rfl (by kernel_rfl) (by kernel_rfl) ⟨trivial, rfl, trivial, trivial, trivial, rfl, trivial, trivial, trivial, trivial, rfl, trivial, trivial, trivial, rfl, trivial, trivial, trivial, trivial, trivial⟩ ⟨⟨rfl, rfl⟩, hb232, trivial⟩ fun a236 h237 => ?_
              clear h234
              refine wpAnyK_done (by kernel_rfl) ?_ _
              refine hK231 _ _ ?_
              clear hK231
              refine c_false h237 rfl ?_
              refine wp_skip ?_
              have hT : tampR lg op = lg := by unfold tampR; rw [if_neg (by omega), if_neg (by omega), if_neg (by omega)]
              try simp only [Exit.then, Exit.inBlock]
              try rw [if_pos trivial]
              exact s_end tabOk tabZ_ok h237 [] (vs := []) (φ := True) rfl (by kernel_rfl) trivial ⟨rfl, by rw [hT]; exact LogAt.of (h237.kn (k := 0) rfl) h237.inv hsep, h237.frame⟩
    ·
      have hb10f : ¬ (op.n ≥ lg.base.idx) := by simpa using hb10
      refine dr_start (KB := [bl, b2]) (Bi := [[0, 1], [0, 1], [0, 1], [0, 1], [0, 1], [0, 1], [0, 1], [0, 1], [0, 1], [0, 1], [0, 1], [0, 1], [0, 1], [0, 1], [0, 1], [0, 1], [0, 1], [0], [0, 1], [0, 1], [0, 1]]) mixed h5 fun w238 h239 => ?_
      clear h5
      refine dr_batch tabOk tabZ_ok (by repeat (first | exact PF.body | with_reducible apply PF.inB | with_reducible apply PF.next)) [(0, {}), (1, {k := 1, p := 1}), (2, {f := 2}), (3, {}), (4, {}), (5, {k := 1, p := 1}), (6, {}), (7, {}), (8, {}), (9, {}), (10, {k := 0, p := 0}), (11, {f := 1}), (12, {}), (13, {}), (14, {}), (15, {k := 0, p := 0}), (16, {})] [3, 0, 1, 18, 20, 21] (T' := [(3, .pointer (some ⟨b2, 0, none⟩)), (0, .pointer (some ⟨bl, 0, none⟩)), (1, .agg #[.int .u8 op.kind, .int .i64 op.n, .int .i64 op.m, .int .u8 op.ev.kind, .int .u32 op.ev.pick, .int .u64 op.ev.arg]), (18, .bool false), (20, .tuple #[]), (21, .tuple #[])]) (φ := (b2 = b2 ∧ Nat.ble (0 + 1) 6 = true) ∧ ((op.kind == 9)) = true ∧ (b2 = b2 ∧ Nat.ble (1 + 1) 6 = true) ∧ (bl = bl ∧ Nat.ble (0 + 1) 18 = true) ∧ (decide (op.n ≥ lg.base.idx)) = false ∧ True) (fuel := 4) h239 (by kernel_rfl) rfl (by kernel_rfl) (by kernel_rfl) ⟨trivial, rfl, trivial, trivial, trivial, rfl, trivial, trivial, trivial, trivial, rfl, trivial, trivial, trivial, trivial, rfl, trivial, trivial⟩ ⟨⟨rfl, rfl⟩, hb9, ⟨rfl, rfl⟩, ⟨rfl, rfl⟩, hb10, trivial⟩ fun a241 h242 => ?_
      clear h239
      refine dr_batch tabOk tabZ_ok (by repeat (first | exact PF.body | with_reducible apply PF.inB | with_reducible apply PF.next)) [(17, {})] [3, 0, 1, 18, 20, 22] (T' := [(3, .pointer (some ⟨b2, 0, none⟩)), (0, .pointer (some ⟨bl, 0, none⟩)), (1, .agg #[.int .u8 op.kind, .int .i64 op.n, .int .i64 op.m, .int .u8 op.ev.kind, .int .u32 op.ev.pick, .int .u64 op.ev.arg]), (18, .bool false), (20, .tuple #[]), (22, .tuple #[])]) (φ := True) (fuel := 3) h242 (by kernel_rfl) rfl (by kernel_rfl) (by kernel_rfl) ⟨trivial, trivial⟩ trivial fun a243 h244 => ?_
      clear h242
      refine dr_batch tabOk tabZ_ok (by repeat (first | exact PF.body | with_reducible apply PF.inB | with_reducible apply PF.next)) [(18, {}), (19, {}), (20, {})] [3, 0, 1, 4] (T' := [(3, .pointer (some ⟨b2, 0, none⟩)), (0, .pointer (some ⟨bl, 0, none⟩)), (1, .agg #[.int .u8 op.kind, .int .i64 op.n, .int .i64 op.m, .int .u8 op.ev.kind, .int .u32 op.ev.pick, .int .u64 op.ev.arg]), (4, .bool false)]) (φ := True) (fuel := 0) h244 (by kernel_rfl) rfl (by kernel_rfl) (by kernel_rfl) ⟨trivial, trivial, trivial, trivial⟩ trivial fun a245 h246 => ?_
      clear h244
      refine wpAnyK_done (by kernel_rfl) ?_ _
      refine hK8 _ _ ?_
      clear hK8
      refine c_false h246 rfl ?_
      refine wp_seq_k fun K247 hK247 => ?_
      rcases Bool.eq_false_or_eq_true ((op.kind == 10)) with hb248 | hb248
      ·
        have hb248f : op.kind = 10 := by simpa using hb248
        rcases Bool.eq_false_or_eq_true (decide (op.n ≥ 0)) with hb249 | hb249
        ·
          have hb249f : op.n ≥ 0 := by simpa using hb249
          refine dr_start (KB := [bl, b2]) (Bi := [[0, 1], [0, 1], [0, 1], [0, 1], [0, 1], [0, 1], [0, 1], [0, 1], [0, 1], [0, 1], [0, 1], [0, 1], [0, 1], [0, 1], [0, 1], [0, 1], [0, 1], [0, 1], [0, 1]]) mixed h246 fun w250 h251 => ?_
          clear h246
          refine dr_batch tabOk tabZ_ok (by repeat (first | exact PF.body | with_reducible apply PF.inB | with_reducible apply PF.next)) [(0, {}), (1, {k := 1, p := 1}), (2, {f := 2}), (3, {}), (4, {}), (5, {k := 1, p := 1}), (6, {f := 2}), (7, {}), (8, {}), (9, {}), (10, {k := 1, p := 1}), (11, {}), (12, {}), (13, {}), (14, {k := 0, p := 0}), (15, {}), (16, {}), (17, {}), (18, {})] [3, 0, 1, 40] (T' := [(3, .pointer (some ⟨b2, 0, none⟩)), (0, .pointer (some ⟨bl, 0, none⟩)), (1, .agg #[.int .u8 op.kind, .int .i64 op.n, .int .i64 op.m, .int .u8 op.ev.kind, .int .u32 op.ev.pick, .int .u64 op.ev.arg]), (40, .bool (decide (op.n < ((lg.mks.length : Nat) : Int))))]) (φ := (b2 = b2 ∧ Nat.ble (0 + 1) 6 = true) ∧ ((op.kind == 10)) = true ∧ (b2 = b2 ∧ Nat.ble (1 + 1) 6 = true) ∧ (decide (op.n ≥ 0)) = true ∧ (b2 = b2 ∧ Nat.ble (1 + 1) 6 = true) ∧ (bl = bl ∧ Nat.ble (16 + 1) 18 = true) ∧ True) (fuel := 0) h251 (by kernel_rfl) rfl (by kernel_rfl) (by kernel_rfl) ⟨trivial, rfl, trivial, trivial, trivial, rfl, trivial, trivial, trivial, trivial, rfl, trivial, trivial, trivial, rfl, trivial, trivial, trivial, trivial, trivial⟩ ⟨⟨rfl, rfl⟩, hb248, ⟨rfl, rfl⟩, hb249, ⟨rfl, rfl⟩, ⟨rfl, rfl⟩, trivial⟩ fun a253 h254 => ?_
          clear h251
          refine wpAnyK_done (by kernel_rfl) ?_ _
          refine hK247 _ _ ?_
          clear hK247
          refine c_split h254 (b := decide (op.n < ((lg.mks.length : Nat) : Int))) rfl (fun hc255 => ?_) (fun hc255 => ?_)
          ·
            have hc255f : op.n < ((lg.mks.length : Nat) : Int) := by simpa using hc255
            obtain ⟨x, hx⟩ := Sx.get_some (xs := lg.mks) (i := op.n.toNat) (by omega)
            obtain ⟨rb256, cs257, ho, hbr, hlr, hcr, htr, hFr⟩ := Row.open_ (h254.inv.get (j := 1) (r := rl mkC 78 2 lg.mks mo mc mF) rfl) (by show 0 < lg.mks.length; omega)
            simp only at ho hFr
            subst ho hFr
            have hcr2 : lg.mks.length ≤ mc := hcr
            have hlr2 : cs257.length = mc * 2 := hlr
            have h258 := h254.rowTake (R' := [rl evC 33 3 lg.evs eo ec eF, rl ptC 66 15 lg.sns so sc sF]) (r := rl mkC 78 2 lg.mks (some ⟨rb256, 0, none⟩) mc ([rb256])) (List.Perm.cons _ (List.Perm.swap _ _ _)) rfl hbr (.inl (by simp)) (kcons (by intro hq; cases hq) (kcons (by intro hq; cases hq) knil))
            clear h254
            refine dr_start (KB := [bl, b2, rb256]) (Bi := [[0, 1, 2], [0, 1, 2], [0, 1, 2], [0, 1, 2], [0, 1, 2], [0, 1, 2], [0, 1, 2], [0, 1, 2], [0, 1, 2], [0, 1, 2], [0, 1, 2], []]) mixed h258 fun w259 h260 => ?_
            clear h258
            refine dr_batch tabOk tabZ_ok (by repeat (first | exact PF.body | with_reducible apply PF.inB | with_reducible apply PF.next)) [(0, {}), (1, {}), (2, {}), (3, {k := 0, p := 0}), (4, {}), (5, {k := 1, p := 1}), (6, {}), (7, {}), (8, {k := 1, p := 1}), (9, {}), (10, {})] [3, 0, 1, 67, 69] (T' := [(3, .pointer (some ⟨b2, 0, none⟩)), (0, .pointer (some ⟨bl, 0, none⟩)), (1, .agg #[.int .u8 op.kind, .int .i64 op.n, .int .i64 op.m, .int .u8 op.ev.kind, .int .u32 op.ev.pick, .int .u64 op.ev.arg]), (67, .int .u64 op.ev.arg), (69, .pointer (some ⟨rb256, 0 + (op.n.toNat * 2) + 1, none⟩))]) (φ := (bl = bl ∧ Nat.ble (16 + 1) 18 = true) ∧ (b2 = b2 ∧ Nat.ble (1 + 1) 6 = true) ∧ (b2 = b2 ∧ Nat.ble (5 + 1) 6 = true) ∧ (0 ≤ op.n ∧ op.n < ((lg.mks.length : Nat) : Int)) ∧ True) (fuel := 1) h260 (by kernel_rfl) rfl (by kernel_rfl) (by kernel_rfl) ⟨trivial, trivial, trivial, rfl, trivial, rfl, trivial, trivial, rfl, trivial, trivial, trivial⟩ ⟨⟨rfl, rfl⟩, ⟨rfl, rfl⟩, ⟨rfl, rfl⟩, ⟨by omega, by omega⟩, trivial⟩ fun a262 h263 => ?_
            clear h260
            refine wpAnyK_one (i := 11) (fuel := 0) (by kernel_rfl) ?_
            refine op_store tabOk {k := 2, m := 1, vs := (splice cs257 (op.n.toNat * 2 + 1) [.int .u64 op.ev.arg])} (L' := [(bl, ⟨logC lg.base (.slice eo lg.evs.length ec) (.slice (some ⟨rb256, 0, none⟩) lg.mks.length mc) (.slice so lg.sns.length sc), 69, false⟩), (b2, ⟨[.int .u8 op.kind, .int .i64 op.n, .int .i64 op.m, .int .u8 op.ev.kind, .int .u32 op.ev.pick, .int .u64 op.ev.arg], 35, false⟩), (rb256, ⟨(splice cs257 (op.n.toNat * 2 + 1) [.int .u64 op.ev.arg]), 78, false⟩)]) (φ := rb256 = rb256 ∧ Nat.ble (0 + (op.n.toNat * 2) + 1 + 1) cs257.length = true ∧ splice cs257 (0 + (op.n.toNat * 2) + 1) [.int .u64 op.ev.arg] = (splice cs257 (op.n.toNat * 2 + 1) [.int .u64 op.ev.arg])) h263 rfl rfl rfl (by kernel_rfl) ⟨rfl, (by rw [Nat.ble_eq]; omega), (by simp only [Nat.zero_add, Nat.add_zero, Nat.add_assoc])⟩ fun w264 h265 => ?_
            have hkh265 := h263.known
            refine ⟨keepNil, ?_⟩
            clear h263
            refine wpAnyK_done (by kernel_rfl) ?_ _
            have hT : tampR lg op = ({ lg with mks := lg.mks.set op.n.toNat ({ x with sum := op.ev.arg } : Mk) } : Lg) := by unfold tampR; rw [if_neg (by omega), if_pos (by omega)]; simp only [hx]
            have hrow : (rl mkC 78 2 (lg.mks.set op.n.toNat ({ x with sum := op.ev.arg } : Mk)) (some ⟨rb256, 0, none⟩) mc ([rb256])).at _ := row_set (off := 1) (vs := [.int .u64 op.ev.arg]) mkC_len (by simp) hx rfl hlr2 hcr2 htr (h265.kn (k := 2) (blk := ⟨(splice cs257 (op.n.toNat * 2 + 1) [.int .u64 op.ev.arg]), 78, false⟩) rfl)
            have h266 := h265.rowOf (L := [(bl, ⟨logC lg.base (.slice eo lg.evs.length ec) (.slice (some ⟨rb256, 0, none⟩) lg.mks.length mc) (.slice so lg.sns.length sc), 69, false⟩), (b2, ⟨[.int .u8 op.kind, .int .i64 op.n, .int .i64 op.m, .int .u8 op.ev.kind, .int .u32 op.ev.pick, .int .u64 op.ev.arg], 35, false⟩)]) (r := rl mkC 78 2 (lg.mks.set op.n.toNat ({ x with sum := op.ev.arg } : Mk)) (some ⟨rb256, 0, none⟩) mc ([rb256])) rfl hrow
            have hlen2 : (lg.mks.set op.n.toNat ({ x with sum := op.ev.arg } : Mk)).length = lg.mks.length := List.length_set
            try simp only [Exit.then, Exit.inBlock]
            try rw [if_pos trivial]
            exact s_end tabOk tabZ_ok h266 [] (vs := []) (φ := True) rfl (by kernel_rfl) trivial ⟨rfl, by rw [hT]; exact LogAt.of (d := ⟨eo, ec, eF, (some ⟨rb256, 0, none⟩), mc, [rb256], so, sc, sF⟩) (lg := ({ lg with mks := lg.mks.set op.n.toNat ({ x with sum := op.ev.arg } : Mk) } : Lg)) (by have hq := h266.kn (k := 0) rfl; rw [← hlen2] at hq; exact hq) (Rws.perm h266.inv (List.Perm.cons _ (List.Perm.swap _ _ _))) hsep, h266.frame⟩
          ·
            have hc255f : ¬ op.n < ((lg.mks.length : Nat) : Int) := by simpa using hc255
            refine wp_seq_k fun K267 hK267 => ?_
            rcases Bool.eq_false_or_eq_true ((op.kind == 11)) with hb268 | hb268
            ·
              have hb268f : op.kind = 11 := by simpa using hb268
              rcases Bool.eq_false_or_eq_true (decide (op.n ≥ 0)) with hb269 | hb269
              ·
                have hb269f : op.n ≥ 0 := by simpa using hb269
                rcases Bool.eq_false_or_eq_true (decide (op.n < ((lg.sns.length : Nat) : Int))) with hb270 | hb270
                ·
                  have hb270f : op.n < ((lg.sns.length : Nat) : Int) := by simpa using hb270
                  refine dr_start (KB := [bl, b2]) (Bi := [[0, 1], [0, 1], [0, 1], [0, 1], [0, 1], [0, 1], [0, 1], [0, 1], [0, 1], [0, 1], [0, 1], [0, 1], [0, 1], [0, 1], [0, 1], [0, 1], [0, 1], [0, 1], [0, 1], [0, 1], [0, 1], [0, 1], [0, 1], [0, 1], [0, 1]]) mixed h254 fun w271 h272 => ?_
                  clear h254
                  refine dr_batch tabOk tabZ_ok (by repeat (first | exact PF.body | with_reducible apply PF.inB | with_reducible apply PF.next)) [(0, {}), (1, {k := 1, p := 1}), (2, {f := 2}), (3, {}), (4, {}), (5, {k := 1, p := 1}), (6, {f := 2}), (7, {}), (8, {}), (9, {}), (10, {k := 1, p := 1}), (11, {}), (12, {}), (13, {}), (14, {k := 0, p := 0}), (15, {}), (16, {f := 2}), (17, {}), (18, {}), (19, {}), (20, {k := 1, p := 1}), (21, {m := 1}), (22, {}), (23, {}), (24, {})] [3, 0, 1, 70] (T' := [(3, .pointer (some ⟨b2, 0, none⟩)), (0, .pointer (some ⟨bl, 0, none⟩)), (1, .agg #[.int .u8 op.kind, .int .i64 op.n, .int .i64 op.m, .int .u8 op.ev.kind, .int .u32 op.ev.pick, .int .u64 op.ev.arg]), (70, .bool ((op.m.tmod 2) == 0))]) (φ := (b2 = b2 ∧ Nat.ble (0 + 1) 6 = true) ∧ ((op.kind == 11)) = true ∧ (b2 = b2 ∧ Nat.ble (1 + 1) 6 = true) ∧ (decide (op.n ≥ 0)) = true ∧ (b2 = b2 ∧ Nat.ble (1 + 1) 6 = true) ∧ (bl = bl ∧ Nat.ble (17 + 1) 18 = true) ∧ (decide (op.n < ((lg.sns.length : Nat) : Int))) = true ∧ (b2 = b2 ∧ Nat.ble (2 + 1) 6 = true) ∧ (2 : Int) ≠ 0 ∧ True) (fuel := 0) h272 (by kernel_rfl) rfl (by kernel_rfl) (by kernel_rfl) ⟨trivial, rfl, trivial, trivial, trivial, rfl, trivial, trivial, trivial, trivial, rfl, trivial, trivial, trivial, rfl, trivial, trivial, trivial, trivial, trivial, rfl, trivial, trivial, trivial, trivial, trivial⟩ ⟨⟨rfl, rfl⟩, hb268, ⟨rfl, rfl⟩, hb269, ⟨rfl, rfl⟩, ⟨rfl, rfl⟩, hb270, ⟨rfl, rfl⟩, (by decide), trivial⟩ fun a274 h275 => ?_
                  clear h272
                  refine wpAnyK_done (by kernel_rfl) ?_ _
                  refine hK267 _ _ ?_
                  clear hK267
                  refine c_split h275 (b := ((op.m.tmod 2) == 0)) rfl (fun hc276 => ?_) (fun hc276 => ?_)
                  ·
                    have hc276f : (op.m.tmod 2) = 0 := by simpa using hc276
                    have hmm : op.m.tmod 2 = 0 := hc276f
                    obtain ⟨x, hx⟩ := Sx.get_some (xs := lg.sns) (i := op.n.toNat) (by omega)
                    obtain ⟨rb277, cs278, ho, hbr, hlr, hcr, htr, hFr⟩ := Row.open_ (h275.inv.get (j := 2) (r := rl ptC 66 15 lg.sns so sc sF) rfl) (by show 0 < lg.sns.length; omega)
                    simp only at ho hFr
                    subst ho hFr
                    have hcr2 : lg.sns.length ≤ sc := hcr
                    have hlr2 : cs278.length = sc * 15 := hlr
                    have h279 := h275.rowTake (R' := [rl evC 33 3 lg.evs eo ec eF, rl mkC 78 2 lg.mks mo mc mF]) (r := rl ptC 66 15 lg.sns (some ⟨rb277, 0, none⟩) sc ([rb277])) (List.Perm.refl _) rfl hbr (.inl (by simp)) (kcons (by intro hq; cases hq) (kcons (by intro hq; cases hq) knil))
                    clear h275
                    refine dr_start (KB := [bl, b2, rb277]) (Bi := [[0, 1, 2], [0, 1, 2], [0, 1, 2], [0, 1, 2], [0, 1, 2], [0, 1, 2], [0, 1, 2], [0, 1, 2], [0, 1, 2], [0, 1, 2], [0, 1, 2], [0, 1, 2], []]) mixed h279 fun w280 h281 => ?_
                    clear h279
                    refine dr_batch tabOk tabZ_ok (by repeat (first | exact PF.body | with_reducible apply PF.inB | with_reducible apply PF.next)) [(0, {}), (1, {}), (2, {}), (3, {k := 0, p := 0}), (4, {}), (5, {k := 1, p := 1}), (6, {}), (7, {}), (8, {k := 1, p := 1}), (9, {}), (10, {}), (11, {})] [3, 0, 1, 103, 106] (T' := [(3, .pointer (some ⟨b2, 0, none⟩)), (0, .pointer (some ⟨bl, 0, none⟩)), (1, .agg #[.int .u8 op.kind, .int .i64 op.n, .int .i64 op.m, .int .u8 op.ev.kind, .int .u32 op.ev.pick, .int .u64 op.ev.arg]), (103, .int .u64 op.ev.arg), (106, .pointer (some ⟨rb277, 0 + (op.n.toNat * 15) + 1, none⟩))]) (φ := (bl = bl ∧ Nat.ble (17 + 1) 18 = true) ∧ (b2 = b2 ∧ Nat.ble (1 + 1) 6 = true) ∧ (b2 = b2 ∧ Nat.ble (5 + 1) 6 = true) ∧ (0 ≤ op.n ∧ op.n < ((lg.sns.length : Nat) : Int)) ∧ True) (fuel := 1) h281 (by kernel_rfl) rfl (by kernel_rfl) (by kernel_rfl) ⟨trivial, trivial, trivial, rfl, trivial, rfl, trivial, trivial, rfl, trivial, trivial, trivial, trivial⟩ ⟨⟨rfl, rfl⟩, ⟨rfl, rfl⟩, ⟨rfl, rfl⟩, ⟨by omega, by omega⟩, trivial⟩ fun a283 h284 => ?_
                    clear h281
                    refine wpAnyK_one (i := 12) (fuel := 0) (by kernel_rfl) ?_
                    refine op_store tabOk {k := 2, m := 1, vs := (splice cs278 (op.n.toNat * 15 + 1) [.int .u64 op.ev.arg])} (L' := [(bl, ⟨logC lg.base (.slice eo lg.evs.length ec) (.slice mo lg.mks.length mc) (.slice (some ⟨rb277, 0, none⟩) lg.sns.length sc), 69, false⟩), (b2, ⟨[.int .u8 op.kind, .int .i64 op.n, .int .i64 op.m, .int .u8 op.ev.kind, .int .u32 op.ev.pick, .int .u64 op.ev.arg], 35, false⟩), (rb277, ⟨(splice cs278 (op.n.toNat * 15 + 1) [.int .u64 op.ev.arg]), 66, false⟩)]) (φ := rb277 = rb277 ∧ Nat.ble (0 + (op.n.toNat * 15) + 1 + 1) cs278.length = true ∧ splice cs278 (0 + (op.n.toNat * 15) + 1) [.int .u64 op.ev.arg] = (splice cs278 (op.n.toNat * 15 + 1) [.int .u64 op.ev.arg])) h284 rfl rfl rfl (by kernel_rfl) ⟨rfl, (by rw [Nat.ble_eq]; omega), (by simp only [Nat.zero_add, Nat.add_zero, Nat.add_assoc])⟩ fun w285 h286 => ?_
                    have hkh286 := h284.known
                    refine ⟨keepNil, ?_⟩
                    clear h284
                    refine wpAnyK_done (by kernel_rfl) ?_ _
                    have hT : tampR lg op = ({ lg with sns := lg.sns.set op.n.toNat ({ x with st := { x.st with now := op.ev.arg } } : Pt) } : Lg) := by have he : edS op x = ({ x with st := { x.st with now := op.ev.arg } } : Pt) := (by unfold edS; rw [if_pos hmm]); unfold tampR; rw [if_neg (by omega), if_neg (by omega), if_pos (by omega)]; simp only [hx, he]
                    have hrow : (rl ptC 66 15 (lg.sns.set op.n.toNat ({ x with st := { x.st with now := op.ev.arg } } : Pt)) (some ⟨rb277, 0, none⟩) sc ([rb277])).at _ := row_set (off := 1) (vs := [.int .u64 op.ev.arg]) ptC_len (by simp) hx rfl hlr2 hcr2 htr (h286.kn (k := 2) (blk := ⟨(splice cs278 (op.n.toNat * 15 + 1) [.int .u64 op.ev.arg]), 66, false⟩) rfl)
                    have h287 := h286.rowOf (L := [(bl, ⟨logC lg.base (.slice eo lg.evs.length ec) (.slice mo lg.mks.length mc) (.slice (some ⟨rb277, 0, none⟩) lg.sns.length sc), 69, false⟩), (b2, ⟨[.int .u8 op.kind, .int .i64 op.n, .int .i64 op.m, .int .u8 op.ev.kind, .int .u32 op.ev.pick, .int .u64 op.ev.arg], 35, false⟩)]) (r := rl ptC 66 15 (lg.sns.set op.n.toNat ({ x with st := { x.st with now := op.ev.arg } } : Pt)) (some ⟨rb277, 0, none⟩) sc ([rb277])) rfl hrow
                    have hlen2 : (lg.sns.set op.n.toNat ({ x with st := { x.st with now := op.ev.arg } } : Pt)).length = lg.sns.length := List.length_set
                    try simp only [Exit.then, Exit.inBlock]
                    try rw [if_pos trivial]
                    exact s_end tabOk tabZ_ok h287 [] (vs := []) (φ := True) rfl (by kernel_rfl) trivial ⟨rfl, by rw [hT]; exact LogAt.of (d := ⟨eo, ec, eF, mo, mc, mF, (some ⟨rb277, 0, none⟩), sc, [rb277]⟩) (lg := ({ lg with sns := lg.sns.set op.n.toNat ({ x with st := { x.st with now := op.ev.arg } } : Pt) } : Lg)) (by have hq := h287.kn (k := 0) rfl; rw [← hlen2] at hq; exact hq) (Rws.perm h287.inv (List.Perm.refl _)) hsep, h287.frame⟩
                  ·
                    have hc276f : (op.m.tmod 2) ≠ 0 := by simpa using hc276
                    refine wp_seq_k fun K288 hK288 => ?_
                    rcases Bool.eq_false_or_eq_true ((op.kind == 11)) with hb289 | hb289
                    ·
                      have hb289f : op.kind = 11 := by simpa using hb289
                      rcases Bool.eq_false_or_eq_true (decide (op.n ≥ 0)) with hb290 | hb290
                      ·
                        have hb290f : op.n ≥ 0 := by simpa using hb290
                        refine dr_start (KB := [bl, b2]) (Bi := [[0, 1], [0, 1], [0, 1], [0, 1], [0, 1], [0, 1], [0, 1], [0, 1], [0, 1], [0, 1], [0, 1], [0, 1], [0, 1], [0, 1], [0, 1], [0, 1], [0, 1], [0, 1], [0, 1]]) mixed h275 fun w291 h292 => ?_
                        clear h275
                        refine dr_batch tabOk tabZ_ok (by repeat (first | exact PF.body | with_reducible apply PF.inB | with_reducible apply PF.next)) [(0, {}), (1, {k := 1, p := 1}), (2, {f := 2}), (3, {}), (4, {}), (5, {k := 1, p := 1}), (6, {f := 2}), (7, {}), (8, {}), (9, {}), (10, {k := 1, p := 1}), (11, {}), (12, {}), (13, {}), (14, {k := 0, p := 0}), (15, {}), (16, {}), (17, {}), (18, {})] [3, 0, 1, 107] (T' := [(3, .pointer (some ⟨b2, 0, none⟩)), (0, .pointer (some ⟨bl, 0, none⟩)), (1, .agg #[.int .u8 op.kind, .int .i64 op.n, .int .i64 op.m, .int .u8 op.ev.kind, .int .u32 op.ev.pick, .int .u64 op.ev.arg]), (107, .bool (decide (op.n < ((lg.sns.length : Nat) : Int))))]) (φ := (b2 = b2 ∧ Nat.ble (0 + 1) 6 = true) ∧ ((op.kind == 11)) = true ∧ (b2 = b2 ∧ Nat.ble (1 + 1) 6 = true) ∧ (decide (op.n ≥ 0)) = true ∧ (b2 = b2 ∧ Nat.ble (1 + 1) 6 = true) ∧ (bl = bl ∧ Nat.ble (17 + 1) 18 = true) ∧ True) (fuel := 0) h292 (by kernel_rfl) rfl (by kernel_rfl) (by kernel_rfl) ⟨trivial, rfl, trivial, trivial, trivial, rfl, trivial, trivial, trivial, trivial, rfl, trivial, trivial, trivial, rfl, trivial, trivial, trivial, trivial, trivial⟩ ⟨⟨rfl, rfl⟩, hb289, ⟨rfl, rfl⟩, hb290, ⟨rfl, rfl⟩, ⟨rfl, rfl⟩, trivial⟩ fun a294 h295 => ?_
                        clear h292
                        refine wpAnyK_done (by kernel_rfl) ?_ _
                        refine hK288 _ _ ?_
                        clear hK288
                        refine c_split h295 (b := decide (op.n < ((lg.sns.length : Nat) : Int))) rfl (fun hc296 => ?_) (fun hc296 => ?_)
                        ·
                          have hc296f : op.n < ((lg.sns.length : Nat) : Int) := by simpa using hc296
                          have hmm : op.m.tmod 2 ≠ 0 := hc276f
                          obtain ⟨x, hx⟩ := Sx.get_some (xs := lg.sns) (i := op.n.toNat) (by omega)
                          obtain ⟨rb297, cs298, ho, hbr, hlr, hcr, htr, hFr⟩ := Row.open_ (h295.inv.get (j := 2) (r := rl ptC 66 15 lg.sns so sc sF) rfl) (by show 0 < lg.sns.length; omega)
                          simp only at ho hFr
                          subst ho hFr
                          have hcr2 : lg.sns.length ≤ sc := hcr
                          have hlr2 : cs298.length = sc * 15 := hlr
                          have h299 := h295.rowTake (R' := [rl evC 33 3 lg.evs eo ec eF, rl mkC 78 2 lg.mks mo mc mF]) (r := rl ptC 66 15 lg.sns (some ⟨rb297, 0, none⟩) sc ([rb297])) (List.Perm.refl _) rfl hbr (.inl (by simp)) (kcons (by intro hq; cases hq) (kcons (by intro hq; cases hq) knil))
                          clear h295
                          refine dr_start (KB := [bl, b2, rb297]) (Bi := [[0, 1, 2], [0, 1, 2], [0, 1, 2], [0, 1, 2], [0, 1, 2], [0, 1, 2], [0, 1, 2], [0, 1, 2], [0, 1, 2], [0, 1, 2], [0, 1, 2], [0, 1, 2], []]) mixed h299 fun w300 h301 => ?_
                          clear h299
                          refine dr_batch tabOk tabZ_ok (by repeat (first | exact PF.body | with_reducible apply PF.inB | with_reducible apply PF.next)) [(0, {}), (1, {}), (2, {}), (3, {k := 0, p := 0}), (4, {}), (5, {k := 1, p := 1}), (6, {}), (7, {}), (8, {k := 1, p := 1}), (9, {}), (10, {}), (11, {})] [3, 0, 1, 134, 137] (T' := [(3, .pointer (some ⟨b2, 0, none⟩)), (0, .pointer (some ⟨bl, 0, none⟩)), (1, .agg #[.int .u8 op.kind, .int .i64 op.n, .int .i64 op.m, .int .u8 op.ev.kind, .int .u32 op.ev.pick, .int .u64 op.ev.arg]), (134, .int .u64 op.ev.arg), (137, .pointer (some ⟨rb297, 0 + (op.n.toNat * 15) + 12 + 2, none⟩))]) (φ := (bl = bl ∧ Nat.ble (17 + 1) 18 = true) ∧ (b2 = b2 ∧ Nat.ble (1 + 1) 6 = true) ∧ (b2 = b2 ∧ Nat.ble (5 + 1) 6 = true) ∧ (0 ≤ op.n ∧ op.n < ((lg.sns.length : Nat) : Int)) ∧ True) (fuel := 1) h301 (by kernel_rfl) rfl (by kernel_rfl) (by kernel_rfl) ⟨trivial, trivial, trivial, rfl, trivial, rfl, trivial, trivial, rfl, trivial, trivial, trivial, trivial⟩ ⟨⟨rfl, rfl⟩, ⟨rfl, rfl⟩, ⟨rfl, rfl⟩, ⟨by omega, by omega⟩, trivial⟩ fun a303 h304 => ?_
                          clear h301
                          refine wpAnyK_one (i := 12) (fuel := 0) (by kernel_rfl) ?_
                          refine op_store tabOk {k := 2, m := 1, vs := (splice cs298 (op.n.toNat * 15 + 14) [.int .u64 op.ev.arg])} (L' := [(bl, ⟨logC lg.base (.slice eo lg.evs.length ec) (.slice mo lg.mks.length mc) (.slice (some ⟨rb297, 0, none⟩) lg.sns.length sc), 69, false⟩), (b2, ⟨[.int .u8 op.kind, .int .i64 op.n, .int .i64 op.m, .int .u8 op.ev.kind, .int .u32 op.ev.pick, .int .u64 op.ev.arg], 35, false⟩), (rb297, ⟨(splice cs298 (op.n.toNat * 15 + 14) [.int .u64 op.ev.arg]), 66, false⟩)]) (φ := rb297 = rb297 ∧ Nat.ble (0 + (op.n.toNat * 15) + 12 + 2 + 1) cs298.length = true ∧ splice cs298 (0 + (op.n.toNat * 15) + 12 + 2) [.int .u64 op.ev.arg] = (splice cs298 (op.n.toNat * 15 + 14) [.int .u64 op.ev.arg])) h304 rfl rfl rfl (by kernel_rfl) ⟨rfl, (by rw [Nat.ble_eq]; omega), (by simp only [Nat.zero_add, Nat.add_zero, Nat.add_assoc])⟩ fun w305 h306 => ?_
                          have hkh306 := h304.known
                          refine ⟨keepNil, ?_⟩
                          clear h304
                          refine wpAnyK_done (by kernel_rfl) ?_ _
                          have hT : tampR lg op = ({ lg with sns := lg.sns.set op.n.toNat ({ x with out := { x.out with value := op.ev.arg } } : Pt) } : Lg) := by have he : edS op x = ({ x with out := { x.out with value := op.ev.arg } } : Pt) := (by unfold edS; rw [if_neg hmm]); unfold tampR; rw [if_neg (by omega), if_neg (by omega), if_pos (by omega)]; simp only [hx, he]
                          have hrow : (rl ptC 66 15 (lg.sns.set op.n.toNat ({ x with out := { x.out with value := op.ev.arg } } : Pt)) (some ⟨rb297, 0, none⟩) sc ([rb297])).at _ := row_set (off := 14) (vs := [.int .u64 op.ev.arg]) ptC_len (by simp) hx rfl hlr2 hcr2 htr (h306.kn (k := 2) (blk := ⟨(splice cs298 (op.n.toNat * 15 + 14) [.int .u64 op.ev.arg]), 66, false⟩) rfl)
                          have h307 := h306.rowOf (L := [(bl, ⟨logC lg.base (.slice eo lg.evs.length ec) (.slice mo lg.mks.length mc) (.slice (some ⟨rb297, 0, none⟩) lg.sns.length sc), 69, false⟩), (b2, ⟨[.int .u8 op.kind, .int .i64 op.n, .int .i64 op.m, .int .u8 op.ev.kind, .int .u32 op.ev.pick, .int .u64 op.ev.arg], 35, false⟩)]) (r := rl ptC 66 15 (lg.sns.set op.n.toNat ({ x with out := { x.out with value := op.ev.arg } } : Pt)) (some ⟨rb297, 0, none⟩) sc ([rb297])) rfl hrow
                          have hlen2 : (lg.sns.set op.n.toNat ({ x with out := { x.out with value := op.ev.arg } } : Pt)).length = lg.sns.length := List.length_set
                          try simp only [Exit.then, Exit.inBlock]
                          try rw [if_pos trivial]
                          exact s_end tabOk tabZ_ok h307 [] (vs := []) (φ := True) rfl (by kernel_rfl) trivial ⟨rfl, by rw [hT]; exact LogAt.of (d := ⟨eo, ec, eF, mo, mc, mF, (some ⟨rb297, 0, none⟩), sc, [rb297]⟩) (lg := ({ lg with sns := lg.sns.set op.n.toNat ({ x with out := { x.out with value := op.ev.arg } } : Pt) } : Lg)) (by have hq := h307.kn (k := 0) rfl; rw [← hlen2] at hq; exact hq) (Rws.perm h307.inv (List.Perm.refl _)) hsep, h307.frame⟩
                        ·
                          exact absurd (hc296.symm.trans hb270) (by decide)
                      ·
                        exact absurd (hb290.symm.trans hb269) (by decide)
                    ·
                      exact absurd (hb289.symm.trans hb268) (by decide)
                ·
                  have hb270f : ¬ op.n < ((lg.sns.length : Nat) : Int) := by simpa using hb270
                  refine dr_start (KB := [bl, b2]) (Bi := [[0, 1], [0, 1], [0, 1], [0, 1], [0, 1], [0, 1], [0, 1], [0, 1], [0, 1], [0, 1], [0, 1], [0, 1], [0, 1], [0, 1], [0, 1], [0, 1], [0, 1], [0, 1], [0, 1], [0, 1], [0, 1], [0, 1], [0, 1], [0, 1], [0, 1]]) mixed h254 fun w308 h309 => ?_
                  clear h254
                  refine dr_batch tabOk tabZ_ok (by repeat (first | exact PF.body | with_reducible apply PF.inB | with_reducible apply PF.next)) [(0, {}), (1, {k := 1, p := 1}), (2, {f := 2}), (3, {}), (4, {}), (5, {k := 1, p := 1}), (6, {f := 2}), (7, {}), (8, {}), (9, {}), (10, {k := 1, p := 1}), (11, {}), (12, {}), (13, {}), (14, {k := 0, p := 0}), (15, {}), (16, {f := 1}), (17, {}), (18, {}), (19, {}), (20, {k := 0, p := 0}), (21, {}), (22, {}), (23, {}), (24, {})] [3, 0, 1, 70] (T' := [(3, .pointer (some ⟨b2, 0, none⟩)), (0, .pointer (some ⟨bl, 0, none⟩)), (1, .agg #[.int .u8 op.kind, .int .i64 op.n, .int .i64 op.m, .int .u8 op.ev.kind, .int .u32 op.ev.pick, .int .u64 op.ev.arg]), (70, .bool false)]) (φ := (b2 = b2 ∧ Nat.ble (0 + 1) 6 = true) ∧ ((op.kind == 11)) = true ∧ (b2 = b2 ∧ Nat.ble (1 + 1) 6 = true) ∧ (decide (op.n ≥ 0)) = true ∧ (b2 = b2 ∧ Nat.ble (1 + 1) 6 = true) ∧ (bl = bl ∧ Nat.ble (17 + 1) 18 = true) ∧ (decide (op.n < ((lg.sns.length : Nat) : Int))) = false ∧ True) (fuel := 0) h309 (by kernel_rfl) rfl (by kernel_rfl) (by kernel_rfl) ⟨trivial, rfl, trivial, trivial, trivial, rfl, trivial, trivial, trivial, trivial, rfl, trivial, trivial, trivial, rfl, trivial, trivial, trivial, trivial, trivial, rfl, trivial, trivial, trivial, trivial, trivial⟩ ⟨⟨rfl, rfl⟩, hb268, ⟨rfl, rfl⟩, hb269, ⟨rfl, rfl⟩, ⟨rfl, rfl⟩, hb270, trivial⟩ fun a311 h312 => ?_
                  clear h309
                  refine wpAnyK_done (by kernel_rfl) ?_ _
                  refine hK267 _ _ ?_
                  clear hK267
                  refine c_false h312 rfl ?_
                  refine wp_seq_k fun K313 hK313 => ?_
                  rcases Bool.eq_false_or_eq_true ((op.kind == 11)) with hb314 | hb314
                  ·
                    have hb314f : op.kind = 11 := by simpa using hb314
                    rcases Bool.eq_false_or_eq_true (decide (op.n ≥ 0)) with hb315 | hb315
                    ·
                      have hb315f : op.n ≥ 0 := by simpa using hb315
                      refine dr_start (KB := [bl, b2]) (Bi := [[0, 1], [0, 1], [0, 1], [0, 1], [0, 1], [0, 1], [0, 1], [0, 1], [0, 1], [0, 1], [0, 1], [0, 1], [0, 1], [0, 1], [0, 1], [0, 1], [0, 1], [0, 1], [0, 1]]) mixed h312 fun w316 h317 => ?_
                      clear h312
                      refine dr_batch tabOk tabZ_ok (by repeat (first | exact PF.body | with_reducible apply PF.inB | with_reducible apply PF.next)) [(0, {}), (1, {k := 1, p := 1}), (2, {f := 2}), (3, {}), (4, {}), (5, {k := 1, p := 1}), (6, {f := 2}), (7, {}), (8, {}), (9, {}), (10, {k := 1, p := 1}), (11, {}), (12, {}), (13, {}), (14, {k := 0, p := 0}), (15, {}), (16, {}), (17, {}), (18, {})] [3, 0, 1, 107] (T' := [(3, .pointer (some ⟨b2, 0, none⟩)), (0, .pointer (some ⟨bl, 0, none⟩)), (1, .agg #[.int .u8 op.kind, .int .i64 op.n, .int .i64 op.m, .int .u8 op.ev.kind, .int .u32 op.ev.pick, .int .u64 op.ev.arg]), (107, .bool (decide (op.n < ((lg.sns.length : Nat) : Int))))]) (φ := (b2 = b2 ∧ Nat.ble (0 + 1) 6 = true) ∧ ((op.kind == 11)) = true ∧ (b2 = b2 ∧ Nat.ble (1 + 1) 6 = true) ∧ (decide (op.n ≥ 0)) = true ∧ (b2 = b2 ∧ Nat.ble (1 + 1) 6 = true) ∧ (bl = bl ∧ Nat.ble (17 + 1) 18 = true) ∧ True) (fuel := 0) h317 (by kernel_rfl) rfl (by kernel_rfl) (by kernel_rfl) ⟨trivial, rfl, trivial, trivial, trivial, rfl, trivial, trivial, trivial, trivial, rfl, trivial, trivial, trivial, rfl, trivial, trivial, trivial, trivial, trivial⟩ ⟨⟨rfl, rfl⟩, hb314, ⟨rfl, rfl⟩, hb315, ⟨rfl, rfl⟩, ⟨rfl, rfl⟩, trivial⟩ fun a319 h320 => ?_
                      clear h317
                      refine wpAnyK_done (by kernel_rfl) ?_ _
                      refine hK313 _ _ ?_
                      clear hK313
                      refine c_split h320 (b := decide (op.n < ((lg.sns.length : Nat) : Int))) rfl (fun hc321 => ?_) (fun hc321 => ?_)
                      ·
                        exact absurd (hc321.symm.trans hb270) (by decide)
                      ·
                        have hc321f : ¬ op.n < ((lg.sns.length : Nat) : Int) := by simpa using hc321
                        refine wp_skip ?_
                        have hT : tampR lg op = lg := by unfold tampR; rw [if_neg (by omega), if_neg (by omega), if_neg (by omega)]
                        try simp only [Exit.then, Exit.inBlock]
                        try rw [if_pos trivial]
                        exact s_end tabOk tabZ_ok h320 [] (vs := []) (φ := True) rfl (by kernel_rfl) trivial ⟨rfl, by rw [hT]; exact LogAt.of (h320.kn (k := 0) rfl) h320.inv hsep, h320.frame⟩
                    ·
                      exact absurd (hb315.symm.trans hb269) (by decide)
                  ·
                    exact absurd (hb314.symm.trans hb268) (by decide)
              ·
                exact absurd (hb269.symm.trans hb249) (by decide)
            ·
              have hb268f : op.kind ≠ 11 := by simpa using hb268
              refine dr_start (KB := [bl, b2]) (Bi := [[0, 1], [0, 1], [0, 1], [0, 1], [0, 1], [0, 1], [0, 1], [0, 1], [0, 1], [0, 1], [0, 1], [0, 1], [0, 1], [0, 1], [0, 1], [0, 1], [0, 1], [0, 1], [0, 1], [0, 1], [0, 1], [0, 1], [0, 1], [0, 1], [0, 1]]) mixed h254 fun w322 h323 => ?_
              clear h254
              refine dr_batch tabOk tabZ_ok (by repeat (first | exact PF.body | with_reducible apply PF.inB | with_reducible apply PF.next)) [(0, {}), (1, {k := 1, p := 1}), (2, {f := 1}), (3, {}), (4, {}), (5, {k := 0, p := 0}), (6, {}), (7, {}), (8, {}), (9, {}), (10, {k := 0, p := 0}), (11, {}), (12, {}), (13, {}), (14, {k := 0, p := 0}), (15, {}), (16, {}), (17, {}), (18, {}), (19, {}), (20, {k := 0, p := 0}), (21, {}), (22, {}), (23, {}), (24, {})] [3, 0, 1, 70] (T' := [(3, .pointer (some ⟨b2, 0, none⟩)), (0, .pointer (some ⟨bl, 0, none⟩)), (1, .agg #[.int .u8 op.kind, .int .i64 op.n, .int .i64 op.m, .int .u8 op.ev.kind, .int .u32 op.ev.pick, .int .u64 op.ev.arg]), (70, .bool false)]) (φ := (b2 = b2 ∧ Nat.ble (0 + 1) 6 = true) ∧ ((op.kind == 11)) = false ∧ True) (fuel := 0) h323 (by kernel_rfl) rfl (by kernel_rfl) (by kernel_rfl) ⟨trivial, rfl, trivial, trivial, trivial, rfl, trivial, trivial, trivial, trivial, rfl, trivial, trivial, trivial, rfl, trivial, trivial, trivial, trivial, trivial, rfl, trivial, trivial, trivial, trivial, trivial⟩ ⟨⟨rfl, rfl⟩, hb268, trivial⟩ fun a325 h326 => ?_
              clear h323
              refine wpAnyK_done (by kernel_rfl) ?_ _
              refine hK267 _ _ ?_
              clear hK267
              refine c_false h326 rfl ?_
              refine wp_seq_k fun K327 hK327 => ?_
              rcases Bool.eq_false_or_eq_true ((op.kind == 11)) with hb328 | hb328
              ·
                exact absurd (hb328.symm.trans hb268) (by decide)
              ·
                have hb328f : op.kind ≠ 11 := by simpa using hb328
                refine dr_start (KB := [bl, b2]) (Bi := [[0, 1], [0, 1], [0, 1], [0, 1], [0, 1], [0, 1], [0, 1], [0, 1], [0, 1], [0, 1], [0, 1], [0, 1], [0, 1], [0, 1], [0, 1], [0, 1], [0, 1], [0, 1], [0, 1]]) mixed h326 fun w329 h330 => ?_
                clear h326
                refine dr_batch tabOk tabZ_ok (by repeat (first | exact PF.body | with_reducible apply PF.inB | with_reducible apply PF.next)) [(0, {}), (1, {k := 1, p := 1}), (2, {f := 1}), (3, {}), (4, {}), (5, {k := 0, p := 0}), (6, {}), (7, {}), (8, {}), (9, {}), (10, {k := 0, p := 0}), (11, {}), (12, {}), (13, {}), (14, {k := 0, p := 0}), (15, {}), (16, {}), (17, {}), (18, {})] [3, 0, 1, 107] (T' := [(3, .pointer (some ⟨b2, 0, none⟩)), (0, .pointer (some ⟨bl, 0, none⟩)), (1, .agg #[.int .u8 op.kind, .int .i64 op.n, .int .i64 op.m, .int .u8 op.ev.kind, .int .u32 op.ev.pick, .int .u64 op.ev.arg]), (107, .bool false)]) (φ := (b2 = b2 ∧ Nat.ble (0 + 1) 6 = true) ∧ ((op.kind == 11)) = false ∧ True) (fuel := 0) h330 (by kernel_rfl) rfl (by kernel_rfl) (by kernel_rfl) ⟨trivial, rfl, trivial, trivial, trivial, rfl, trivial, trivial, trivial, trivial, rfl, trivial, trivial, trivial, rfl, trivial, trivial, trivial, trivial, trivial⟩ ⟨⟨rfl, rfl⟩, hb328, trivial⟩ fun a332 h333 => ?_
                clear h330
                refine wpAnyK_done (by kernel_rfl) ?_ _
                refine hK327 _ _ ?_
                clear hK327
                refine c_false h333 rfl ?_
                refine wp_skip ?_
                have hT : tampR lg op = lg := by unfold tampR; rw [if_neg (by omega), if_neg (by omega), if_neg (by omega)]
                try simp only [Exit.then, Exit.inBlock]
                try rw [if_pos trivial]
                exact s_end tabOk tabZ_ok h333 [] (vs := []) (φ := True) rfl (by kernel_rfl) trivial ⟨rfl, by rw [hT]; exact LogAt.of (h333.kn (k := 0) rfl) h333.inv hsep, h333.frame⟩
        ·
          have hb249f : ¬ (op.n ≥ 0) := by simpa using hb249
          refine dr_start (KB := [bl, b2]) (Bi := [[0, 1], [0, 1], [0, 1], [0, 1], [0, 1], [0, 1], [0, 1], [0, 1], [0, 1], [0, 1], [0, 1], [0, 1], [0, 1], [0, 1], [0, 1], [0, 1], [0, 1], [0, 1], [0, 1]]) mixed h246 fun w334 h335 => ?_
          clear h246
          refine dr_batch tabOk tabZ_ok (by repeat (first | exact PF.body | with_reducible apply PF.inB | with_reducible apply PF.next)) [(0, {}), (1, {k := 1, p := 1}), (2, {f := 2}), (3, {}), (4, {}), (5, {k := 1, p := 1}), (6, {f := 1}), (7, {}), (8, {}), (9, {}), (10, {k := 0, p := 0}), (11, {}), (12, {}), (13, {}), (14, {k := 0, p := 0}), (15, {}), (16, {}), (17, {}), (18, {})] [3, 0, 1, 40] (T' := [(3, .pointer (some ⟨b2, 0, none⟩)), (0, .pointer (some ⟨bl, 0, none⟩)), (1, .agg #[.int .u8 op.kind, .int .i64 op.n, .int .i64 op.m, .int .u8 op.ev.kind, .int .u32 op.ev.pick, .int .u64 op.ev.arg]), (40, .bool false)]) (φ := (b2 = b2 ∧ Nat.ble (0 + 1) 6 = true) ∧ ((op.kind == 10)) = true ∧ (b2 = b2 ∧ Nat.ble (1 + 1) 6 = true) ∧ (decide (op.n ≥ 0)) = false ∧ True) (fuel := 0) h335 (by kernel_rfl) rfl (by kernel_rfl) (by kernel_rfl) ⟨trivial, rfl, trivial, trivial, trivial, rfl, trivial, trivial, trivial, trivial, rfl, trivial, trivial, trivial, rfl, trivial, trivial, trivial, trivial, trivial⟩ ⟨⟨rfl, rfl⟩, hb248, ⟨rfl, rfl⟩, hb249, trivial⟩ fun a337 h338 => ?_
          clear h335
          refine wpAnyK_done (by kernel_rfl) ?_ _
          refine hK247 _ _ ?_
          clear hK247
          refine c_false h338 rfl ?_
          refine wp_seq_k fun K339 hK339 => ?_
          rcases Bool.eq_false_or_eq_true ((op.kind == 11)) with hb340 | hb340
          ·
            have hb340f : op.kind = 11 := by simpa using hb340
            rcases Bool.eq_false_or_eq_true (decide (op.n ≥ 0)) with hb341 | hb341
            ·
              exact absurd (hb341.symm.trans hb249) (by decide)
            ·
              have hb341f : ¬ (op.n ≥ 0) := by simpa using hb341
              refine dr_start (KB := [bl, b2]) (Bi := [[0, 1], [0, 1], [0, 1], [0, 1], [0, 1], [0, 1], [0, 1], [0, 1], [0, 1], [0, 1], [0, 1], [0, 1], [0, 1], [0, 1], [0, 1], [0, 1], [0, 1], [0, 1], [0, 1], [0, 1], [0, 1], [0, 1], [0, 1], [0, 1], [0, 1]]) mixed h338 fun w342 h343 => ?_
              clear h338
              refine dr_batch tabOk tabZ_ok (by repeat (first | exact PF.body | with_reducible apply PF.inB | with_reducible apply PF.next)) [(0, {}), (1, {k := 1, p := 1}), (2, {f := 2}), (3, {}), (4, {}), (5, {k := 1, p := 1}), (6, {f := 1}), (7, {}), (8, {}), (9, {}), (10, {k := 0, p := 0}), (11, {}), (12, {}), (13, {}), (14, {k := 0, p := 0}), (15, {}), (16, {}), (17, {}), (18, {}), (19, {}), (20, {k := 0, p := 0}), (21, {}), (22, {}), (23, {}), (24, {})] [3, 0, 1, 70] (T' := [(3, .pointer (some ⟨b2, 0, none⟩)), (0, .pointer (some ⟨bl, 0, none⟩)), (1, .agg #[.int .u8 op.kind, .int .i64 op.n, .int .i64 op.m, .int .u8 op.ev.kind, .int .u32 op.ev.pick, .int .u64 op.ev.arg]), (70, .bool false)]) (φ := (b2 = b2 ∧ Nat.ble (0 + 1) 6 = true) ∧ ((op.kind == 11)) = true ∧ (b2 = b2 ∧ Nat.ble (1 + 1) 6 = true) ∧ (decide (op.n ≥ 0)) = false ∧ True) (fuel := 0) h343 (by kernel_rfl) rfl (by kernel_rfl) (by kernel_rfl) ⟨trivial, rfl, trivial, trivial, trivial, rfl, trivial, trivial, trivial, trivial, rfl, trivial, trivial, trivial, rfl, trivial, trivial, trivial, trivial, trivial, rfl, trivial, trivial, trivial, trivial, trivial⟩ ⟨⟨rfl, rfl⟩, hb340, ⟨rfl, rfl⟩, hb341, trivial⟩ fun a345 h346 => ?_
              clear h343
              refine wpAnyK_done (by kernel_rfl) ?_ _
              refine hK339 _ _ ?_
              clear hK339
              refine c_false h346 rfl ?_
              refine wp_seq_k fun K347 hK347 => ?_
              rcases Bool.eq_false_or_eq_true ((op.kind == 11)) with hb348 | hb348
              ·
                have hb348f : op.kind = 11 := by simpa using hb348
                rcases Bool.eq_false_or_eq_true (decide (op.n ≥ 0)) with hb349 | hb349
                ·
                  exact absurd (hb349.symm.trans hb341) (by decide)
                ·
                  have hb349f : ¬ (op.n ≥ 0) := by simpa using hb349
                  refine dr_start (KB := [bl, b2]) (Bi := [[0, 1], [0, 1], [0, 1], [0, 1], [0, 1], [0, 1], [0, 1], [0, 1], [0, 1], [0, 1], [0, 1], [0, 1], [0, 1], [0, 1], [0, 1], [0, 1], [0, 1], [0, 1], [0, 1]]) mixed h346 fun w350 h351 => ?_
                  clear h346
                  refine dr_batch tabOk tabZ_ok (by repeat (first | exact PF.body | with_reducible apply PF.inB | with_reducible apply PF.next)) [(0, {}), (1, {k := 1, p := 1}), (2, {f := 2}), (3, {}), (4, {}), (5, {k := 1, p := 1}), (6, {f := 1}), (7, {}), (8, {}), (9, {}), (10, {k := 0, p := 0}), (11, {}), (12, {}), (13, {}), (14, {k := 0, p := 0}), (15, {}), (16, {}), (17, {}), (18, {})] [3, 0, 1, 107] (T' := [(3, .pointer (some ⟨b2, 0, none⟩)), (0, .pointer (some ⟨bl, 0, none⟩)), (1, .agg #[.int .u8 op.kind, .int .i64 op.n, .int .i64 op.m, .int .u8 op.ev.kind, .int .u32 op.ev.pick, .int .u64 op.ev.arg]), (107, .bool false)]) (φ := (b2 = b2 ∧ Nat.ble (0 + 1) 6 = true) ∧ ((op.kind == 11)) = true ∧ (b2 = b2 ∧ Nat.ble (1 + 1) 6 = true) ∧ (decide (op.n ≥ 0)) = false ∧ True) (fuel := 0) h351 (by kernel_rfl) rfl (by kernel_rfl) (by kernel_rfl) ⟨trivial, rfl, trivial, trivial, trivial, rfl, trivial, trivial, trivial, trivial, rfl, trivial, trivial, trivial, rfl, trivial, trivial, trivial, trivial, trivial⟩ ⟨⟨rfl, rfl⟩, hb348, ⟨rfl, rfl⟩, hb349, trivial⟩ fun a353 h354 => ?_
                  clear h351
                  refine wpAnyK_done (by kernel_rfl) ?_ _
                  refine hK347 _ _ ?_
                  clear hK347
                  refine c_false h354 rfl ?_
                  refine wp_skip ?_
                  have hT : tampR lg op = lg := by unfold tampR; rw [if_neg (by omega), if_neg (by omega), if_neg (by omega)]
                  try simp only [Exit.then, Exit.inBlock]
                  try rw [if_pos trivial]
                  exact s_end tabOk tabZ_ok h354 [] (vs := []) (φ := True) rfl (by kernel_rfl) trivial ⟨rfl, by rw [hT]; exact LogAt.of (h354.kn (k := 0) rfl) h354.inv hsep, h354.frame⟩
              ·
                exact absurd (hb348.symm.trans hb340) (by decide)
          ·
            have hb340f : op.kind ≠ 11 := by simpa using hb340
            refine dr_start (KB := [bl, b2]) (Bi := [[0, 1], [0, 1], [0, 1], [0, 1], [0, 1], [0, 1], [0, 1], [0, 1], [0, 1], [0, 1], [0, 1], [0, 1], [0, 1], [0, 1], [0, 1], [0, 1], [0, 1], [0, 1], [0, 1], [0, 1], [0, 1], [0, 1], [0, 1], [0, 1], [0, 1]]) mixed h338 fun w355 h356 => ?_
            clear h338
            refine dr_batch tabOk tabZ_ok (by repeat (first | exact PF.body | with_reducible apply PF.inB | with_reducible apply PF.next)) [(0, {}), (1, {k := 1, p := 1}), (2, {f := 1}), (3, {}), (4, {}), (5, {k := 0, p := 0}), (6, {}), (7, {}), (8, {}), (9, {}), (10, {k := 0, p := 0}), (11, {}), (12, {}), (13, {}), (14, {k := 0, p := 0}), (15, {}), (16, {}), (17, {}), (18, {}), (19, {}), (20, {k := 0, p := 0}), (21, {}), (22, {}), (23, {}), (24, {})] [3, 0, 1, 70] (T' := [(3, .pointer (some ⟨b2, 0, none⟩)), (0, .pointer (some ⟨bl, 0, none⟩)), (1, .agg #[.int .u8 op.kind, .int .i64 op.n, .int .i64 op.m, .int .u8 op.ev.kind, .int .u32 op.ev.pick, .int .u64 op.ev.arg]), (70, .bool false)]) (φ := (b2 = b2 ∧ Nat.ble (0 + 1) 6 = true) ∧ ((op.kind == 11)) = false ∧ True) (fuel := 0) h356 (by kernel_rfl) rfl (by kernel_rfl) (by kernel_rfl) ⟨trivial, rfl, trivial, trivial, trivial, rfl, trivial, trivial, trivial, trivial, rfl, trivial, trivial, trivial, rfl, trivial, trivial, trivial, trivial, trivial, rfl, trivial, trivial, trivial, trivial, trivial⟩ ⟨⟨rfl, rfl⟩, hb340, trivial⟩ fun a358 h359 => ?_
            clear h356
            refine wpAnyK_done (by kernel_rfl) ?_ _
            refine hK339 _ _ ?_
            clear hK339
            refine c_false h359 rfl ?_
            refine wp_seq_k fun K360 hK360 => ?_
            rcases Bool.eq_false_or_eq_true ((op.kind == 11)) with hb361 | hb361
            ·
              exact absurd (hb361.symm.trans hb340) (by decide)
            ·
              have hb361f : op.kind ≠ 11 := by simpa using hb361
              refine dr_start (KB := [bl, b2]) (Bi := [[0, 1], [0, 1], [0, 1], [0, 1], [0, 1], [0, 1], [0, 1], [0, 1], [0, 1], [0, 1], [0, 1], [0, 1], [0, 1], [0, 1], [0, 1], [0, 1], [0, 1], [0, 1], [0, 1]]) mixed h359 fun w362 h363 => ?_
              clear h359
              refine dr_batch tabOk tabZ_ok (by repeat (first | exact PF.body | with_reducible apply PF.inB | with_reducible apply PF.next)) [(0, {}), (1, {k := 1, p := 1}), (2, {f := 1}), (3, {}), (4, {}), (5, {k := 0, p := 0}), (6, {}), (7, {}), (8, {}), (9, {}), (10, {k := 0, p := 0}), (11, {}), (12, {}), (13, {}), (14, {k := 0, p := 0}), (15, {}), (16, {}), (17, {}), (18, {})] [3, 0, 1, 107] (T' := [(3, .pointer (some ⟨b2, 0, none⟩)), (0, .pointer (some ⟨bl, 0, none⟩)), (1, .agg #[.int .u8 op.kind, .int .i64 op.n, .int .i64 op.m, .int .u8 op.ev.kind, .int .u32 op.ev.pick, .int .u64 op.ev.arg]), (107, .bool false)]) (φ := (b2 = b2 ∧ Nat.ble (0 + 1) 6 = true) ∧ ((op.kind == 11)) = false ∧ True) (fuel := 0) h363 (by kernel_rfl) rfl (by kernel_rfl) (by kernel_rfl) ⟨trivial, rfl, trivial, trivial, trivial, rfl, trivial, trivial, trivial, trivial, rfl, trivial, trivial, trivial, rfl, trivial, trivial, trivial, trivial, trivial⟩ ⟨⟨rfl, rfl⟩, hb361, trivial⟩ fun a365 h366 => ?_
              clear h363
              refine wpAnyK_done (by kernel_rfl) ?_ _
              refine hK360 _ _ ?_
              clear hK360
              refine c_false h366 rfl ?_
              refine wp_skip ?_
              have hT : tampR lg op = lg := by unfold tampR; rw [if_neg (by omega), if_neg (by omega), if_neg (by omega)]
              try simp only [Exit.then, Exit.inBlock]
              try rw [if_pos trivial]
              exact s_end tabOk tabZ_ok h366 [] (vs := []) (φ := True) rfl (by kernel_rfl) trivial ⟨rfl, by rw [hT]; exact LogAt.of (h366.kn (k := 0) rfl) h366.inv hsep, h366.frame⟩
      ·
        have hb248f : op.kind ≠ 10 := by simpa using hb248
        refine dr_start (KB := [bl, b2]) (Bi := [[0, 1], [0, 1], [0, 1], [0, 1], [0, 1], [0, 1], [0, 1], [0, 1], [0, 1], [0, 1], [0, 1], [0, 1], [0, 1], [0, 1], [0, 1], [0, 1], [0, 1], [0, 1], [0, 1]]) mixed h246 fun w367 h368 => ?_
        clear h246
        refine dr_batch tabOk tabZ_ok (by repeat (first | exact PF.body | with_reducible apply PF.inB | with_reducible apply PF.next)) [(0, {}), (1, {k := 1, p := 1}), (2, {f := 1}), (3, {}), (4, {}), (5, {k := 0, p := 0}), (6, {}), (7, {}), (8, {}), (9, {}), (10, {k := 0, p := 0}), (11, {}), (12, {}), (13, {}), (14, {k := 0, p := 0}), (15, {}), (16, {}), (17, {}), (18, {})] [3, 0, 1, 40] (T' := [(3, .pointer (some ⟨b2, 0, none⟩)), (0, .pointer (some ⟨bl, 0, none⟩)), (1, .agg #[.int .u8 op.kind, .int .i64 op.n, .int .i64 op.m, .int .u8 op.ev.kind, .int .u32 op.ev.pick, .int .u64 op.ev.arg]), (40, .bool false)]) (φ := (b2 = b2 ∧ Nat.ble (0 + 1) 6 = true) ∧ ((op.kind == 10)) = false ∧ True) (fuel := 0) h368 (by kernel_rfl) rfl (by kernel_rfl) (by kernel_rfl) ⟨trivial, rfl, trivial, trivial, trivial, rfl, trivial, trivial, trivial, trivial, rfl, trivial, trivial, trivial, rfl, trivial, trivial, trivial, trivial, trivial⟩ ⟨⟨rfl, rfl⟩, hb248, trivial⟩ fun a370 h371 => ?_
        clear h368
        refine wpAnyK_done (by kernel_rfl) ?_ _
        refine hK247 _ _ ?_
        clear hK247
        refine c_false h371 rfl ?_
        refine wp_seq_k fun K372 hK372 => ?_
        rcases Bool.eq_false_or_eq_true ((op.kind == 11)) with hb373 | hb373
        ·
          have hb373f : op.kind = 11 := by simpa using hb373
          rcases Bool.eq_false_or_eq_true (decide (op.n ≥ 0)) with hb374 | hb374
          ·
            have hb374f : op.n ≥ 0 := by simpa using hb374
            rcases Bool.eq_false_or_eq_true (decide (op.n < ((lg.sns.length : Nat) : Int))) with hb375 | hb375
            ·
              have hb375f : op.n < ((lg.sns.length : Nat) : Int) := by simpa using hb375
              refine dr_start (KB := [bl, b2]) (Bi := [[0, 1], [0, 1], [0, 1], [0, 1], [0, 1], [0, 1], [0, 1], [0, 1], [0, 1], [0, 1], [0, 1], [0, 1], [0, 1], [0, 1], [0, 1], [0, 1], [0, 1], [0, 1], [0, 1], [0, 1], [0, 1], [0, 1], [0, 1], [0, 1], [0, 1]]) mixed h371 fun w376 h377 => ?_
              clear h371
              refine dr_batch tabOk tabZ_ok (by repeat (first | exact PF.body | with_reducible apply PF.inB | with_reducible apply PF.next)) [(0, {}), (1, {k := 1, p := 1}), (2, {f := 2}), (3, {}), (4, {}), (5, {k := 1, p := 1}), (6, {f := 2}), (7, {}), (8, {}), (9, {}), (10, {k := 1, p := 1}), (11, {}), (12, {}), (13, {}), (14, {k := 0, p := 0}), (15, {}), (16, {f := 2}), (17, {}), (18, {}), (19, {}), (20, {k := 1, p := 1}), (21, {m := 1}), (22, {}), (23, {}), (24, {})] [3, 0, 1, 70] (T' := [(3, .pointer (some ⟨b2, 0, none⟩)), (0, .pointer (some ⟨bl, 0, none⟩)), (1, .agg #[.int .u8 op.kind, .int .i64 op.n, .int .i64 op.m, .int .u8 op.ev.kind, .int .u32 op.ev.pick, .int .u64 op.ev.arg]), (70, .bool ((op.m.tmod 2) == 0))]) (φ := (b2 = b2 ∧ Nat.ble (0 + 1) 6 = true) ∧ ((op.kind == 11)) = true ∧ (b2 = b2 ∧ Nat.ble (1 + 1) 6 = true) ∧ (decide (op.n ≥ 0)) = true ∧ (b2 = b2 ∧ Nat.ble (1 + 1) 6 = true) ∧ (bl = bl ∧ Nat.ble (17 + 1) 18 = true) ∧ (decide (op.n < ((lg.sns.length : Nat) : Int))) = true ∧ (b2 = b2 ∧ Nat.ble (2 + 1) 6 = true) ∧ (2 : Int) ≠ 0 ∧ True) (fuel := 0) h377 (by kernel_rfl) rfl (by kernel_rfl) (by kernel_rfl) ⟨trivial, rfl, trivial, trivial, trivial, rfl, trivial, trivial, trivial, trivial, rfl, trivial, trivial, trivial, rfl, trivial, trivial, trivial, trivial, trivial, rfl, trivial, trivial, trivial, trivial, trivial⟩ ⟨⟨rfl, rfl⟩, hb373, ⟨rfl, rfl⟩, hb374, ⟨rfl, rfl⟩, ⟨rfl, rfl⟩, hb375, ⟨rfl, rfl⟩, (by decide), trivial⟩ fun a379 h380 => ?_
              clear h377
              refine wpAnyK_done (by kernel_rfl) ?_ _
              refine hK372 _ _ ?_
              clear hK372
              refine c_split h380 (b := ((op.m.tmod 2) == 0)) rfl (fun hc381 => ?_) (fun hc381 => ?_)
              ·
                have hc381f : (op.m.tmod 2) = 0 := by simpa using hc381
                have hmm : op.m.tmod 2 = 0 := hc381f
                obtain ⟨x, hx⟩ := Sx.get_some (xs := lg.sns) (i := op.n.toNat) (by omega)
                obtain ⟨rb382, cs383, ho, hbr, hlr, hcr, htr, hFr⟩ := Row.open_ (h380.inv.get (j := 2) (r := rl ptC 66 15 lg.sns so sc sF) rfl) (by show 0 < lg.sns.length; omega)
                simp only at ho hFr
                subst ho hFr
                have hcr2 : lg.sns.length ≤ sc := hcr
                have hlr2 : cs383.length = sc * 15 := hlr
                have h384 := h380.rowTake (R' := [rl evC 33 3 lg.evs eo ec eF, rl mkC 78 2 lg.mks mo mc mF]) (r := rl ptC 66 15 lg.sns (some ⟨rb382, 0, none⟩) sc ([rb382])) (List.Perm.refl _) rfl hbr (.inl (by simp)) (kcons (by intro hq; cases hq) (kcons (by intro hq; cases hq) knil))
                clear h380
                refine dr_start (KB := [bl, b2, rb382]) (Bi := [[0, 1, 2], [0, 1, 2], [0, 1, 2], [0, 1, 2], [0, 1, 2], [0, 1, 2], [0, 1, 2], [0, 1, 2], [0, 1, 2], [0, 1, 2], [0, 1, 2], [0, 1, 2], []]) mixed h384 fun w385 h386 => ?_
                clear h384
                refine dr_batch tabOk tabZ_ok (by repeat (first | exact PF.body | with_reducible apply PF.inB | with_reducible apply PF.next)) [(0, {}), (1, {}), (2, {}), (3, {k := 0, p := 0}), (4, {}), (5, {k := 1, p := 1}), (6, {}), (7, {}), (8, {k := 1, p := 1}), (9, {}), (10, {}), (11, {})] [3, 0, 1, 103, 106] (T' := [(3, .pointer (some ⟨b2, 0, none⟩)), (0, .pointer (some ⟨bl, 0, none⟩)), (1, .agg #[.int .u8 op.kind, .int .i64 op.n, .int .i64 op.m, .int .u8 op.ev.kind, .int .u32 op.ev.pick, .int .u64 op.ev.arg]), (103, .int .u64 op.ev.arg), (106, .pointer (some ⟨rb382, 0 + (op.n.toNat * 15) + 1, none⟩))]) (φ := (bl = bl ∧ Nat.ble (17 + 1) 18 = true) ∧ (b2 = b2 ∧ Nat.ble (1 + 1) 6 = true) ∧ (b2 = b2 ∧ Nat.ble (5 + 1) 6 = true) ∧ (0 ≤ op.n ∧ op.n < ((lg.sns.length : Nat) : Int)) ∧ True) (fuel := 1) h386 (by kernel_rfl) rfl (by kernel_rfl) (by kernel_rfl) ⟨trivial, trivial, trivial, rfl, trivial, rfl, trivial, trivial, rfl, trivial, trivial, trivial, trivial⟩ ⟨⟨rfl, rfl⟩, ⟨rfl, rfl⟩, ⟨rfl, rfl⟩, ⟨by omega, by omega⟩, trivial⟩ fun a388 h389 => ?_
                clear h386
                refine wpAnyK_one (i := 12) (fuel := 0) (by kernel_rfl) ?_
                refine op_store tabOk {k := 2, m := 1, vs := (splice cs383 (op.n.toNat * 15 + 1) [.int .u64 op.ev.arg])} (L' := [(bl, ⟨logC lg.base (.slice eo lg.evs.length ec) (.slice mo lg.mks.length mc) (.slice (some ⟨rb382, 0, none⟩) lg.sns.length sc), 69, false⟩), (b2, ⟨[.int .u8 op.kind, .int .i64 op.n, .int .i64 op.m, .int .u8 op.ev.kind, .int .u32 op.ev.pick, .int .u64 op.ev.arg], 35, false⟩), (rb382, ⟨(splice cs383 (op.n.toNat * 15 + 1) [.int .u64 op.ev.arg]), 66, false⟩)]) (φ := rb382 = rb382 ∧ Nat.ble (0 + (op.n.toNat * 15) + 1 + 1) cs383.length = true ∧ splice cs383 (0 + (op.n.toNat * 15) + 1) [.int .u64 op.ev.arg] = (splice cs383 (op.n.toNat * 15 + 1) [.int .u64 op.ev.arg])) h389 rfl rfl rfl (by kernel_rfl) ⟨rfl, (by rw [Nat.ble_eq]; omega), (by simp only [Nat.zero_add, Nat.add_zero, Nat.add_assoc])⟩ fun w390 h391 => ?_
                have hkh391 := h389.known
                refine ⟨keepNil, ?_⟩
                clear h389
                refine wpAnyK_done (by kernel_rfl) ?_ _
                have hT : tampR lg op = ({ lg with sns := lg.sns.set op.n.toNat ({ x with st := { x.st with now := op.ev.arg } } : Pt) } : Lg) := by have he : edS op x = ({ x with st := { x.st with now := op.ev.arg } } : Pt) := (by unfold edS; rw [if_pos hmm]); unfold tampR; rw [if_neg (by omega), if_neg (by omega), if_pos (by omega)]; simp only [hx, he]
                have hrow : (rl ptC 66 15 (lg.sns.set op.n.toNat ({ x with st := { x.st with now := op.ev.arg } } : Pt)) (some ⟨rb382, 0, none⟩) sc ([rb382])).at _ := row_set (off := 1) (vs := [.int .u64 op.ev.arg]) ptC_len (by simp) hx rfl hlr2 hcr2 htr (h391.kn (k := 2) (blk := ⟨(splice cs383 (op.n.toNat * 15 + 1) [.int .u64 op.ev.arg]), 66, false⟩) rfl)
                have h392 := h391.rowOf (L := [(bl, ⟨logC lg.base (.slice eo lg.evs.length ec) (.slice mo lg.mks.length mc) (.slice (some ⟨rb382, 0, none⟩) lg.sns.length sc), 69, false⟩), (b2, ⟨[.int .u8 op.kind, .int .i64 op.n, .int .i64 op.m, .int .u8 op.ev.kind, .int .u32 op.ev.pick, .int .u64 op.ev.arg], 35, false⟩)]) (r := rl ptC 66 15 (lg.sns.set op.n.toNat ({ x with st := { x.st with now := op.ev.arg } } : Pt)) (some ⟨rb382, 0, none⟩) sc ([rb382])) rfl hrow
                have hlen2 : (lg.sns.set op.n.toNat ({ x with st := { x.st with now := op.ev.arg } } : Pt)).length = lg.sns.length := List.length_set
                try simp only [Exit.then, Exit.inBlock]
                try rw [if_pos trivial]
                exact s_end tabOk tabZ_ok h392 [] (vs := []) (φ := True) rfl (by kernel_rfl) trivial ⟨rfl, by rw [hT]; exact LogAt.of (d := ⟨eo, ec, eF, mo, mc, mF, (some ⟨rb382, 0, none⟩), sc, [rb382]⟩) (lg := ({ lg with sns := lg.sns.set op.n.toNat ({ x with st := { x.st with now := op.ev.arg } } : Pt) } : Lg)) (by have hq := h392.kn (k := 0) rfl; rw [← hlen2] at hq; exact hq) (Rws.perm h392.inv (List.Perm.refl _)) hsep, h392.frame⟩
              ·
                have hc381f : (op.m.tmod 2) ≠ 0 := by simpa using hc381
                refine wp_seq_k fun K393 hK393 => ?_
                rcases Bool.eq_false_or_eq_true ((op.kind == 11)) with hb394 | hb394
                ·
                  have hb394f : op.kind = 11 := by simpa using hb394
                  rcases Bool.eq_false_or_eq_true (decide (op.n ≥ 0)) with hb395 | hb395
                  ·
                    have hb395f : op.n ≥ 0 := by simpa using hb395
                    refine dr_start (KB := [bl, b2]) (Bi := [[0, 1], [0, 1], [0, 1], [0, 1], [0, 1], [0, 1], [0, 1], [0, 1], [0, 1], [0, 1], [0, 1], [0, 1], [0, 1], [0, 1], [0, 1], [0, 1], [0, 1], [0, 1], [0, 1]]) mixed h380 fun w396 h397 => ?_
                    clear h380
                    refine dr_batch tabOk tabZ_ok (by repeat (first | exact PF.body | with_reducible apply PF.inB | with_reducible apply PF.next)) [(0, {}), (1, {k := 1, p := 1}), (2, {f := 2}), (3, {}), (4, {}), (5, {k := 1, p := 1}), (6, {f := 2}), (7, {}), (8, {}), (9, {}), (10, {k := 1, p := 1}), (11, {}), (12, {}), (13, {}), (14, {k := 0, p := 0}), (15, {}), (16, {}), (17, {}), (18, {})] [3, 0, 1, 107] (T' := [(3, .pointer (some ⟨b2, 0, none⟩)), (0, .pointer (some ⟨bl, 0, none⟩)), (1, .agg #[.int .u8 op.kind, .int .i64 op.n, .int .i64 op.m, .int .u8 op.ev.kind, .int .u32 op.ev.pick, .int .u64 op.ev.arg]), (107, .bool (decide (op.n < ((lg.sns.length : Nat) : Int))))]) (φ := (b2 = b2 ∧ Nat.ble (0 + 1) 6 = true) ∧ ((op.kind == 11)) = true ∧ (b2 = b2 ∧ Nat.ble (1 + 1) 6 = true) ∧ (decide (op.n ≥ 0)) = true ∧ (b2 = b2 ∧ Nat.ble (1 + 1) 6 = true) ∧ (bl = bl ∧ Nat.ble (17 + 1) 18 = true) ∧ True) (fuel := 0) h397 (by kernel_rfl) rfl (by kernel_rfl) (by kernel_rfl) ⟨trivial, rfl, trivial, trivial, trivial, rfl, trivial, trivial, trivial, trivial, rfl, trivial, trivial, trivial, rfl, trivial, trivial, trivial, trivial, trivial⟩ ⟨⟨rfl, rfl⟩, hb394, ⟨rfl, rfl⟩, hb395, ⟨rfl, rfl⟩, ⟨rfl, rfl⟩, trivial⟩ fun a399 h400 => ?_
                    clear h397
                    refine wpAnyK_done (by kernel_rfl) ?_ _
                    refine hK393 _ _ ?_
                    clear hK393
                    refine c_split h400 (b := decide (op.n < ((lg.sns.length : Nat) : Int))) rfl (fun hc401 => ?_) (fun hc401 => ?_)
                    ·
                      have hc401f : op.n < ((lg.sns.length : Nat) : Int) := by simpa using hc401
                      have hmm : op.m.tmod 2 ≠ 0 := hc381f
                      obtain ⟨x, hx⟩ := Sx.get_some (xs := lg.sns) (i := op.n.toNat) (by omega)
                      obtain ⟨rb402, cs403, ho, hbr, hlr, hcr, htr, hFr⟩ := Row.open_ (h400.inv.get (j := 2) (r := rl ptC 66 15 lg.sns so sc sF) rfl) (by show 0 < lg.sns.length; omega)
                      simp only at ho hFr
                      subst ho hFr
                      have hcr2 : lg.sns.length ≤ sc := hcr
                      have hlr2 : cs403.length = sc * 15 := hlr
                      have h404 := h400.rowTake (R' := [rl evC 33 3 lg.evs eo ec eF, rl mkC 78 2 lg.mks mo mc mF]) (r := rl ptC 66 15 lg.sns (some ⟨rb402, 0, none⟩) sc ([rb402])) (List.Perm.refl _) rfl hbr (.inl (by simp)) (kcons (by intro hq; cases hq) (kcons (by intro hq; cases hq) knil))
                      clear h400
                      refine dr_start (KB := [bl, b2, rb402]) (Bi := [[0, 1, 2], [0, 1, 2], [0, 1, 2], [0, 1, 2], [0, 1, 2], [0, 1, 2], [0, 1, 2], [0, 1, 2], [0, 1, 2], [0, 1, 2], [0, 1, 2], [0, 1, 2], []]) mixed h404 fun w405 h406 => ?_
                      clear h404
                      refine dr_batch tabOk tabZ_ok (by repeat (first | exact PF.body | with_reducible apply PF.inB | with_reducible apply PF.next)) [(0, {}), (1, {}), (2, {}), (3, {k := 0, p := 0}), (4, {}), (5, {k := 1, p := 1}), (6, {}), (7, {}), (8, {k := 1, p := 1}), (9, {}), (10, {}), (11, {})] [3, 0, 1, 134, 137] (T' := [(3, .pointer (some ⟨b2, 0, none⟩)), (0, .pointer (some ⟨bl, 0, none⟩)), (1, .agg #[.int .u8 op.kind, .int .i64 op.n, .int .i64 op.m, .int .u8 op.ev.kind, .int .u32 op.ev.pick, .int .u64 op.ev.arg]), (134, .int .u64 op.ev.arg), (137, .pointer (some ⟨rb402, 0 + (op.n.toNat * 15) + 12 + 2, none⟩))]) (φ := (bl = bl ∧ Nat.ble (17 + 1) 18 = true) ∧ (b2 = b2 ∧ Nat.ble (1 + 1) 6 = true) ∧ (b2 = b2 ∧ Nat.ble (5 + 1) 6 = true) ∧ (0 ≤ op.n ∧ op.n < ((lg.sns.length : Nat) : Int)) ∧ True) (fuel := 1) h406 (by kernel_rfl) rfl (by kernel_rfl) (by kernel_rfl) ⟨trivial, trivial, trivial, rfl, trivial, rfl, trivial, trivial, rfl, trivial, trivial, trivial, trivial⟩ ⟨⟨rfl, rfl⟩, ⟨rfl, rfl⟩, ⟨rfl, rfl⟩, ⟨by omega, by omega⟩, trivial⟩ fun a408 h409 => ?_
                      clear h406
                      refine wpAnyK_one (i := 12) (fuel := 0) (by kernel_rfl) ?_
                      refine op_store tabOk {k := 2, m := 1, vs := (splice cs403 (op.n.toNat * 15 + 14) [.int .u64 op.ev.arg])} (L' := [(bl, ⟨logC lg.base (.slice eo lg.evs.length ec) (.slice mo lg.mks.length mc) (.slice (some ⟨rb402, 0, none⟩) lg.sns.length sc), 69, false⟩), (b2, ⟨[.int .u8 op.kind, .int .i64 op.n, .int .i64 op.m, .int .u8 op.ev.kind, .int .u32 op.ev.pick, .int .u64 op.ev.arg], 35, false⟩), (rb402, ⟨(splice cs403 (op.n.toNat * 15 + 14) [.int .u64 op.ev.arg]), 66, false⟩)]) (φ := rb402 = rb402 ∧ Nat.ble (0 + (op.n.toNat * 15) + 12 + 2 + 1) cs403.length = true ∧ splice cs403 (0 + (op.n.toNat * 15) + 12 + 2) [.int .u64 op.ev.arg] = (splice cs403 (op.n.toNat * 15 + 14) [.int .u64 op.ev.arg])) h409 rfl rfl rfl (by kernel_rfl) ⟨rfl, (by rw [Nat.ble_eq]; omega), (by simp only [Nat.zero_add, Nat.add_zero, Nat.add_assoc])⟩ fun w410 h411 => ?_
                      have hkh411 := h409.known
                      refine ⟨keepNil, ?_⟩
                      clear h409
                      refine wpAnyK_done (by kernel_rfl) ?_ _
                      have hT : tampR lg op = ({ lg with sns := lg.sns.set op.n.toNat ({ x with out := { x.out with value := op.ev.arg } } : Pt) } : Lg) := by have he : edS op x = ({ x with out := { x.out with value := op.ev.arg } } : Pt) := (by unfold edS; rw [if_neg hmm]); unfold tampR; rw [if_neg (by omega), if_neg (by omega), if_pos (by omega)]; simp only [hx, he]
                      have hrow : (rl ptC 66 15 (lg.sns.set op.n.toNat ({ x with out := { x.out with value := op.ev.arg } } : Pt)) (some ⟨rb402, 0, none⟩) sc ([rb402])).at _ := row_set (off := 14) (vs := [.int .u64 op.ev.arg]) ptC_len (by simp) hx rfl hlr2 hcr2 htr (h411.kn (k := 2) (blk := ⟨(splice cs403 (op.n.toNat * 15 + 14) [.int .u64 op.ev.arg]), 66, false⟩) rfl)
                      have h412 := h411.rowOf (L := [(bl, ⟨logC lg.base (.slice eo lg.evs.length ec) (.slice mo lg.mks.length mc) (.slice (some ⟨rb402, 0, none⟩) lg.sns.length sc), 69, false⟩), (b2, ⟨[.int .u8 op.kind, .int .i64 op.n, .int .i64 op.m, .int .u8 op.ev.kind, .int .u32 op.ev.pick, .int .u64 op.ev.arg], 35, false⟩)]) (r := rl ptC 66 15 (lg.sns.set op.n.toNat ({ x with out := { x.out with value := op.ev.arg } } : Pt)) (some ⟨rb402, 0, none⟩) sc ([rb402])) rfl hrow
                      have hlen2 : (lg.sns.set op.n.toNat ({ x with out := { x.out with value := op.ev.arg } } : Pt)).length = lg.sns.length := List.length_set
                      try simp only [Exit.then, Exit.inBlock]
                      try rw [if_pos trivial]
                      exact s_end tabOk tabZ_ok h412 [] (vs := []) (φ := True) rfl (by kernel_rfl) trivial ⟨rfl, by rw [hT]; exact LogAt.of (d := ⟨eo, ec, eF, mo, mc, mF, (some ⟨rb402, 0, none⟩), sc, [rb402]⟩) (lg := ({ lg with sns := lg.sns.set op.n.toNat ({ x with out := { x.out with value := op.ev.arg } } : Pt) } : Lg)) (by have hq := h412.kn (k := 0) rfl; rw [← hlen2] at hq; exact hq) (Rws.perm h412.inv (List.Perm.refl _)) hsep, h412.frame⟩
                    ·
                      exact absurd (hc401.symm.trans hb375) (by decide)
                  ·
                    exact absurd (hb395.symm.trans hb374) (by decide)
                ·
                  exact absurd (hb394.symm.trans hb373) (by decide)
            ·
              have hb375f : ¬ (op.n < ((lg.sns.length : Nat) : Int)) := by simpa using hb375
              refine dr_start (KB := [bl, b2]) (Bi := [[0, 1], [0, 1], [0, 1], [0, 1], [0, 1], [0, 1], [0, 1], [0, 1], [0, 1], [0, 1], [0, 1], [0, 1], [0, 1], [0, 1], [0, 1], [0, 1], [0, 1], [0, 1], [0, 1], [0, 1], [0, 1], [0, 1], [0, 1], [0, 1], [0, 1]]) mixed h371 fun w413 h414 => ?_
              clear h371
              refine dr_batch tabOk tabZ_ok (by repeat (first | exact PF.body | with_reducible apply PF.inB | with_reducible apply PF.next)) [(0, {}), (1, {k := 1, p := 1}), (2, {f := 2}), (3, {}), (4, {}), (5, {k := 1, p := 1}), (6, {f := 2}), (7, {}), (8, {}), (9, {}), (10, {k := 1, p := 1}), (11, {}), (12, {}), (13, {}), (14, {k := 0, p := 0}), (15, {}), (16, {f := 1}), (17, {}), (18, {}), (19, {}), (20, {k := 0, p := 0}), (21, {}), (22, {}), (23, {}), (24, {})] [3, 0, 1, 70] (T' := [(3, .pointer (some ⟨b2, 0, none⟩)), (0, .pointer (some ⟨bl, 0, none⟩)), (1, .agg #[.int .u8 op.kind, .int .i64 op.n, .int .i64 op.m, .int .u8 op.ev.kind, .int .u32 op.ev.pick, .int .u64 op.ev.arg]), (70, .bool false)]) (φ := (b2 = b2 ∧ Nat.ble (0 + 1) 6 = true) ∧ ((op.kind == 11)) = true ∧ (b2 = b2 ∧ Nat.ble (1 + 1) 6 = true) ∧ (decide (op.n ≥ 0)) = true ∧ (b2 = b2 ∧ Nat.ble (1 + 1) 6 = true) ∧ (bl = bl ∧ Nat.ble (17 + 1) 18 = true) ∧ (decide (op.n < ((lg.sns.length : Nat) : Int))) = false ∧ True) (fuel := 0) h414 (by kernel_rfl) rfl (by kernel_rfl) (by kernel_rfl) ⟨trivial, rfl, trivial, trivial, trivial, rfl, trivial, trivial, trivial, trivial, rfl, trivial, trivial, trivial, rfl, trivial, trivial, trivial, trivial, trivial, rfl, trivial, trivial, trivial, trivial, trivial⟩ ⟨⟨rfl, rfl⟩, hb373, ⟨rfl, rfl⟩, hb374, ⟨rfl, rfl⟩, ⟨rfl, rfl⟩, hb375, trivial⟩ fun a416 h417 => ?_
              clear h414
              refine wpAnyK_done (by kernel_rfl) ?_ _
              refine hK372 _ _ ?_
              clear hK372
              refine c_false h417 rfl ?_
              refine wp_seq_k fun K418 hK418 => ?_
              rcases Bool.eq_false_or_eq_true ((op.kind == 11)) with hb419 | hb419
              ·
                have hb419f : op.kind = 11 := by simpa using hb419
                rcases Bool.eq_false_or_eq_true (decide (op.n ≥ 0)) with hb420 | hb420
                ·
                  have hb420f : op.n ≥ 0 := by simpa using hb420
                  refine dr_start (KB := [bl, b2]) (Bi := [[0, 1], [0, 1], [0, 1], [0, 1], [0, 1], [0, 1], [0, 1], [0, 1], [0, 1], [0, 1], [0, 1], [0, 1], [0, 1], [0, 1], [0, 1], [0, 1], [0, 1], [0, 1], [0, 1]]) mixed h417 fun w421 h422 => ?_
                  clear h417
                  refine dr_batch tabOk tabZ_ok (by repeat (first | exact PF.body | with_reducible apply PF.inB | with_reducible apply PF.next)) [(0, {}), (1, {k := 1, p := 1}), (2, {f := 2}), (3, {}), (4, {}), (5, {k := 1, p := 1}), (6, {f := 2}), (7, {}), (8, {}), (9, {}), (10, {k := 1, p := 1}), (11, {}), (12, {}), (13, {}), (14, {k := 0, p := 0}), (15, {}), (16, {}), (17, {}), (18, {})] [3, 0, 1, 107] (T' := [(3, .pointer (some ⟨b2, 0, none⟩)), (0, .pointer (some ⟨bl, 0, none⟩)), (1, .agg #[.int .u8 op.kind, .int .i64 op.n, .int .i64 op.m, .int .u8 op.ev.kind, .int .u32 op.ev.pick, .int .u64 op.ev.arg]), (107, .bool (decide (op.n < ((lg.sns.length : Nat) : Int))))]) (φ := (b2 = b2 ∧ Nat.ble (0 + 1) 6 = true) ∧ ((op.kind == 11)) = true ∧ (b2 = b2 ∧ Nat.ble (1 + 1) 6 = true) ∧ (decide (op.n ≥ 0)) = true ∧ (b2 = b2 ∧ Nat.ble (1 + 1) 6 = true) ∧ (bl = bl ∧ Nat.ble (17 + 1) 18 = true) ∧ True) (fuel := 0) h422 (by kernel_rfl) rfl (by kernel_rfl) (by kernel_rfl) ⟨trivial, rfl, trivial, trivial, trivial, rfl, trivial, trivial, trivial, trivial, rfl, trivial, trivial, trivial, rfl, trivial, trivial, trivial, trivial, trivial⟩ ⟨⟨rfl, rfl⟩, hb419, ⟨rfl, rfl⟩, hb420, ⟨rfl, rfl⟩, ⟨rfl, rfl⟩, trivial⟩ fun a424 h425 => ?_
                  clear h422
                  refine wpAnyK_done (by kernel_rfl) ?_ _
                  refine hK418 _ _ ?_
                  clear hK418
                  refine c_split h425 (b := decide (op.n < ((lg.sns.length : Nat) : Int))) rfl (fun hc426 => ?_) (fun hc426 => ?_)
                  ·
                    exact absurd (hc426.symm.trans hb375) (by decide)
                  ·
                    have hc426f : ¬ op.n < ((lg.sns.length : Nat) : Int) := by simpa using hc426
                    refine wp_skip ?_
                    have hT : tampR lg op = lg := by unfold tampR; rw [if_neg (by omega), if_neg (by omega), if_neg (by omega)]
                    try simp only [Exit.then, Exit.inBlock]
                    try rw [if_pos trivial]
                    exact s_end tabOk tabZ_ok h425 [] (vs := []) (φ := True) rfl (by kernel_rfl) trivial ⟨rfl, by rw [hT]; exact LogAt.of (h425.kn (k := 0) rfl) h425.inv hsep, h425.frame⟩
                ·
                  exact absurd (hb420.symm.trans hb374) (by decide)
              ·
                exact absurd (hb419.symm.trans hb373) (by decide)
          ·
            have hb374f : ¬ (op.n ≥ 0) := by simpa using hb374
            refine dr_start (KB := [bl, b2]) (Bi := [[0, 1], [0, 1], [0, 1], [0, 1], [0, 1], [0, 1], [0, 1], [0, 1], [0, 1], [0, 1], [0, 1], [0, 1], [0, 1], [0, 1], [0, 1], [0, 1], [0, 1], [0, 1], [0, 1], [0, 1], [0, 1], [0, 1], [0, 1], [0, 1], [0, 1]]) mixed h371 fun w427 h428 => ?_
            clear h371
            refine dr_batch tabOk tabZ_ok (by repeat (first | exact PF.body | with_reducible apply PF.inB | with_reducible apply PF.next)) [(0, {}), (1, {k := 1, p := 1}), (2, {f := 2}), (3, {}), (4, {}), (5, {k := 1, p := 1}), (6, {f := 1}), (7, {}), (8, {}), (9, {}), (10, {k := 0, p := 0}), (11, {}), (12, {}), (13, {}), (14, {k := 0, p := 0}), (15, {}), (16, {}), (17, {}), (18, {}), (19, {}), (20, {k := 0, p := 0}), (21, {}), (22, {}), (23, {}), (24, {})] [3, 0, 1, 70] (T' := [(3, .pointer (some ⟨b2, 0, none⟩)), (0, .pointer (some ⟨bl, 0, none⟩)), (1, .agg #[.int .u8 op.kind, .int .i64 op.n, .int .i64 op.m, .int .u8 op.ev.kind, .int .u32 op.ev.pick, .int .u64 op.ev.arg]), (70, .bool false)]) (φ := (b2 = b2 ∧ Nat.ble (0 + 1) 6 = true) ∧ ((op.kind == 11)) = true ∧ (b2 = b2 ∧ Nat.ble (1 + 1) 6 = true) ∧ (decide (op.n ≥ 0)) = false ∧ True) (fuel := 0) h428 (by kernel_rfl) rfl (by kernel_rfl) (by kernel_rfl) ⟨trivial, rfl, trivial, trivial, trivial, rfl, trivial, trivial, trivial, trivial, rfl, trivial, trivial, trivial, rfl, trivial, trivial, trivial, trivial, trivial, rfl, trivial, trivial, trivial, trivial, trivial⟩ ⟨⟨rfl, rfl⟩, hb373, ⟨rfl, rfl⟩, hb374, trivial⟩ fun a430 h431 => ?_
            clear h428
            refine wpAnyK_done (by kernel_rfl) ?_ _
            refine hK372 _ _ ?_
            clear hK372
            refine c_false h431 rfl ?_
            refine wp_seq_k fun K432 hK432 => ?_
            rcases Bool.eq_false_or_eq_true ((op.kind == 11)) with hb433 | hb433
            ·
              have hb433f : op.kind = 11 := by simpa using hb433
              rcases Bool.eq_false_or_eq_true (decide (op.n ≥ 0)) with hb434 | hb434
              ·
                exact absurd (hb434.symm.trans hb374) (by decide)
              ·
                have hb434f : ¬ (op.n ≥ 0) := by simpa using hb434
                refine dr_start (KB := [bl, b2]) (Bi := [[0, 1], [0, 1], [0, 1], [0, 1], [0, 1], [0, 1], [0, 1], [0, 1], [0, 1], [0, 1], [0, 1], [0, 1], [0, 1], [0, 1], [0, 1], [0, 1], [0, 1], [0, 1], [0, 1]]) mixed h431 fun w435 h436 => ?_
                clear h431
                refine dr_batch tabOk tabZ_ok (by repeat (first | exact PF.body | with_reducible apply PF.inB | with_reducible apply PF.next)) [(0, {}), (1, {k := 1, p := 1}), (2, {f := 2}), (3, {}), (4, {}), (5, {k := 1, p := 1}), (6, {f := 1}), (7, {}), (8, {}), (9, {}), (10, {k := 0, p := 0}), (11, {}), (12, {}), (13, {}), (14, {k := 0, p := 0}), (15, {}), (16, {}), (17, {}), (18, {})] [3, 0, 1, 107] (T' := [(3, .pointer (some ⟨b2, 0, none⟩)), (0, .pointer (some ⟨bl, 0, none⟩)), (1, .agg #[.int .u8 op.kind, .int .i64 op.n, .int .i64 op.m, .int .u8 op.ev.kind, .int .u32 op.ev.pick, .int .u64 op.ev.arg]), (107, .bool false)]) (φ := (b2 = b2 ∧ Nat.ble (0 + 1) 6 = true) ∧ ((op.kind == 11)) = true ∧ (b2 = b2 ∧ Nat.ble (1 + 1) 6 = true) ∧ (decide (op.n ≥ 0)) = false ∧ True) (fuel := 0) h436 (by kernel_rfl) rfl (by kernel_rfl) (by kernel_rfl) ⟨trivial, rfl, trivial, trivial, trivial, rfl, trivial, trivial, trivial, trivial, rfl, trivial, trivial, trivial, rfl, trivial, trivial, trivial, trivial, trivial⟩ ⟨⟨rfl, rfl⟩, hb433, ⟨rfl, rfl⟩, hb434, trivial⟩ fun a438 h439 => ?_
                clear h436
                refine wpAnyK_done (by kernel_rfl) ?_ _
                refine hK432 _ _ ?_
                clear hK432
                refine c_false h439 rfl ?_
                refine wp_skip ?_
                have hT : tampR lg op = lg := by unfold tampR; rw [if_neg (by omega), if_neg (by omega), if_neg (by omega)]
                try simp only [Exit.then, Exit.inBlock]
                try rw [if_pos trivial]
                exact s_end tabOk tabZ_ok h439 [] (vs := []) (φ := True) rfl (by kernel_rfl) trivial ⟨rfl, by rw [hT]; exact LogAt.of (h439.kn (k := 0) rfl) h439.inv hsep, h439.frame⟩
            ·
              exact absurd (hb433.symm.trans hb373) (by decide)
        ·
          have hb373f : op.kind ≠ 11 := by simpa using hb373
          refine dr_start (KB := [bl, b2]) (Bi := [[0, 1], [0, 1], [0, 1], [0, 1], [0, 1], [0, 1], [0, 1], [0, 1], [0, 1], [0, 1], [0, 1], [0, 1], [0, 1], [0, 1], [0, 1], [0, 1], [0, 1], [0, 1], [0, 1], [0, 1], [0, 1], [0, 1], [0, 1], [0, 1], [0, 1]]) mixed h371 fun w440 h441 => ?_
          clear h371
          refine dr_batch tabOk tabZ_ok (by repeat (first | exact PF.body | with_reducible apply PF.inB | with_reducible apply PF.next)) [(0, {}), (1, {k := 1, p := 1}), (2, {f := 1}), (3, {}), (4, {}), (5, {k := 0, p := 0}), (6, {}), (7, {}), (8, {}), (9, {}), (10, {k := 0, p := 0}), (11, {}), (12, {}), (13, {}), (14, {k := 0, p := 0}), (15, {}), (16, {}), (17, {}), (18, {}), (19, {}), (20, {k := 0, p := 0}), (21, {}), (22, {}), (23, {}), (24, {})] [3, 0, 1, 70] (T' := [(3, .pointer (some ⟨b2, 0, none⟩)), (0, .pointer (some ⟨bl, 0, none⟩)), (1, .agg #[.int .u8 op.kind, .int .i64 op.n, .int .i64 op.m, .int .u8 op.ev.kind, .int .u32 op.ev.pick, .int .u64 op.ev.arg]), (70, .bool false)]) (φ := (b2 = b2 ∧ Nat.ble (0 + 1) 6 = true) ∧ ((op.kind == 11)) = false ∧ True) (fuel := 0) h441 (by kernel_rfl) rfl (by kernel_rfl) (by kernel_rfl) ⟨trivial, rfl, trivial, trivial, trivial, rfl, trivial, trivial, trivial, trivial, rfl, trivial, trivial, trivial, rfl, trivial, trivial, trivial, trivial, trivial, rfl, trivial, trivial, trivial, trivial, trivial⟩ ⟨⟨rfl, rfl⟩, hb373, trivial⟩ fun a443 h444 => ?_
          clear h441
          refine wpAnyK_done (by kernel_rfl) ?_ _
          refine hK372 _ _ ?_
          clear hK372
          refine c_false h444 rfl ?_
          refine wp_seq_k fun K445 hK445 => ?_
          rcases Bool.eq_false_or_eq_true ((op.kind == 11)) with hb446 | hb446
          ·
            exact absurd (hb446.symm.trans hb373) (by decide)
          ·
            have hb446f : op.kind ≠ 11 := by simpa using hb446
            refine dr_start (KB := [bl, b2]) (Bi := [[0, 1], [0, 1], [0, 1], [0, 1], [0, 1], [0, 1], [0, 1], [0, 1], [0, 1], [0, 1], [0, 1], [0, 1], [0, 1], [0, 1], [0, 1], [0, 1], [0, 1], [0, 1], [0, 1]]) mixed h444 fun w447 h448 => ?_
            clear h444
            refine dr_batch tabOk tabZ_ok (by repeat (first | exact PF.body | with_reducible apply PF.inB | with_reducible apply PF.next)) [(0, {}), (1, {k := 1, p := 1}), (2, {f := 1}), (3, {}), (4, {}), (5, {k := 0, p := 0}), (6, {}), (7, {}), (8, {}), (9, {}), (10, {k := 0, p := 0}), (11, {}), (12, {}), (13, {}), (14, {k := 0, p := 0}), (15, {}), (16, {}), (17, {}), (18, {})] [3, 0, 1, 107] (T' := [(3, .pointer (some ⟨b2, 0, none⟩)), (0, .pointer (some ⟨bl, 0, none⟩)), (1, .agg #[.int .u8 op.kind, .int .i64 op.n, .int .i64 op.m, .int .u8 op.ev.kind, .int .u32 op.ev.pick, .int .u64 op.ev.arg]), (107, .bool false)]) (φ := (b2 = b2 ∧ Nat.ble (0 + 1) 6 = true) ∧ ((op.kind == 11)) = false ∧ True) (fuel := 0) h448 (by kernel_rfl) rfl (by kernel_rfl) (by kernel_rfl) ⟨trivial, rfl, trivial, trivial, trivial, rfl, trivial, trivial, trivial, trivial, rfl, trivial, trivial, trivial, rfl, trivial, trivial, trivial, trivial, trivial⟩ ⟨⟨rfl, rfl⟩, hb446, trivial⟩ fun a450 h451 => ?_
            clear h448
            refine wpAnyK_done (by kernel_rfl) ?_ _
            refine hK445 _ _ ?_
            clear hK445
            refine c_false h451 rfl ?_
            refine wp_skip ?_
            have hT : tampR lg op = lg := by unfold tampR; rw [if_neg (by omega), if_neg (by omega), if_neg (by omega)]
            try simp only [Exit.then, Exit.inBlock]
            try rw [if_pos trivial]
            exact s_end tabOk tabZ_ok h451 [] (vs := []) (φ := True) rfl (by kernel_rfl) trivial ⟨rfl, by rw [hT]; exact LogAt.of (h451.kn (k := 0) rfl) h451.inv hsep, h451.frame⟩
  ·
    have hb9f : op.kind ≠ 9 := by simpa using hb9
    refine dr_start (KB := [bl, b2]) (Bi := [[0, 1], [0, 1], [0, 1], [0, 1], [0, 1], [0, 1], [0, 1], [0, 1], [0, 1], [0, 1], [0, 1], [0, 1], [0, 1], [0, 1], [0, 1], [0, 1], [0, 1], [0], [0, 1], [0, 1], [0, 1]]) mixed h5 fun w452 h453 => ?_
    clear h5
    refine dr_batch tabOk tabZ_ok (by repeat (first | exact PF.body | with_reducible apply PF.inB | with_reducible apply PF.next)) [(0, {}), (1, {k := 1, p := 1}), (2, {f := 1}), (3, {}), (4, {}), (5, {k := 0, p := 0}), (6, {}), (7, {}), (8, {}), (9, {}), (10, {k := 0, p := 0}), (11, {}), (12, {}), (13, {}), (14, {}), (15, {k := 0, p := 0}), (16, {})] [3, 0, 1, 18, 20, 21] (T' := [(3, .pointer (some ⟨b2, 0, none⟩)), (0, .pointer (some ⟨bl, 0, none⟩)), (1, .agg #[.int .u8 op.kind, .int .i64 op.n, .int .i64 op.m, .int .u8 op.ev.kind, .int .u32 op.ev.pick, .int .u64 op.ev.arg]), (18, .bool false), (20, .tuple #[]), (21, .tuple #[])]) (φ := (b2 = b2 ∧ Nat.ble (0 + 1) 6 = true) ∧ ((op.kind == 9)) = false ∧ True) (fuel := 4) h453 (by kernel_rfl) rfl (by kernel_rfl) (by kernel_rfl) ⟨trivial, rfl, trivial, trivial, trivial, rfl, trivial, trivial, trivial, trivial, rfl, trivial, trivial, trivial, trivial, rfl, trivial, trivial⟩ ⟨⟨rfl, rfl⟩, hb9, trivial⟩ fun a455 h456 => ?_
    clear h453
    refine dr_batch tabOk tabZ_ok (by repeat (first | exact PF.body | with_reducible apply PF.inB | with_reducible apply PF.next)) [(17, {})] [3, 0, 1, 18, 20, 22] (T' := [(3, .pointer (some ⟨b2, 0, none⟩)), (0, .pointer (some ⟨bl, 0, none⟩)), (1, .agg #[.int .u8 op.kind, .int .i64 op.n, .int .i64 op.m, .int .u8 op.ev.kind, .int .u32 op.ev.pick, .int .u64 op.ev.arg]), (18, .bool false), (20, .tuple #[]), (22, .tuple #[])]) (φ := True) (fuel := 3) h456 (by kernel_rfl) rfl (by kernel_rfl) (by kernel_rfl) ⟨trivial, trivial⟩ trivial fun a457 h458 => ?_
    clear h456
    refine dr_batch tabOk tabZ_ok (by repeat (first | exact PF.body | with_reducible apply PF.inB | with_reducible apply PF.next)) [(18, {}), (19, {}), (20, {})] [3, 0, 1, 4] (T' := [(3, .pointer (some ⟨b2, 0, none⟩)), (0, .pointer (some ⟨bl, 0, none⟩)), (1, .agg #[.int .u8 op.kind, .int .i64 op.n, .int .i64 op.m, .int .u8 op.ev.kind, .int .u32 op.ev.pick, .int .u64 op.ev.arg]), (4, .bool false)]) (φ := True) (fuel := 0) h458 (by kernel_rfl) rfl (by kernel_rfl) (by kernel_rfl) ⟨trivial, trivial, trivial, trivial⟩ trivial fun a459 h460 => ?_
    clear h458
    refine wpAnyK_done (by kernel_rfl) ?_ _
    refine hK8 _ _ ?_
    clear hK8
    refine c_false h460 rfl ?_
    refine wp_seq_k fun K461 hK461 => ?_
    rcases Bool.eq_false_or_eq_true ((op.kind == 10)) with hb462 | hb462
    ·
      have hb462f : op.kind = 10 := by simpa using hb462
      rcases Bool.eq_false_or_eq_true (decide (op.n ≥ 0)) with hb463 | hb463
      ·
        have hb463f : op.n ≥ 0 := by simpa using hb463
        refine dr_start (KB := [bl, b2]) (Bi := [[0, 1], [0, 1], [0, 1], [0, 1], [0, 1], [0, 1], [0, 1], [0, 1], [0, 1], [0, 1], [0, 1], [0, 1], [0, 1], [0, 1], [0, 1], [0, 1], [0, 1], [0, 1], [0, 1]]) mixed h460 fun w464 h465 => ?_
        clear h460
        refine dr_batch tabOk tabZ_ok (by repeat (first | exact PF.body | with_reducible apply PF.inB | with_reducible apply PF.next)) [(0, {}), (1, {k := 1, p := 1}), (2, {f := 2}), (3, {}), (4, {}), (5, {k := 1, p := 1}), (6, {f := 2}), (7, {}), (8, {}), (9, {}), (10, {k := 1, p := 1}), (11, {}), (12, {}), (13, {}), (14, {k := 0, p := 0}), (15, {}), (16, {}), (17, {}), (18, {})] [3, 0, 1, 40] (T' := [(3, .pointer (some ⟨b2, 0, none⟩)), (0, .pointer (some ⟨bl, 0, none⟩)), (1, .agg #[.int .u8 op.kind, .int .i64 op.n, .int .i64 op.m, .int .u8 op.ev.kind, .int .u32 op.ev.pick, .int .u64 op.ev.arg]), (40, .bool (decide (op.n < ((lg.mks.length : Nat) : Int))))]) (φ := (b2 = b2 ∧ Nat.ble (0 + 1) 6 = true) ∧ ((op.kind == 10)) = true ∧ (b2 = b2 ∧ Nat.ble (1 + 1) 6 = true) ∧ (decide (op.n ≥ 0)) = true ∧ (b2 = b2 ∧ Nat.ble (1 + 1) 6 = true) ∧ (bl = bl ∧ Nat.ble (16 + 1) 18 = true) ∧ True) (fuel := 0) h465 (by kernel_rfl) rfl (by kernel_rfl) (by kernel_rfl) ⟨trivial, rfl, trivial, trivial, trivial, rfl, trivial, trivial, trivial, trivial, rfl, trivial, trivial, trivial, rfl, trivial, trivial, trivial, trivial, trivial⟩ ⟨⟨rfl, rfl⟩, hb462, ⟨rfl, rfl⟩, hb463, ⟨rfl, rfl⟩, ⟨rfl, rfl⟩, trivial⟩ fun a467 h468 => ?_
        clear h465
        refine wpAnyK_done (by kernel_rfl) ?_ _
        refine hK461 _ _ ?_
        clear hK461
        refine c_split h468 (b := decide (op.n < ((lg.mks.length : Nat) : Int))) rfl (fun hc469 => ?_) (fun hc469 => ?_)
        ·
          have hc469f : op.n < ((lg.mks.length : Nat) : Int) := by simpa using hc469
          obtain ⟨x, hx⟩ := Sx.get_some (xs := lg.mks) (i := op.n.toNat) (by omega)
          obtain ⟨rb470, cs471, ho, hbr, hlr, hcr, htr, hFr⟩ := Row.open_ (h468.inv.get (j := 1) (r := rl mkC 78 2 lg.mks mo mc mF) rfl) (by show 0 < lg.mks.length; omega)
          simp only at ho hFr
          subst ho hFr
          have hcr2 : lg.mks.length ≤ mc := hcr
          have hlr2 : cs471.length = mc * 2 := hlr
          have h472 := h468.rowTake (R' := [rl evC 33 3 lg.evs eo ec eF, rl ptC 66 15 lg.sns so sc sF]) (r := rl mkC 78 2 lg.mks (some ⟨rb470, 0, none⟩) mc ([rb470])) (List.Perm.cons _ (List.Perm.swap _ _ _)) rfl hbr (.inl (by simp)) (kcons (by intro hq; cases hq) (kcons (by intro hq; cases hq) knil))
          clear h468
          refine dr_start (KB := [bl, b2, rb470]) (Bi := [[0, 1, 2], [0, 1, 2], [0, 1, 2], [0, 1, 2], [0, 1, 2], [0, 1, 2], [0, 1, 2], [0, 1, 2], [0, 1, 2], [0, 1, 2], [0, 1, 2], []]) mixed h472 fun w473 h474 => ?_
          clear h472
          refine dr_batch tabOk tabZ_ok (by repeat (first | exact PF.body | with_reducible apply PF.inB | with_reducible apply PF.next)) [(0, {}), (1, {}), (2, {}), (3, {k := 0, p := 0}), (4, {}), (5, {k := 1, p := 1}), (6, {}), (7, {}), (8, {k := 1, p := 1}), (9, {}), (10, {})] [3, 0, 1, 67, 69] (T' := [(3, .pointer (some ⟨b2, 0, none⟩)), (0, .pointer (some ⟨bl, 0, none⟩)), (1, .agg #[.int .u8 op.kind, .int .i64 op.n, .int .i64 op.m, .int .u8 op.ev.kind, .int .u32 op.ev.pick, .int .u64 op.ev.arg]), (67, .int .u64 op.ev.arg), (69, .pointer (some ⟨rb470, 0 + (op.n.toNat * 2) + 1, none⟩))]) (φ := (bl = bl ∧ Nat.ble (16 + 1) 18 = true) ∧ (b2 = b2 ∧ Nat.ble (1 + 1) 6 = true) ∧ (b2 = b2 ∧ Nat.ble (5 + 1) 6 = true) ∧ (0 ≤ op.n ∧ op.n < ((lg.mks.length : Nat) : Int)) ∧ True) (fuel := 1) h474 (by kernel_rfl) rfl (by kernel_rfl) (by kernel_rfl) ⟨trivial, trivial, trivial, rfl, trivial, rfl, trivial, trivial, rfl, trivial, trivial, trivial⟩ ⟨⟨rfl, rfl⟩, ⟨rfl, rfl⟩, ⟨rfl, rfl⟩, ⟨by omega, by omega⟩, trivial⟩ fun a476 h477 => ?_
          clear h474
          refine wpAnyK_one (i := 11) (fuel := 0) (by kernel_rfl) ?_
          refine op_store tabOk {k := 2, m := 1, vs := (splice cs471 (op.n.toNat * 2 + 1) [.int .u64 op.ev.arg])} (L' := [(bl, ⟨logC lg.base (.slice eo lg.evs.length ec) (.slice (some ⟨rb470, 0, none⟩) lg.mks.length mc) (.slice so lg.sns.length sc), 69, false⟩), (b2, ⟨[.int .u8 op.kind, .int .i64 op.n, .int .i64 op.m, .int .u8 op.ev.kind, .int .u32 op.ev.pick, .int .u64 op.ev.arg], 35, false⟩), (rb470, ⟨(splice cs471 (op.n.toNat * 2 + 1) [.int .u64 op.ev.arg]), 78, false⟩)]) (φ := rb470 = rb470 ∧ Nat.ble (0 + (op.n.toNat * 2) + 1 + 1) cs471.length = true ∧ splice cs471 (0 + (op.n.toNat * 2) + 1) [.int .u64 op.ev.arg] = (splice cs471 (op.n.toNat * 2 + 1) [.int .u64 op.ev.arg])) h477 rfl rfl rfl (by kernel_rfl) ⟨rfl, (by rw [Nat.ble_eq]; omega), (by simp only [Nat.zero_add, Nat.add_zero, Nat.add_assoc])⟩ fun w478 h479 => ?_
          have hkh479 := h477.known
          refine ⟨keepNil, ?_⟩
          clear h477
          refine wpAnyK_done (by kernel_rfl) ?_ _
          have hT : tampR lg op = ({ lg with mks := lg.mks.set op.n.toNat ({ x with sum := op.ev.arg } : Mk) } : Lg) := by unfold tampR; rw [if_neg (by omega), if_pos (by omega)]; simp only [hx]
          have hrow : (rl mkC 78 2 (lg.mks.set op.n.toNat ({ x with sum := op.ev.arg } : Mk)) (some ⟨rb470, 0, none⟩) mc ([rb470])).at _ := row_set (off := 1) (vs := [.int .u64 op.ev.arg]) mkC_len (by simp) hx rfl hlr2 hcr2 htr (h479.kn (k := 2) (blk := ⟨(splice cs471 (op.n.toNat * 2 + 1) [.int .u64 op.ev.arg]), 78, false⟩) rfl)
          have h480 := h479.rowOf (L := [(bl, ⟨logC lg.base (.slice eo lg.evs.length ec) (.slice (some ⟨rb470, 0, none⟩) lg.mks.length mc) (.slice so lg.sns.length sc), 69, false⟩), (b2, ⟨[.int .u8 op.kind, .int .i64 op.n, .int .i64 op.m, .int .u8 op.ev.kind, .int .u32 op.ev.pick, .int .u64 op.ev.arg], 35, false⟩)]) (r := rl mkC 78 2 (lg.mks.set op.n.toNat ({ x with sum := op.ev.arg } : Mk)) (some ⟨rb470, 0, none⟩) mc ([rb470])) rfl hrow
          have hlen2 : (lg.mks.set op.n.toNat ({ x with sum := op.ev.arg } : Mk)).length = lg.mks.length := List.length_set
          try simp only [Exit.then, Exit.inBlock]
          try rw [if_pos trivial]
          exact s_end tabOk tabZ_ok h480 [] (vs := []) (φ := True) rfl (by kernel_rfl) trivial ⟨rfl, by rw [hT]; exact LogAt.of (d := ⟨eo, ec, eF, (some ⟨rb470, 0, none⟩), mc, [rb470], so, sc, sF⟩) (lg := ({ lg with mks := lg.mks.set op.n.toNat ({ x with sum := op.ev.arg } : Mk) } : Lg)) (by have hq := h480.kn (k := 0) rfl; rw [← hlen2] at hq; exact hq) (Rws.perm h480.inv (List.Perm.cons _ (List.Perm.swap _ _ _))) hsep, h480.frame⟩
        ·
          have hc469f : ¬ op.n < ((lg.mks.length : Nat) : Int) := by simpa using hc469
          refine wp_seq_k fun K481 hK481 => ?_
          rcases Bool.eq_false_or_eq_true ((op.kind == 11)) with hb482 | hb482
          ·
            have hb482f : op.kind = 11 := by simpa using hb482
            rcases Bool.eq_false_or_eq_true (decide (op.n ≥ 0)) with hb483 | hb483
            ·
              have hb483f : op.n ≥ 0 := by simpa using hb483
              rcases Bool.eq_false_or_eq_true (decide (op.n < ((lg.sns.length : Nat) : Int))) with hb484 | hb484
              ·
                have hb484f : op.n < ((lg.sns.length : Nat) : Int) := by simpa using hb484
                refine dr_start (KB := [bl, b2]) (Bi := [[0, 1], [0, 1], [0, 1], [0, 1], [0, 1], [0, 1], [0, 1], [0, 1], [0, 1], [0, 1], [0, 1], [0, 1], [0, 1], [0, 1], [0, 1], [0, 1], [0, 1], [0, 1], [0, 1], [0, 1], [0, 1], [0, 1], [0, 1], [0, 1], [0, 1]]) mixed h468 fun w485 h486 => ?_
                clear h468
                refine dr_batch tabOk tabZ_ok (by repeat (first | exact PF.body | with_reducible apply PF.inB | with_reducible apply PF.next)) [(0, {}), (1, {k := 1, p := 1}), (2, {f := 2}), (3, {}), (4, {}), (5, {k := 1, p := 1}), (6, {f := 2}), (7, {}), (8, {}), (9, {}), (10, {k := 1, p := 1}), (11, {}), (12, {}), (13, {}), (14, {k := 0, p := 0}), (15, {}), (16, {f := 2}), (17, {}), (18, {}), (19, {}), (20, {k := 1, p := 1}), (21, {m := 1}), (22, {}), (23, {}), (24, {})] [3, 0, 1, 70] (T' := [(3, .pointer (some ⟨b2, 0, none⟩)), (0, .pointer (some ⟨bl, 0, none⟩)), (1, .agg #[.int .u8 op.kind, .int .i64 op.n, .int .i64 op.m, .int .u8 op.ev.kind, .int .u32 op.ev.pick, .int .u64 op.ev.arg]), (70, .bool ((op.m.tmod 2) == 0))]) (φ := (b2 = b2 ∧ Nat.ble (0 + 1) 6 = true) ∧ ((op.kind == 11)) = true ∧ (b2 = b2 ∧ Nat.ble (1 + 1) 6 = true) ∧ (decide (op.n ≥ 0)) = true ∧ (b2 = b2 ∧ Nat.ble (1 + 1) 6 = true) ∧ (bl = bl ∧ Nat.ble (17 + 1) 18 = true) ∧ (decide (op.n < ((lg.sns.length : Nat) : Int))) = true ∧ (b2 = b2 ∧ Nat.ble (2 + 1) 6 = true) ∧ (2 : Int) ≠ 0 ∧ True) (fuel := 0) h486 (by kernel_rfl) rfl (by kernel_rfl) (by kernel_rfl) ⟨trivial, rfl, trivial, trivial, trivial, rfl, trivial, trivial, trivial, trivial, rfl, trivial, trivial, trivial, rfl, trivial, trivial, trivial, trivial, trivial, rfl, trivial, trivial, trivial, trivial, trivial⟩ ⟨⟨rfl, rfl⟩, hb482, ⟨rfl, rfl⟩, hb483, ⟨rfl, rfl⟩, ⟨rfl, rfl⟩, hb484, ⟨rfl, rfl⟩, (by decide), trivial⟩ fun a488 h489 => ?_
                clear h486
                refine wpAnyK_done (by kernel_rfl) ?_ _
                refine hK481 _ _ ?_
                clear hK481
                refine c_split h489 (b := ((op.m.tmod 2) == 0)) rfl (fun hc490 => ?_) (fun hc490 => ?_)
                ·
                  have hc490f : (op.m.tmod 2) = 0 := by simpa using hc490
                  have hmm : op.m.tmod 2 = 0 := hc490f
                  obtain ⟨x, hx⟩ := Sx.get_some (xs := lg.sns) (i := op.n.toNat) (by omega)
                  obtain ⟨rb491, cs492, ho, hbr, hlr, hcr, htr, hFr⟩ := Row.open_ (h489.inv.get (j := 2) (r := rl ptC 66 15 lg.sns so sc sF) rfl) (by show 0 < lg.sns.length; omega)
                  simp only at ho hFr
                  subst ho hFr
                  have hcr2 : lg.sns.length ≤ sc := hcr
                  have hlr2 : cs492.length = sc * 15 := hlr
                  have h493 := h489.rowTake (R' := [rl evC 33 3 lg.evs eo ec eF, rl mkC 78 2 lg.mks mo mc mF]) (r := rl ptC 66 15 lg.sns (some ⟨rb491, 0, none⟩) sc ([rb491])) (List.Perm.refl _) rfl hbr (.inl (by simp)) (kcons (by intro hq; cases hq) (kcons (by intro hq; cases hq) knil))
                  clear h489
                  refine dr_start (KB := [bl, b2, rb491]) (Bi := [[0, 1, 2], [0, 1, 2], [0, 1, 2], [0, 1, 2], [0, 1, 2], [0, 1, 2], [0, 1, 2], [0, 1, 2], [0, 1, 2], [0, 1, 2], [0, 1, 2], [0, 1, 2], []]) mixed h493 fun w494 h495 => ?_
                  clear h493
                  refine dr_batch tabOk tabZ_ok (by repeat (first | exact PF.body | with_reducible apply PF.inB | with_reducible apply PF.next)) [(0, {}), (1, {}), (2, {}), (3, {k := 0, p := 0}), (4, {}), (5, {k := 1, p := 1}), (6, {}), (7, {}), (8, {k := 1, p := 1}), (9, {}), (10, {}), (11, {})] [3, 0, 1, 103, 106] (T' := [(3, .pointer (some ⟨b2, 0, none⟩)), (0, .pointer (some ⟨bl, 0, none⟩)), (1, .agg #[.int .u8 op.kind, .int .i64 op.n, .int .i64 op.m, .int .u8 op.ev.kind, .int .u32 op.ev.pick, .int .u64 op.ev.arg]), (103, .int .u64 op.ev.arg), (106, .pointer (some ⟨rb491, 0 + (op.n.toNat * 15) + 1, none⟩))]) (φ := (bl = bl ∧ Nat.ble (17 + 1) 18 = true) ∧ (b2 = b2 ∧ Nat.ble (1 + 1) 6 = true) ∧ (b2 = b2 ∧ Nat.ble (5 + 1) 6 = true) ∧ (0 ≤ op.n ∧ op.n < ((lg.sns.length : Nat) : Int)) ∧ True) (fuel := 1) h495 (by kernel_rfl) rfl (by kernel_rfl) (by kernel_rfl) ⟨trivial, trivial, trivial, rfl, trivial, rfl, trivial, trivial, rfl, trivial, trivial, trivial, trivial⟩ ⟨⟨rfl, rfl⟩, ⟨rfl, rfl⟩, ⟨rfl, rfl⟩, ⟨by omega, by omega⟩, trivial⟩ fun a497 h498 => ?_
                  clear h495
                  refine wpAnyK_one (i := 12) (fuel := 0) (by kernel_rfl) ?_
                  refine op_store tabOk {k := 2, m := 1, vs := (splice cs492 (op.n.toNat * 15 + 1) [.int .u64 op.ev.arg])} (L' := [(bl, ⟨logC lg.base (.slice eo lg.evs.length ec) (.slice mo lg.mks.length mc) (.slice (some ⟨rb491, 0, none⟩) lg.sns.length sc), 69, false⟩), (b2, ⟨[.int .u8 op.kind, .int .i64 op.n, .int .i64 op.m, .int .u8 op.ev.kind, .int .u32 op.ev.pick, .int .u64 op.ev.arg], 35, false⟩), (rb491, ⟨(splice cs492 (op.n.toNat * 15 + 1) [.int .u64 op.ev.arg]), 66, false⟩)]) (φ := rb491 = rb491 ∧ Nat.ble (0 + (op.n.toNat * 15) + 1 + 1) cs492.length = true ∧ splice cs492 (0 + (op.n.toNat * 15) + 1) [.int .u64 op.ev.arg] = (splice cs492 (op.n.toNat * 15 + 1) [.int .u64 op.ev.arg])) h498 rfl rfl rfl (by kernel_rfl) ⟨rfl, (by rw [Nat.ble_eq]; omega), (by simp only [Nat.zero_add, Nat.add_zero, Nat.add_assoc])⟩ fun w499 h500 => ?_
                  have hkh500 := h498.known
                  refine ⟨keepNil, ?_⟩
                  clear h498
                  refine wpAnyK_done (by kernel_rfl) ?_ _
                  have hT : tampR lg op = ({ lg with sns := lg.sns.set op.n.toNat ({ x with st := { x.st with now := op.ev.arg } } : Pt) } : Lg) := by have he : edS op x = ({ x with st := { x.st with now := op.ev.arg } } : Pt) := (by unfold edS; rw [if_pos hmm]); unfold tampR; rw [if_neg (by omega), if_neg (by omega), if_pos (by omega)]; simp only [hx, he]
                  have hrow : (rl ptC 66 15 (lg.sns.set op.n.toNat ({ x with st := { x.st with now := op.ev.arg } } : Pt)) (some ⟨rb491, 0, none⟩) sc ([rb491])).at _ := row_set (off := 1) (vs := [.int .u64 op.ev.arg]) ptC_len (by simp) hx rfl hlr2 hcr2 htr (h500.kn (k := 2) (blk := ⟨(splice cs492 (op.n.toNat * 15 + 1) [.int .u64 op.ev.arg]), 66, false⟩) rfl)
                  have h501 := h500.rowOf (L := [(bl, ⟨logC lg.base (.slice eo lg.evs.length ec) (.slice mo lg.mks.length mc) (.slice (some ⟨rb491, 0, none⟩) lg.sns.length sc), 69, false⟩), (b2, ⟨[.int .u8 op.kind, .int .i64 op.n, .int .i64 op.m, .int .u8 op.ev.kind, .int .u32 op.ev.pick, .int .u64 op.ev.arg], 35, false⟩)]) (r := rl ptC 66 15 (lg.sns.set op.n.toNat ({ x with st := { x.st with now := op.ev.arg } } : Pt)) (some ⟨rb491, 0, none⟩) sc ([rb491])) rfl hrow
                  have hlen2 : (lg.sns.set op.n.toNat ({ x with st := { x.st with now := op.ev.arg } } : Pt)).length = lg.sns.length := List.length_set
                  try simp only [Exit.then, Exit.inBlock]
                  try rw [if_pos trivial]
                  exact s_end tabOk tabZ_ok h501 [] (vs := []) (φ := True) rfl (by kernel_rfl) trivial ⟨rfl, by rw [hT]; exact LogAt.of (d := ⟨eo, ec, eF, mo, mc, mF, (some ⟨rb491, 0, none⟩), sc, [rb491]⟩) (lg := ({ lg with sns := lg.sns.set op.n.toNat ({ x with st := { x.st with now := op.ev.arg } } : Pt) } : Lg)) (by have hq := h501.kn (k := 0) rfl; rw [← hlen2] at hq; exact hq) (Rws.perm h501.inv (List.Perm.refl _)) hsep, h501.frame⟩
                ·
                  have hc490f : (op.m.tmod 2) ≠ 0 := by simpa using hc490
                  refine wp_seq_k fun K502 hK502 => ?_
                  rcases Bool.eq_false_or_eq_true ((op.kind == 11)) with hb503 | hb503
                  ·
                    have hb503f : op.kind = 11 := by simpa using hb503
                    rcases Bool.eq_false_or_eq_true (decide (op.n ≥ 0)) with hb504 | hb504
                    ·
                      have hb504f : op.n ≥ 0 := by simpa using hb504
                      refine dr_start (KB := [bl, b2]) (Bi := [[0, 1], [0, 1], [0, 1], [0, 1], [0, 1], [0, 1], [0, 1], [0, 1], [0, 1], [0, 1], [0, 1], [0, 1], [0, 1], [0, 1], [0, 1], [0, 1], [0, 1], [0, 1], [0, 1]]) mixed h489 fun w505 h506 => ?_
                      clear h489
                      refine dr_batch tabOk tabZ_ok (by repeat (first | exact PF.body | with_reducible apply PF.inB | with_reducible apply PF.next)) [(0, {}), (1, {k := 1, p := 1}), (2, {f := 2}), (3, {}), (4, {}), (5, {k := 1, p := 1}), (6, {f := 2}), (7, {}), (8, {}), (9, {}), (10, {k := 1, p := 1}), (11, {}), (12, {}), (13, {}), (14, {k := 0, p := 0}), (15, {}), (16, {}), (17, {}), (18, {})] [3, 0, 1, 107] (T' := [(3, .pointer (some ⟨b2, 0, none⟩)), (0, .pointer (some ⟨bl, 0, none⟩)), (1, .agg #[.int .u8 op.kind, .int .i64 op.n, .int .i64 op.m, .int .u8 op.ev.kind, .int .u32 op.ev.pick, .int .u64 op.ev.arg]), (107, .bool (decide (op.n < ((lg.sns.length : Nat) : Int))))]) (φ := (b2 = b2 ∧ Nat.ble (0 + 1) 6 = true) ∧ ((op.kind == 11)) = true ∧ (b2 = b2 ∧ Nat.ble (1 + 1) 6 = true) ∧ (decide (op.n ≥ 0)) = true ∧ (b2 = b2 ∧ Nat.ble (1 + 1) 6 = true) ∧ (bl = bl ∧ Nat.ble (17 + 1) 18 = true) ∧ True) (fuel := 0) h506 (by kernel_rfl) rfl (by kernel_rfl) (by kernel_rfl) ⟨trivial, rfl, trivial, trivial, trivial, rfl, trivial, trivial, trivial, trivial, rfl, trivial, trivial, trivial, rfl, trivial, trivial, trivial, trivial, trivial⟩ ⟨⟨rfl, rfl⟩, hb503, ⟨rfl, rfl⟩, hb504, ⟨rfl, rfl⟩, ⟨rfl, rfl⟩, trivial⟩ fun a508 h509 => ?_
                      clear h506
                      refine wpAnyK_done (by kernel_rfl) ?_ _
                      refine hK502 _ _ ?_
                      clear hK502
                      refine c_split h509 (b := decide (op.n < ((lg.sns.length : Nat) : Int))) rfl (fun hc510 => ?_) (fun hc510 => ?_)
                      ·
                        have hc510f : op.n < ((lg.sns.length : Nat) : Int) := by simpa using hc510
                        have hmm : op.m.tmod 2 ≠ 0 := hc490f
                        obtain ⟨x, hx⟩ := Sx.get_some (xs := lg.sns) (i := op.n.toNat) (by omega)
                        obtain ⟨rb511, cs512, ho, hbr, hlr, hcr, htr, hFr⟩ := Row.open_ (h509.inv.get (j := 2) (r := rl ptC 66 15 lg.sns so sc sF) rfl) (by show 0 < lg.sns.length; omega)
                        simp only at ho hFr
                        subst ho hFr
                        have hcr2 : lg.sns.length ≤ sc := hcr
                        have hlr2 : cs512.length = sc * 15 := hlr
                        have h513 := h509.rowTake (R' := [rl evC 33 3 lg.evs eo ec eF, rl mkC 78 2 lg.mks mo mc mF]) (r := rl ptC 66 15 lg.sns (some ⟨rb511, 0, none⟩) sc ([rb511])) (List.Perm.refl _) rfl hbr (.inl (by simp)) (kcons (by intro hq; cases hq) (kcons (by intro hq; cases hq) knil))
                        clear h509
                        refine dr_start (KB := [bl, b2, rb511]) (Bi := [[0, 1, 2], [0, 1, 2], [0, 1, 2], [0, 1, 2], [0, 1, 2], [0, 1, 2], [0, 1, 2], [0, 1, 2], [0, 1, 2], [0, 1, 2], [0, 1, 2], [0, 1, 2], []]) mixed h513 fun w514 h515 => ?_
                        clear h513
                        refine dr_batch tabOk tabZ_ok (by repeat (first | exact PF.body | with_reducible apply PF.inB | with_reducible apply PF.next)) [(0, {}), (1, {}), (2, {}), (3, {k := 0, p := 0}), (4, {}), (5, {k := 1, p := 1}), (6, {}), (7, {}), (8, {k := 1, p := 1}), (9, {}), (10, {}), (11, {})] [3, 0, 1, 134, 137] (T' := [(3, .pointer (some ⟨b2, 0, none⟩)), (0, .pointer (some ⟨bl, 0, none⟩)), (1, .agg #[.int .u8 op.kind, .int .i64 op.n, .int .i64 op.m, .int .u8 op.ev.kind, .int .u32 op.ev.pick, .int .u64 op.ev.arg]), (134, .int .u64 op.ev.arg), (137, .pointer (some ⟨rb511, 0 + (op.n.toNat * 15) + 12 + 2, none⟩))]) (φ := (bl = bl ∧ Nat.ble (17 + 1) 18 = true) ∧ (b2 = b2 ∧ Nat.ble (1 + 1) 6 = true) ∧ (b2 = b2 ∧ Nat.ble (5 + 1) 6 = true) ∧ (0 ≤ op.n ∧ op.n < ((lg.sns.length : Nat) : Int)) ∧ True) (fuel := 1) h515 (by kernel_rfl) rfl (by kernel_rfl) (by kernel_rfl) ⟨trivial, trivial, trivial, rfl, trivial, rfl, trivial, trivial, rfl, trivial, trivial, trivial, trivial⟩ ⟨⟨rfl, rfl⟩, ⟨rfl, rfl⟩, ⟨rfl, rfl⟩, ⟨by omega, by omega⟩, trivial⟩ fun a517 h518 => ?_
                        clear h515
                        refine wpAnyK_one (i := 12) (fuel := 0) (by kernel_rfl) ?_
                        refine op_store tabOk {k := 2, m := 1, vs := (splice cs512 (op.n.toNat * 15 + 14) [.int .u64 op.ev.arg])} (L' := [(bl, ⟨logC lg.base (.slice eo lg.evs.length ec) (.slice mo lg.mks.length mc) (.slice (some ⟨rb511, 0, none⟩) lg.sns.length sc), 69, false⟩), (b2, ⟨[.int .u8 op.kind, .int .i64 op.n, .int .i64 op.m, .int .u8 op.ev.kind, .int .u32 op.ev.pick, .int .u64 op.ev.arg], 35, false⟩), (rb511, ⟨(splice cs512 (op.n.toNat * 15 + 14) [.int .u64 op.ev.arg]), 66, false⟩)]) (φ := rb511 = rb511 ∧ Nat.ble (0 + (op.n.toNat * 15) + 12 + 2 + 1) cs512.length = true ∧ splice cs512 (0 + (op.n.toNat * 15) + 12 + 2) [.int .u64 op.ev.arg] = (splice cs512 (op.n.toNat * 15 + 14) [.int .u64 op.ev.arg])) h518 rfl rfl rfl (by kernel_rfl) ⟨rfl, (by rw [Nat.ble_eq]; omega), (by simp only [Nat.zero_add, Nat.add_zero, Nat.add_assoc])⟩ fun w519 h520 => ?_
                        have hkh520 := h518.known
                        refine ⟨keepNil, ?_⟩
                        clear h518
                        refine wpAnyK_done (by kernel_rfl) ?_ _
                        have hT : tampR lg op = ({ lg with sns := lg.sns.set op.n.toNat ({ x with out := { x.out with value := op.ev.arg } } : Pt) } : Lg) := by have he : edS op x = ({ x with out := { x.out with value := op.ev.arg } } : Pt) := (by unfold edS; rw [if_neg hmm]); unfold tampR; rw [if_neg (by omega), if_neg (by omega), if_pos (by omega)]; simp only [hx, he]
                        have hrow : (rl ptC 66 15 (lg.sns.set op.n.toNat ({ x with out := { x.out with value := op.ev.arg } } : Pt)) (some ⟨rb511, 0, none⟩) sc ([rb511])).at _ := row_set (off := 14) (vs := [.int .u64 op.ev.arg]) ptC_len (by simp) hx rfl hlr2 hcr2 htr (h520.kn (k := 2) (blk := ⟨(splice cs512 (op.n.toNat * 15 + 14) [.int .u64 op.ev.arg]), 66, false⟩) rfl)
                        have h521 := h520.rowOf (L := [(bl, ⟨logC lg.base (.slice eo lg.evs.length ec) (.slice mo lg.mks.length mc) (.slice (some ⟨rb511, 0, none⟩) lg.sns.length sc), 69, false⟩), (b2, ⟨[.int .u8 op.kind, .int .i64 op.n, .int .i64 op.m, .int .u8 op.ev.kind, .int .u32 op.ev.pick, .int .u64 op.ev.arg], 35, false⟩)]) (r := rl ptC 66 15 (lg.sns.set op.n.toNat ({ x with out := { x.out with value := op.ev.arg } } : Pt)) (some ⟨rb511, 0, none⟩) sc ([rb511])) rfl hrow
                        have hlen2 : (lg.sns.set op.n.toNat ({ x with out := { x.out with value := op.ev.arg } } : Pt)).length = lg.sns.length := List.length_set
                        try simp only [Exit.then, Exit.inBlock]
                        try rw [if_pos trivial]
                        exact s_end tabOk tabZ_ok h521 [] (vs := []) (φ := True) rfl (by kernel_rfl) trivial ⟨rfl, by rw [hT]; exact LogAt.of (d := ⟨eo, ec, eF, mo, mc, mF, (some ⟨rb511, 0, none⟩), sc, [rb511]⟩) (lg := ({ lg with sns := lg.sns.set op.n.toNat ({ x with out := { x.out with value := op.ev.arg } } : Pt) } : Lg)) (by have hq := h521.kn (k := 0) rfl; rw [← hlen2] at hq; exact hq) (Rws.perm h521.inv (List.Perm.refl _)) hsep, h521.frame⟩
                      ·
                        exact absurd (hc510.symm.trans hb484) (by decide)
                    ·
                      exact absurd (hb504.symm.trans hb483) (by decide)
                  ·
                    exact absurd (hb503.symm.trans hb482) (by decide)
              ·
                have hb484f : ¬ op.n < ((lg.sns.length : Nat) : Int) := by simpa using hb484
                refine dr_start (KB := [bl, b2]) (Bi := [[0, 1], [0, 1], [0, 1], [0, 1], [0, 1], [0, 1], [0, 1], [0, 1], [0, 1], [0, 1], [0, 1], [0, 1], [0, 1], [0, 1], [0, 1], [0, 1], [0, 1], [0, 1], [0, 1], [0, 1], [0, 1], [0, 1], [0, 1], [0, 1], [0, 1]]) mixed h468 fun w522 h523 => ?_
                clear h468
                refine dr_batch tabOk tabZ_ok (by repeat (first | exact PF.body | with_reducible apply PF.inB | with_reducible apply PF.next)) [(0, {}), (1, {k := 1, p := 1}), (2, {f := 2}), (3, {}), (4, {}), (5, {k := 1, p := 1}), (6, {f := 2}), (7, {}), (8, {}), (9, {}), (10, {k := 1, p := 1}), (11, {}), (12, {}), (13, {}), (14, {k := 0, p := 0}), (15, {}), (16, {f := 1}), (17, {}), (18, {}), (19, {}), (20, {k := 0, p := 0}), (21, {}), (22, {}), (23, {}), (24, {})] [3, 0, 1, 70] (T' := [(3, .pointer (some ⟨b2, 0, none⟩)), (0, .pointer (some ⟨bl, 0, none⟩)), (1, .agg #[.int .u8 op.kind, .int .i64 op.n, .int .i64 op.m, .int .u8 op.ev.kind, .int .u32 op.ev.pick, .int .u64 op.ev.arg]), (70, .bool false)]) (φ := (b2 = b2 ∧ Nat.ble (0 + 1) 6 = true) ∧ ((op.kind == 11)) = true ∧ (b2 = b2 ∧ Nat.ble (1 + 1) 6 = true) ∧ (decide (op.n ≥ 0)) = true ∧ (b2 = b2 ∧ Nat.ble (1 + 1) 6 = true) ∧ (bl = bl ∧ Nat.ble (17 + 1) 18 = true) ∧ (decide (op.n < ((lg.sns.length : Nat) : Int))) = false ∧ True) (fuel := 0) h523 (by kernel_rfl) rfl (by kernel_rfl) (by kernel_rfl) ⟨trivial, rfl, trivial, trivial, trivial, rfl, trivial, trivial, trivial, trivial, rfl, trivial, trivial, trivial, rfl, trivial, trivial, trivial, trivial, trivial, rfl, trivial, trivial, trivial, trivial, trivial⟩ ⟨⟨rfl, rfl⟩, hb482, ⟨rfl, rfl⟩, hb483, ⟨rfl, rfl⟩, ⟨rfl, rfl⟩, hb484, trivial⟩ fun a525 h526 => ?_
                clear h523
                refine wpAnyK_done (by kernel_rfl) ?_ _
                refine hK481 _ _ ?_
                clear hK481
                refine c_false h526 rfl ?_
                refine wp_seq_k fun K527 hK527 => ?_
                rcases Bool.eq_false_or_eq_true ((op.kind == 11)) with hb528 | hb528
                ·
                  have hb528f : op.kind = 11 := by simpa using hb528
                  rcases Bool.eq_false_or_eq_true (decide (op.n ≥ 0)) with hb529 | hb529
                  ·
                    have hb529f : op.n ≥ 0 := by simpa using hb529
                    refine dr_start (KB := [bl, b2]) (Bi := [[0, 1], [0, 1], [0, 1], [0, 1], [0, 1], [0, 1], [0, 1], [0, 1], [0, 1], [0, 1], [0, 1], [0, 1], [0, 1], [0, 1], [0, 1], [0, 1], [0, 1], [0, 1], [0, 1]]) mixed h526 fun w530 h531 => ?_
                    clear h526
                    refine dr_batch tabOk tabZ_ok (by repeat (first | exact PF.body | with_reducible apply PF.inB | with_reducible apply PF.next)) [(0, {}), (1, {k := 1, p := 1}), (2, {f := 2}), (3, {}), (4, {}), (5, {k := 1, p := 1}), (6, {f := 2}), (7, {}), (8, {}), (9, {}), (10, {k := 1, p := 1}), (11, {}), (12, {}), (13, {}), (14, {k := 0, p := 0}), (15, {}), (16, {}), (17, {}), (18, {})] [3, 0, 1, 107] (T' := [(3, .pointer (some ⟨b2, 0, none⟩)), (0, .pointer (some ⟨bl, 0, none⟩)), (1, .agg #[.int .u8 op.kind, .int .i64 op.n, .int .i64 op.m, .int .u8 op.ev.kind, .int .u32 op.ev.pick, .int .u64 op.ev.arg]), (107, .bool (decide (op.n < ((lg.sns.length : Nat) : Int))))]) (φ := (b2 = b2 ∧ Nat.ble (0 + 1) 6 = true) ∧ ((op.kind == 11)) = true ∧ (b2 = b2 ∧ Nat.ble (1 + 1) 6 = true) ∧ (decide (op.n ≥ 0)) = true ∧ (b2 = b2 ∧ Nat.ble (1 + 1) 6 = true) ∧ (bl = bl ∧ Nat.ble (17 + 1) 18 = true) ∧ True) (fuel := 0) h531 (by kernel_rfl) rfl (by kernel_rfl) (by kernel_rfl) ⟨trivial, rfl, trivial, trivial, trivial, rfl, trivial, trivial, trivial, trivial, rfl, trivial, trivial, trivial, rfl, trivial, trivial, trivial, trivial, trivial⟩ ⟨⟨rfl, rfl⟩, hb528, ⟨rfl, rfl⟩, hb529, ⟨rfl, rfl⟩, ⟨rfl, rfl⟩, trivial⟩ fun a533 h534 => ?_
                    clear h531
                    refine wpAnyK_done (by kernel_rfl) ?_ _
                    refine hK527 _ _ ?_
                    clear hK527
                    refine c_split h534 (b := decide (op.n < ((lg.sns.length : Nat) : Int))) rfl (fun hc535 => ?_) (fun hc535 => ?_)
                    ·
                      exact absurd (hc535.symm.trans hb484) (by decide)
                    ·
                      have hc535f : ¬ op.n < ((lg.sns.length : Nat) : Int) := by simpa using hc535
                      refine wp_skip ?_
                      have hT : tampR lg op = lg := by unfold tampR; rw [if_neg (by omega), if_neg (by omega), if_neg (by omega)]
                      try simp only [Exit.then, Exit.inBlock]
                      try rw [if_pos trivial]
                      exact s_end tabOk tabZ_ok h534 [] (vs := []) (φ := True) rfl (by kernel_rfl) trivial ⟨rfl, by rw [hT]; exact LogAt.of (h534.kn (k := 0) rfl) h534.inv hsep, h534.frame⟩
                  ·
                    exact absurd (hb529.symm.trans hb483) (by decide)
                ·
                  exact absurd (hb528.symm.trans hb482) (by decide)
            ·
              exact absurd (hb483.symm.trans hb463) (by decide)
          ·
            have hb482f : op.kind ≠ 11 := by simpa using hb482
            refine dr_start (KB := [bl, b2]) (Bi := [[0, 1], [0, 1], [0, 1], [0, 1], [0, 1], [0, 1], [0, 1], [0, 1], [0, 1], [0, 1], [0, 1], [0, 1], [0, 1], [0, 1], [0, 1], [0, 1], [0, 1], [0, 1], [0, 1], [0, 1], [0, 1], [0, 1], [0, 1], [0, 1], [0, 1]]) mixed h468 fun w536 h537 => ?_
            clear h468
            refine dr_batch tabOk tabZ_ok (by repeat (first | exact PF.body | with_reducible apply PF.inB | with_reducible apply PF.next)) [(0, {}), (1, {k := 1, p := 1}), (2, {f := 1}), (3, {}), (4, {}), (5, {k := 0, p := 0}), (6, {}), (7, {}), (8, {}), (9, {}), (10, {k := 0, p := 0}), (11, {}), (12, {}), (13, {}), (14, {k := 0, p := 0}), (15, {}), (16, {}), (17, {}), (18, {}), (19, {}), (20, {k := 0, p := 0}), (21, {}), (22, {}), (23, {}), (24, {})] [3, 0, 1, 70] (T' := [(3, .pointer (some ⟨b2, 0, none⟩)), (0, .pointer (some ⟨bl, 0, none⟩)), (1, .agg #[.int .u8 op.kind, .int .i64 op.n, .int .i64 op.m, .int .u8 op.ev.kind, .int .u32 op.ev.pick, .int .u64 op.ev.arg]), (70, .bool false)]) (φ := (b2 = b2 ∧ Nat.ble (0 + 1) 6 = true) ∧ ((op.kind == 11)) = false ∧ True) (fuel := 0) h537 (by kernel_rfl) rfl (by kernel_rfl) (by kernel_rfl) ⟨trivial, rfl, trivial, trivial, trivial, rfl, trivial, trivial, trivial, trivial, rfl, trivial, trivial, trivial, rfl, trivial, trivial, trivial, trivial, trivial, rfl, trivial, trivial, trivial, trivial, trivial⟩ ⟨⟨rfl, rfl⟩, hb482, trivial⟩ fun a539 h540 => ?_
            clear h537
            refine wpAnyK_done (by kernel_rfl) ?_ _
            refine hK481 _ _ ?_
            clear hK481
            refine c_false h540 rfl ?_
            refine wp_seq_k fun K541 hK541 => ?_
            rcases Bool.eq_false_or_eq_true ((op.kind == 11)) with hb542 | hb542
            ·
              exact absurd (hb542.symm.trans hb482) (by decide)
            ·
              have hb542f : op.kind ≠ 11 := by simpa using hb542
              refine dr_start (KB := [bl, b2]) (Bi := [[0, 1], [0, 1], [0, 1], [0, 1], [0, 1], [0, 1], [0, 1], [0, 1], [0, 1], [0, 1], [0, 1], [0, 1], [0, 1], [0, 1], [0, 1], [0, 1], [0, 1], [0, 1], [0, 1]]) mixed h540 fun w543 h544 => ?_
              clear h540
              refine dr_batch tabOk tabZ_ok (by repeat (first | exact PF.body | with_reducible apply PF.inB | with_reducible apply PF.next)) [(0, {}), (1, {k := 1, p := 1}), (2, {f := 1}), (3, {}), (4, {}), (5, {k := 0, p := 0}), (6, {}), (7, {}), (8, {}), (9, {}), (10, {k := 0, p := 0}), (11, {}), (12, {}), (13, {}), (14, {k := 0, p := 0}), (15, {}), (16, {}), (17, {}), (18, {})] [3, 0, 1, 107] (T' := [(3, .pointer (some ⟨b2, 0, none⟩)), (0, .pointer (some ⟨bl, 0, none⟩)), (1, .agg #[.int .u8 op.kind, .int .i64 op.n, .int .i64 op.m, .int .u8 op.ev.kind, .int .u32 op.ev.pick, .int .u64 op.ev.arg]), (107, .bool false)]) (φ := (b2 = b2 ∧ Nat.ble (0 + 1) 6 = true) ∧ ((op.kind == 11)) = false ∧ True) (fuel := 0) h544 (by kernel_rfl) rfl (by kernel_rfl) (by kernel_rfl) ⟨trivial, rfl, trivial, trivial, trivial, rfl, trivial, trivial, trivial, trivial, rfl, trivial, trivial, trivial, rfl, trivial, trivial, trivial, trivial, trivial⟩ ⟨⟨rfl, rfl⟩, hb542, trivial⟩ fun a546 h547 => ?_
              clear h544
              refine wpAnyK_done (by kernel_rfl) ?_ _
              refine hK541 _ _ ?_
              clear hK541
              refine c_false h547 rfl ?_
              refine wp_skip ?_
              have hT : tampR lg op = lg := by unfold tampR; rw [if_neg (by omega), if_neg (by omega), if_neg (by omega)]
              try simp only [Exit.then, Exit.inBlock]
              try rw [if_pos trivial]
              exact s_end tabOk tabZ_ok h547 [] (vs := []) (φ := True) rfl (by kernel_rfl) trivial ⟨rfl, by rw [hT]; exact LogAt.of (h547.kn (k := 0) rfl) h547.inv hsep, h547.frame⟩
      ·
        have hb463f : ¬ (op.n ≥ 0) := by simpa using hb463
        refine dr_start (KB := [bl, b2]) (Bi := [[0, 1], [0, 1], [0, 1], [0, 1], [0, 1], [0, 1], [0, 1], [0, 1], [0, 1], [0, 1], [0, 1], [0, 1], [0, 1], [0, 1], [0, 1], [0, 1], [0, 1], [0, 1], [0, 1]]) mixed h460 fun w548 h549 => ?_
        clear h460
        refine dr_batch tabOk tabZ_ok (by repeat (first | exact PF.body | with_reducible apply PF.inB | with_reducible apply PF.next)) [(0, {}), (1, {k := 1, p := 1}), (2, {f := 2}), (3, {}), (4, {}), (5, {k := 1, p := 1}), (6, {f := 1}), (7, {}), (8, {}), (9, {}), (10, {k := 0, p := 0}), (11, {}), (12, {}), (13, {}), (14, {k := 0, p := 0}), (15, {}), (16, {}), (17, {}), (18, {})] [3, 0, 1, 40] (T' := [(3, .pointer (some ⟨b2, 0, none⟩)), (0, .pointer (some ⟨bl, 0, none⟩)), (1, .agg #[.int .u8 op.kind, .int .i64 op.n, .int .i64 op.m, .int .u8 op.ev.kind, .int .u32 op.ev.pick, .int .u64 op.ev.arg]), (40, .bool false)]) (φ := (b2 = b2 ∧ Nat.ble (0 + 1) 6 = true) ∧ ((op.kind == 10)) = true ∧ (b2 = b2 ∧ Nat.ble (1 + 1) 6 = true) ∧ (decide (op.n ≥ 0)) = false ∧ True) (fuel := 0) h549 (by kernel_rfl) rfl (by kernel_rfl) (by kernel_rfl) ⟨trivial, rfl, trivial, trivial, trivial, rfl, trivial, trivial, trivial, trivial, rfl, trivial, trivial, trivial, rfl, trivial, trivial, trivial, trivial, trivial⟩ ⟨⟨rfl, rfl⟩, hb462, ⟨rfl, rfl⟩, hb463, trivial⟩ fun a551 h552 => ?_
        clear h549
        refine wpAnyK_done (by kernel_rfl) ?_ _
        refine hK461 _ _ ?_
        clear hK461
        refine c_false h552 rfl ?_
        refine wp_seq_k fun K553 hK553 => ?_
        rcases Bool.eq_false_or_eq_true ((op.kind == 11)) with hb554 | hb554
        ·
          have hb554f : op.kind = 11 := by simpa using hb554
          rcases Bool.eq_false_or_eq_true (decide (op.n ≥ 0)) with hb555 | hb555
          ·
            exact absurd (hb555.symm.trans hb463) (by decide)
          ·
            have hb555f : ¬ (op.n ≥ 0) := by simpa using hb555
            refine dr_start (KB := [bl, b2]) (Bi := [[0, 1], [0, 1], [0, 1], [0, 1], [0, 1], [0, 1], [0, 1], [0, 1], [0, 1], [0, 1], [0, 1], [0, 1], [0, 1], [0, 1], [0, 1], [0, 1], [0, 1], [0, 1], [0, 1], [0, 1], [0, 1], [0, 1], [0, 1], [0, 1], [0, 1]]) mixed h552 fun w556 h557 => ?_
            clear h552
            refine dr_batch tabOk tabZ_ok (by repeat (first | exact PF.body | with_reducible apply PF.inB | with_reducible apply PF.next)) [(0, {}), (1, {k := 1, p := 1}), (2, {f := 2}), (3, {}), (4, {}), (5, {k := 1, p := 1}), (6, {f := 1}), (7, {}), (8, {}), (9, {}), (10, {k := 0, p := 0}), (11, {}), (12, {}), (13, {}), (14, {k := 0, p := 0}), (15, {}), (16, {}), (17, {}), (18, {}), (19, {}), (20, {k := 0, p := 0}), (21, {}), (22, {}), (23, {}), (24, {})] [3, 0, 1, 70] (T' := [(3, .pointer (some ⟨b2, 0, none⟩)), (0, .pointer (some ⟨bl, 0, none⟩)), (1, .agg #[.int .u8 op.kind, .int .i64 op.n, .int .i64 op.m, .int .u8 op.ev.kind, .int .u32 op.ev.pick, .int .u64 op.ev.arg]), (70, .bool false)]) (φ := (b2 = b2 ∧ Nat.ble (0 + 1) 6 = true) ∧ ((op.kind == 11)) = true ∧ (b2 = b2 ∧ Nat.ble (1 + 1) 6 = true) ∧ (decide (op.n ≥ 0)) = false ∧ True) (fuel := 0) h557 (by kernel_rfl) rfl (by kernel_rfl) (by kernel_rfl) ⟨trivial, rfl, trivial, trivial, trivial, rfl, trivial, trivial, trivial, trivial, rfl, trivial, trivial, trivial, rfl, trivial, trivial, trivial, trivial, trivial, rfl, trivial, trivial, trivial, trivial, trivial⟩ ⟨⟨rfl, rfl⟩, hb554, ⟨rfl, rfl⟩, hb555, trivial⟩ fun a559 h560 => ?_
            clear h557
            refine wpAnyK_done (by kernel_rfl) ?_ _
            refine hK553 _ _ ?_
            clear hK553
            refine c_false h560 rfl ?_
            refine wp_seq_k fun K561 hK561 => ?_
            rcases Bool.eq_false_or_eq_true ((op.kind == 11)) with hb562 | hb562
            ·
              have hb562f : op.kind = 11 := by simpa using hb562
              rcases Bool.eq_false_or_eq_true (decide (op.n ≥ 0)) with hb563 | hb563
              ·
                exact absurd (hb563.symm.trans hb555) (by decide)
              ·
                have hb563f : ¬ (op.n ≥ 0) := by simpa using hb563
                refine dr_start (KB := [bl, b2]) (Bi := [[0, 1], [0, 1], [0, 1], [0, 1], [0, 1], [0, 1], [0, 1], [0, 1], [0, 1], [0, 1], [0, 1], [0, 1], [0, 1], [0, 1], [0, 1], [0, 1], [0, 1], [0, 1], [0, 1]]) mixed h560 fun w564 h565 => ?_
                clear h560
                refine dr_batch tabOk tabZ_ok (by repeat (first | exact PF.body | with_reducible apply PF.inB | with_reducible apply PF.next)) [(0, {}), (1, {k := 1, p := 1}), (2, {f := 2}), (3, {}), (4, {}), (5, {k := 1, p := 1}), (6, {f := 1}), (7, {}), (8, {}), (9, {}), (10, {k := 0, p := 0}), (11, {}), (12, {}), (13, {}), (14, {k := 0, p := 0}), (15, {}), (16, {}), (17, {}), (18, {})] [3, 0, 1, 107] (T' := [(3, .pointer (some ⟨b2, 0, none⟩)), (0, .pointer (some ⟨bl, 0, none⟩)), (1, .agg #[.int .u8 op.kind, .int .i64 op.n, .int .i64 op.m, .int .u8 op.ev.kind, .int .u32 op.ev.pick, .int .u64 op.ev.arg]), (107, .bool false)]) (φ := (b2 = b2 ∧ Nat.ble (0 + 1) 6 = true) ∧ ((op.kind == 11)) = true ∧ (b2 = b2 ∧ Nat.ble (1 + 1) 6 = true) ∧ (decide (op.n ≥ 0)) = false ∧ True) (fuel := 0) h565 (by kernel_rfl) rfl (by kernel_rfl) (by kernel_rfl) ⟨trivial, rfl, trivial, trivial, trivial, rfl, trivial, trivial, trivial, trivial, rfl, trivial, trivial, trivial, rfl, trivial, trivial, trivial, trivial, trivial⟩ ⟨⟨rfl, rfl⟩, hb562, ⟨rfl, rfl⟩, hb563, trivial⟩ fun a567 h568 => ?_
                clear h565
                refine wpAnyK_done (by kernel_rfl) ?_ _
                refine hK561 _ _ ?_
                clear hK561
                refine c_false h568 rfl ?_
                refine wp_skip ?_
                have hT : tampR lg op = lg := by unfold tampR; rw [if_neg (by omega), if_neg (by omega), if_neg (by omega)]
                try simp only [Exit.then, Exit.inBlock]
                try rw [if_pos trivial]
                exact s_end tabOk tabZ_ok h568 [] (vs := []) (φ := True) rfl (by kernel_rfl) trivial ⟨rfl, by rw [hT]; exact LogAt.of (h568.kn (k := 0) rfl) h568.inv hsep, h568.frame⟩
            ·
              exact absurd (hb562.symm.trans hb554) (by decide)
        ·
          have hb554f : op.kind ≠ 11 := by simpa using hb554
          refine dr_start (KB := [bl, b2]) (Bi := [[0, 1], [0, 1], [0, 1], [0, 1], [0, 1], [0, 1], [0, 1], [0, 1], [0, 1], [0, 1], [0, 1], [0, 1], [0, 1], [0, 1], [0, 1], [0, 1], [0, 1], [0, 1], [0, 1], [0, 1], [0, 1], [0, 1], [0, 1], [0, 1], [0, 1]]) mixed h552 fun w569 h570 => ?_
          clear h552
          refine dr_batch tabOk tabZ_ok (by repeat (first | exact PF.body | with_reducible apply PF.inB | with_reducible apply PF.next)) [(0, {}), (1, {k := 1, p := 1}), (2, {f := 1}), (3, {}), (4, {}), (5, {k := 0, p := 0}), (6, {}), (7, {}), (8, {}), (9, {}), (10, {k := 0, p := 0}), (11, {}), (12, {}), (13, {}), (14, {k := 0, p := 0}), (15, {}), (16, {}), (17, {}), (18, {}), (19, {}), (20, {k := 0, p := 0}), (21, {}), (22, {}), (23, {}), (24, {})] [3, 0, 1, 70] (T' := [(3, .pointer (some ⟨b2, 0, none⟩)), (0, .pointer (some ⟨bl, 0, none⟩)), (1, .agg #[.int .u8 op.kind, .int .i64 op.n, .int .i64 op.m, .int .u8 op.ev.kind, .int .u32 op.ev.pick, .int .u64 op.ev.arg]), (70, .bool false)]) (φ := (b2 = b2 ∧ Nat.ble (0 + 1) 6 = true) ∧ ((op.kind == 11)) = false ∧ True) (fuel := 0) h570 (by kernel_rfl) rfl (by kernel_rfl) (by kernel_rfl) ⟨trivial, rfl, trivial, trivial, trivial, rfl, trivial, trivial, trivial, trivial, rfl, trivial, trivial, trivial, rfl, trivial, trivial, trivial, trivial, trivial, rfl, trivial, trivial, trivial, trivial, trivial⟩ ⟨⟨rfl, rfl⟩, hb554, trivial⟩ fun a572 h573 => ?_
          clear h570
          refine wpAnyK_done (by kernel_rfl) ?_ _
          refine hK553 _ _ ?_
          clear hK553
          refine c_false h573 rfl ?_
          refine wp_seq_k fun K574 hK574 => ?_
          rcases Bool.eq_false_or_eq_true ((op.kind == 11)) with hb575 | hb575
          ·
            exact absurd (hb575.symm.trans hb554) (by decide)
          ·
            have hb575f : op.kind ≠ 11 := by simpa using hb575
            refine dr_start (KB := [bl, b2]) (Bi := [[0, 1], [0, 1], [0, 1], [0, 1], [0, 1], [0, 1], [0, 1], [0, 1], [0, 1], [0, 1], [0, 1], [0, 1], [0, 1], [0, 1], [0, 1], [0, 1], [0, 1], [0, 1], [0, 1]]) mixed h573 fun w576 h577 => ?_
            clear h573
            refine dr_batch tabOk tabZ_ok (by repeat (first | exact PF.body | with_reducible apply PF.inB | with_reducible apply PF.next)) [(0, {}), (1, {k := 1, p := 1}), (2, {f := 1}), (3, {}), (4, {}), (5, {k := 0, p := 0}), (6, {}), (7, {}), (8, {}), (9, {}), (10, {k := 0, p := 0}), (11, {}), (12, {}), (13, {}), (14, {k := 0, p := 0}), (15, {}), (16, {}), (17, {}), (18, {})] [3, 0, 1, 107] (T' := [(3, .pointer (some ⟨b2, 0, none⟩)), (0, .pointer (some ⟨bl, 0, none⟩)), (1, .agg #[.int .u8 op.kind, .int .i64 op.n, .int .i64 op.m, .int .u8 op.ev.kind, .int .u32 op.ev.pick, .int .u64 op.ev.arg]), (107, .bool false)]) (φ := (b2 = b2 ∧ Nat.ble (0 + 1) 6 = true) ∧ ((op.kind == 11)) = false ∧ True) (fuel := 0) h577 (by kernel_rfl) rfl (by kernel_rfl) (by kernel_rfl) ⟨trivial, rfl, trivial, trivial, trivial, rfl, trivial, trivial, trivial, trivial, rfl, trivial, trivial, trivial, rfl, trivial, trivial, trivial, trivial, trivial⟩ ⟨⟨rfl, rfl⟩, hb575, trivial⟩ fun a579 h580 => ?_
            clear h577
            refine wpAnyK_done (by kernel_rfl) ?_ _
            refine hK574 _ _ ?_
            clear hK574
            refine c_false h580 rfl ?_
            refine wp_skip ?_
            have hT : tampR lg op = lg := by unfold tampR; rw [if_neg (by omega), if_neg (by omega), if_neg (by omega)]
            try simp only [Exit.then, Exit.inBlock]
            try rw [if_pos trivial]
            exact s_end tabOk tabZ_ok h580 [] (vs := []) (φ := True) rfl (by kernel_rfl) trivial ⟨rfl, by rw [hT]; exact LogAt.of (h580.kn (k := 0) rfl) h580.inv hsep, h580.frame⟩
    ·
      have hb462f : op.kind ≠ 10 := by simpa using hb462
      refine dr_start (KB := [bl, b2]) (Bi := [[0, 1], [0, 1], [0, 1], [0, 1], [0, 1], [0, 1], [0, 1], [0, 1], [0, 1], [0, 1], [0, 1], [0, 1], [0, 1], [0, 1], [0, 1], [0, 1], [0, 1], [0, 1], [0, 1]]) mixed h460 fun w581 h582 => ?_
      clear h460
      refine dr_batch tabOk tabZ_ok (by repeat (first | exact PF.body | with_reducible apply PF.inB | with_reducible apply PF.next)) [(0, {}), (1, {k := 1, p := 1}), (2, {f := 1}), (3, {}), (4, {}), (5, {k := 0, p := 0}), (6, {}), (7, {}), (8, {}), (9, {}), (10, {k := 0, p := 0}), (11, {}), (12, {}), (13, {}), (14, {k := 0, p := 0}), (15, {}), (16, {}), (17, {}), (18, {})] [3, 0, 1, 40] (T' := [(3, .pointer (some ⟨b2, 0, none⟩)), (0, .pointer (some ⟨bl, 0, none⟩)), (1, .agg #[.int .u8 op.kind, .int .i64 op.n, .int .i64 op.m, .int .u8 op.ev.kind, .int .u32 op.ev.pick, .int .u64 op.ev.arg]), (40, .bool false)]) (φ := (b2 = b2 ∧ Nat.ble (0 + 1) 6 = true) ∧ ((op.kind == 10)) = false ∧ True) (fuel := 0) h582 (by kernel_rfl) rfl (by kernel_rfl) (by kernel_rfl) ⟨trivial, rfl, trivial, trivial, trivial, rfl, trivial, trivial, trivial, trivial, rfl, trivial, trivial, trivial, rfl, trivial, trivial, trivial, trivial, trivial⟩ ⟨⟨rfl, rfl⟩, hb462, trivial⟩ fun a584 h585 => ?_
      clear h582
      refine wpAnyK_done (by kernel_rfl) ?_ _
      refine hK461 _ _ ?_
      clear hK461
      refine c_false h585 rfl ?_
      refine wp_seq_k fun K586 hK586 => ?_
      rcases Bool.eq_false_or_eq_true ((op.kind == 11)) with hb587 | hb587
      ·
        have hb587f : op.kind = 11 := by simpa using hb587
        rcases Bool.eq_false_or_eq_true (decide (op.n ≥ 0)) with hb588 | hb588
        ·
          have hb588f : op.n ≥ 0 := by simpa using hb588
          rcases Bool.eq_false_or_eq_true (decide (op.n < ((lg.sns.length : Nat) : Int))) with hb589 | hb589
          ·
            have hb589f : op.n < ((lg.sns.length : Nat) : Int) := by simpa using hb589
            refine dr_start (KB := [bl, b2]) (Bi := [[0, 1], [0, 1], [0, 1], [0, 1], [0, 1], [0, 1], [0, 1], [0, 1], [0, 1], [0, 1], [0, 1], [0, 1], [0, 1], [0, 1], [0, 1], [0, 1], [0, 1], [0, 1], [0, 1], [0, 1], [0, 1], [0, 1], [0, 1], [0, 1], [0, 1]]) mixed h585 fun w590 h591 => ?_
            clear h585
            refine dr_batch tabOk tabZ_ok (by repeat (first | exact PF.body | with_reducible apply PF.inB | with_reducible apply PF.next)) [(0, {}), (1, {k := 1, p := 1}), (2, {f := 2}), (3, {}), (4, {}), (5, {k := 1, p := 1}), (6, {f := 2}), (7, {}), (8, {}), (9, {}), (10, {k := 1, p := 1}), (11, {}), (12, {}), (13, {}), (14, {k := 0, p := 0}), (15, {}), (16, {f := 2}), (17, {}), (18, {}), (19, {}), (20, {k := 1, p := 1}), (21, {m := 1}), (22, {}), (23, {}), (24, {})] [3, 0, 1, 70] (T' := [(3, .pointer (some ⟨b2, 0, none⟩)), (0, .pointer (some ⟨bl, 0, none⟩)), (1, .agg #[.int .u8 op.kind, .int .i64 op.n, .int .i64 op.m, .int .u8 op.ev.kind, .int .u32 op.ev.pick, .int .u64 op.ev.arg]), (70, .bool ((op.m.tmod 2) == 0))]) (φ := (b2 = b2 ∧ Nat.ble (0 + 1) 6 = true) ∧ ((op.kind == 11)) = true ∧ (b2 = b2 ∧ Nat.ble (1 + 1) 6 = true) ∧ (decide (op.n ≥ 0)) = true ∧ (b2 = b2 ∧ Nat.ble (1 + 1) 6 = true) ∧ (bl = bl ∧ Nat.ble (17 + 1) 18 = true) ∧ (decide (op.n < ((lg.sns.length : Nat) : Int))) = true ∧ (b2 = b2 ∧ Nat.ble (2 + 1) 6 = true) ∧ (2 : Int) ≠ 0 ∧ True) (fuel := 0) h591 (by kernel_rfl) rfl (by kernel_rfl) (by kernel_rfl) ⟨trivial, rfl, trivial, trivial, trivial, rfl, trivial, trivial, trivial, trivial, rfl, trivial, trivial, trivial, rfl, trivial, trivial, trivial, trivial, trivial, rfl, trivial, trivial, trivial, trivial, trivial⟩ ⟨⟨rfl, rfl⟩, hb587, ⟨rfl, rfl⟩, hb588, ⟨rfl, rfl⟩, ⟨rfl, rfl⟩, hb589, ⟨rfl, rfl⟩, (by decide), trivial⟩ fun a593 h594 => ?_
            clear h591
            refine wpAnyK_done (by kernel_rfl) ?_ _
            refine hK586 _ _ ?_
            clear hK586
            refine c_split h594 (b := ((op.m.tmod 2) == 0)) rfl (fun hc595 => ?_) (fun hc595 => ?_)
            ·
              have hc595f : (op.m.tmod 2) = 0 := by simpa using hc595
              have hmm : op.m.tmod 2 = 0 := hc595f
              obtain ⟨x, hx⟩ := Sx.get_some (xs := lg.sns) (i := op.n.toNat) (by omega)
              obtain ⟨rb596, cs597, ho, hbr, hlr, hcr, htr, hFr⟩ := Row.open_ (h594.inv.get (j := 2) (r := rl ptC 66 15 lg.sns so sc sF) rfl) (by show 0 < lg.sns.length; omega)
              simp only at ho hFr
              subst ho hFr
              have hcr2 : lg.sns.length ≤ sc := hcr
              have hlr2 : cs597.length = sc * 15 := hlr
              have h598 := h594.rowTake (R' := [rl evC 33 3 lg.evs eo ec eF, rl mkC 78 2 lg.mks mo mc mF]) (r := rl ptC 66 15 lg.sns (some ⟨rb596, 0, none⟩) sc ([rb596])) (List.Perm.refl _) rfl hbr (.inl (by simp)) (kcons (by intro hq; cases hq) (kcons (by intro hq; cases hq) knil))
              clear h594
              refine dr_start (KB := [bl, b2, rb596]) (Bi := [[0, 1, 2], [0, 1, 2], [0, 1, 2], [0, 1, 2], [0, 1, 2], [0, 1, 2], [0, 1, 2], [0, 1, 2], [0, 1, 2], [0, 1, 2], [0, 1, 2], [0, 1, 2], []]) mixed h598 fun w599 h600 => ?_
              clear h598
              refine dr_batch tabOk tabZ_ok (by repeat (first | exact PF.body | with_reducible apply PF.inB | with_reducible apply PF.next)) [(0, {}), (1, {}), (2, {}), (3, {k := 0, p := 0}), (4, {}), (5, {k := 1, p := 1}), (6, {}), (7, {}), (8, {k := 1, p := 1}), (9, {}), (10, {}), (11, {})] [3, 0, 1, 103, 106] (T' := [(3, .pointer (some ⟨b2, 0, none⟩)), (0, .pointer (some ⟨bl, 0, none⟩)), (1, .agg #[.int .u8 op.kind, .int .i64 op.n, .int .i64 op.m, .int .u8 op.ev.kind, .int .u32 op.ev.pick, .int .u64 op.ev.arg]), (103, .int .u64 op.ev.arg), (106, .pointer (some ⟨rb596, 0 + (op.n.toNat * 15) + 1, none⟩))]) (φ := (bl = bl ∧ Nat.ble (17 + 1) 18 = true) ∧ (b2 = b2 ∧ Nat.ble (1 + 1) 6 = true) ∧ (b2 = b2 ∧ Nat.ble (5 + 1) 6 = true) ∧ (0 ≤ op.n ∧ op.n < ((lg.sns.length : Nat) : Int)) ∧ True) (fuel := 1) h600 (by kernel_rfl) rfl (by kernel_rfl) (by kernel_rfl) ⟨trivial, trivial, trivial, rfl, trivial, rfl, trivial, trivial, rfl, trivial, trivial, trivial, trivial⟩ ⟨⟨rfl, rfl⟩, ⟨rfl, rfl⟩, ⟨rfl, rfl⟩, ⟨by omega, by omega⟩, trivial⟩ fun a602 h603 => ?_
              clear h600
              refine wpAnyK_one (i := 12) (fuel := 0) (by kernel_rfl) ?_
              refine op_store tabOk {k := 2, m := 1, vs := (splice cs597 (op.n.toNat * 15 + 1) [.int .u64 op.ev.arg])} (L' := [(bl, ⟨logC lg.base (.slice eo lg.evs.length ec) (.slice mo lg.mks.length mc) (.slice (some ⟨rb596, 0, none⟩) lg.sns.length sc), 69, false⟩), (b2, ⟨[.int .u8 op.kind, .int .i64 op.n, .int .i64 op.m, .int .u8 op.ev.kind, .int .u32 op.ev.pick, .int .u64 op.ev.arg], 35, false⟩), (rb596, ⟨(splice cs597 (op.n.toNat * 15 + 1) [.int .u64 op.ev.arg]), 66, false⟩)]) (φ := rb596 = rb596 ∧ Nat.ble (0 + (op.n.toNat * 15) + 1 + 1) cs597.length = true ∧ splice cs597 (0 + (op.n.toNat * 15) + 1) [.int .u64 op.ev.arg] = (splice cs597 (op.n.toNat * 15 + 1) [.int .u64 op.ev.arg])) h603 rfl rfl rfl (by kernel_rfl) ⟨rfl, (by rw [Nat.ble_eq]; omega), (by simp only [Nat.zero_add, Nat.add_zero, Nat.add_assoc])⟩ fun w604 h605 => ?_
              have hkh605 := h603.known
              refine ⟨keepNil, ?_⟩
              clear h603
              refine wpAnyK_done (by kernel_rfl) ?_ _
              have hT : tampR lg op = ({ lg with sns := lg.sns.set op.n.toNat ({ x with st := { x.st with now := op.ev.arg } } : Pt) } : Lg) := by have he : edS op x = ({ x with st := { x.st with now := op.ev.arg } } : Pt) := (by unfold edS; rw [if_pos hmm]); unfold tampR; rw [if_neg (by omega), if_neg (by omega), if_pos (by omega)]; simp only [hx, he]
              have hrow : (rl ptC 66 15 (lg.sns.set op.n.toNat ({ x with st := { x.st with now := op.ev.arg } } : Pt)) (some ⟨rb596, 0, none⟩) sc ([rb596])).at _ := row_set (off := 1) (vs := [.int .u64 op.ev.arg]) ptC_len (by simp) hx rfl hlr2 hcr2 htr (h605.kn (k := 2) (blk := ⟨(splice cs597 (op.n.toNat * 15 + 1) [.int .u64 op.ev.arg]), 66, false⟩) rfl)
              have h606 := h605.rowOf (L := [(bl, ⟨logC lg.base (.slice eo lg.evs.length ec) (.slice mo lg.mks.length mc) (.slice (some ⟨rb596, 0, none⟩) lg.sns.length sc), 69, false⟩), (b2, ⟨[.int .u8 op.kind, .int .i64 op.n, .int .i64 op.m, .int .u8 op.ev.kind, .int .u32 op.ev.pick, .int .u64 op.ev.arg], 35, false⟩)]) (r := rl ptC 66 15 (lg.sns.set op.n.toNat ({ x with st := { x.st with now := op.ev.arg } } : Pt)) (some ⟨rb596, 0, none⟩) sc ([rb596])) rfl hrow
              have hlen2 : (lg.sns.set op.n.toNat ({ x with st := { x.st with now := op.ev.arg } } : Pt)).length = lg.sns.length := List.length_set
              try simp only [Exit.then, Exit.inBlock]
              try rw [if_pos trivial]
              exact s_end tabOk tabZ_ok h606 [] (vs := []) (φ := True) rfl (by kernel_rfl) trivial ⟨rfl, by rw [hT]; exact LogAt.of (d := ⟨eo, ec, eF, mo, mc, mF, (some ⟨rb596, 0, none⟩), sc, [rb596]⟩) (lg := ({ lg with sns := lg.sns.set op.n.toNat ({ x with st := { x.st with now := op.ev.arg } } : Pt) } : Lg)) (by have hq := h606.kn (k := 0) rfl; rw [← hlen2] at hq; exact hq) (Rws.perm h606.inv (List.Perm.refl _)) hsep, h606.frame⟩
            ·
              have hc595f : (op.m.tmod 2) ≠ 0 := by simpa using hc595
              refine wp_seq_k fun K607 hK607 => ?_
              rcases Bool.eq_false_or_eq_true ((op.kind == 11)) with hb608 | hb608
              ·
                have hb608f : op.kind = 11 := by simpa using hb608
                rcases Bool.eq_false_or_eq_true (decide (op.n ≥ 0)) with hb609 | hb609
                ·
                  have hb609f : op.n ≥ 0 := by simpa using hb609
                  refine dr_start (KB := [bl, b2]) (Bi := [[0, 1], [0, 1], [0, 1], [0, 1], [0, 1], [0, 1], [0, 1], [0, 1], [0, 1], [0, 1], [0, 1], [0, 1], [0, 1], [0, 1], [0, 1], [0, 1], [0, 1], [0, 1], [0, 1]]) mixed h594 fun w610 h611 => ?_
                  clear h594
                  refine dr_batch tabOk tabZ_ok (by repeat (first | exact PF.body | with_reducible apply PF.inB | with_reducible apply PF.next)) [(0, {}), (1, {k := 1, p := 1}), (2, {f := 2}), (3, {}), (4, {}), (5, {k := 1, p := 1}), (6, {f := 2}), (7, {}), (8, {}), (9, {}), (10, {k := 1, p := 1}), (11, {}), (12, {}), (13, {}), (14, {k := 0, p := 0}), (15, {}), (16, {}), (17, {}), (18, {})] [3, 0, 1, 107] (T' := [(3, .pointer (some ⟨b2, 0, none⟩)), (0, .pointer (some ⟨bl, 0, none⟩)), (1, .agg #[.int .u8 op.kind, .int .i64 op.n, .int .i64 op.m, .int .u8 op.ev.kind, .int .u32 op.ev.pick, .int .u64 op.ev.arg]), (107, .bool (decide (op.n < ((lg.sns.length : Nat) : Int))))]) (φ := (b2 = b2 ∧ Nat.ble (0 + 1) 6 = true) ∧ ((op.kind == 11)) = true ∧ (b2 = b2 ∧ Nat.ble (1 + 1) 6 = true) ∧ (decide (op.n ≥ 0)) = true ∧ (b2 = b2 ∧ Nat.ble (1 + 1) 6 = true) ∧ (bl = bl ∧ Nat.ble (17 + 1) 18 = true) ∧ True) (fuel := 0) h611 (by kernel_rfl) rfl (by kernel_rfl) (by kernel_rfl) ⟨trivial, rfl, trivial, trivial, trivial, rfl, trivial, trivial, trivial, trivial, rfl, trivial, trivial, trivial, rfl, trivial, trivial, trivial, trivial, trivial⟩ ⟨⟨rfl, rfl⟩, hb608, ⟨rfl, rfl⟩, hb609, ⟨rfl, rfl⟩, ⟨rfl, rfl⟩, trivial⟩ fun a613 h614 => ?_
                  clear h611
                  refine wpAnyK_done (by kernel_rfl) ?_ _
                  refine hK607 _ _ ?_
                  clear hK607
                  refine c_split h614 (b := decide (op.n < ((lg.sns.length : Nat) : Int))) rfl (fun hc615 => ?_) (fun hc615 => ?_)
                  ·
                    have hc615f : op.n < ((lg.sns.length : Nat) : Int) := by simpa using hc615
                    have hmm : op.m.tmod 2 ≠ 0 := hc595f
                    obtain ⟨x, hx⟩ := Sx.get_some (xs := lg.sns) (i := op.n.toNat) (by omega)
                    obtain ⟨rb616, cs617, ho, hbr, hlr, hcr, htr, hFr⟩ := Row.open_ (h614.inv.get (j := 2) (r := rl ptC 66 15 lg.sns so sc sF) rfl) (by show 0 < lg.sns.length; omega)
                    simp only at ho hFr
                    subst ho hFr
                    have hcr2 : lg.sns.length ≤ sc := hcr
                    have hlr2 : cs617.length = sc * 15 := hlr
                    have h618 := h614.rowTake (R' := [rl evC 33 3 lg.evs eo ec eF, rl mkC 78 2 lg.mks mo mc mF]) (r := rl ptC 66 15 lg.sns (some ⟨rb616, 0, none⟩) sc ([rb616])) (List.Perm.refl _) rfl hbr (.inl (by simp)) (kcons (by intro hq; cases hq) (kcons (by intro hq; cases hq) knil))
                    clear h614
                    refine dr_start (KB := [bl, b2, rb616]) (Bi := [[0, 1, 2], [0, 1, 2], [0, 1, 2], [0, 1, 2], [0, 1, 2], [0, 1, 2], [0, 1, 2], [0, 1, 2], [0, 1, 2], [0, 1, 2], [0, 1, 2], [0, 1, 2], []]) mixed h618 fun w619 h620 => ?_
                    clear h618
                    refine dr_batch tabOk tabZ_ok (by repeat (first | exact PF.body | with_reducible apply PF.inB | with_reducible apply PF.next)) [(0, {}), (1, {}), (2, {}), (3, {k := 0, p := 0}), (4, {}), (5, {k := 1, p := 1}), (6, {}), (7, {}), (8, {k := 1, p := 1}), (9, {}), (10, {}), (11, {})] [3, 0, 1, 134, 137] (T' := [(3, .pointer (some ⟨b2, 0, none⟩)), (0, .pointer (some ⟨bl, 0, none⟩)), (1, .agg #[.int .u8 op.kind, .int .i64 op.n, .int .i64 op.m, .int .u8 op.ev.kind, .int .u32 op.ev.pick, .int .u64 op.ev.arg]), (134, .int .u64 op.ev.arg), (137, .pointer (some ⟨rb616, 0 + (op.n.toNat * 15) + 12 + 2, none⟩))]) (φ := (bl = bl ∧ Nat.ble (17 + 1) 18 = true) ∧ (b2 = b2 ∧ Nat.ble (1 + 1) 6 = true) ∧ (b2 = b2 ∧ Nat.ble (5 + 1) 6 = true) ∧ (0 ≤ op.n ∧ op.n < ((lg.sns.length : Nat) : Int)) ∧ True) (fuel := 1) h620 (by kernel_rfl) rfl (by kernel_rfl) (by kernel_rfl) ⟨trivial, trivial, trivial, rfl, trivial, rfl, trivial, trivial, rfl, trivial, trivial, trivial, trivial⟩ ⟨⟨rfl, rfl⟩, ⟨rfl, rfl⟩, ⟨rfl, rfl⟩, ⟨by omega, by omega⟩, trivial⟩ fun a622 h623 => ?_
                    clear h620
                    refine wpAnyK_one (i := 12) (fuel := 0) (by kernel_rfl) ?_
                    refine op_store tabOk {k := 2, m := 1, vs := (splice cs617 (op.n.toNat * 15 + 14) [.int .u64 op.ev.arg])} (L' := [(bl, ⟨logC lg.base (.slice eo lg.evs.length ec) (.slice mo lg.mks.length mc) (.slice (some ⟨rb616, 0, none⟩) lg.sns.length sc), 69, false⟩), (b2, ⟨[.int .u8 op.kind, .int .i64 op.n, .int .i64 op.m, .int .u8 op.ev.kind, .int .u32 op.ev.pick, .int .u64 op.ev.arg], 35, false⟩), (rb616, ⟨(splice cs617 (op.n.toNat * 15 + 14) [.int .u64 op.ev.arg]), 66, false⟩)]) (φ := rb616 = rb616 ∧ Nat.ble (0 + (op.n.toNat * 15) + 12 + 2 + 1) cs617.length = true ∧ splice cs617 (0 + (op.n.toNat * 15) + 12 + 2) [.int .u64 op.ev.arg] = (splice cs617 (op.n.toNat * 15 + 14) [.int .u64 op.ev.arg])) h623 rfl rfl rfl (by kernel_rfl) ⟨rfl, (by rw [Nat.ble_eq]; omega), (by simp only [Nat.zero_add, Nat.add_zero, Nat.add_assoc])⟩ fun w624 h625 => ?_
                    have hkh625 := h623.known
                    refine ⟨keepNil, ?_⟩
                    clear h623
                    refine wpAnyK_done (by kernel_rfl) ?_ _
                    have hT : tampR lg op = ({ lg with sns := lg.sns.set op.n.toNat ({ x with out := { x.out with value := op.ev.arg } } : Pt) } : Lg) := by have he : edS op x = ({ x with out := { x.out with value := op.ev.arg } } : Pt) := (by unfold edS; rw [if_neg hmm]); unfold tampR; rw [if_neg (by omega), if_neg (by omega), if_pos (by omega)]; simp only [hx, he]
                    have hrow : (rl ptC 66 15 (lg.sns.set op.n.toNat ({ x with out := { x.out with value := op.ev.arg } } : Pt)) (some ⟨rb616, 0, none⟩) sc ([rb616])).at _ := row_set (off := 14) (vs := [.int .u64 op.ev.arg]) ptC_len (by simp) hx rfl hlr2 hcr2 htr (h625.kn (k := 2) (blk := ⟨(splice cs617 (op.n.toNat * 15 + 14) [.int .u64 op.ev.arg]), 66, false⟩) rfl)
                    have h626 := h625.rowOf (L := [(bl, ⟨logC lg.base (.slice eo lg.evs.length ec) (.slice mo lg.mks.length mc) (.slice (some ⟨rb616, 0, none⟩) lg.sns.length sc), 69, false⟩), (b2, ⟨[.int .u8 op.kind, .int .i64 op.n, .int .i64 op.m, .int .u8 op.ev.kind, .int .u32 op.ev.pick, .int .u64 op.ev.arg], 35, false⟩)]) (r := rl ptC 66 15 (lg.sns.set op.n.toNat ({ x with out := { x.out with value := op.ev.arg } } : Pt)) (some ⟨rb616, 0, none⟩) sc ([rb616])) rfl hrow
                    have hlen2 : (lg.sns.set op.n.toNat ({ x with out := { x.out with value := op.ev.arg } } : Pt)).length = lg.sns.length := List.length_set
                    try simp only [Exit.then, Exit.inBlock]
                    try rw [if_pos trivial]
                    exact s_end tabOk tabZ_ok h626 [] (vs := []) (φ := True) rfl (by kernel_rfl) trivial ⟨rfl, by rw [hT]; exact LogAt.of (d := ⟨eo, ec, eF, mo, mc, mF, (some ⟨rb616, 0, none⟩), sc, [rb616]⟩) (lg := ({ lg with sns := lg.sns.set op.n.toNat ({ x with out := { x.out with value := op.ev.arg } } : Pt) } : Lg)) (by have hq := h626.kn (k := 0) rfl; rw [← hlen2] at hq; exact hq) (Rws.perm h626.inv (List.Perm.refl _)) hsep, h626.frame⟩
                  ·
                    exact absurd (hc615.symm.trans hb589) (by decide)
                ·
                  exact absurd (hb609.symm.trans hb588) (by decide)
              ·
                exact absurd (hb608.symm.trans hb587) (by decide)
          ·
            have hb589f : ¬ (op.n < ((lg.sns.length : Nat) : Int)) := by simpa using hb589
            refine dr_start (KB := [bl, b2]) (Bi := [[0, 1], [0, 1], [0, 1], [0, 1], [0, 1], [0, 1], [0, 1], [0, 1], [0, 1], [0, 1], [0, 1], [0, 1], [0, 1], [0, 1], [0, 1], [0, 1], [0, 1], [0, 1], [0, 1], [0, 1], [0, 1], [0, 1], [0, 1], [0, 1], [0, 1]]) mixed h585 fun w627 h628 => ?_
            clear h585
            refine dr_batch tabOk tabZ_ok (by repeat (first | exact PF.body | with_reducible apply PF.inB | with_reducible apply PF.next)) [(0, {}), (1, {k := 1, p := 1}), (2, {f := 2}), (3, {}), (4, {}), (5, {k := 1, p := 1}), (6, {f := 2}), (7, {}), (8, {}), (9, {}), (10, {k := 1, p := 1}), (11, {}), (12, {}), (13, {}), (14, {k := 0, p := 0}), (15, {}), (16, {f := 1}), (17, {}), (18, {}), (19, {}), (20, {k := 0, p := 0}), (21, {}), (22, {}), (23, {}), (24, {})] [3, 0, 1, 70] (T' := [(3, .pointer (some ⟨b2, 0, none⟩)), (0, .pointer (some ⟨bl, 0, none⟩)), (1, .agg #[.int .u8 op.kind, .int .i64 op.n, .int .i64 op.m, .int .u8 op.ev.kind, .int .u32 op.ev.pick, .int .u64 op.ev.arg]), (70, .bool false)]) (φ := (b2 = b2 ∧ Nat.ble (0 + 1) 6 = true) ∧ ((op.kind == 11)) = true ∧ (b2 = b2 ∧ Nat.ble (1 + 1) 6 = true) ∧ (decide (op.n ≥ 0)) = true ∧ (b2 = b2 ∧ Nat.ble (1 + 1) 6 = true) ∧ (bl = bl ∧ Nat.ble (17 + 1) 18 = true) ∧ (decide (op.n < ((lg.sns.length : Nat) : Int))) = false ∧ True) (fuel := 0) h628 (by kernel_rfl) rfl (by kernel_rfl) (by kernel_rfl) ⟨trivial, rfl, trivial, trivial, trivial, rfl, trivial, trivial, trivial, trivial, rfl, trivial, trivial, trivial, rfl, trivial, trivial, trivial, trivial, trivial, rfl, trivial, trivial, trivial, trivial, trivial⟩ ⟨⟨rfl, rfl⟩, hb587, ⟨rfl, rfl⟩, hb588, ⟨rfl, rfl⟩, ⟨rfl, rfl⟩, hb589, trivial⟩ fun a630 h631 => ?_
            clear h628
            refine wpAnyK_done (by kernel_rfl) ?_ _
            refine hK586 _ _ ?_
            clear hK586
            refine c_false h631 rfl ?_
            refine wp_seq_k fun K632 hK632 => ?_
            rcases Bool.eq_false_or_eq_true ((op.kind == 11)) with hb633 | hb633
            ·
              have hb633f : op.kind = 11 := by simpa using hb633
              rcases Bool.eq_false_or_eq_true (decide (op.n ≥ 0)) with hb634 | hb634
              ·
                have hb634f : op.n ≥ 0 := by simpa using hb634
                refine dr_start (KB := [bl, b2]) (Bi := [[0, 1], [0, 1], [0, 1], [0, 1], [0, 1], [0, 1], [0, 1], [0, 1], [0, 1], [0, 1], [0, 1], [0, 1], [0, 1], [0, 1], [0, 1], [0, 1], [0, 1], [0, 1], [0, 1]]) mixed h631 fun w635 h636 => ?_
                clear h631
                refine dr_batch tabOk tabZ_ok (by repeat (first | exact PF.body | with_reducible apply PF.inB | with_reducible apply PF.next)) [(0, {}), (1, {k := 1, p := 1}), (2, {f := 2}), (3, {}), (4, {}), (5, {k := 1, p := 1}), (6, {f := 2}), (7, {}), (8, {}), (9, {}), (10, {k := 1, p := 1}), (11, {}), (12, {}), (13, {}), (14, {k := 0, p := 0}), (15, {}), (16, {}), (17, {}), (18, {})] [3, 0, 1, 107] (T' := [(3, .pointer (some ⟨b2, 0, none⟩)), (0, .pointer (some ⟨bl, 0, none⟩)), (1, .agg #[.int .u8 op.kind, .int .i64 op.n, .int .i64 op.m, .int .u8 op.ev.kind, .int .u32 op.ev.pick, .int .u64 op.ev.arg]), (107, .bool (decide (op.n < ((lg.sns.length : Nat) : Int))))]) (φ := (b2 = b2 ∧ Nat.ble (0 + 1) 6 = true) ∧ ((op.kind == 11)) = true ∧ (b2 = b2 ∧ Nat.ble (1 + 1) 6 = true) ∧ (decide (op.n ≥ 0)) = true ∧ (b2 = b2 ∧ Nat.ble (1 + 1) 6 = true) ∧ (bl = bl ∧ Nat.ble (17 + 1) 18 = true) ∧ True) (fuel := 0) h636 (by kernel_rfl) rfl (by kernel_rfl) (by kernel_rfl) ⟨trivial, rfl, trivial, trivial, trivial, rfl, trivial, trivial, trivial, trivial, rfl, trivial, trivial, trivial, rfl, trivial, trivial, trivial, trivial, trivial⟩ ⟨⟨rfl, rfl⟩, hb633, ⟨rfl, rfl⟩, hb634, ⟨rfl, rfl⟩, ⟨rfl, rfl⟩, trivial⟩ fun a638 h639 => ?_
                clear h636
                refine wpAnyK_done (by kernel_rfl) ?_ _
                refine hK632 _ _ ?_
                clear hK632
                refine c_split h639 (b := decide (op.n < ((lg.sns.length : Nat) : Int))) rfl (fun hc640 => ?_) (fun hc640 => ?_)
                ·
                  exact absurd (hc640.symm.trans hb589) (by decide)
                ·
                  have hc640f : ¬ op.n < ((lg.sns.length : Nat) : Int) := by simpa using hc640
                  refine wp_skip ?_
                  have hT : tampR lg op = lg := by unfold tampR; rw [if_neg (by omega), if_neg (by omega), if_neg (by omega)]
                  try simp only [Exit.then, Exit.inBlock]
                  try rw [if_pos trivial]
                  exact s_end tabOk tabZ_ok h639 [] (vs := []) (φ := True) rfl (by kernel_rfl) trivial ⟨rfl, by rw [hT]; exact LogAt.of (h639.kn (k := 0) rfl) h639.inv hsep, h639.frame⟩
              ·
                exact absurd (hb634.symm.trans hb588) (by decide)
            ·
              exact absurd (hb633.symm.trans hb587) (by decide)
        ·
          have hb588f : ¬ (op.n ≥ 0) := by simpa using hb588
          refine dr_start (KB := [bl, b2]) (Bi := [[0, 1], [0, 1], [0, 1], [0, 1], [0, 1], [0, 1], [0, 1], [0, 1], [0, 1], [0, 1], [0, 1], [0, 1], [0, 1], [0, 1], [0, 1], [0, 1], [0, 1], [0, 1], [0, 1], [0, 1], [0, 1], [0, 1], [0, 1], [0, 1], [0, 1]]) mixed h585 fun w641 h642 => ?_
          clear h585
          refine dr_batch tabOk tabZ_ok (by repeat (first | exact PF.body | with_reducible apply PF.inB | with_reducible apply PF.next)) [(0, {}), (1, {k := 1, p := 1}), (2, {f := 2}), (3, {}), (4, {}), (5, {k := 1, p := 1}), (6, {f := 1}), (7, {}), (8, {}), (9, {}), (10, {k := 0, p := 0}), (11, {}), (12, {}), (13, {}), (14, {k := 0, p := 0}), (15, {}), (16, {}), (17, {}), (18, {}), (19, {}), (20, {k := 0, p := 0}), (21, {}), (22, {}), (23, {}), (24, {})] [3, 0, 1, 70] (T' := [(3, .pointer (some ⟨b2, 0, none⟩)), (0, .pointer (some ⟨bl, 0, none⟩)), (1, .agg #[.int .u8 op.kind, .int .i64 op.n, .int .i64 op.m, .int .u8 op.ev.kind, .int .u32 op.ev.pick, .int .u64 op.ev.arg]), (70, .bool false)]) (φ := (b2 = b2 ∧ Nat.ble (0 + 1) 6 = true) ∧ ((op.kind == 11)) = true ∧ (b2 = b2 ∧ Nat.ble (1 + 1) 6 = true) ∧ (decide (op.n ≥ 0)) = false ∧ True) (fuel := 0) h642 (by kernel_rfl) rfl (by kernel_rfl) (by kernel_rfl) ⟨trivial, rfl, trivial, trivial, trivial, rfl, trivial, trivial, trivial, trivial, rfl, trivial, trivial, trivial, rfl, trivial, trivial, trivial, trivial, trivial, rfl, trivial, trivial, trivial, trivial, trivial⟩ ⟨⟨rfl, rfl⟩, hb587, ⟨rfl, rfl⟩, hb588, trivial⟩ fun a644 h645 => ?_
          clear h642
          refine wpAnyK_done (by kernel_rfl) ?_ _
          refine hK586 _ _ ?_
          clear hK586
          refine c_false h645 rfl ?_
          refine wp_seq_k fun K646 hK646 => ?_
          rcases Bool.eq_false_or_eq_true ((op.kind == 11)) with hb647 | hb647
          ·
            have hb647f : op.kind = 11 := by simpa using hb647
            rcases Bool.eq_false_or_eq_true (decide (op.n ≥ 0)) with hb648 | hb648
            ·
              exact absurd (hb648.symm.trans hb588) (by decide)
            ·
              have hb648f : ¬ (op.n ≥ 0) := by simpa using hb648
              refine dr_start (KB := [bl, b2]) (Bi := [[0, 1], [0, 1], [0, 1], [0, 1], [0, 1], [0, 1], [0, 1], [0, 1], [0, 1], [0, 1], [0, 1], [0, 1], [0, 1], [0, 1], [0, 1], [0, 1], [0, 1], [0, 1], [0, 1]]) mixed h645 fun w649 h650 => ?_
              clear h645
              refine dr_batch tabOk tabZ_ok (by repeat (first | exact PF.body | with_reducible apply PF.inB | with_reducible apply PF.next)) [(0, {}), (1, {k := 1, p := 1}), (2, {f := 2}), (3, {}), (4, {}), (5, {k := 1, p := 1}), (6, {f := 1}), (7, {}), (8, {}), (9, {}), (10, {k := 0, p := 0}), (11, {}), (12, {}), (13, {}), (14, {k := 0, p := 0}), (15, {}), (16, {}), (17, {}), (18, {})] [3, 0, 1, 107] (T' := [(3, .pointer (some ⟨b2, 0, none⟩)), (0, .pointer (some ⟨bl, 0, none⟩)), (1, .agg #[.int .u8 op.kind, .int .i64 op.n, .int .i64 op.m, .int .u8 op.ev.kind, .int .u32 op.ev.pick, .int .u64 op.ev.arg]), (107, .bool false)]) (φ := (b2 = b2 ∧ Nat.ble (0 + 1) 6 = true) ∧ ((op.kind == 11)) = true ∧ (b2 = b2 ∧ Nat.ble (1 + 1) 6 = true) ∧ (decide (op.n ≥ 0)) = false ∧ True) (fuel := 0) h650 (by kernel_rfl) rfl (by kernel_rfl) (by kernel_rfl) ⟨trivial, rfl, trivial, trivial, trivial, rfl, trivial, trivial, trivial, trivial, rfl, trivial, trivial, trivial, rfl, trivial, trivial, trivial, trivial, trivial⟩ ⟨⟨rfl, rfl⟩, hb647, ⟨rfl, rfl⟩, hb648, trivial⟩ fun a652 h653 => ?_
              clear h650
              refine wpAnyK_done (by kernel_rfl) ?_ _
              refine hK646 _ _ ?_
              clear hK646
              refine c_false h653 rfl ?_
              refine wp_skip ?_
              have hT : tampR lg op = lg := by unfold tampR; rw [if_neg (by omega), if_neg (by omega), if_neg (by omega)]
              try simp only [Exit.then, Exit.inBlock]
              try rw [if_pos trivial]
              exact s_end tabOk tabZ_ok h653 [] (vs := []) (φ := True) rfl (by kernel_rfl) trivial ⟨rfl, by rw [hT]; exact LogAt.of (h653.kn (k := 0) rfl) h653.inv hsep, h653.frame⟩
          ·
            exact absurd (hb647.symm.trans hb587) (by decide)
      ·
        have hb587f : op.kind ≠ 11 := by simpa using hb587
        refine dr_start (KB := [bl, b2]) (Bi := [[0, 1], [0, 1], [0, 1], [0, 1], [0, 1], [0, 1], [0, 1], [0, 1], [0, 1], [0, 1], [0, 1], [0, 1], [0, 1], [0, 1], [0, 1], [0, 1], [0, 1], [0, 1], [0, 1], [0, 1], [0, 1], [0, 1], [0, 1], [0, 1], [0, 1]]) mixed h585 fun w654 h655 => ?_
        clear h585
        refine dr_batch tabOk tabZ_ok (by repeat (first | exact PF.body | with_reducible apply PF.inB | with_reducible apply PF.next)) [(0, {}), (1, {k := 1, p := 1}), (2, {f := 1}), (3, {}), (4, {}), (5, {k := 0, p := 0}), (6, {}), (7, {}), (8, {}), (9, {}), (10, {k := 0, p := 0}), (11, {}), (12, {}), (13, {}), (14, {k := 0, p := 0}), (15, {}), (16, {}), (17, {}), (18, {}), (19, {}), (20, {k := 0, p := 0}), (21, {}), (22, {}), (23, {}), (24, {})] [3, 0, 1, 70] (T' := [(3, .pointer (some ⟨b2, 0, none⟩)), (0, .pointer (some ⟨bl, 0, none⟩)), (1, .agg #[.int .u8 op.kind, .int .i64 op.n, .int .i64 op.m, .int .u8 op.ev.kind, .int .u32 op.ev.pick, .int .u64 op.ev.arg]), (70, .bool false)]) (φ := (b2 = b2 ∧ Nat.ble (0 + 1) 6 = true) ∧ ((op.kind == 11)) = false ∧ True) (fuel := 0) h655 (by kernel_rfl) rfl (by kernel_rfl) (by kernel_rfl) ⟨trivial, rfl, trivial, trivial, trivial, rfl, trivial, trivial, trivial, trivial, rfl, trivial, trivial, trivial, rfl, trivial, trivial, trivial, trivial, trivial, rfl, trivial, trivial, trivial, trivial, trivial⟩ ⟨⟨rfl, rfl⟩, hb587, trivial⟩ fun a657 h658 => ?_
        clear h655
        refine wpAnyK_done (by kernel_rfl) ?_ _
        refine hK586 _ _ ?_
        clear hK586
        refine c_false h658 rfl ?_
        refine wp_seq_k fun K659 hK659 => ?_
        rcases Bool.eq_false_or_eq_true ((op.kind == 11)) with hb660 | hb660
        ·
          exact absurd (hb660.symm.trans hb587) (by decide)
        ·
          have hb660f : op.kind ≠ 11 := by simpa using hb660
          refine dr_start (KB := [bl, b2]) (Bi := [[0, 1], [0, 1], [0, 1], [0, 1], [0, 1], [0, 1], [0, 1], [0, 1], [0, 1], [0, 1], [0, 1], [0, 1], [0, 1], [0, 1], [0, 1], [0, 1], [0, 1], [0, 1], [0, 1]]) mixed h658 fun w661 h662 => ?_
          clear h658
          refine dr_batch tabOk tabZ_ok (by repeat (first | exact PF.body | with_reducible apply PF.inB | with_reducible apply PF.next)) [(0, {}), (1, {k := 1, p := 1}), (2, {f := 1}), (3, {}), (4, {}), (5, {k := 0, p := 0}), (6, {}), (7, {}), (8, {}), (9, {}), (10, {k := 0, p := 0}), (11, {}), (12, {}), (13, {}), (14, {k := 0, p := 0}), (15, {}), (16, {}), (17, {}), (18, {})] [3, 0, 1, 107] (T' := [(3, .pointer (some ⟨b2, 0, none⟩)), (0, .pointer (some ⟨bl, 0, none⟩)), (1, .agg #[.int .u8 op.kind, .int .i64 op.n, .int .i64 op.m, .int .u8 op.ev.kind, .int .u32 op.ev.pick, .int .u64 op.ev.arg]), (107, .bool false)]) (φ := (b2 = b2 ∧ Nat.ble (0 + 1) 6 = true) ∧ ((op.kind == 11)) = false ∧ True) (fuel := 0) h662 (by kernel_rfl) rfl (by kernel_rfl) (by kernel_rfl) ⟨trivial, rfl, trivial, trivial, trivial, rfl, trivial, trivial, trivial, trivial, rfl, trivial, trivial, trivial, rfl, trivial, trivial, trivial, trivial, trivial⟩ ⟨⟨rfl, rfl⟩, hb660, trivial⟩ fun a664 h665 => ?_
          clear h662
          refine wpAnyK_done (by kernel_rfl) ?_ _
          refine hK659 _ _ ?_
          clear hK659
          refine c_false h665 rfl ?_
          refine wp_skip ?_
          have hT : tampR lg op = lg := by unfold tampR; rw [if_neg (by omega), if_neg (by omega), if_neg (by omega)]
          try simp only [Exit.then, Exit.inBlock]
          try rw [if_pos trivial]
          exact s_end tabOk tabZ_ok h665 [] (vs := []) (φ := True) rfl (by kernel_rfl) trivial ⟨rfl, by rw [hT]; exact LogAt.of (h665.kn (k := 0) rfl) h665.inv hsep, h665.frame⟩

end Go.Proofs.Qxb6500919a
