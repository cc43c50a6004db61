/-
  Events of a log, the cursor. (Made by program: a symbolic walk that prints its steps.)
-/
import Derived.Test.Qxb6500919aFmtTab
import Derived.Test.Qxb6500919aFmtFun
import Derived.Test.Qxb6500919aFmtW1
import Derived.Test.Qxb6500919aFmtW2
import Derived.Test.Qxb6500919aFmtW3
namespace Go.Proofs.Qxb6500919aFmt
open Go.Sx Go.Rp
set_option maxRecDepth 100000
set_option linter.unusedVariables false

/-- The session that has not begun. -/
def ss0 : Ss := { lg := lg0, m := mach0, out := out0, pos := 0, live := true }

theorem new_ok (w : World) : Calls Tryf.prog 5 #[] w fun e w' => ∃ bs bl, e = .returned (.pointer (some ⟨bs, 0, none⟩)) ∧ SessAt w' bs bl hd0 ss0 ∧ Fr [] w w' ∧ w.heap.size ≤ bs ∧ w.heap.size ≤ bl := by
  refine enter0 (n := 8) (K := []) (T := []) (L := []) (args := []) Tryf.func5 rfl rfl rfl rfl knil (by simp) knil ?_
  intro a h
  refine wp_seq_k fun K1 hK1 => ?_
  refine nd_start (l := [0]) rfl ?_
  refine nd_batch tabOk tabZ_ok [(0, {})] [0] (T' := [(0, .pointer none)]) (φ := True) (rest := []) h (by kernel_rfl) rfl trivial fun a2 h3 => ?_
  clear h
  refine nd_done ?_
  refine hK1 _ _ ?_
  clear hK1
  refine wp_seq_k fun K4 hK4 => ?_
  refine nd_start (l := [0, 1, 2]) rfl ?_
  refine nd_op ?_
  refine op_call h3 rfl rfl rfl (callOk Tryf.func15 (by decide) rfl) (args := []) rfl (lnew_ok _) ?_
  rintro _ w9 ⟨b5, rfl, hb6, hf7, hn8⟩
  refine ⟨_, rfl, ?_⟩
  have h10q : St _ _ [(b5, ⟨logC pt0 (.slice none 0 0) (.slice none 0 0) (.slice none 0 0), 89, false⟩)] _ _ := h3.fresh hf7 hn8 hb6
  have h10 := h10q.put (d := some 2) (v := .pointer (some ⟨b5, 0, none⟩)) (T' := [(2, .pointer (some ⟨b5, 0, none⟩)), (0, .pointer none)]) rfl
  clear h3 h10q
  refine nd_op ?_
  refine op_call h10 rfl rfl rfl (callOk Tryf.func14 (by decide) rfl) (args := [.pointer (some ⟨b5, 0, none⟩)]) rfl (open_ok b5 pt0 (.slice none 0 0) (.slice none 0 0) (.slice none 0 0) false _ (h10.kn (k := 0) rfl)) ?_
  rintro _ w15 ⟨b11, rfl, hb12, hf13, hn14⟩
  refine ⟨_, rfl, ?_⟩
  have h16q : St _ _ [(b5, ⟨logC pt0 (.slice none 0 0) (.slice none 0 0) (.slice none 0 0), 89, false⟩), (b11, ⟨sessC (.pointer (some ⟨b5, 0, none⟩)) pt0.st pt0.out pt0.idx false, 60, false⟩)] _ _ := h10.fresh hf13 hn14 hb12
  have h16 := h16q.put (d := some 3) (v := .pointer (some ⟨b11, 0, none⟩)) (T' := [(3, .pointer (some ⟨b11, 0, none⟩)), (2, .pointer (some ⟨b5, 0, none⟩)), (0, .pointer none)]) rfl
  clear h10 h16q
  refine nd_batch tabOk tabZ_ok [(2, {})] [0, 1] (T' := [(0, .pointer none), (1, .pointer (some ⟨b11, 0, none⟩))]) (φ := True) (rest := []) h16 (by kernel_rfl) rfl trivial fun a17 h18 => ?_
  clear h16
  refine nd_done ?_
  refine hK4 _ _ ?_
  clear hK4
  refine wp_seq_k fun K19 hK19 => ?_
  refine nd_start (l := [0, 1, 2, 3]) rfl ?_
  refine nd_batch tabOk tabZ_ok [(0, {}), (1, {}), (2, {})] [0, 1, 6] (T' := [(0, .pointer none), (1, .pointer (some ⟨b11, 0, none⟩)), (6, .pointer (some ⟨b11, 16, none⟩))]) (φ := True) (rest := [3]) h18 (by kernel_rfl) rfl trivial fun a20 h21 => ?_
  clear h18
  refine nd_op ?_
  refine op_store tabOk {k := 1} (L' := [(b5, ⟨logC pt0 (.slice none 0 0) (.slice none 0 0) (.slice none 0 0), 89, false⟩), (b11, ⟨[.pointer (some ⟨b5, 0, none⟩), .int .u64 pt0.st.now, .int .i8 pt0.st.cur, .int .u8 pt0.st.s0, .int .u8 pt0.st.s1, .int .u8 pt0.st.s2, .int .u8 pt0.st.s3, .int .u64 pt0.st.r0, .int .u64 pt0.st.r1, .int .u64 pt0.st.r2, .int .u64 pt0.st.r3, .int .u64 pt0.st.word, .bool pt0.out.refused, .int .i8 pt0.out.running, .int .u64 pt0.out.value, .int .i64 pt0.idx, .bool true], 60, false⟩)]) (φ := b11 = b11 ∧ Nat.ble (16 + 1) 17 = true) h21 rfl rfl rfl (by kernel_rfl) ⟨rfl, rfl⟩ fun w22 h23 => ?_
  clear h21
  refine nd_done ?_
  refine hK19 _ _ ?_
  clear hK19
  refine wp_seq_k fun K24 hK24 => ?_
  refine nd_start (l := [0, 1]) rfl ?_
  refine nd_batch tabOk tabZ_ok [(0, {}), (1, {})] [1, 0] (T' := [(1, .pointer (some ⟨b11, 0, none⟩)), (0, .pointer (some ⟨b11, 0, none⟩))]) (φ := True) (rest := []) h23 (by kernel_rfl) rfl trivial fun a25 h26 => ?_
  clear h23
  refine nd_done ?_
  refine hK24 _ _ ?_
  clear hK24
  refine wp_ret ?_
  try simp only [Exit.then, Exit.inBlock]
  exact s_ret tabOk tabZ_ok h26 [(.tmp 0, {})] (vs := [.pointer (some ⟨b11, 0, none⟩)]) (φ := True) rfl (by kernel_rfl) trivial ⟨b11, b5, rfl, ⟨h26.kn (k := 1) rfl, ⟨h26.kn (k := 0) rfl, ⟨List.nodup_nil, by intro r hr; simp [Hd.rows, hd0] at hr; rcases hr with rfl | rfl | rfl <;> exact Row.nil _ _ _⟩, by simp [Hd.F, hd0]⟩, h26.ne 1 0 rfl rfl rfl, by simp [Hd.F, hd0]⟩, h26.frame, h26.newer (k := 1) rfl rfl, h26.newer (k := 0) rfl rfl⟩

theorem event_ok (bl : Nat) (d : Hd) (lg : Lg) (w : World) (hl : LogAt w bl d lg) (i : Int) (k : Nat) (x : Ev) (hi : i - lg.base.idx = k) (hx : lg.evs[k]? = some x) (hn : lg.evs.length ≤ 1000000000) :
    Calls Tryf.prog 66 #[.pointer (some ⟨bl, 0, none⟩), .int .i64 i] w fun e w' => e = .returned (.agg (evC x).toArray) ∧ Fr [] w w' := by
  obtain ⟨eo, ec, eF, mo, mc, mF, so, sc, sF⟩ := d
  obtain ⟨hbl, hA, hsep⟩ := hl
  refine enter (n := 18) (K := []) (A := Rws [rl evC 31 3 lg.evs eo ec eF, rl mkC 93 2 lg.mks mo mc mF, rl ptC 84 15 lg.sns so sc sF]) (F := Ff [rl evC 31 3 lg.evs eo ec eF, rl mkC 93 2 lg.mks mo mc mF, rl ptC 84 15 lg.sns so sc sF]) (T := [(0, .pointer (some ⟨bl, 0, none⟩)), (1, .int .i64 i)]) (L := [(bl, ⟨logC lg.base (.slice eo lg.evs.length ec) (.slice mo lg.mks.length mc) (.slice so lg.sns.length sc), 89, true⟩)]) (args := [.pointer (some ⟨bl, 0, none⟩), .int .i64 i]) Tryf.func66 rfl rfl rfl rfl (kcons hbl knil) (by simp) (kcons (by intro hq; cases hq) knil) hA Rws.stable (hA).low (kcons (by intro hq; cases hq) knil) ?_
  intro a h
  have hlt := (List.getElem?_eq_some_iff.1 hx).1
  obtain ⟨b1, cs2, ho3, hb4, hc5, hF6, hq8, hl9⟩ := rl_open (h.inv.get (j := 0) rfl) evC_len hx
  subst ho3 hF6
  have h7 := h.open_ hb4 (h.notinL (by simp [Ff]) (kcons (fun _ => (fun hq => hsep (by have hq2 : bl = b1 := hq; rw [hq2]; simp [Hd.F]))) knil))
  clear h
  refine wp_seq_k fun K10 hK10 => ?_
  refine nd_start (l := [0]) rfl ?_
  refine nd_op ?_
  refine op_new tabOk (cells := [.int .u8 0, .int .u32 0, .int .u64 0]) (ty := 31) (ln := none) (L1 := fun b11 => [(bl, ⟨logC lg.base (.slice (some ⟨b1, 0, none⟩) lg.evs.length ec) (.slice mo lg.mks.length mc) (.slice so lg.sns.length sc), 89, true⟩), (b1, ⟨cs2, 31, true⟩), (b11, ⟨[.int .u8 0, .int .u32 0, .int .u64 0], 31, false⟩)]) h7 rfl rfl rfl rfl (by kernel_rfl) (fun _ => rfl) fun b11 w12 a13 h14 hf15 hn16 => ?_
  clear h7
  refine nd_done ?_
  refine hK10 _ _ ?_
  clear hK10
  refine wp_seq_k fun K17 hK17 => ?_
  refine dr_start (KB := [bl, b1, b11]) (Bi := [[0, 1, 2], [0, 1, 2], [0, 1, 2], [0, 1, 2], [0, 1, 2], [0, 1, 2], [0, 1, 2], [0, 1, 2], [0, 1, 2], [0, 1, 2], [0, 1, 2], [0, 1, 2], [0, 1, 2], []]) mixed h14 fun w18 h19 => ?_
  clear h14
  refine dr_batch tabOk tabZ_ok (by repeat (first | exact PF.body | with_reducible apply PF.inB | with_reducible apply PF.next)) [(0, {}), (1, {}), (2, {}), (3, {k := 0, p := 0}), (4, {}), (5, {}), (6, {}), (7, {}), (8, {}), (9, {k := 0, p := 0}), (10, {}), (11, {}), (12, {k := 1, m := 1, vs := [.int .u8 x.kind, .int .u32 x.pick, .int .u64 x.arg], p := 1})] [4, 0, 1, 17] (T' := [(4, .pointer (some ⟨b11, 0, none⟩)), (0, .pointer (some ⟨bl, 0, none⟩)), (1, .int .i64 i), (17, .agg #[.int .u8 x.kind, .int .u32 x.pick, .int .u64 x.arg])]) (φ := (bl = bl ∧ Nat.ble (15 + 1) 18 = true) ∧ (bl = bl ∧ Nat.ble (0 + 1) 18 = true) ∧ inR .i64 (i - lg.base.idx) ∧ (0 ≤ (i - lg.base.idx) ∧ (i - lg.base.idx) < ((lg.evs.length : Nat) : Int)) ∧ (b1 = b1 ∧ cellsAre cs2 (0 + (((i - lg.base.idx).toNat) * 3)) [.int .u8 x.kind, .int .u32 x.pick, .int .u64 x.arg]) ∧ True) (fuel := 1) h19 (by kernel_rfl) rfl (by kernel_rfl) (by kernel_rfl) ⟨trivial, trivial, trivial, rfl, trivial, trivial, trivial, trivial, trivial, rfl, trivial, trivial, rfl, trivial⟩ ⟨⟨rfl, rfl⟩, ⟨rfl, rfl⟩, ⟨by omega, by omega⟩, ⟨by omega, by omega⟩, ⟨rfl, (by rw [show (i - lg.base.idx).toNat = k by omega]; rw [Nat.zero_add]; exact hc5)⟩, trivial⟩ fun a21 h22 => ?_
  clear h19
  refine wpAnyK_one (i := 13) (fuel := 0) (by kernel_rfl) ?_
  refine op_store tabOk {k := 2} (L' := [(bl, ⟨logC lg.base (.slice (some ⟨b1, 0, none⟩) lg.evs.length ec) (.slice mo lg.mks.length mc) (.slice so lg.sns.length sc), 89, true⟩), (b1, ⟨cs2, 31, true⟩), (b11, ⟨[.int .u8 x.kind, .int .u32 x.pick, .int .u64 x.arg], 31, false⟩)]) (φ := b11 = b11 ∧ Nat.ble (0 + 3) 3 = true) h22 rfl rfl rfl (by kernel_rfl) ⟨rfl, rfl⟩ fun w23 h24 => ?_
  have hkh24 := h22.known
  refine ⟨keepNil, ?_⟩
  clear h22
  refine wpAnyK_done (by kernel_rfl) ?_ _
  refine hK17 _ _ ?_
  clear hK17
  refine wp_ret ?_
  try simp only [Exit.then, Exit.inBlock]
  exact s_ret tabOk tabZ_ok h24 [(.cell 4 31, {k := 2})] (vs := [.agg #[.int .u8 x.kind, .int .u32 x.pick, .int .u64 x.arg]]) (φ := (b11 = b11 ∧ Nat.ble (0 + 3) 3 = true) ∧ True) rfl (by kernel_rfl) ⟨⟨rfl, rfl⟩, trivial⟩ ⟨rfl, h24.frame⟩

end Go.Proofs.Qxb6500919aFmt
