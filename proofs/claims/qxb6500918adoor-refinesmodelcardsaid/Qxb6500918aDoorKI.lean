/-
  named. (Made by program: a symbolic walk that prints its steps.)
-/
import Derived.Test.Qxb6500918aDoorKH
import Derived.Test.Qxb6500918aDoorKt
import Derived.Test.Qxb6500918aDoorEq
namespace Go.Proofs.Qxb6500918aDoor
open Go.Sx Go.Kn
set_option maxRecDepth 100000
set_option maxHeartbeats 4000000
set_option linter.unusedVariables false
set_option linter.unusedSimpArgs false

theorem named1_ok (nd : Nat → Nat) (cel : Nat → Cel) (i j : Nat) (hj : j < 16) (s : Int) (b3 b5 : Nat) (o : Rf) (f : Bool) (w : World) (hn : w.heap[nd i]? = some (Blk.obj ⟨ndC cel i, 146, false⟩)) (h3 : w.heap[b3]? = some (Blk.obj ⟨[.int .u16 o.idx, .int .u32 o.gen], 39, false⟩)) (h5 : w.heap[b5]? = some (Blk.obj ⟨[.bool f], 4, false⟩)) (hne : nd i ≠ b3 ∧ nd i ≠ b5 ∧ b3 ≠ b5) :
    Calls Tryd.prog 114 #[.int .i64 s, .pointer (some ⟨nd i, j * 6, none⟩), .pointer (some ⟨b3, 0, none⟩), .pointer (some ⟨b5, 0, none⟩)] w fun e w' => e = .returned (.tuple #[]) ∧ w'.heap[b5]? = some (Blk.obj ⟨[.bool (f || namesP (cel (i * 16 + j)) o)], 4, false⟩) ∧ Fr [b5] w w' := by
  refine enter0 (n := 21) (K := [b5]) (T := [(0, .int .i64 s), (1, .pointer (some ⟨(nd i), (j * 6), none⟩)), (2, .pointer (some ⟨b3, 0, none⟩)), (3, .pointer (some ⟨b5, 0, none⟩))]) (L := [((nd i), ⟨ndC cel i, 146, true⟩), (b3, ⟨[.int .u16 o.idx, .int .u32 o.gen], 39, true⟩), (b5, ⟨[.bool f], 4, false⟩)]) (args := [.int .i64 s, .pointer (some ⟨(nd i), (j * 6), none⟩), .pointer (some ⟨b3, 0, none⟩), .pointer (some ⟨b5, 0, none⟩)]) Tryd.func114 rfl rfl rfl rfl (kcons hn (kcons h3 (kcons h5 knil))) (by simp; exact ⟨⟨hne.1, hne.2.1⟩, hne.2.2⟩) (kcons (by intro hq; cases hq) (kcons (by intro hq; cases hq) (kcons (by simp) knil))) ?_
  intro a h
  refine wp_seq_k fun K1 hK1 => ?_
  rcases Bool.eq_false_or_eq_true (((cel (i * 16 + j)).cap.ty != 0)) with hb2 | hb2
  ·
    have hb2f : (cel (i * 16 + j)).cap.ty ≠ 0 := by simpa using hb2
    refine dr_start (KB := [(nd i), b3, b5]) (Bi := [[0, 1, 2], [0, 1, 2], [0, 1, 2], [0, 1, 2], [0, 1, 2], [0, 1, 2], [0, 1, 2], [0, 1, 2], [0, 1, 2], [0, 1, 2], [0, 1, 2], [0, 1, 2], [0, 1, 2], [0, 1, 2], [0, 1, 2]]) mixed h fun w3 h4 => ?_
    clear h
    refine dr_batch tabOk tabZ_ok (by repeat (first | with_reducible exact PF.body | with_reducible apply PF.inB | with_reducible apply PF.next)) [(0, {}), (1, {}), (2, {}), (3, {}), (4, {k := 0, m := 1, vs := [.int .u8 ((cel (i * 16 + j)).cap.ty)], p := 0}), (5, {f := 2}), (6, {}), (7, {}), (8, {}), (9, {}), (10, {}), (11, {k := 0, m := 1, vs := [.int .u16 ((cel (i * 16 + j)).cap.obj.idx), .int .u32 ((cel (i * 16 + j)).cap.obj.gen)], p := 0}), (12, {k := 1, p := 1}), (13, {vs := [.bool (decide ((cel (i * 16 + j)).cap.obj = o))]}), (14, {})] [1, 2, 3, 20] (T' := [(1, .pointer (some ⟨(nd i), (j * 6), none⟩)), (2, .pointer (some ⟨b3, 0, none⟩)), (3, .pointer (some ⟨b5, 0, none⟩)), (20, .bool (Bool.xor false (decide ((cel (i * 16 + j)).cap.obj = o))))]) (φ := ((nd i) = (nd i) ∧ cellsAre (ndC cel i) (j * 6) [.int .u8 ((cel (i * 16 + j)).cap.ty)]) ∧ (((cel (i * 16 + j)).cap.ty != 0)) = true ∧ ((nd i) = (nd i) ∧ cellsAre (ndC cel i) ((j * 6) + 1) [.int .u16 ((cel (i * 16 + j)).cap.obj.idx), .int .u32 ((cel (i * 16 + j)).cap.obj.gen)]) ∧ (b3 = b3 ∧ Nat.ble (0 + 2) 2 = true) ∧ EqRun Tryd.prog 39 (.agg #[.int .u16 ((cel (i * 16 + j)).cap.obj.idx), .int .u32 ((cel (i * 16 + j)).cap.obj.gen)]) (.agg #[.int .u16 o.idx, .int .u32 o.gen]) (decide ((cel (i * 16 + j)).cap.obj = o)) ∧ True) (fuel := 0) h4 (by kernel_rfl) rfl (by kernel_rfl) (by kernel_rfl) ⟨trivial, trivial, trivial, trivial, rfl, trivial, trivial, trivial, trivial, trivial, trivial, rfl, rfl, trivial, trivial, trivial⟩ ⟨⟨rfl, (nd_read (j := j) (k := 0) hj (by omega) ⟨rfl, trivial⟩)⟩, hb2, ⟨rfl, (nd_read (j := j) (k := 1) hj (by omega) ⟨rfl, rfl, trivial⟩)⟩, ⟨rfl, rfl⟩, (runRf ((cel (i * 16 + j)).cap.obj) o), trivial⟩ fun a6 h7 => ?_
    clear h4
    refine wpAnyK_done (by kernel_rfl) ?_ _
    refine hK1 _ _ ?_
    clear hK1
    refine c_split h7 (b := (Bool.xor false (decide ((cel (i * 16 + j)).cap.obj = o)))) rfl (fun hc8 => ?_) (fun hc8 => ?_)
    ·
      have hc8f : (cel (i * 16 + j)).cap.obj = o := by simpa using hc8
      refine nd_start (l := [0]) rfl ?_
      refine nd_op ?_
      refine op_store tabOk {k := 2} (L' := [((nd i), ⟨ndC cel i, 146, true⟩), (b3, ⟨[.int .u16 o.idx, .int .u32 o.gen], 39, true⟩), (b5, ⟨[.bool true], 4, false⟩)]) (φ := b5 = b5 ∧ Nat.ble (0 + 1) 1 = true) h7 rfl rfl rfl (by kernel_rfl) ⟨rfl, rfl⟩ fun w9 h10 => ?_
      clear h7
      refine nd_done ?_
      try simp only [Exit.then, Exit.inBlock]
      try rw [if_pos trivial]
      exact s_end tabOk tabZ_ok h10 [] (vs := []) (φ := True) rfl (by kernel_rfl) trivial ⟨rfl, (by rw [show (f || namesP (cel (i * 16 + j)) o) = true by simp [namesP, hb2f, hc8f]]; exact h10.kn (k := 2) rfl), h10.frame⟩
    ·
      have hc8f : ¬ ((cel (i * 16 + j)).cap.obj = o) := by simpa using hc8
      refine wp_skip ?_
      try simp only [Exit.then, Exit.inBlock]
      try rw [if_pos trivial]
      exact s_end tabOk tabZ_ok h7 [] (vs := []) (φ := True) rfl (by kernel_rfl) trivial ⟨rfl, (by rw [show (f || namesP (cel (i * 16 + j)) o) = f by simp [namesP, hb2f, hc8f]]; exact h7.kn (k := 2) rfl), h7.frame⟩
  ·
    have hb2f : (cel (i * 16 + j)).cap.ty = 0 := by simpa using hb2
    refine dr_start (KB := [(nd i), b3, b5]) (Bi := [[0, 1, 2], [0, 1, 2], [0, 1, 2], [0, 1, 2], [0, 1, 2], [0, 1, 2], [0, 1, 2], [0, 1, 2], [0, 1, 2], [0, 1, 2], [0, 1, 2], [0, 1, 2], [0, 1, 2], [0, 1, 2], [0, 1, 2]]) mixed h fun w11 h12 => ?_
    clear h
    refine dr_batch tabOk tabZ_ok (by repeat (first | with_reducible exact PF.body | with_reducible apply PF.inB | with_reducible apply PF.next)) [(0, {}), (1, {}), (2, {}), (3, {}), (4, {k := 0, m := 1, vs := [.int .u8 ((cel (i * 16 + j)).cap.ty)], p := 0}), (5, {f := 1}), (6, {}), (7, {}), (8, {}), (9, {}), (10, {}), (11, {k := 0, p := 0}), (12, {k := 0, p := 0}), (13, {}), (14, {})] [1, 2, 3, 20] (T' := [(1, .pointer (some ⟨(nd i), (j * 6), none⟩)), (2, .pointer (some ⟨b3, 0, none⟩)), (3, .pointer (some ⟨b5, 0, none⟩)), (20, .bool false)]) (φ := ((nd i) = (nd i) ∧ cellsAre (ndC cel i) (j * 6) [.int .u8 ((cel (i * 16 + j)).cap.ty)]) ∧ (((cel (i * 16 + j)).cap.ty != 0)) = false ∧ True) (fuel := 0) h12 (by kernel_rfl) rfl (by kernel_rfl) (by kernel_rfl) ⟨trivial, trivial, trivial, trivial, rfl, trivial, trivial, trivial, trivial, trivial, trivial, rfl, rfl, trivial, trivial, trivial⟩ ⟨⟨rfl, (nd_read (j := j) (k := 0) hj (by omega) ⟨rfl, trivial⟩)⟩, hb2, trivial⟩ fun a14 h15 => ?_
    clear h12
    refine wpAnyK_done (by kernel_rfl) ?_ _
    refine hK1 _ _ ?_
    clear hK1
    refine c_false h15 rfl ?_
    refine wp_skip ?_
    try simp only [Exit.then, Exit.inBlock]
    try rw [if_pos trivial]
    exact s_end tabOk tabZ_ok h15 [] (vs := []) (φ := True) rfl (by kernel_rfl) trivial ⟨rfl, (by rw [show (f || namesP (cel (i * 16 + j)) o) = f by simp [namesP, hb2f]]; exact h15.kn (k := 2) rfl), h15.frame⟩

theorem named_each (bo bc : Nat) (nd : Nat → Nat) (C : CP) (o : Rf) (b3 b5 : Nat) (w : World) (hc : CapAt w bo bc nd C) (h3 : w.heap[b3]? = some (Blk.obj ⟨[.int .u16 o.idx, .int .u32 o.gen], 39, false⟩)) (h5 : w.heap[b5]? = some (Blk.obj ⟨[.bool false], 4, false⟩)) (hne : b3 ≠ b5 ∧ b3 ∉ capF bo bc nd C ∧ b5 ∉ capF bo bc nd C) :
    Calls Tryd.prog 70 #[.pointer (some ⟨bc, 0, none⟩), .func (.func 114) #[] #[.pointer (some ⟨b3, 0, none⟩), .pointer (some ⟨b5, 0, none⟩)]] w fun e w' => e = .returned (.tuple #[]) ∧ w'.heap[b5]? = some (Blk.obj ⟨[.bool (namedP C o)], 4, false⟩) ∧ Fr [b5] w w' := by
  refine each_ok bo bc nd C.pres 114 [.pointer (some ⟨b3, 0, none⟩), .pointer (some ⟨b5, 0, none⟩)] (callOk Tryd.func114 (by decide) rfl) [b5] (fun n w1 => w1.heap[b5]? = some (Blk.obj ⟨[.bool (namedUp C o n)], 4, false⟩)) w hc.sp h5 ?_ ?_
  · intro i j hi hj hp w1 hI hf
    have hm : nd i ∈ capF bo bc nd C := mem_capF.2 (.inr (.inr ⟨i, hi, hp, rfl⟩))
    have hn1 : nd i ≠ b5 := fun hq => hne.2.2 (hq ▸ hm)
    have hn3 : nd i ≠ b3 := fun hq => hne.2.1 (hq ▸ hm)
    have e1 : w1.heap[nd i]? = some (Blk.obj ⟨ndC C.cel i, 146, false⟩) := by rw [hf.block _ (lt_of_heap (hc.no hi hp)) (by simp; exact hn1)]; exact hc.no hi hp
    have e3 : w1.heap[b3]? = some (Blk.obj ⟨[.int .u16 o.idx, .int .u32 o.gen], 39, false⟩) := by rw [hf.block _ (lt_of_heap h3) (by simp; exact hne.1)]; exact h3
    refine (named1_ok nd C.cel i j hj _ b3 b5 o _ w1 e1 e3 hI ⟨hn3, hn1, hne.1⟩).mono ?_
    rintro e w' ⟨rfl, h1, h2⟩
    refine ⟨rfl, ?_, hf.trans h2 (fun _ hq => .inl hq)⟩
    rw [namedUp, show (i * 16 + j) / 16 = i by omega, hp, Bool.true_and]
    exact h1
  · intro i hi hp w1 h
    rw [namedUp_skip hp 16 (by omega)]; exact h

theorem named_ok (bo bc : Nat) (nd : Nat → Nat) (C : CP) (o : Rf) (w : World) (hc : CapAt w bo bc nd C) :
    Calls Tryd.prog 109 #[.pointer (some ⟨bc, 0, none⟩), .agg #[.int .u16 o.idx, .int .u32 o.gen]] w fun e w' => e = .returned (.bool (namedP C o)) ∧ Fr [] w w' := by
  refine enter (n := 10) (K := []) (A := fun w => CapAt w bo bc nd C) (F := (capF bo bc nd C)) (T := [(0, .pointer (some ⟨bc, 0, none⟩)), (1, .agg #[.int .u16 o.idx, .int .u32 o.gen])]) (L := []) (args := [.pointer (some ⟨bc, 0, none⟩), .agg #[.int .u16 o.idx, .int .u32 o.gen]]) Tryd.func109 rfl rfl rfl rfl knil (by simp) knil hc CapAt.stable hc.low knil ?_
  intro a h
  refine wp_seq_k fun K1 hK1 => ?_
  refine nd_start (l := [0, 1]) rfl ?_
  refine nd_op ?_
  refine op_new tabOk (cells := [.int .u16 o.idx, .int .u32 o.gen]) (ty := 39) (ln := none) (L1 := fun b2 => [(b2, ⟨[.int .u16 o.idx, .int .u32 o.gen], 39, false⟩)]) h rfl rfl rfl rfl (by kernel_rfl) (fun _ => rfl) fun b2 w3 a4 h5 hf6 hn7 => ?_
  clear h
  refine nd_batch tabOk tabZ_ok [(1, {})] [3, 0, 1, 4] (T' := [(3, .pointer (some ⟨b2, 0, none⟩)), (0, .pointer (some ⟨bc, 0, none⟩)), (1, .agg #[.int .u16 o.idx, .int .u32 o.gen]), (4, .bool false)]) (φ := True) (rest := []) h5 (by kernel_rfl) rfl trivial fun a8 h9 => ?_
  clear h5
  refine nd_done ?_
  refine hK1 _ _ ?_
  clear hK1
  refine wp_seq_k fun K10 hK10 => ?_
  refine nd_start (l := [0, 1]) rfl ?_
  refine nd_op ?_
  refine op_new tabOk (cells := [.bool false]) (ty := 4) (ln := none) (L1 := fun b11 => [(b2, ⟨[.int .u16 o.idx, .int .u32 o.gen], 39, false⟩), (b11, ⟨[.bool false], 4, false⟩)]) h9 rfl rfl rfl rfl (by kernel_rfl) (fun _ => rfl) fun b11 w12 a13 h14 hf15 hn16 => ?_
  clear h9
  refine nd_op ?_
  refine op_store tabOk {k := 1} (L' := [(b2, ⟨[.int .u16 o.idx, .int .u32 o.gen], 39, false⟩), (b11, ⟨[.bool false], 4, false⟩)]) (φ := b11 = b11 ∧ Nat.ble (0 + 1) 1 = true) h14 rfl rfl rfl (by kernel_rfl) ⟨rfl, rfl⟩ fun w17 h18 => ?_
  clear h14
  refine nd_done ?_
  refine hK10 _ _ ?_
  clear hK10
  refine wp_seq_k fun K19 hK19 => ?_
  refine nd_start (l := [0, 1, 2]) rfl ?_
  refine nd_batch tabOk tabZ_ok [(0, {}), (1, {})] [5, 3, 0, 1, 4, 6, 7] (T' := [(5, .pointer (some ⟨b11, 0, none⟩)), (3, .pointer (some ⟨b2, 0, none⟩)), (0, .pointer (some ⟨bc, 0, none⟩)), (1, .agg #[.int .u16 o.idx, .int .u32 o.gen]), (4, .bool false), (6, .pointer (some ⟨bc, 0, none⟩)), (7, .func (.func 114) #[] #[.pointer (some ⟨b2, 0, none⟩), .pointer (some ⟨b11, 0, none⟩)])]) (φ := True) (rest := [2]) h18 (by kernel_rfl) rfl trivial fun a20 h21 => ?_
  clear h18
  refine nd_op ?_
  refine op_call h21 rfl rfl rfl (callOk Tryd.func70 (by decide) rfl) (args := [.pointer (some ⟨bc, 0, none⟩), .func (.func 114) #[] #[.pointer (some ⟨b2, 0, none⟩), .pointer (some ⟨b11, 0, none⟩)]]) rfl (named_each bo bc nd C o b2 b11 _ h21.inv (h21.kn (k := 0) rfl) (h21.kn (k := 1) rfl) ?_) ?_
  · exact ⟨nodup_key h21.nodup (i := 0) (j := 1) rfl rfl (by decide), h21.dj (k := 0) rfl rfl, h21.dj (k := 1) rfl rfl⟩
  rintro _ w22 ⟨rfl, hr25, hf23⟩
  refine ⟨_, rfl, ?_⟩
  have h24 := (h21.setBlk (k := 1) rfl rfl hf23 hr25 (L' := [(b2, ⟨[.int .u16 o.idx, .int .u32 o.gen], 39, false⟩), (b11, ⟨[.bool (namedP C o)], 4, false⟩)]) rfl).put (d := some 8) (v := .tuple #[]) (T' := [(8, .tuple #[]), (5, .pointer (some ⟨b11, 0, none⟩)), (3, .pointer (some ⟨b2, 0, none⟩)), (0, .pointer (some ⟨bc, 0, none⟩)), (1, .agg #[.int .u16 o.idx, .int .u32 o.gen]), (4, .bool false), (6, .pointer (some ⟨bc, 0, none⟩)), (7, .func (.func 114) #[] #[.pointer (some ⟨b2, 0, none⟩), .pointer (some ⟨b11, 0, none⟩)])]) rfl
  clear h21
  refine nd_done ?_
  refine hK19 _ _ ?_
  clear hK19
  refine wp_seq_k fun K26 hK26 => ?_
  refine nd_start (l := [0, 1]) rfl ?_
  refine nd_batch tabOk tabZ_ok [(0, {k := 1}), (1, {})] [5, 3, 0, 1, 4] (T' := [(5, .pointer (some ⟨b11, 0, none⟩)), (3, .pointer (some ⟨b2, 0, none⟩)), (0, .pointer (some ⟨bc, 0, none⟩)), (1, .agg #[.int .u16 o.idx, .int .u32 o.gen]), (4, .bool (namedP C o))]) (φ := (b11 = b11 ∧ Nat.ble (0 + 1) 1 = true) ∧ True) (rest := []) h24 (by kernel_rfl) rfl ⟨⟨rfl, rfl⟩, trivial⟩ fun a27 h28 => ?_
  clear h24
  refine nd_done ?_
  refine hK26 _ _ ?_
  clear hK26
  refine wp_ret ?_
  try simp only [Exit.then, Exit.inBlock]
  try rw [if_pos trivial]
  exact s_ret tabOk tabZ_ok h28 [(.tmp 4, {})] (vs := [.bool (namedP C o)]) (φ := True) rfl (by kernel_rfl) trivial ⟨rfl, h28.frame⟩

end Go.Proofs.Qxb6500918aDoor
