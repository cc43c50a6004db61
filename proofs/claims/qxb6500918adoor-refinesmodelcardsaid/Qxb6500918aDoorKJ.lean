/-
  Delete: the children, the freeing. (Made by program: a symbolic walk that prints its steps.)
-/
import Derived.Test.Qxb6500918aDoorKI
import Derived.Test.Qxb6500918aDoorSxS
namespace Go.Proofs.Qxb6500918aDoor
open Go.Sx Go.Kn
set_option maxRecDepth 100000
set_option maxHeartbeats 4000000
set_option linter.unusedVariables false
set_option linter.unusedSimpArgs false

theorem delete1_ok (nd : Nat → Nat) (cel : Nat → Cel) (i j : Nat) (hj : j < 16) (s : Int) (b3 b5 : Nat) (sl : Int) (g : Cel) (w : World) (hn : w.heap[nd i]? = some (Blk.obj ⟨ndC cel i, 146, false⟩)) (h3 : w.heap[b3]? = some (Blk.obj ⟨[.int .i64 sl], 3, false⟩)) (h5 : w.heap[b5]? = some (Blk.obj ⟨celC g, 145, false⟩)) (hne : nd i ≠ b3 ∧ nd i ≠ b5 ∧ b3 ≠ b5) :
    Calls Tryd.prog 108 #[.int .i64 s, .pointer (some ⟨nd i, j * 6, none⟩), .pointer (some ⟨b3, 0, none⟩), .pointer (some ⟨b5, 0, none⟩)] w fun e w' => e = .returned (.tuple #[]) ∧ w'.heap[nd i]? = some (Blk.obj ⟨ndC (upd cel (i * 16 + j) (rep1 (cel (i * 16 + j)) sl g.parent)) i, 146, false⟩) ∧ Fr [nd i] w w' := by
  refine enter0 (n := 17) (K := [nd i]) (T := [(0, .int .i64 s), (1, .pointer (some ⟨(nd i), (j * 6), none⟩)), (2, .pointer (some ⟨b3, 0, none⟩)), (3, .pointer (some ⟨b5, 0, none⟩))]) (L := [((nd i), ⟨ndC cel i, 146, false⟩), (b3, ⟨[.int .i64 sl], 3, true⟩), (b5, ⟨celC g, 145, true⟩)]) (args := [.int .i64 s, .pointer (some ⟨(nd i), (j * 6), none⟩), .pointer (some ⟨b3, 0, none⟩), .pointer (some ⟨b5, 0, none⟩)]) Tryd.func108 rfl rfl rfl rfl (kcons hn (kcons h3 (kcons h5 knil))) (by simp; exact ⟨⟨hne.1, hne.2.1⟩, hne.2.2⟩) (kcons (by simp) (kcons (by intro hq; cases hq) (kcons (by intro hq; cases hq) knil))) ?_
  intro a h
  refine wp_seq_k fun K1 hK1 => ?_
  refine dr_start (KB := [(nd i), b3, b5]) (Bi := [[0, 1, 2], [0, 1, 2], [0, 1, 2], [0, 1, 2], [0, 1, 2], [0, 1, 2]]) mixed h fun w2 h3 => ?_
  clear h
  refine dr_batch tabOk tabZ_ok (by repeat (first | with_reducible exact PF.body | with_reducible apply PF.inB | with_reducible apply PF.next)) [(0, {}), (1, {}), (2, {}), (3, {k := 0, m := 1, vs := [.int .i64 ((cel (i * 16 + j)).parent)], p := 0}), (4, {k := 1, p := 1}), (5, {})] [1, 2, 3, 11] (T' := [(1, .pointer (some ⟨(nd i), (j * 6), none⟩)), (2, .pointer (some ⟨b3, 0, none⟩)), (3, .pointer (some ⟨b5, 0, none⟩)), (11, .bool ((cel (i * 16 + j)).parent == sl))]) (φ := ((nd i) = (nd i) ∧ cellsAre (ndC cel i) ((j * 6) + 5) [.int .i64 ((cel (i * 16 + j)).parent)]) ∧ (b3 = b3 ∧ Nat.ble (0 + 1) 1 = true) ∧ True) (fuel := 0) h3 (by kernel_rfl) rfl (by kernel_rfl) (by kernel_rfl) ⟨trivial, trivial, trivial, rfl, rfl, trivial, trivial⟩ ⟨⟨rfl, (nd_read (j := j) (k := 5) hj (by omega) ⟨rfl, trivial⟩)⟩, ⟨rfl, rfl⟩, trivial⟩ fun a5 h6 => ?_
  clear h3
  refine wpAnyK_done (by kernel_rfl) ?_ _
  refine hK1 _ _ ?_
  clear hK1
  refine c_split h6 (b := ((cel (i * 16 + j)).parent == sl)) rfl (fun hc7 => ?_) (fun hc7 => ?_)
  ·
    have hc7f : (cel (i * 16 + j)).parent = sl := by simpa using hc7
    refine nd_start (l := [0, 1, 2, 3, 4, 5]) rfl ?_
    refine nd_batch tabOk tabZ_ok [(0, {}), (1, {}), (2, {k := 2}), (3, {}), (4, {})] [1, 2, 3, 14, 16] (T' := [(1, .pointer (some ⟨(nd i), (j * 6), none⟩)), (2, .pointer (some ⟨b3, 0, none⟩)), (3, .pointer (some ⟨b5, 0, none⟩)), (14, .int .i64 g.parent), (16, .pointer (some ⟨(nd i), (j * 6) + 5, none⟩))]) (φ := (b5 = b5 ∧ Nat.ble (5 + 1) 6 = true) ∧ True) (rest := [5]) h6 (by kernel_rfl) rfl ⟨⟨rfl, rfl⟩, trivial⟩ fun a8 h9 => ?_
    clear h6
    refine nd_op ?_
    refine op_store tabOk {k := 0, m := 1, vs := ndC (upd cel (i * 16 + j) { cel (i * 16 + j) with parent := g.parent }) i} (L' := [((nd i), ⟨ndC (upd cel (i * 16 + j) { cel (i * 16 + j) with parent := g.parent }) i, 146, false⟩), (b3, ⟨[.int .i64 sl], 3, true⟩), (b5, ⟨celC g, 145, true⟩)]) (φ := (nd i) = (nd i) ∧ Nat.ble ((j * 6) + 5 + 1) (ndC cel i).length = true ∧ splice (ndC cel i) ((j * 6) + 5) [.int .i64 g.parent] = ndC (upd cel (i * 16 + j) { cel (i * 16 + j) with parent := g.parent }) i) h9 rfl rfl rfl (by kernel_rfl) ⟨rfl, nd_in (by omega), (nd_write (j := j) (k := 5) hj (Nat.le_of_ble_eq_true rfl) (by omega) rfl)⟩ fun w10 h11 => ?_
    clear h9
    refine nd_done ?_
    try simp only [Exit.then, Exit.inBlock]
    try rw [if_pos trivial]
    exact s_end tabOk tabZ_ok h11 [] (vs := []) (φ := True) rfl (by kernel_rfl) trivial ⟨rfl, (by rw [show rep1 (cel (i * 16 + j)) sl g.parent = { cel (i * 16 + j) with parent := g.parent } from if_pos hc7f]; exact h11.kn (k := 0) rfl), h11.frame⟩
  ·
    have hc7f : (cel (i * 16 + j)).parent ≠ sl := by simpa using hc7
    refine wp_skip ?_
    try simp only [Exit.then, Exit.inBlock]
    try rw [if_pos trivial]
    exact s_end tabOk tabZ_ok h6 [] (vs := []) (φ := True) rfl (by kernel_rfl) trivial ⟨rfl, (by rw [show rep1 (cel (i * 16 + j)) sl g.parent = cel (i * 16 + j) from if_neg hc7f, upd_self]; exact h6.kn (k := 0) rfl), h6.frame⟩

theorem repar_each (bo bc : Nat) (nd : Nat → Nat) (C : CP) (sl : Int) (g : Cel) (b3 b5 : Nat) (w : World) (hc : CapAt w bo bc nd C) (h3 : w.heap[b3]? = some (Blk.obj ⟨[.int .i64 sl], 3, false⟩)) (h5 : w.heap[b5]? = some (Blk.obj ⟨celC g, 145, false⟩)) (hne : b3 ≠ b5 ∧ b3 ∉ capF bo bc nd C ∧ b5 ∉ capF bo bc nd C) :
    Calls Tryd.prog 70 #[.pointer (some ⟨bc, 0, none⟩), .func (.func 108) #[] #[.pointer (some ⟨b3, 0, none⟩), .pointer (some ⟨b5, 0, none⟩)]] w fun e w' => e = .returned (.tuple #[]) ∧ CapAt w' bo bc nd { C with cel := reparP C.cel sl g.parent } ∧ Fr (capF bo bc nd C) w w' := by
  refine each_ok bo bc nd C.pres 108 [.pointer (some ⟨b3, 0, none⟩), .pointer (some ⟨b5, 0, none⟩)] (callOk Tryd.func108 (by decide) rfl) (capF bo bc nd C) (fun n w1 => CapAt w1 bo bc nd { C with cel := reparUp C.cel sl g.parent n }) w hc.sp (by rw [repar_zero]; exact hc) ?_ ?_
  · intro i j hi hj hp w1 hI hf
    have hm : nd i ∈ capF bo bc nd C := mem_capF.2 (.inr (.inr ⟨i, hi, hp, rfl⟩))
    have hn1 : nd i ≠ b5 := fun hq => hne.2.2 (hq ▸ hm)
    have hn3 : nd i ≠ b3 := fun hq => hne.2.1 (hq ▸ hm)
    have e3 : w1.heap[b3]? = some (Blk.obj ⟨[.int .i64 sl], 3, false⟩) := by rw [hf.block _ (lt_of_heap h3) hne.2.1]; exact h3
    have e5 : w1.heap[b5]? = some (Blk.obj ⟨celC g, 145, false⟩) := by rw [hf.block _ (lt_of_heap h5) hne.2.2]; exact h5
    refine (delete1_ok nd _ i j hj _ b3 b5 sl g w1 (hI.no hi hp) e3 e5 ⟨hn3, hn1, hne.1⟩).mono ?_
    rintro e w' ⟨rfl, h1, h2⟩
    refine ⟨rfl, ?_, hf.trans h2 (fun b hb => .inl (by simp at hb; subst hb; exact hm))⟩
    have h4 := setCell (C := { C with cel := reparUp C.cel sl g.parent (i * 16 + j) }) hi hj hp hI h2 h1
    dsimp only at h4
    rw [repar_step] at h4
    exact h4
  · intro i hi hp w1 h
    refine CapAt.ext (C := { C with cel := reparUp C.cel sl g.parent (i * 16) }) h ?_
    intro s hs hp'
    dsimp only at hp' ⊢
    have hne : s / 16 ≠ i := fun hq => by rw [hq, hp] at hp'; cases hp'
    unfold reparUp
    by_cases e : (C.cel s).parent = sl
    · by_cases e2 : s < i * 16
      · rw [if_pos ⟨by omega, e⟩, if_pos ⟨e2, e⟩]
      · rw [if_neg (by omega), if_neg (by omega)]
    · rw [if_neg (fun hq => e hq.2), if_neg (fun hq => e hq.2)]

theorem typeOf_lt {E : Nat → Ent} {r : Rf} (h : typeOfP E r ≠ 0) : r.idx < 257 := by
  unfold typeOfP at h
  split at h
  · exact absurd rfl h
  · omega

theorem free_ok (bo : Nat) (E : Nat → Ent) (r : Rf) (hr : 0 ≤ r.idx ∧ r.idx ≤ 65535) (w : World) (hb : w.heap[bo]? = some (Blk.obj ⟨stC E, 131, false⟩)) :
    Calls Tryd.prog 110 #[.pointer (some ⟨bo, 0, none⟩), .agg #[.int .u16 r.idx, .int .u32 r.gen]] w fun e w' => e = .returned (.tuple #[]) ∧ w'.heap[bo]? = some (Blk.obj ⟨stC (freeP E r), 131, false⟩) ∧ Fr [bo] w w' := by
  refine enter0 (n := 18) (K := [bo]) (T := [(0, .pointer (some ⟨bo, 0, none⟩)), (1, .agg #[.int .u16 r.idx, .int .u32 r.gen])]) (L := [(bo, ⟨stC E, 131, false⟩)]) (args := [.pointer (some ⟨bo, 0, none⟩), .agg #[.int .u16 r.idx, .int .u32 r.gen]]) Tryd.func110 rfl rfl rfl rfl (kcons hb knil) (by simp) (kcons (by simp) knil) ?_
  intro a h
  refine wp_seq_k fun K1 hK1 => ?_
  refine nd_start (l := [0]) rfl ?_
  refine nd_op ?_
  refine op_new tabOk (cells := [.int .u16 r.idx, .int .u32 r.gen]) (ty := 39) (ln := none) (L1 := fun b2 => [(bo, ⟨stC E, 131, false⟩), (b2, ⟨[.int .u16 r.idx, .int .u32 r.gen], 39, false⟩)]) h rfl rfl rfl rfl (by kernel_rfl) (fun _ => rfl) fun b2 w3 a4 h5 hf6 hn7 => ?_
  clear h
  refine nd_done ?_
  refine hK1 _ _ ?_
  clear hK1
  refine wp_seq_k fun K8 hK8 => ?_
  refine nd_start (l := [0, 1, 2, 3]) rfl ?_
  refine nd_batch tabOk tabZ_ok [(0, {}), (1, {k := 1})] [3, 0, 1, 4, 5] (T' := [(3, .pointer (some ⟨b2, 0, none⟩)), (0, .pointer (some ⟨bo, 0, none⟩)), (1, .agg #[.int .u16 r.idx, .int .u32 r.gen]), (4, .pointer (some ⟨bo, 0, none⟩)), (5, .agg #[.int .u16 r.idx, .int .u32 r.gen])]) (φ := (b2 = b2 ∧ Nat.ble (0 + 2) 2 = true) ∧ True) (rest := [2, 3]) h5 (by kernel_rfl) rfl ⟨⟨rfl, rfl⟩, trivial⟩ fun a9 h10 => ?_
  clear h5
  refine nd_op ?_
  refine op_call h10 rfl rfl rfl (callOk Tryd.func53 (by decide) rfl) (args := [.pointer (some ⟨bo, 0, none⟩), .agg #[.int .u16 r.idx, .int .u32 r.gen]]) rfl (typeOf_ok bo E r hr _ (h10.kn (k := 0) (blk := ⟨stC E, 131, false⟩) rfl)) ?_
  rintro _ w11 ⟨rfl, hf13⟩
  refine ⟨_, rfl, ?_⟩
  have h12 := (h10.grow hf13).put (d := some 6) (v := .int .u8 (typeOfP E r)) (T' := [(6, .int .u8 (typeOfP E r)), (3, .pointer (some ⟨b2, 0, none⟩)), (0, .pointer (some ⟨bo, 0, none⟩)), (1, .agg #[.int .u16 r.idx, .int .u32 r.gen]), (4, .pointer (some ⟨bo, 0, none⟩)), (5, .agg #[.int .u16 r.idx, .int .u32 r.gen])]) rfl
  clear h10
  refine nd_batch tabOk tabZ_ok [(3, {})] [3, 0, 1, 7] (T' := [(3, .pointer (some ⟨b2, 0, none⟩)), (0, .pointer (some ⟨bo, 0, none⟩)), (1, .agg #[.int .u16 r.idx, .int .u32 r.gen]), (7, .bool ((typeOfP E r) != 0))]) (φ := True) (rest := []) h12 (by kernel_rfl) rfl trivial fun a14 h15 => ?_
  clear h12
  refine nd_done ?_
  refine hK8 _ _ ?_
  clear hK8
  refine c_split h15 (b := ((typeOfP E r) != 0)) rfl (fun hc16 => ?_) (fun hc16 => ?_)
  ·
    have hc16f : (typeOfP E r) ≠ 0 := by simpa using hc16
    have hlt := typeOf_lt hc16f
    refine dr_start (KB := [bo, b2]) (Bi := [[0, 1], [0, 1], [0, 1], [0, 1], [0, 1], [0, 1], [0, 1], [0, 1], [0, 1], [0, 1], []]) mixed h15 fun w17 h18 => ?_
    clear h15
    refine dr_batch tabOk tabZ_ok (by repeat (first | with_reducible exact PF.body | with_reducible apply PF.inB | with_reducible apply PF.next)) [(0, {}), (1, {}), (2, {k := 1, p := 1}), (3, {}), (4, {k := 1, p := 1}), (5, {m := 1}), (6, {}), (7, {}), (8, {}), (9, {})] [3, 0, 1, 14, 17] (T' := [(3, .pointer (some ⟨b2, 0, none⟩)), (0, .pointer (some ⟨bo, 0, none⟩)), (1, .agg #[.int .u16 r.idx, .int .u32 r.gen]), (14, .agg #[.int .u8 0, .int .u32 (IntKind.wrap .u32 (r.gen + 1)), .int .u64 0, .int .u64 0]), (17, .pointer (some ⟨bo, 0 + (r.idx.toNat * 4), none⟩))]) (φ := (b2 = b2 ∧ Nat.ble (0 + 1) 2 = true) ∧ (b2 = b2 ∧ Nat.ble (1 + 1) 2 = true) ∧ (0 ≤ r.idx ∧ r.idx < 257) ∧ True) (fuel := 1) h18 (by kernel_rfl) rfl (by kernel_rfl) (by kernel_rfl) ⟨trivial, trivial, rfl, trivial, rfl, trivial, trivial, trivial, trivial, trivial, trivial⟩ ⟨⟨rfl, rfl⟩, ⟨rfl, rfl⟩, ⟨by omega, by omega⟩, trivial⟩ fun a20 h21 => ?_
    clear h18
    refine wpAnyK_one (i := 10) (fuel := 0) (by kernel_rfl) ?_
    refine op_store tabOk {k := 0, m := 1, vs := stC (upd E r.idx.toNat (⟨0, IntKind.wrap .u32 (r.gen + 1), 0, 0⟩ : Ent))} (L' := [(bo, ⟨stC (upd E r.idx.toNat (⟨0, IntKind.wrap .u32 (r.gen + 1), 0, 0⟩ : Ent)), 131, false⟩), (b2, ⟨[.int .u16 r.idx, .int .u32 r.gen], 39, false⟩)]) (φ := bo = bo ∧ Nat.ble (0 + (r.idx.toNat * 4) + 4) (stC E).length = true ∧ splice (stC E) (0 + (r.idx.toNat * 4)) [.int .u8 0, .int .u32 (IntKind.wrap .u32 (r.gen + 1)), .int .u64 0, .int .u64 0] = stC (upd E r.idx.toNat (⟨0, IntKind.wrap .u32 (r.gen + 1), 0, 0⟩ : Ent))) h21 rfl rfl rfl (by kernel_rfl) ⟨rfl, st_in (by omega), (st_write (i := r.idx.toNat) (k := 0) (by omega) (Nat.le_of_ble_eq_true rfl) (by omega) rfl)⟩ fun w22 h23 => ?_
    have hkh23 := h21.known
    refine ⟨keepNil, ?_⟩
    clear h21
    refine wpAnyK_done (by kernel_rfl) ?_ _
    try simp only [Exit.then, Exit.inBlock]
    try rw [if_pos trivial]
    exact s_end tabOk tabZ_ok h23 [] (vs := []) (φ := True) rfl (by kernel_rfl) trivial ⟨rfl, (by rw [show freeP E r = (upd E r.idx.toNat (⟨0, IntKind.wrap .u32 (r.gen + 1), 0, 0⟩ : Ent)) from if_pos hc16f]; exact h23.kn (k := 0) rfl), h23.frame⟩
  ·
    have hc16f : (typeOfP E r) = 0 := by simpa using hc16
    refine wp_skip ?_
    try simp only [Exit.then, Exit.inBlock]
    try rw [if_pos trivial]
    exact s_end tabOk tabZ_ok h15 [] (vs := []) (φ := True) rfl (by kernel_rfl) trivial ⟨rfl, (by rw [show freeP E r = E from if_neg (fun hz => hz hc16f)]; exact h15.kn (k := 0) rfl), h15.frame⟩

end Go.Proofs.Qxb6500918aDoor
