/-
  Insert, Derive. (Made by program: a symbolic walk that prints its steps.)
-/
import Derived.Test.Qxb6500918aDoorK4
namespace Go.Proofs.Qxb6500918aDoor
open Go.Sx Go.Kn
set_option maxRecDepth 100000
set_option maxHeartbeats 4000000
set_option linter.unusedVariables false
set_option linter.unusedSimpArgs false

theorem insert0_ok (bo bc : Nat) (nd : Nat → Nat) (pr : Nat → Bool) (cel : Nat → Cel) (i j : Nat) (hi : i < 256) (hj : j < 16) (hp : pr i = true) (c : Cp) (p : Int) (w : World) (hb : w.heap[bc]? = some (Blk.obj ⟨spC bo nd pr, 142, false⟩)) (hn : w.heap[nd i]? = some (Blk.obj ⟨ndC cel i, 146, false⟩)) (hne : bc ≠ nd i) :
    Calls Tryd.prog 40 #[.pointer (some ⟨bc, 0, none⟩), .int .i64 ((i * 16 + j : Nat) : Int), .agg (cpC c).toArray, .int .i64 p] w fun e w' => e = .returned (.tuple #[]) ∧ w'.heap[nd i]? = some (Blk.obj ⟨ndC (upd cel (i * 16 + j) ⟨c, p⟩) i, 146, false⟩) ∧ Fr [nd i] w w' := by
  refine enter0 (n := 15) (K := [nd i]) (T := [(0, .pointer (some ⟨bc, 0, none⟩)), (1, .int .i64 ((i * 16 + j : Nat) : Int)), (2, .agg #[.int .u8 c.ty, .int .u16 c.obj.idx, .int .u32 c.obj.gen, .int .u8 c.rights, .int .u64 c.badge]), (3, .int .i64 p)]) (L := [(bc, ⟨spC bo nd pr, 142, true⟩), ((nd i), ⟨ndC cel i, 146, false⟩)]) (args := [.pointer (some ⟨bc, 0, none⟩), .int .i64 ((i * 16 + j : Nat) : Int), .agg #[.int .u8 c.ty, .int .u16 c.obj.idx, .int .u32 c.obj.gen, .int .u8 c.rights, .int .u64 c.badge], .int .i64 p]) Tryd.func40 rfl rfl rfl rfl (kcons hb (kcons hn knil)) (by simp; exact hne) (kcons (by intro hq; cases hq) (kcons (by simp) knil)) ?_
  intro a h
  refine wp_seq_k fun K1 hK1 => ?_
  refine nd_start (l := [0]) rfl ?_
  refine nd_op ?_
  refine op_new tabOk (cells := [.int .u8 c.ty, .int .u16 c.obj.idx, .int .u32 c.obj.gen, .int .u8 c.rights, .int .u64 c.badge]) (ty := 49) (ln := none) (L1 := fun b2 => [(bc, ⟨spC bo nd pr, 142, true⟩), ((nd i), ⟨ndC cel i, 146, false⟩), (b2, ⟨[.int .u8 c.ty, .int .u16 c.obj.idx, .int .u32 c.obj.gen, .int .u8 c.rights, .int .u64 c.badge], 49, false⟩)]) h rfl rfl rfl rfl (by kernel_rfl) (fun _ => rfl) fun b2 w3 a4 h5 hf6 hn7 => ?_
  clear h
  refine nd_done ?_
  refine hK1 _ _ ?_
  clear hK1
  refine dr_start (KB := [bc, (nd i), b2]) (Bi := [[0, 1, 2], [0, 1, 2], [2], [0, 1, 2], [0, 1, 2], [0, 1, 2], [0, 1, 2], []]) mixed h5 fun w8 h9 => ?_
  clear h5
  refine dr_batch tabOk tabZ_ok (by repeat (first | with_reducible exact PF.body | with_reducible apply PF.inB | with_reducible apply PF.next)) [(0, {}), (1, {}), (3, {k := 2, p := 2}), (4, {}), (5, {})] [6, 0, 1, 2, 3, 8, 9, 13] (T' := [(6, .pointer (some ⟨b2, 0, none⟩)), (0, .pointer (some ⟨bc, 0, none⟩)), (1, .int .i64 ((i * 16 + j : Nat) : Int)), (2, .agg #[.int .u8 c.ty, .int .u16 c.obj.idx, .int .u32 c.obj.gen, .int .u8 c.rights, .int .u64 c.badge]), (3, .int .i64 p), (8, .pointer (some ⟨bc, 0, none⟩)), (9, .int .i64 ((i * 16 + j : Nat) : Int)), (13, .agg #[.int .u8 c.ty, .int .u16 c.obj.idx, .int .u32 c.obj.gen, .int .u8 c.rights, .int .u64 c.badge, .int .i64 p])]) (φ := (b2 = b2 ∧ Nat.ble (0 + 5) 5 = true) ∧ True) (fuel := 3) h9 (by kernel_rfl) rfl (by kernel_rfl) (by kernel_rfl) ⟨trivial, trivial, rfl, trivial, trivial, trivial⟩ ⟨⟨rfl, rfl⟩, trivial⟩ fun a11 h12 => ?_
  clear h9
  refine wpAnyK_one (i := 2) (fuel := 2) (by kernel_rfl) ?_
  refine op_call h12 rfl rfl rfl (callOk Tryd.func69 (by decide) rfl) (args := [.pointer (some ⟨bc, 0, none⟩), .int .i64 ((i * 16 + j : Nat) : Int)]) rfl (cell_ok bo bc nd pr i j hi hj hp _ (h12.kn (k := 0) (blk := ⟨spC bo nd pr, 142, true⟩) rfl)) ?_
  rintro _ w13 ⟨rfl, hf15⟩
  refine ⟨_, rfl, ?_⟩
  have h14 := (h12.grow hf15).put (d := some 10) (v := .pointer (some ⟨(nd i), (j * 6), none⟩)) (T' := [(10, .pointer (some ⟨(nd i), (j * 6), none⟩)), (6, .pointer (some ⟨b2, 0, none⟩)), (0, .pointer (some ⟨bc, 0, none⟩)), (1, .int .i64 ((i * 16 + j : Nat) : Int)), (2, .agg #[.int .u8 c.ty, .int .u16 c.obj.idx, .int .u32 c.obj.gen, .int .u8 c.rights, .int .u64 c.badge]), (3, .int .i64 p), (8, .pointer (some ⟨bc, 0, none⟩)), (9, .int .i64 ((i * 16 + j : Nat) : Int)), (13, .agg #[.int .u8 c.ty, .int .u16 c.obj.idx, .int .u32 c.obj.gen, .int .u8 c.rights, .int .u64 c.badge, .int .i64 p])]) rfl
  refine ⟨(h12.keepFr hf15 (kcons (by simp) knil)), ?_⟩
  clear h12
  refine dr_batch tabOk tabZ_ok (by repeat (first | with_reducible exact PF.body | with_reducible apply PF.inB | with_reducible apply PF.next)) [(6, {})] [6, 0, 1, 2, 3, 13, 14] (T' := [(6, .pointer (some ⟨b2, 0, none⟩)), (0, .pointer (some ⟨bc, 0, none⟩)), (1, .int .i64 ((i * 16 + j : Nat) : Int)), (2, .agg #[.int .u8 c.ty, .int .u16 c.obj.idx, .int .u32 c.obj.gen, .int .u8 c.rights, .int .u64 c.badge]), (3, .int .i64 p), (13, .agg #[.int .u8 c.ty, .int .u16 c.obj.idx, .int .u32 c.obj.gen, .int .u8 c.rights, .int .u64 c.badge, .int .i64 p]), (14, .pointer (some ⟨(nd i), (j * 6), none⟩))]) (φ := True) (fuel := 1) h14 (by kernel_rfl) rfl (by kernel_rfl) (by kernel_rfl) ⟨trivial, trivial⟩ trivial fun a16 h17 => ?_
  clear h14
  refine wpAnyK_one (i := 7) (fuel := 0) (by kernel_rfl) ?_
  refine op_store tabOk {k := 1, m := 1, vs := ndC (upd cel (i * 16 + j) (⟨⟨c.ty, ⟨c.obj.idx, c.obj.gen⟩, c.rights, c.badge⟩, p⟩ : Cel)) i} (L' := [(bc, ⟨spC bo nd pr, 142, true⟩), ((nd i), ⟨ndC (upd cel (i * 16 + j) (⟨⟨c.ty, ⟨c.obj.idx, c.obj.gen⟩, c.rights, c.badge⟩, p⟩ : Cel)) i, 146, false⟩), (b2, ⟨[.int .u8 c.ty, .int .u16 c.obj.idx, .int .u32 c.obj.gen, .int .u8 c.rights, .int .u64 c.badge], 49, false⟩)]) (φ := (nd i) = (nd i) ∧ Nat.ble ((j * 6) + 6) (ndC cel i).length = true ∧ splice (ndC cel i) (j * 6) [.int .u8 c.ty, .int .u16 c.obj.idx, .int .u32 c.obj.gen, .int .u8 c.rights, .int .u64 c.badge, .int .i64 p] = ndC (upd cel (i * 16 + j) (⟨⟨c.ty, ⟨c.obj.idx, c.obj.gen⟩, c.rights, c.badge⟩, p⟩ : Cel)) i) h17 rfl rfl rfl (by kernel_rfl) ⟨rfl, nd_in (by omega), (nd_write (j := j) (k := 0) hj (Nat.le_of_ble_eq_true rfl) (by omega) rfl)⟩ fun w18 h19 => ?_
  have hkh19 := h17.known
  refine ⟨keepNil, ?_⟩
  clear h17
  refine wpAnyK_done (by kernel_rfl) ?_ _
  try simp only [Exit.then, Exit.inBlock]
  try rw [if_pos trivial]
  exact s_end tabOk tabZ_ok h19 [] (vs := []) (φ := True) rfl (by kernel_rfl) trivial ⟨rfl, h19.kn (k := 1) rfl, h19.frame⟩

theorem setCell {w w' : World} {bo bc : Nat} {nd : Nat → Nat} {C : CP} {i j : Nat} (hi : i < 256) (hj : j < 16) (hp : C.pres i = true) (h : CapAt w bo bc nd C) (hf : Fr [nd i] w w') {a : Cel}
    (hn : w'.heap[nd i]? = some (Blk.obj ⟨ndC (upd C.cel (i * 16 + j) a) i, 146, false⟩)) : CapAt w' bo bc nd { C with cel := upd C.cel (i * 16 + j) a } := by
  have h1 := h.n1 hi hp
  refine ⟨?_, ?_, fun {k} hk hpk => ?_, h.ap, h.n1, h.n2⟩
  · rw [hf.block bo (lt_of_heap h.st) (by simp; exact h1.1.symm)]; exact h.st
  · rw [hf.block bc (lt_of_heap h.sp) (by simp; exact h1.2.symm)]; exact h.sp
  · by_cases e : k = i
    · subst e; exact hn
    · rw [hf.block (nd k) (lt_of_heap (h.no hk hpk)) (by simp; intro hq; exact e (h.n2 hk hi hpk hp hq)), h.no hk hpk]
      have : ndC (upd C.cel (i * 16 + j) a) k = ndC C.cel k := nd_other (by omega)
      rw [this]

theorem insert_ok (bo bc : Nat) (nd : Nat → Nat) (C : CP) (i j : Nat) (hi : i < 256) (hj : j < 16) (hp : C.pres i = true) (c : Cp) (p : Int) (w : World) (hc : CapAt w bo bc nd C) :
    Calls Tryd.prog 40 #[.pointer (some ⟨bc, 0, none⟩), .int .i64 ((i * 16 + j : Nat) : Int), .agg (cpC c).toArray, .int .i64 p] w fun e w' => e = .returned (.tuple #[]) ∧ CapAt w' bo bc nd { C with cel := upd C.cel (i * 16 + j) ⟨c, p⟩ } ∧ Fr [nd i] w w' := by
  refine (insert0_ok bo bc nd C.pres C.cel i j hi hj hp c p w hc.sp (hc.no hi hp) (hc.n1 hi hp).2.symm).mono ?_
  rintro e w' ⟨rfl, hn, hf⟩
  exact ⟨rfl, setCell hi hj hp hc hf hn, hf⟩

theorem derive_ok (bo bc : Nat) (nd : Nat → Nat) (C : CP) (i j k l : Nat) (hi : i < 256) (hj : j < 16) (hp : C.pres i = true) (hk : k < 256) (hl : l < 16) (hq : C.pres k = true) (mask badge : Int) (w : World) (hc : CapAt w bo bc nd C) :
    Calls Tryd.prog 94 #[.pointer (some ⟨bc, 0, none⟩), .int .i64 ((k * 16 + l : Nat) : Int), .int .i64 ((i * 16 + j : Nat) : Int), .int .u8 mask, .int .u64 badge] w fun e w' => e = .returned (.int .u8 (deriveP C.cel (k * 16 + l) (i * 16 + j) mask badge).2) ∧ CapAt w' bo bc nd { C with cel := (deriveP C.cel (k * 16 + l) (i * 16 + j) mask badge).1 } ∧ Fr (capF bo bc nd C) w w' := by
  refine enter (n := 47) (K := (capF bo bc nd C)) (A := fun w => CapAt w bo bc nd C) (F := (capF bo bc nd C)) (T := [(0, .pointer (some ⟨bc, 0, none⟩)), (1, .int .i64 ((k * 16 + l : Nat) : Int)), (2, .int .i64 ((i * 16 + j : Nat) : Int)), (3, .int .u8 mask), (4, .int .u64 badge)]) (L := []) (args := [.pointer (some ⟨bc, 0, none⟩), .int .i64 ((k * 16 + l : Nat) : Int), .int .i64 ((i * 16 + j : Nat) : Int), .int .u8 mask, .int .u64 badge]) Tryd.func94 rfl rfl rfl rfl knil (by simp) knil hc CapAt.stable hc.low knil ?_
  intro a h
  refine wp_seq_k fun K1 hK1 => ?_
  refine nd_start (l := [0]) rfl ?_
  refine nd_batch tabOk tabZ_ok [(0, {})] [0, 1, 2, 3, 4, 10] (T' := [(0, .pointer (some ⟨bc, 0, none⟩)), (1, .int .i64 ((k * 16 + l : Nat) : Int)), (2, .int .i64 ((i * 16 + j : Nat) : Int)), (3, .int .u8 mask), (4, .int .u64 badge), (10, .int .u8 0)]) (φ := True) (rest := []) h (by kernel_rfl) rfl trivial fun a2 h3 => ?_
  clear h
  refine nd_done ?_
  refine hK1 _ _ ?_
  clear hK1
  refine wp_seq_k fun K4 hK4 => ?_
  refine nd_start (l := [0, 1, 2, 3, 4]) rfl ?_
  refine nd_batch tabOk tabZ_ok [(0, {}), (1, {})] [0, 1, 2, 3, 4, 10, 12, 13] (T' := [(0, .pointer (some ⟨bc, 0, none⟩)), (1, .int .i64 ((k * 16 + l : Nat) : Int)), (2, .int .i64 ((i * 16 + j : Nat) : Int)), (3, .int .u8 mask), (4, .int .u64 badge), (10, .int .u8 0), (12, .pointer (some ⟨bc, 0, none⟩)), (13, .int .i64 ((i * 16 + j : Nat) : Int))]) (φ := True) (rest := [2, 3, 4]) h3 (by kernel_rfl) rfl trivial fun a5 h6 => ?_
  clear h3
  refine nd_op ?_
  refine op_call h6 rfl rfl rfl (callOk Tryd.func62 (by decide) rfl) (args := [.pointer (some ⟨bc, 0, none⟩), .int .i64 ((i * 16 + j : Nat) : Int)]) rfl (at_ok bo bc nd C.pres C.cel i j hi hj hp _ h6.inv.sp (h6.inv.no hi hp) (h6.inv.n1 hi hp).2.symm) ?_
  rintro _ w7 ⟨rfl, hf9⟩
  refine ⟨_, rfl, ?_⟩
  have h8 := (h6.grow hf9).put (d := some 14) (v := .agg #[.int .u8 ((C.cel (i * 16 + j)).cap.ty), .int .u16 ((C.cel (i * 16 + j)).cap.obj.idx), .int .u32 ((C.cel (i * 16 + j)).cap.obj.gen), .int .u8 ((C.cel (i * 16 + j)).cap.rights), .int .u64 ((C.cel (i * 16 + j)).cap.badge)]) (T' := [(14, .agg #[.int .u8 ((C.cel (i * 16 + j)).cap.ty), .int .u16 ((C.cel (i * 16 + j)).cap.obj.idx), .int .u32 ((C.cel (i * 16 + j)).cap.obj.gen), .int .u8 ((C.cel (i * 16 + j)).cap.rights), .int .u64 ((C.cel (i * 16 + j)).cap.badge)]), (0, .pointer (some ⟨bc, 0, none⟩)), (1, .int .i64 ((k * 16 + l : Nat) : Int)), (2, .int .i64 ((i * 16 + j : Nat) : Int)), (3, .int .u8 mask), (4, .int .u64 badge), (10, .int .u8 0), (12, .pointer (some ⟨bc, 0, none⟩)), (13, .int .i64 ((i * 16 + j : Nat) : Int))]) rfl
  clear h6
  refine nd_op ?_
  refine op_new tabOk (cells := [.int .u8 0, .int .u16 0, .int .u32 0, .int .u8 0, .int .u64 0]) (ty := 49) (ln := none) (L1 := fun b10 => [(b10, ⟨[.int .u8 0, .int .u16 0, .int .u32 0, .int .u8 0, .int .u64 0], 49, false⟩)]) h8 rfl rfl rfl rfl (by kernel_rfl) (fun _ => rfl) fun b10 w11 a12 h13 hf14 hn15 => ?_
  clear h8
  refine nd_op ?_
  refine op_store tabOk {k := 0} (L' := [(b10, ⟨[.int .u8 ((C.cel (i * 16 + j)).cap.ty), .int .u16 ((C.cel (i * 16 + j)).cap.obj.idx), .int .u32 ((C.cel (i * 16 + j)).cap.obj.gen), .int .u8 ((C.cel (i * 16 + j)).cap.rights), .int .u64 ((C.cel (i * 16 + j)).cap.badge)], 49, false⟩)]) (φ := b10 = b10 ∧ Nat.ble (0 + 5) 5 = true) h13 rfl rfl rfl (by kernel_rfl) ⟨rfl, rfl⟩ fun w16 h17 => ?_
  clear h13
  refine nd_done ?_
  refine hK4 _ _ ?_
  clear hK4
  refine wp_seq_k fun K18 hK18 => ?_
  refine wp_block ?_
  refine wp_seq_k fun K19 hK19 => ?_
  refine nd_start (l := [0, 1, 2, 3]) rfl ?_
  refine nd_batch tabOk tabZ_ok [(0, {}), (1, {k := 0}), (2, {}), (3, {})] [11, 0, 1, 2, 3, 4, 10, 15] (T' := [(11, .pointer (some ⟨b10, 0, none⟩)), (0, .pointer (some ⟨bc, 0, none⟩)), (1, .int .i64 ((k * 16 + l : Nat) : Int)), (2, .int .i64 ((i * 16 + j : Nat) : Int)), (3, .int .u8 mask), (4, .int .u64 badge), (10, .int .u8 0), (15, .bool ((C.cel (i * 16 + j)).cap.ty == 0))]) (φ := (b10 = b10 ∧ Nat.ble (0 + 1) 5 = true) ∧ True) (rest := []) h17 (by kernel_rfl) rfl ⟨⟨rfl, rfl⟩, trivial⟩ fun a20 h21 => ?_
  clear h17
  refine nd_done ?_
  refine hK19 _ _ ?_
  clear hK19
  refine c_split h21 (b := ((C.cel (i * 16 + j)).cap.ty == 0)) rfl (fun hc22 => ?_) (fun hc22 => ?_)
  ·
    have hc22f : (C.cel (i * 16 + j)).cap.ty = 0 := by simpa using hc22
    refine wp_seq_k fun K23 hK23 => ?_
    refine nd_start (l := [0]) rfl ?_
    refine nd_batch tabOk tabZ_ok [(0, {})] [11, 0, 1, 2, 3, 4, 10] (T' := [(11, .pointer (some ⟨b10, 0, none⟩)), (0, .pointer (some ⟨bc, 0, none⟩)), (1, .int .i64 ((k * 16 + l : Nat) : Int)), (2, .int .i64 ((i * 16 + j : Nat) : Int)), (3, .int .u8 mask), (4, .int .u64 badge), (10, .int .u8 3)]) (φ := True) (rest := []) h21 (by kernel_rfl) rfl trivial fun a24 h25 => ?_
    clear h21
    refine nd_done ?_
    refine hK23 _ _ ?_
    clear hK23
    refine wp_ret ?_
    try simp only [Exit.then, Exit.inBlock]
    try rw [if_pos trivial]
    exact s_ret tabOk tabZ_ok h25 [(.tmp 10, {})] (vs := [.int .u8 3]) (φ := True) rfl (by kernel_rfl) trivial (by unfold deriveP; rw [if_pos hc22f]; exact ⟨rfl, h25.inv, h25.frame⟩)
  ·
    have hc22f : (C.cel (i * 16 + j)).cap.ty ≠ 0 := by simpa using hc22
    refine wp_seq_k fun K26 hK26 => ?_
    refine nd_start (l := [0, 1, 2, 3, 4, 5]) rfl ?_
    refine nd_batch tabOk tabZ_ok [(0, {}), (1, {})] [11, 0, 1, 2, 3, 4, 10, 20, 21] (T' := [(11, .pointer (some ⟨b10, 0, none⟩)), (0, .pointer (some ⟨bc, 0, none⟩)), (1, .int .i64 ((k * 16 + l : Nat) : Int)), (2, .int .i64 ((i * 16 + j : Nat) : Int)), (3, .int .u8 mask), (4, .int .u64 badge), (10, .int .u8 0), (20, .pointer (some ⟨bc, 0, none⟩)), (21, .int .i64 ((k * 16 + l : Nat) : Int))]) (φ := True) (rest := [2, 3, 4, 5]) h21 (by kernel_rfl) rfl trivial fun a27 h28 => ?_
    clear h21
    refine nd_op ?_
    refine op_call h28 rfl rfl rfl (callOk Tryd.func62 (by decide) rfl) (args := [.pointer (some ⟨bc, 0, none⟩), .int .i64 ((k * 16 + l : Nat) : Int)]) rfl (at_ok bo bc nd C.pres C.cel k l hk hl hq _ h28.inv.sp (h28.inv.no hk hq) (h28.inv.n1 hk hq).2.symm) ?_
    rintro _ w29 ⟨rfl, hf31⟩
    refine ⟨_, rfl, ?_⟩
    have h30 := (h28.grow hf31).put (d := some 22) (v := .agg #[.int .u8 ((C.cel (k * 16 + l)).cap.ty), .int .u16 ((C.cel (k * 16 + l)).cap.obj.idx), .int .u32 ((C.cel (k * 16 + l)).cap.obj.gen), .int .u8 ((C.cel (k * 16 + l)).cap.rights), .int .u64 ((C.cel (k * 16 + l)).cap.badge)]) (T' := [(22, .agg #[.int .u8 ((C.cel (k * 16 + l)).cap.ty), .int .u16 ((C.cel (k * 16 + l)).cap.obj.idx), .int .u32 ((C.cel (k * 16 + l)).cap.obj.gen), .int .u8 ((C.cel (k * 16 + l)).cap.rights), .int .u64 ((C.cel (k * 16 + l)).cap.badge)]), (11, .pointer (some ⟨b10, 0, none⟩)), (0, .pointer (some ⟨bc, 0, none⟩)), (1, .int .i64 ((k * 16 + l : Nat) : Int)), (2, .int .i64 ((i * 16 + j : Nat) : Int)), (3, .int .u8 mask), (4, .int .u64 badge), (10, .int .u8 0), (20, .pointer (some ⟨bc, 0, none⟩)), (21, .int .i64 ((k * 16 + l : Nat) : Int))]) rfl
    clear h28
    refine nd_batch tabOk tabZ_ok [(3, {}), (4, {}), (5, {})] [11, 0, 1, 2, 3, 4, 10, 19] (T' := [(11, .pointer (some ⟨b10, 0, none⟩)), (0, .pointer (some ⟨bc, 0, none⟩)), (1, .int .i64 ((k * 16 + l : Nat) : Int)), (2, .int .i64 ((i * 16 + j : Nat) : Int)), (3, .int .u8 mask), (4, .int .u64 badge), (10, .int .u8 0), (19, .bool ((C.cel (k * 16 + l)).cap.ty != 0))]) (φ := True) (rest := []) h30 (by kernel_rfl) rfl trivial fun a32 h33 => ?_
    clear h30
    refine nd_done ?_
    refine hK26 _ _ ?_
    clear hK26
    refine c_split h33 (b := ((C.cel (k * 16 + l)).cap.ty != 0)) rfl (fun hc34 => ?_) (fun hc34 => ?_)
    ·
      have hc34f : (C.cel (k * 16 + l)).cap.ty ≠ 0 := by simpa using hc34
      refine wp_seq_k fun K35 hK35 => ?_
      refine nd_start (l := [0]) rfl ?_
      refine nd_batch tabOk tabZ_ok [(0, {})] [11, 0, 1, 2, 3, 4, 10] (T' := [(11, .pointer (some ⟨b10, 0, none⟩)), (0, .pointer (some ⟨bc, 0, none⟩)), (1, .int .i64 ((k * 16 + l : Nat) : Int)), (2, .int .i64 ((i * 16 + j : Nat) : Int)), (3, .int .u8 mask), (4, .int .u64 badge), (10, .int .u8 6)]) (φ := True) (rest := []) h33 (by kernel_rfl) rfl trivial fun a36 h37 => ?_
      clear h33
      refine nd_done ?_
      refine hK35 _ _ ?_
      clear hK35
      refine wp_ret ?_
      try simp only [Exit.then, Exit.inBlock]
      try rw [if_pos trivial]
      exact s_ret tabOk tabZ_ok h37 [(.tmp 10, {})] (vs := [.int .u8 6]) (φ := True) rfl (by kernel_rfl) trivial (by unfold deriveP; rw [if_neg hc22f]; rw [if_pos hc34f]; exact ⟨rfl, h37.inv, h37.frame⟩)
    ·
      have hc34f : (C.cel (k * 16 + l)).cap.ty = 0 := by simpa using hc34
      refine wp_seq_k fun K38 hK38 => ?_
      rcases Bool.eq_false_or_eq_true ((badge != 0)) with hb39 | hb39
      ·
        have hb39f : badge ≠ 0 := by simpa using hb39
        refine nd_start (l := [0, 1, 2, 3, 4, 5, 6, 7]) rfl ?_
        refine nd_batch tabOk tabZ_ok [(0, {}), (1, {f := 2}), (2, {}), (3, {}), (4, {k := 0}), (5, {}), (6, {}), (7, {})] [11, 0, 1, 2, 3, 4, 10, 25] (T' := [(11, .pointer (some ⟨b10, 0, none⟩)), (0, .pointer (some ⟨bc, 0, none⟩)), (1, .int .i64 ((k * 16 + l : Nat) : Int)), (2, .int .i64 ((i * 16 + j : Nat) : Int)), (3, .int .u8 mask), (4, .int .u64 badge), (10, .int .u8 0), (25, .bool ((C.cel (i * 16 + j)).cap.badge != 0))]) (φ := ((badge != 0)) = true ∧ (b10 = b10 ∧ Nat.ble (4 + 1) 5 = true) ∧ True) (rest := []) h33 (by kernel_rfl) rfl ⟨hb39, ⟨rfl, rfl⟩, trivial⟩ fun a40 h41 => ?_
        clear h33
        refine nd_done ?_
        refine hK38 _ _ ?_
        clear hK38
        refine c_split h41 (b := ((C.cel (i * 16 + j)).cap.badge != 0)) rfl (fun hc42 => ?_) (fun hc42 => ?_)
        ·
          have hc42f : (C.cel (i * 16 + j)).cap.badge ≠ 0 := by simpa using hc42
          refine wp_seq_k fun K43 hK43 => ?_
          refine nd_start (l := [0]) rfl ?_
          refine nd_batch tabOk tabZ_ok [(0, {})] [11, 0, 1, 2, 3, 4, 10] (T' := [(11, .pointer (some ⟨b10, 0, none⟩)), (0, .pointer (some ⟨bc, 0, none⟩)), (1, .int .i64 ((k * 16 + l : Nat) : Int)), (2, .int .i64 ((i * 16 + j : Nat) : Int)), (3, .int .u8 mask), (4, .int .u64 badge), (10, .int .u8 7)]) (φ := True) (rest := []) h41 (by kernel_rfl) rfl trivial fun a44 h45 => ?_
          clear h41
          refine nd_done ?_
          refine hK43 _ _ ?_
          clear hK43
          refine wp_ret ?_
          try simp only [Exit.then, Exit.inBlock]
          try rw [if_pos trivial]
          exact s_ret tabOk tabZ_ok h45 [(.tmp 10, {})] (vs := [.int .u8 7]) (φ := True) rfl (by kernel_rfl) trivial (by unfold deriveP; rw [if_neg hc22f]; rw [if_neg (fun hz => hz hc34f)]; rw [if_pos ⟨hb39f, hc42f⟩]; exact ⟨rfl, h45.inv, h45.frame⟩)
        ·
          have hc42f : (C.cel (i * 16 + j)).cap.badge = 0 := by simpa using hc42
          refine wp_skip ?_
          refine hK18 _ _ ?_
          clear hK18
          refine wp_seq_k fun K46 hK46 => ?_
          refine nd_start (l := [0, 1, 2, 3, 4, 5]) rfl ?_
          refine nd_batch tabOk tabZ_ok [(0, {}), (1, {k := 0}), (2, {}), (3, {}), (4, {})] [11, 0, 1, 2, 3, 4, 10, 36, 37] (T' := [(11, .pointer (some ⟨b10, 0, none⟩)), (0, .pointer (some ⟨bc, 0, none⟩)), (1, .int .i64 ((k * 16 + l : Nat) : Int)), (2, .int .i64 ((i * 16 + j : Nat) : Int)), (3, .int .u8 mask), (4, .int .u64 badge), (10, .int .u8 0), (36, .int .u8 (bitI .and .u8 ((C.cel (i * 16 + j)).cap.rights) mask)), (37, .pointer (some ⟨b10, 3, none⟩))]) (φ := (b10 = b10 ∧ Nat.ble (3 + 1) 5 = true) ∧ True) (rest := [5]) h41 (by kernel_rfl) rfl ⟨⟨rfl, rfl⟩, trivial⟩ fun a47 h48 => ?_
          clear h41
          refine nd_op ?_
          refine op_store tabOk {k := 0} (L' := [(b10, ⟨[.int .u8 ((C.cel (i * 16 + j)).cap.ty), .int .u16 ((C.cel (i * 16 + j)).cap.obj.idx), .int .u32 ((C.cel (i * 16 + j)).cap.obj.gen), .int .u8 (bitI .and .u8 ((C.cel (i * 16 + j)).cap.rights) mask), .int .u64 ((C.cel (i * 16 + j)).cap.badge)], 49, false⟩)]) (φ := b10 = b10 ∧ Nat.ble (3 + 1) 5 = true) h48 rfl rfl rfl (by kernel_rfl) ⟨rfl, rfl⟩ fun w49 h50 => ?_
          clear h48
          refine nd_done ?_
          refine hK46 _ _ ?_
          clear hK46
          refine wp_seq_k fun K51 hK51 => ?_
          refine wp_seq_k fun K52 hK52 => ?_
          refine nd_start (l := [0, 1]) rfl ?_
          refine nd_batch tabOk tabZ_ok [(0, {}), (1, {})] [11, 0, 1, 2, 3, 4, 10, 39] (T' := [(11, .pointer (some ⟨b10, 0, none⟩)), (0, .pointer (some ⟨bc, 0, none⟩)), (1, .int .i64 ((k * 16 + l : Nat) : Int)), (2, .int .i64 ((i * 16 + j : Nat) : Int)), (3, .int .u8 mask), (4, .int .u64 badge), (10, .int .u8 0), (39, .bool (badge != 0))]) (φ := True) (rest := []) h50 (by kernel_rfl) rfl trivial fun a53 h54 => ?_
          clear h50
          refine nd_done ?_
          refine hK52 _ _ ?_
          clear hK52
          refine c_split h54 (b := (badge != 0)) rfl (fun hc55 => ?_) (fun hc55 => ?_)
          ·
            have hc55f : badge ≠ 0 := by simpa using hc55
            refine nd_start (l := [0, 1, 2]) rfl ?_
            refine nd_batch tabOk tabZ_ok [(0, {}), (1, {})] [11, 0, 1, 2, 3, 4, 10, 40, 41] (T' := [(11, .pointer (some ⟨b10, 0, none⟩)), (0, .pointer (some ⟨bc, 0, none⟩)), (1, .int .i64 ((k * 16 + l : Nat) : Int)), (2, .int .i64 ((i * 16 + j : Nat) : Int)), (3, .int .u8 mask), (4, .int .u64 badge), (10, .int .u8 0), (40, .int .u64 badge), (41, .pointer (some ⟨b10, 4, none⟩))]) (φ := True) (rest := [2]) h54 (by kernel_rfl) rfl trivial fun a56 h57 => ?_
            clear h54
            refine nd_op ?_
            refine op_store tabOk {k := 0} (L' := [(b10, ⟨[.int .u8 ((C.cel (i * 16 + j)).cap.ty), .int .u16 ((C.cel (i * 16 + j)).cap.obj.idx), .int .u32 ((C.cel (i * 16 + j)).cap.obj.gen), .int .u8 (bitI .and .u8 ((C.cel (i * 16 + j)).cap.rights) mask), .int .u64 badge], 49, false⟩)]) (φ := b10 = b10 ∧ Nat.ble (4 + 1) 5 = true) h57 rfl rfl rfl (by kernel_rfl) ⟨rfl, rfl⟩ fun w58 h59 => ?_
            clear h57
            refine nd_done ?_
            refine hK51 _ _ ?_
            clear hK51
            refine wp_seq_k fun K60 hK60 => ?_
            refine nd_start (l := [0, 1, 2, 3, 4]) rfl ?_
            refine nd_batch tabOk tabZ_ok [(0, {}), (1, {}), (2, {k := 0}), (3, {})] [11, 0, 1, 2, 3, 4, 10, 42, 43, 44, 45] (T' := [(11, .pointer (some ⟨b10, 0, none⟩)), (0, .pointer (some ⟨bc, 0, none⟩)), (1, .int .i64 ((k * 16 + l : Nat) : Int)), (2, .int .i64 ((i * 16 + j : Nat) : Int)), (3, .int .u8 mask), (4, .int .u64 badge), (10, .int .u8 0), (42, .pointer (some ⟨bc, 0, none⟩)), (43, .int .i64 ((k * 16 + l : Nat) : Int)), (44, .agg #[.int .u8 ((C.cel (i * 16 + j)).cap.ty), .int .u16 ((C.cel (i * 16 + j)).cap.obj.idx), .int .u32 ((C.cel (i * 16 + j)).cap.obj.gen), .int .u8 (bitI .and .u8 ((C.cel (i * 16 + j)).cap.rights) mask), .int .u64 badge]), (45, .int .i64 ((i * 16 + j : Nat) : Int))]) (φ := (b10 = b10 ∧ Nat.ble (0 + 5) 5 = true) ∧ True) (rest := [4]) h59 (by kernel_rfl) rfl ⟨⟨rfl, rfl⟩, trivial⟩ fun a61 h62 => ?_
            clear h59
            refine nd_op ?_
            refine op_call h62 rfl rfl rfl (callOk Tryd.func40 (by decide) rfl) (args := [.pointer (some ⟨bc, 0, none⟩), .int .i64 ((k * 16 + l : Nat) : Int), .agg #[.int .u8 ((C.cel (i * 16 + j)).cap.ty), .int .u16 ((C.cel (i * 16 + j)).cap.obj.idx), .int .u32 ((C.cel (i * 16 + j)).cap.obj.gen), .int .u8 (bitI .and .u8 ((C.cel (i * 16 + j)).cap.rights) mask), .int .u64 badge], .int .i64 ((i * 16 + j : Nat) : Int)]) rfl (insert_ok bo bc nd C k l hk hl hq (⟨(C.cel (i * 16 + j)).cap.ty, ⟨(C.cel (i * 16 + j)).cap.obj.idx, (C.cel (i * 16 + j)).cap.obj.gen⟩, bitI .and .u8 ((C.cel (i * 16 + j)).cap.rights) mask, badge⟩ : Cp) ((i * 16 + j : Nat) : Int) _ h62.inv) ?_
            rintro _ w63 ⟨rfl, hcn66, hf65⟩
            refine ⟨_, rfl, ?_⟩
            have h64 := (h62.callF hf65 (fun b hb => by simp at hb; subst hb; exact mem_capF.2 (.inr (.inr ⟨k, hk, hq, rfl⟩))) (fun b hb => .inl (by simp at hb; subst hb; exact mem_capF.2 (.inr (.inr ⟨k, hk, hq, rfl⟩)))) (A' := fun w => CapAt w bo bc nd ({ C with cel := upd C.cel (k * 16 + l) ⟨(⟨(C.cel (i * 16 + j)).cap.ty, ⟨(C.cel (i * 16 + j)).cap.obj.idx, (C.cel (i * 16 + j)).cap.obj.gen⟩, bitI .and .u8 ((C.cel (i * 16 + j)).cap.rights) mask, badge⟩ : Cp), ((i * 16 + j : Nat) : Int)⟩ } : CP)) (F' := capF bo bc nd ({ C with cel := upd C.cel (k * 16 + l) ⟨(⟨(C.cel (i * 16 + j)).cap.ty, ⟨(C.cel (i * 16 + j)).cap.obj.idx, (C.cel (i * 16 + j)).cap.obj.gen⟩, bitI .and .u8 ((C.cel (i * 16 + j)).cap.rights) mask, badge⟩ : Cp), ((i * 16 + j : Nat) : Int)⟩ } : CP)) (kcons (by intro hq; cases hq) knil) hcn66 CapAt.stable hcn66.low (fun b hb => .inl hb)).put (d := some 46) (v := .tuple #[]) (T' := [(46, .tuple #[]), (11, .pointer (some ⟨b10, 0, none⟩)), (0, .pointer (some ⟨bc, 0, none⟩)), (1, .int .i64 ((k * 16 + l : Nat) : Int)), (2, .int .i64 ((i * 16 + j : Nat) : Int)), (3, .int .u8 mask), (4, .int .u64 badge), (10, .int .u8 0), (42, .pointer (some ⟨bc, 0, none⟩)), (43, .int .i64 ((k * 16 + l : Nat) : Int)), (44, .agg #[.int .u8 ((C.cel (i * 16 + j)).cap.ty), .int .u16 ((C.cel (i * 16 + j)).cap.obj.idx), .int .u32 ((C.cel (i * 16 + j)).cap.obj.gen), .int .u8 (bitI .and .u8 ((C.cel (i * 16 + j)).cap.rights) mask), .int .u64 badge]), (45, .int .i64 ((i * 16 + j : Nat) : Int))]) rfl
            clear h62
            refine nd_done ?_
            refine hK60 _ _ ?_
            clear hK60
            refine wp_seq_k fun K67 hK67 => ?_
            refine nd_start (l := [0]) rfl ?_
            refine nd_batch tabOk tabZ_ok [(0, {})] [11, 0, 1, 2, 3, 4, 10] (T' := [(11, .pointer (some ⟨b10, 0, none⟩)), (0, .pointer (some ⟨bc, 0, none⟩)), (1, .int .i64 ((k * 16 + l : Nat) : Int)), (2, .int .i64 ((i * 16 + j : Nat) : Int)), (3, .int .u8 mask), (4, .int .u64 badge), (10, .int .u8 0)]) (φ := True) (rest := []) h64 (by kernel_rfl) rfl trivial fun a68 h69 => ?_
            clear h64
            refine nd_done ?_
            refine hK67 _ _ ?_
            clear hK67
            refine wp_ret ?_
            try simp only [Exit.then, Exit.inBlock]
            try rw [if_pos trivial]
            exact s_ret tabOk tabZ_ok h69 [(.tmp 10, {})] (vs := [.int .u8 0]) (φ := True) rfl (by kernel_rfl) trivial (by unfold deriveP; rw [if_neg hc22f]; rw [if_neg (fun hz => hz hc34f)]; rw [if_neg (fun hz => hz.2 hc42f)]; rw [if_pos hc55f]; exact ⟨rfl, h69.inv, h69.frame⟩)
          ·
            have hc55f : badge = 0 := by simpa using hc55
            refine wp_skip ?_
            refine hK51 _ _ ?_
            clear hK51
            refine wp_seq_k fun K70 hK70 => ?_
            refine nd_start (l := [0, 1, 2, 3, 4]) rfl ?_
            refine nd_batch tabOk tabZ_ok [(0, {}), (1, {}), (2, {k := 0}), (3, {})] [11, 0, 1, 2, 3, 4, 10, 42, 43, 44, 45] (T' := [(11, .pointer (some ⟨b10, 0, none⟩)), (0, .pointer (some ⟨bc, 0, none⟩)), (1, .int .i64 ((k * 16 + l : Nat) : Int)), (2, .int .i64 ((i * 16 + j : Nat) : Int)), (3, .int .u8 mask), (4, .int .u64 badge), (10, .int .u8 0), (42, .pointer (some ⟨bc, 0, none⟩)), (43, .int .i64 ((k * 16 + l : Nat) : Int)), (44, .agg #[.int .u8 ((C.cel (i * 16 + j)).cap.ty), .int .u16 ((C.cel (i * 16 + j)).cap.obj.idx), .int .u32 ((C.cel (i * 16 + j)).cap.obj.gen), .int .u8 (bitI .and .u8 ((C.cel (i * 16 + j)).cap.rights) mask), .int .u64 ((C.cel (i * 16 + j)).cap.badge)]), (45, .int .i64 ((i * 16 + j : Nat) : Int))]) (φ := (b10 = b10 ∧ Nat.ble (0 + 5) 5 = true) ∧ True) (rest := [4]) h54 (by kernel_rfl) rfl ⟨⟨rfl, rfl⟩, trivial⟩ fun a71 h72 => ?_
            clear h54
            refine nd_op ?_
            refine op_call h72 rfl rfl rfl (callOk Tryd.func40 (by decide) rfl) (args := [.pointer (some ⟨bc, 0, none⟩), .int .i64 ((k * 16 + l : Nat) : Int), .agg #[.int .u8 ((C.cel (i * 16 + j)).cap.ty), .int .u16 ((C.cel (i * 16 + j)).cap.obj.idx), .int .u32 ((C.cel (i * 16 + j)).cap.obj.gen), .int .u8 (bitI .and .u8 ((C.cel (i * 16 + j)).cap.rights) mask), .int .u64 ((C.cel (i * 16 + j)).cap.badge)], .int .i64 ((i * 16 + j : Nat) : Int)]) rfl (insert_ok bo bc nd C k l hk hl hq (⟨(C.cel (i * 16 + j)).cap.ty, ⟨(C.cel (i * 16 + j)).cap.obj.idx, (C.cel (i * 16 + j)).cap.obj.gen⟩, bitI .and .u8 ((C.cel (i * 16 + j)).cap.rights) mask, (C.cel (i * 16 + j)).cap.badge⟩ : Cp) ((i * 16 + j : Nat) : Int) _ h72.inv) ?_
            rintro _ w73 ⟨rfl, hcn76, hf75⟩
            refine ⟨_, rfl, ?_⟩
            have h74 := (h72.callF hf75 (fun b hb => by simp at hb; subst hb; exact mem_capF.2 (.inr (.inr ⟨k, hk, hq, rfl⟩))) (fun b hb => .inl (by simp at hb; subst hb; exact mem_capF.2 (.inr (.inr ⟨k, hk, hq, rfl⟩)))) (A' := fun w => CapAt w bo bc nd ({ C with cel := upd C.cel (k * 16 + l) ⟨(⟨(C.cel (i * 16 + j)).cap.ty, ⟨(C.cel (i * 16 + j)).cap.obj.idx, (C.cel (i * 16 + j)).cap.obj.gen⟩, bitI .and .u8 ((C.cel (i * 16 + j)).cap.rights) mask, (C.cel (i * 16 + j)).cap.badge⟩ : Cp), ((i * 16 + j : Nat) : Int)⟩ } : CP)) (F' := capF bo bc nd ({ C with cel := upd C.cel (k * 16 + l) ⟨(⟨(C.cel (i * 16 + j)).cap.ty, ⟨(C.cel (i * 16 + j)).cap.obj.idx, (C.cel (i * 16 + j)).cap.obj.gen⟩, bitI .and .u8 ((C.cel (i * 16 + j)).cap.rights) mask, (C.cel (i * 16 + j)).cap.badge⟩ : Cp), ((i * 16 + j : Nat) : Int)⟩ } : CP)) (kcons (by intro hq; cases hq) knil) hcn76 CapAt.stable hcn76.low (fun b hb => .inl hb)).put (d := some 46) (v := .tuple #[]) (T' := [(46, .tuple #[]), (11, .pointer (some ⟨b10, 0, none⟩)), (0, .pointer (some ⟨bc, 0, none⟩)), (1, .int .i64 ((k * 16 + l : Nat) : Int)), (2, .int .i64 ((i * 16 + j : Nat) : Int)), (3, .int .u8 mask), (4, .int .u64 badge), (10, .int .u8 0), (42, .pointer (some ⟨bc, 0, none⟩)), (43, .int .i64 ((k * 16 + l : Nat) : Int)), (44, .agg #[.int .u8 ((C.cel (i * 16 + j)).cap.ty), .int .u16 ((C.cel (i * 16 + j)).cap.obj.idx), .int .u32 ((C.cel (i * 16 + j)).cap.obj.gen), .int .u8 (bitI .and .u8 ((C.cel (i * 16 + j)).cap.rights) mask), .int .u64 ((C.cel (i * 16 + j)).cap.badge)]), (45, .int .i64 ((i * 16 + j : Nat) : Int))]) rfl
            clear h72
            refine nd_done ?_
            refine hK70 _ _ ?_
            clear hK70
            refine wp_seq_k fun K77 hK77 => ?_
            refine nd_start (l := [0]) rfl ?_
            refine nd_batch tabOk tabZ_ok [(0, {})] [11, 0, 1, 2, 3, 4, 10] (T' := [(11, .pointer (some ⟨b10, 0, none⟩)), (0, .pointer (some ⟨bc, 0, none⟩)), (1, .int .i64 ((k * 16 + l : Nat) : Int)), (2, .int .i64 ((i * 16 + j : Nat) : Int)), (3, .int .u8 mask), (4, .int .u64 badge), (10, .int .u8 0)]) (φ := True) (rest := []) h74 (by kernel_rfl) rfl trivial fun a78 h79 => ?_
            clear h74
            refine nd_done ?_
            refine hK77 _ _ ?_
            clear hK77
            refine wp_ret ?_
            try simp only [Exit.then, Exit.inBlock]
            try rw [if_pos trivial]
            exact s_ret tabOk tabZ_ok h79 [(.tmp 10, {})] (vs := [.int .u8 0]) (φ := True) rfl (by kernel_rfl) trivial (by unfold deriveP; rw [if_neg hc22f]; rw [if_neg (fun hz => hz hc34f)]; rw [if_neg (fun hz => hz.2 hc42f)]; rw [if_neg (fun hz => hz hc55f)]; exact ⟨rfl, h79.inv, h79.frame⟩)
      ·
        have hb39f : badge = 0 := by simpa using hb39
        refine nd_start (l := [0, 1, 2, 3, 4, 5, 6, 7]) rfl ?_
        refine nd_batch tabOk tabZ_ok [(0, {}), (1, {f := 1}), (2, {}), (3, {}), (4, {}), (5, {}), (6, {}), (7, {})] [11, 0, 1, 2, 3, 4, 10, 25] (T' := [(11, .pointer (some ⟨b10, 0, none⟩)), (0, .pointer (some ⟨bc, 0, none⟩)), (1, .int .i64 ((k * 16 + l : Nat) : Int)), (2, .int .i64 ((i * 16 + j : Nat) : Int)), (3, .int .u8 mask), (4, .int .u64 badge), (10, .int .u8 0), (25, .bool false)]) (φ := ((badge != 0)) = false ∧ True) (rest := []) h33 (by kernel_rfl) rfl ⟨hb39, trivial⟩ fun a80 h81 => ?_
        clear h33
        refine nd_done ?_
        refine hK38 _ _ ?_
        clear hK38
        refine c_false h81 rfl ?_
        refine wp_skip ?_
        refine hK18 _ _ ?_
        clear hK18
        refine wp_seq_k fun K82 hK82 => ?_
        refine nd_start (l := [0, 1, 2, 3, 4, 5]) rfl ?_
        refine nd_batch tabOk tabZ_ok [(0, {}), (1, {k := 0}), (2, {}), (3, {}), (4, {})] [11, 0, 1, 2, 3, 4, 10, 36, 37] (T' := [(11, .pointer (some ⟨b10, 0, none⟩)), (0, .pointer (some ⟨bc, 0, none⟩)), (1, .int .i64 ((k * 16 + l : Nat) : Int)), (2, .int .i64 ((i * 16 + j : Nat) : Int)), (3, .int .u8 mask), (4, .int .u64 badge), (10, .int .u8 0), (36, .int .u8 (bitI .and .u8 ((C.cel (i * 16 + j)).cap.rights) mask)), (37, .pointer (some ⟨b10, 3, none⟩))]) (φ := (b10 = b10 ∧ Nat.ble (3 + 1) 5 = true) ∧ True) (rest := [5]) h81 (by kernel_rfl) rfl ⟨⟨rfl, rfl⟩, trivial⟩ fun a83 h84 => ?_
        clear h81
        refine nd_op ?_
        refine op_store tabOk {k := 0} (L' := [(b10, ⟨[.int .u8 ((C.cel (i * 16 + j)).cap.ty), .int .u16 ((C.cel (i * 16 + j)).cap.obj.idx), .int .u32 ((C.cel (i * 16 + j)).cap.obj.gen), .int .u8 (bitI .and .u8 ((C.cel (i * 16 + j)).cap.rights) mask), .int .u64 ((C.cel (i * 16 + j)).cap.badge)], 49, false⟩)]) (φ := b10 = b10 ∧ Nat.ble (3 + 1) 5 = true) h84 rfl rfl rfl (by kernel_rfl) ⟨rfl, rfl⟩ fun w85 h86 => ?_
        clear h84
        refine nd_done ?_
        refine hK82 _ _ ?_
        clear hK82
        refine wp_seq_k fun K87 hK87 => ?_
        refine wp_seq_k fun K88 hK88 => ?_
        refine nd_start (l := [0, 1]) rfl ?_
        refine nd_batch tabOk tabZ_ok [(0, {}), (1, {})] [11, 0, 1, 2, 3, 4, 10, 39] (T' := [(11, .pointer (some ⟨b10, 0, none⟩)), (0, .pointer (some ⟨bc, 0, none⟩)), (1, .int .i64 ((k * 16 + l : Nat) : Int)), (2, .int .i64 ((i * 16 + j : Nat) : Int)), (3, .int .u8 mask), (4, .int .u64 badge), (10, .int .u8 0), (39, .bool (badge != 0))]) (φ := True) (rest := []) h86 (by kernel_rfl) rfl trivial fun a89 h90 => ?_
        clear h86
        refine nd_done ?_
        refine hK88 _ _ ?_
        clear hK88
        refine c_split h90 (b := (badge != 0)) rfl (fun hc91 => ?_) (fun hc91 => ?_)
        ·
          have hc91f : badge ≠ 0 := by simpa using hc91
          refine nd_start (l := [0, 1, 2]) rfl ?_
          refine nd_batch tabOk tabZ_ok [(0, {}), (1, {})] [11, 0, 1, 2, 3, 4, 10, 40, 41] (T' := [(11, .pointer (some ⟨b10, 0, none⟩)), (0, .pointer (some ⟨bc, 0, none⟩)), (1, .int .i64 ((k * 16 + l : Nat) : Int)), (2, .int .i64 ((i * 16 + j : Nat) : Int)), (3, .int .u8 mask), (4, .int .u64 badge), (10, .int .u8 0), (40, .int .u64 badge), (41, .pointer (some ⟨b10, 4, none⟩))]) (φ := True) (rest := [2]) h90 (by kernel_rfl) rfl trivial fun a92 h93 => ?_
          clear h90
          refine nd_op ?_
          refine op_store tabOk {k := 0} (L' := [(b10, ⟨[.int .u8 ((C.cel (i * 16 + j)).cap.ty), .int .u16 ((C.cel (i * 16 + j)).cap.obj.idx), .int .u32 ((C.cel (i * 16 + j)).cap.obj.gen), .int .u8 (bitI .and .u8 ((C.cel (i * 16 + j)).cap.rights) mask), .int .u64 badge], 49, false⟩)]) (φ := b10 = b10 ∧ Nat.ble (4 + 1) 5 = true) h93 rfl rfl rfl (by kernel_rfl) ⟨rfl, rfl⟩ fun w94 h95 => ?_
          clear h93
          refine nd_done ?_
          refine hK87 _ _ ?_
          clear hK87
          refine wp_seq_k fun K96 hK96 => ?_
          refine nd_start (l := [0, 1, 2, 3, 4]) rfl ?_
          refine nd_batch tabOk tabZ_ok [(0, {}), (1, {}), (2, {k := 0}), (3, {})] [11, 0, 1, 2, 3, 4, 10, 42, 43, 44, 45] (T' := [(11, .pointer (some ⟨b10, 0, none⟩)), (0, .pointer (some ⟨bc, 0, none⟩)), (1, .int .i64 ((k * 16 + l : Nat) : Int)), (2, .int .i64 ((i * 16 + j : Nat) : Int)), (3, .int .u8 mask), (4, .int .u64 badge), (10, .int .u8 0), (42, .pointer (some ⟨bc, 0, none⟩)), (43, .int .i64 ((k * 16 + l : Nat) : Int)), (44, .agg #[.int .u8 ((C.cel (i * 16 + j)).cap.ty), .int .u16 ((C.cel (i * 16 + j)).cap.obj.idx), .int .u32 ((C.cel (i * 16 + j)).cap.obj.gen), .int .u8 (bitI .and .u8 ((C.cel (i * 16 + j)).cap.rights) mask), .int .u64 badge]), (45, .int .i64 ((i * 16 + j : Nat) : Int))]) (φ := (b10 = b10 ∧ Nat.ble (0 + 5) 5 = true) ∧ True) (rest := [4]) h95 (by kernel_rfl) rfl ⟨⟨rfl, rfl⟩, trivial⟩ fun a97 h98 => ?_
          clear h95
          refine nd_op ?_
          refine op_call h98 rfl rfl rfl (callOk Tryd.func40 (by decide) rfl) (args := [.pointer (some ⟨bc, 0, none⟩), .int .i64 ((k * 16 + l : Nat) : Int), .agg #[.int .u8 ((C.cel (i * 16 + j)).cap.ty), .int .u16 ((C.cel (i * 16 + j)).cap.obj.idx), .int .u32 ((C.cel (i * 16 + j)).cap.obj.gen), .int .u8 (bitI .and .u8 ((C.cel (i * 16 + j)).cap.rights) mask), .int .u64 badge], .int .i64 ((i * 16 + j : Nat) : Int)]) rfl (insert_ok bo bc nd C k l hk hl hq (⟨(C.cel (i * 16 + j)).cap.ty, ⟨(C.cel (i * 16 + j)).cap.obj.idx, (C.cel (i * 16 + j)).cap.obj.gen⟩, bitI .and .u8 ((C.cel (i * 16 + j)).cap.rights) mask, badge⟩ : Cp) ((i * 16 + j : Nat) : Int) _ h98.inv) ?_
          rintro _ w99 ⟨rfl, hcn102, hf101⟩
          refine ⟨_, rfl, ?_⟩
          have h100 := (h98.callF hf101 (fun b hb => by simp at hb; subst hb; exact mem_capF.2 (.inr (.inr ⟨k, hk, hq, rfl⟩))) (fun b hb => .inl (by simp at hb; subst hb; exact mem_capF.2 (.inr (.inr ⟨k, hk, hq, rfl⟩)))) (A' := fun w => CapAt w bo bc nd ({ C with cel := upd C.cel (k * 16 + l) ⟨(⟨(C.cel (i * 16 + j)).cap.ty, ⟨(C.cel (i * 16 + j)).cap.obj.idx, (C.cel (i * 16 + j)).cap.obj.gen⟩, bitI .and .u8 ((C.cel (i * 16 + j)).cap.rights) mask, badge⟩ : Cp), ((i * 16 + j : Nat) : Int)⟩ } : CP)) (F' := capF bo bc nd ({ C with cel := upd C.cel (k * 16 + l) ⟨(⟨(C.cel (i * 16 + j)).cap.ty, ⟨(C.cel (i * 16 + j)).cap.obj.idx, (C.cel (i * 16 + j)).cap.obj.gen⟩, bitI .and .u8 ((C.cel (i * 16 + j)).cap.rights) mask, badge⟩ : Cp), ((i * 16 + j : Nat) : Int)⟩ } : CP)) (kcons (by intro hq; cases hq) knil) hcn102 CapAt.stable hcn102.low (fun b hb => .inl hb)).put (d := some 46) (v := .tuple #[]) (T' := [(46, .tuple #[]), (11, .pointer (some ⟨b10, 0, none⟩)), (0, .pointer (some ⟨bc, 0, none⟩)), (1, .int .i64 ((k * 16 + l : Nat) : Int)), (2, .int .i64 ((i * 16 + j : Nat) : Int)), (3, .int .u8 mask), (4, .int .u64 badge), (10, .int .u8 0), (42, .pointer (some ⟨bc, 0, none⟩)), (43, .int .i64 ((k * 16 + l : Nat) : Int)), (44, .agg #[.int .u8 ((C.cel (i * 16 + j)).cap.ty), .int .u16 ((C.cel (i * 16 + j)).cap.obj.idx), .int .u32 ((C.cel (i * 16 + j)).cap.obj.gen), .int .u8 (bitI .and .u8 ((C.cel (i * 16 + j)).cap.rights) mask), .int .u64 badge]), (45, .int .i64 ((i * 16 + j : Nat) : Int))]) rfl
          clear h98
          refine nd_done ?_
          refine hK96 _ _ ?_
          clear hK96
          refine wp_seq_k fun K103 hK103 => ?_
          refine nd_start (l := [0]) rfl ?_
          refine nd_batch tabOk tabZ_ok [(0, {})] [11, 0, 1, 2, 3, 4, 10] (T' := [(11, .pointer (some ⟨b10, 0, none⟩)), (0, .pointer (some ⟨bc, 0, none⟩)), (1, .int .i64 ((k * 16 + l : Nat) : Int)), (2, .int .i64 ((i * 16 + j : Nat) : Int)), (3, .int .u8 mask), (4, .int .u64 badge), (10, .int .u8 0)]) (φ := True) (rest := []) h100 (by kernel_rfl) rfl trivial fun a104 h105 => ?_
          clear h100
          refine nd_done ?_
          refine hK103 _ _ ?_
          clear hK103
          refine wp_ret ?_
          try simp only [Exit.then, Exit.inBlock]
          try rw [if_pos trivial]
          exact s_ret tabOk tabZ_ok h105 [(.tmp 10, {})] (vs := [.int .u8 0]) (φ := True) rfl (by kernel_rfl) trivial (by unfold deriveP; rw [if_neg hc22f]; rw [if_neg (fun hz => hz hc34f)]; rw [if_neg (fun hz => hz.1 hb39f)]; rw [if_pos hc91f]; exact ⟨rfl, h105.inv, h105.frame⟩)
        ·
          have hc91f : badge = 0 := by simpa using hc91
          refine wp_skip ?_
          refine hK87 _ _ ?_
          clear hK87
          refine wp_seq_k fun K106 hK106 => ?_
          refine nd_start (l := [0, 1, 2, 3, 4]) rfl ?_
          refine nd_batch tabOk tabZ_ok [(0, {}), (1, {}), (2, {k := 0}), (3, {})] [11, 0, 1, 2, 3, 4, 10, 42, 43, 44, 45] (T' := [(11, .pointer (some ⟨b10, 0, none⟩)), (0, .pointer (some ⟨bc, 0, none⟩)), (1, .int .i64 ((k * 16 + l : Nat) : Int)), (2, .int .i64 ((i * 16 + j : Nat) : Int)), (3, .int .u8 mask), (4, .int .u64 badge), (10, .int .u8 0), (42, .pointer (some ⟨bc, 0, none⟩)), (43, .int .i64 ((k * 16 + l : Nat) : Int)), (44, .agg #[.int .u8 ((C.cel (i * 16 + j)).cap.ty), .int .u16 ((C.cel (i * 16 + j)).cap.obj.idx), .int .u32 ((C.cel (i * 16 + j)).cap.obj.gen), .int .u8 (bitI .and .u8 ((C.cel (i * 16 + j)).cap.rights) mask), .int .u64 ((C.cel (i * 16 + j)).cap.badge)]), (45, .int .i64 ((i * 16 + j : Nat) : Int))]) (φ := (b10 = b10 ∧ Nat.ble (0 + 5) 5 = true) ∧ True) (rest := [4]) h90 (by kernel_rfl) rfl ⟨⟨rfl, rfl⟩, trivial⟩ fun a107 h108 => ?_
          clear h90
          refine nd_op ?_
          refine op_call h108 rfl rfl rfl (callOk Tryd.func40 (by decide) rfl) (args := [.pointer (some ⟨bc, 0, none⟩), .int .i64 ((k * 16 + l : Nat) : Int), .agg #[.int .u8 ((C.cel (i * 16 + j)).cap.ty), .int .u16 ((C.cel (i * 16 + j)).cap.obj.idx), .int .u32 ((C.cel (i * 16 + j)).cap.obj.gen), .int .u8 (bitI .and .u8 ((C.cel (i * 16 + j)).cap.rights) mask), .int .u64 ((C.cel (i * 16 + j)).cap.badge)], .int .i64 ((i * 16 + j : Nat) : Int)]) rfl (insert_ok bo bc nd C k l hk hl hq (⟨(C.cel (i * 16 + j)).cap.ty, ⟨(C.cel (i * 16 + j)).cap.obj.idx, (C.cel (i * 16 + j)).cap.obj.gen⟩, bitI .and .u8 ((C.cel (i * 16 + j)).cap.rights) mask, (C.cel (i * 16 + j)).cap.badge⟩ : Cp) ((i * 16 + j : Nat) : Int) _ h108.inv) ?_
          rintro _ w109 ⟨rfl, hcn112, hf111⟩
          refine ⟨_, rfl, ?_⟩
          have h110 := (h108.callF hf111 (fun b hb => by simp at hb; subst hb; exact mem_capF.2 (.inr (.inr ⟨k, hk, hq, rfl⟩))) (fun b hb => .inl (by simp at hb; subst hb; exact mem_capF.2 (.inr (.inr ⟨k, hk, hq, rfl⟩)))) (A' := fun w => CapAt w bo bc nd ({ C with cel := upd C.cel (k * 16 + l) ⟨(⟨(C.cel (i * 16 + j)).cap.ty, ⟨(C.cel (i * 16 + j)).cap.obj.idx, (C.cel (i * 16 + j)).cap.obj.gen⟩, bitI .and .u8 ((C.cel (i * 16 + j)).cap.rights) mask, (C.cel (i * 16 + j)).cap.badge⟩ : Cp), ((i * 16 + j : Nat) : Int)⟩ } : CP)) (F' := capF bo bc nd ({ C with cel := upd C.cel (k * 16 + l) ⟨(⟨(C.cel (i * 16 + j)).cap.ty, ⟨(C.cel (i * 16 + j)).cap.obj.idx, (C.cel (i * 16 + j)).cap.obj.gen⟩, bitI .and .u8 ((C.cel (i * 16 + j)).cap.rights) mask, (C.cel (i * 16 + j)).cap.badge⟩ : Cp), ((i * 16 + j : Nat) : Int)⟩ } : CP)) (kcons (by intro hq; cases hq) knil) hcn112 CapAt.stable hcn112.low (fun b hb => .inl hb)).put (d := some 46) (v := .tuple #[]) (T' := [(46, .tuple #[]), (11, .pointer (some ⟨b10, 0, none⟩)), (0, .pointer (some ⟨bc, 0, none⟩)), (1, .int .i64 ((k * 16 + l : Nat) : Int)), (2, .int .i64 ((i * 16 + j : Nat) : Int)), (3, .int .u8 mask), (4, .int .u64 badge), (10, .int .u8 0), (42, .pointer (some ⟨bc, 0, none⟩)), (43, .int .i64 ((k * 16 + l : Nat) : Int)), (44, .agg #[.int .u8 ((C.cel (i * 16 + j)).cap.ty), .int .u16 ((C.cel (i * 16 + j)).cap.obj.idx), .int .u32 ((C.cel (i * 16 + j)).cap.obj.gen), .int .u8 (bitI .and .u8 ((C.cel (i * 16 + j)).cap.rights) mask), .int .u64 ((C.cel (i * 16 + j)).cap.badge)]), (45, .int .i64 ((i * 16 + j : Nat) : Int))]) rfl
          clear h108
          refine nd_done ?_
          refine hK106 _ _ ?_
          clear hK106
          refine wp_seq_k fun K113 hK113 => ?_
          refine nd_start (l := [0]) rfl ?_
          refine nd_batch tabOk tabZ_ok [(0, {})] [11, 0, 1, 2, 3, 4, 10] (T' := [(11, .pointer (some ⟨b10, 0, none⟩)), (0, .pointer (some ⟨bc, 0, none⟩)), (1, .int .i64 ((k * 16 + l : Nat) : Int)), (2, .int .i64 ((i * 16 + j : Nat) : Int)), (3, .int .u8 mask), (4, .int .u64 badge), (10, .int .u8 0)]) (φ := True) (rest := []) h110 (by kernel_rfl) rfl trivial fun a114 h115 => ?_
          clear h110
          refine nd_done ?_
          refine hK113 _ _ ?_
          clear hK113
          refine wp_ret ?_
          try simp only [Exit.then, Exit.inBlock]
          try rw [if_pos trivial]
          exact s_ret tabOk tabZ_ok h115 [(.tmp 10, {})] (vs := [.int .u8 0]) (φ := True) rfl (by kernel_rfl) trivial (by unfold deriveP; rw [if_neg hc22f]; rw [if_neg (fun hz => hz hc34f)]; rw [if_neg (fun hz => hz.1 hb39f)]; rw [if_neg (fun hz => hz hc91f)]; exact ⟨rfl, h115.inv, h115.frame⟩)

end Go.Proofs.Qxb6500918aDoor
