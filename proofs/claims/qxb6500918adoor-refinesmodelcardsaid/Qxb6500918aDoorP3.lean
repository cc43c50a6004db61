/-
  The list of a queue, Waiters. (Made by program: a symbolic walk that prints its steps.)
-/
import Derived.Test.Qxb6500918aDoorP1
import Derived.Test.Qxb6500918aDoorM1
namespace Go.Proofs.Qxb6500918aDoor
open Go.Sx Go.Kn
set_option maxRecDepth 100000
set_option maxHeartbeats 4000000
set_option linter.unusedVariables false
set_option linter.unusedSimpArgs false

def rfC (r : Rf) : List Value := [.int .u16 r.idx, .int .u32 r.gen]
theorem rfC_len (r : Rf) : (rfC r).length = 2 := rfl
theorem rfC_one (r : Rf) : allOne (rfC r) = true := rfl

def refsP (E : Nat → Ent) (xs : List Nat) : List Rf := xs.map (fun (x : Nat) => refP E (x : Int))

/-- What Waiters shows. -/
def waitersP (S : KP) (Q : QL → List Nat) (E : Nat → Ent) (r : Rf) : List Rf × Int :=
  if typeOfP E r = 4 ∨ typeOfP E r = 5 then (refsP E (Q (.w r.idx.toNat)), S.word r.idx.toNat) else ([], 0)

theorem rws0 {w : World} : Rws [] w := ⟨by simp [Ff], fun _ h => by cases h⟩

theorem list_ok (kb bo bc : Nat) (S : KP) (rS : RI S) (E : Nat → Ent) (L : QL) (hL : L.ok) (xs : List Nat) (hch : Chain S L xs) (w : World) (hb : w.heap[kb]? = some (Blk.obj ⟨kC bo bc S, 90, false⟩)) (hs : w.heap[bo]? = some (Blk.obj ⟨stC E, 131, false⟩)) (hne : kb ≠ bo) :
    Calls Tryd.prog 63 #[.pointer (some ⟨kb, 0, none⟩), .pointer (some ⟨kb, L.off, none⟩)] w fun e w' => ∃ o' c' F', e = .returned (.slice o' (refsP E xs).length c') ∧ (rl rfC 39 2 (refsP E xs) o' c' F').at w' ∧ Fr [] w w' ∧ ∀ b ∈ F', w.heap.size ≤ b := by
  have hxl := nodup_len hch.nd hch.lt
  have hlk := lt_of_heap hb
  have hlo := lt_of_heap hs
  refine enter (n := 27) (K := []) (A := Rws []) (F := Ff []) (T := [(0, .pointer (some ⟨kb, 0, none⟩)), (1, .pointer (some ⟨kb, L.off, none⟩))]) (L := [(kb, ⟨kC bo bc S, 90, true⟩), (bo, ⟨stC E, 131, true⟩)]) (args := [.pointer (some ⟨kb, 0, none⟩), .pointer (some ⟨kb, L.off, none⟩)]) Tryd.func63 rfl rfl rfl rfl (kcons hb (kcons hs knil)) (by simp; exact hne) (kcons (by intro hq; cases hq) (kcons (by intro hq; cases hq) knil)) rws0 Rws.stable rws0.low (kcons (by intro hq; cases hq) (kcons (by intro hq; cases hq) knil)) ?_
  intro a h
  refine wp_seq_k fun K1 hK1 => ?_
  refine nd_start (l := [0]) rfl ?_
  refine nd_batch tabOk tabZ_ok [(0, {})] [0, 1, 4] (T' := [(0, .pointer (some ⟨kb, 0, none⟩)), (1, .pointer (some ⟨kb, L.off, none⟩)), (4, .slice none 0 0)]) (φ := True) (rest := []) h (by kernel_rfl) rfl trivial fun a2 h3 => ?_
  clear h
  refine nd_done ?_
  refine hK1 _ _ ?_
  clear hK1
  refine wp_seq_k fun K4 hK4 => ?_
  refine nd_start (l := [0]) rfl ?_
  refine nd_batch tabOk tabZ_ok [(0, {})] [0, 1, 4, 5] (T' := [(0, .pointer (some ⟨kb, 0, none⟩)), (1, .pointer (some ⟨kb, L.off, none⟩)), (4, .slice none 0 0), (5, .slice none 0 0)]) (φ := True) (rest := []) h3 (by kernel_rfl) rfl trivial fun a5 h6 => ?_
  clear h3
  refine nd_done ?_
  refine hK4 _ _ ?_
  clear hK4
  refine wp_seq_k fun K7 hK7 => ?_
  refine wp_seq_k fun K8 hK8 => ?_
  refine nd_start (l := [0, 1, 2, 3, 4]) rfl ?_
  refine nd_batch tabOk tabZ_ok [(0, {}), (1, {}), (2, {}), (3, {k := 0, m := 1, vs := [.int .i16 ((S.q L).head)]}), (4, {})] [0, 1, 4, 5, 6] (T' := [(0, .pointer (some ⟨kb, 0, none⟩)), (1, .pointer (some ⟨kb, L.off, none⟩)), (4, .slice none 0 0), (5, .slice none 0 0), (6, .int .i16 ((S.q L).head))]) (φ := (kb = kb ∧ cellsAre (kC bo bc S) L.off [.int .i16 ((S.q L).head)]) ∧ True) (rest := []) h6 (by kernel_rfl) rfl ⟨⟨rfl, (k_q (L := L) (k := 0) hL (by omega) ⟨rfl, trivial⟩)⟩, trivial⟩ fun a9 h10 => ?_
  clear h6
  refine nd_done ?_
  refine hK8 _ _ ?_
  clear hK8
  refine wp_block ?_
  have h11a := h10.rowNil 39 2
  have h11 : St ⟨27, [], w, Rws [rl rfC 39 2 ([] : List Rf) none 0 ([])], Ff [rl rfC 39 2 ([] : List Rf) none 0 ([])]⟩ [(0, .pointer (some ⟨kb, 0, none⟩)), (1, .pointer (some ⟨kb, L.off, none⟩)), (4, .slice none 0 0), (5, .slice none 0 0), (6, .int .i16 ((S.q L).head))] [(kb, ⟨kC bo bc S, 90, true⟩), (bo, ⟨stC E, 131, true⟩)] _ _ := h11a
  clear h10 h11a
  refine wp_loop_ghost (fun g ga gw => ∃ (o' : Option Addr) (c' : Nat) (F' : List Nat) (rs : List Rf) (t : Int) (m : Nat), (g + m = xs.length ∨ (g = 0 ∧ xs.length ≤ m)) ∧ (t = hdI (xs.drop m) (-1)) ∧ (rs = refsP E (xs.take m)) ∧ (∀ b ∈ F', b ∈ ([] : List Nat) ∨ w.heap.size ≤ b) ∧ St ⟨27, [], w, Rws [rl rfC 39 2 rs o' c' F'], Ff [rl rfC 39 2 rs o' c' F']⟩ [(0, .pointer (some ⟨kb, 0, none⟩)), (5, .slice o' rs.length c'), (6, .int .i16 t)] [(kb, ⟨kC bo bc S, 90, true⟩), (bo, ⟨stC E, 131, true⟩)] ga gw) xs.length ⟨none, 0, [], [], (S.q L).head, 0, .inl (by omega), (by rw [List.drop_zero]; exact hch.hd), (by rw [List.take_zero]; rfl), (fun _ hq => by cases hq), (h11.slotsMono (restr_spec (keep := [0, 5, 6]) rfl))⟩ ?_
  clear h11
  rintro g a12 w13 ⟨o', c', F', rs, t, m, hi15, hi16, hi17, hi18, h14⟩
  have hkg := hi15
  have ht := hi16
  have hrs := hi17
  have hFK := hi18
  have hrl : rs.length ≤ 256 := by have h1 := congrArg List.length hrs; unfold refsP at h1; rw [List.length_map, List.length_take] at h1; have h3 : min m xs.length ≤ xs.length := Nat.min_le_right _ _; omega
  refine wp_seq_k fun K19 hK19 => ?_
  refine wp_seq_k fun K20 hK20 => ?_
  refine nd_start (l := [0, 1]) rfl ?_
  refine nd_batch tabOk tabZ_ok [(0, {}), (1, {})] [0, 5, 6, 12] (T' := [(0, .pointer (some ⟨kb, 0, none⟩)), (5, .slice o' rs.length c'), (6, .int .i16 t), (12, .bool (t != -1))]) (φ := True) (rest := []) h14 (by kernel_rfl) rfl trivial fun a21 h22 => ?_
  clear h14
  refine nd_done ?_
  refine hK20 _ _ ?_
  clear hK20
  refine c_split h22 (b := (t != -1)) rfl (fun hc23 => ?_) (fun hc23 => ?_)
  ·
    have hc23f : t ≠ -1 := by simpa using hc23
    obtain ⟨x, hx, htx⟩ := hd_drop (xs := xs) (m := m) (by rw [← ht]; exact hc23f)
    have htx2 : t = (x : Int) := ht.trans htx
    have hx256 := hch.lt x (List.mem_of_getElem? hx)
    have hmlt : m < xs.length := (List.getElem?_eq_some_iff.1 hx).1
    have hnx := chain_nextD hch hx
    refine wp_skip ?_
    refine hK19 _ _ ?_
    clear hK19
    refine wp_seq_k fun K24 hK24 => ?_
    refine wp_block ?_
    refine nd_start (l := [0, 1, 2, 3, 4, 5, 6]) rfl ?_
    refine nd_batch tabOk tabZ_ok [(0, {}), (1, {}), (2, {})] [0, 5, 6, 20, 21, 22] (T' := [(0, .pointer (some ⟨kb, 0, none⟩)), (5, .slice o' rs.length c'), (6, .int .i16 t), (20, .slice o' rs.length c'), (21, .pointer (some ⟨kb, 0, none⟩)), (22, .int .i16 t)]) (φ := True) (rest := [3, 4, 5, 6]) h22 (by kernel_rfl) rfl trivial fun a25 h26 => ?_
    clear h22
    refine nd_op ?_
    refine op_call h26 rfl rfl rfl (callOk Tryd.func51 (by decide) rfl) (args := [.pointer (some ⟨kb, 0, none⟩), .int .i16 t]) rfl (ref_ok kb bo bc S E t (.inr ⟨by omega, by omega⟩) _ (h26.kn (k := 0) (blk := ⟨kC bo bc S, 90, true⟩) rfl) (h26.kn (k := 1) (blk := ⟨stC E, 131, true⟩) rfl) hne) ?_
    rintro _ w27 ⟨rfl, hf29⟩
    refine ⟨_, rfl, ?_⟩
    have h28 := (h26.grow hf29).put (d := some 23) (v := .agg #[.int .u16 ((refP E t).idx), .int .u32 ((refP E t).gen)]) (T' := [(23, .agg #[.int .u16 ((refP E t).idx), .int .u32 ((refP E t).gen)]), (0, .pointer (some ⟨kb, 0, none⟩)), (5, .slice o' rs.length c'), (6, .int .i16 t), (20, .slice o' rs.length c'), (21, .pointer (some ⟨kb, 0, none⟩)), (22, .int .i16 t)]) rfl
    clear h26
    refine nd_op ?_
    refine op_new tabOk (cells := [.int .u16 ((refP E t).idx), .int .u32 ((refP E t).gen)]) (ty := 39) (ln := (some 1)) (L1 := fun b30 => [(kb, ⟨kC bo bc S, 90, true⟩), (bo, ⟨stC E, 131, true⟩), (b30, ⟨[.int .u16 ((refP E t).idx), .int .u32 ((refP E t).gen)], 39, false⟩)]) h28 rfl rfl rfl rfl (by kernel_rfl) (fun _ => rfl) fun b30 w31 a32 h33 hf34 hn35 => ?_
    clear h28
    refine nd_op ?_
    refine op_append tabOk (e := 39) (so := o') (n := rs.length) (c := c') (xo := some ⟨b30, 0, none⟩) (m := 1) (cx := 1) (vals := rs.flatMap rfC) (vs := [.int .u16 ((refP E t).idx), .int .u32 ((refP E t).gen)]) (F := F') h33 rfl rfl rfl rfl rfl rfl rfl rfl rfl rfl rfl rfl (h33.inv.get (j := 0) rfl) (src_one (h33.kn (k := 2) rfl) rfl ⟨rfl, rfl, trivial⟩) (by omega) rfl ?_
    intro o36 c37 F38 w39 hr40 hf41 hF42
    have hr402 := rl_app1 (enc := rfC) (xs := rs) (y := (refP E t)) hr40
    have hKh43 := row1_keys (K := []) hFK h33.frame.size hF42
    rw [show rs.length + 1 = (rs ++ [(refP E t)]).length by simp]
    have h43 := (h33.rowSet (j := 0) (r' := rl rfC 39 2 (rs ++ [(refP E t)]) o36 c37 F38) (R' := [rl rfC 39 2 (rs ++ [(refP E t)]) o36 c37 F38]) rfl hr402 hf41 hF42 hFK (kcons (fun _ => (fun hq => by have h1 := (hFK _ hq).resolve_left (fun hz => by cases hz); omega)) (kcons (fun _ => (fun hq => by have h1 := (hFK _ hq).resolve_left (fun hz => by cases hz); omega)) (kcons (by intro hq; cases hq) knil))) rfl).put (d := some 25) (v := .slice o36 ((rs ++ [(refP E t)]).length) c37) (T' := [(25, .slice o36 ((rs ++ [(refP E t)]).length) c37), (24, .slice (some ⟨b30, 0, none⟩) 1 1), (23, .agg #[.int .u16 ((refP E t).idx), .int .u32 ((refP E t).gen)]), (0, .pointer (some ⟨kb, 0, none⟩)), (5, .slice o' rs.length c'), (6, .int .i16 t), (20, .slice o' rs.length c'), (21, .pointer (some ⟨kb, 0, none⟩)), (22, .int .i16 t)]) rfl
    clear h33
    refine nd_batch tabOk tabZ_ok [(6, {})] [0, 6, 5] (T' := [(0, .pointer (some ⟨kb, 0, none⟩)), (6, .int .i16 t), (5, .slice o36 ((rs ++ [(refP E t)]).length) c37)]) (φ := True) (rest := []) h43 (by kernel_rfl) rfl trivial fun a44 h45 => ?_
    clear h43
    refine nd_done ?_
    refine hK24 _ _ ?_
    clear hK24
    refine nd_start (l := [0, 1, 2, 3, 4, 5, 6, 7]) rfl ?_
    refine nd_batch tabOk tabZ_ok [(0, {}), (1, {}), (2, {}), (3, {}), (4, {}), (5, {}), (6, {k := 0, m := 1, vs := [.int .i16 ((S.tcb t.toNat).next)]}), (7, {})] [0, 5, 6] (T' := [(0, .pointer (some ⟨kb, 0, none⟩)), (5, .slice o36 ((rs ++ [(refP E t)]).length) c37), (6, .int .i16 ((S.tcb t.toNat).next))]) (φ := (0 ≤ t ∧ t < 256) ∧ (kb = kb ∧ cellsAre (kC bo bc S) (2 + (t.toNat * 21) + 19) [.int .i16 ((S.tcb t.toNat).next)]) ∧ True) (rest := []) h45 (by kernel_rfl) rfl ⟨⟨by omega, by omega⟩, ⟨rfl, (k_tcb (i := t.toNat) (k := 19) (by omega) (by omega) ⟨rfl, trivial⟩)⟩, trivial⟩ fun a46 h47 => ?_
    clear h45
    refine nd_done ?_
    have h48 := h47.memMono (L' := [(kb, ⟨kC bo bc S, 90, true⟩), (bo, ⟨stC E, 131, true⟩)]) (List.Sublist.cons_cons _ (List.Sublist.cons_cons _ (List.Sublist.cons _ List.Sublist.slnil)))
    clear h47
    exact ⟨(g - 1), by omega, o36, c37, F38, (rs ++ [(refP E t)]), ((S.tcb t.toNat).next), (m + 1), by omega, (by rw [htx2, Int.toNat_natCast]; exact hnx), (by unfold refsP at hrs ⊢; rw [List.take_add_one, hx, Option.toList, List.map_append, hrs, htx2]; rfl), hKh43, (h48.slotsMono (restr_spec (keep := [0, 5, 6]) rfl))⟩
  ·
    have hc23f : t = -1 := by simpa using hc23
    have hdn : xs.length ≤ m := Nat.le_of_not_lt (fun hq => by rw [ht, List.drop_eq_getElem_cons hq] at hc23f; simp [hdI] at hc23f)
    rw [List.take_of_length_le hdn] at hrs
    refine wp_exit ?_
    refine hK7 _ _ ?_
    clear hK7
    refine wp_seq_k fun K49 hK49 => ?_
    refine nd_start (l := [0, 1]) rfl ?_
    refine nd_batch tabOk tabZ_ok [(0, {}), (1, {})] [0, 5, 6, 4] (T' := [(0, .pointer (some ⟨kb, 0, none⟩)), (5, .slice o' rs.length c'), (6, .int .i16 t), (4, .slice o' rs.length c')]) (φ := True) (rest := []) h22 (by kernel_rfl) rfl trivial fun a50 h51 => ?_
    clear h22
    refine nd_done ?_
    refine hK49 _ _ ?_
    clear hK49
    refine wp_ret ?_
    try simp only [Exit.then, Exit.inBlock]
    try rw [if_pos trivial]
    exact s_ret tabOk tabZ_ok h51 [(.tmp 4, {})] (vs := [.slice o' rs.length c']) (φ := True) rfl (by kernel_rfl) trivial ⟨o', c', F', by rw [← hrs]; rfl, by rw [← hrs]; exact h51.inv.get (j := 0) rfl, h51.frame, fun b hb => (hFK b hb).resolve_left (fun hz => by cases hz)⟩

theorem waiters_ok (kb bo bc : Nat) (S : KP) (rS : RI S) (E : Nat → Ent) (h256 : (E 256).ty = 1) (Q : QL → List Nat) (hQ : LIQ S Q) (r : Rf) (hr : 0 ≤ r.idx ∧ r.idx ≤ 65535) (w : World) (hb : w.heap[kb]? = some (Blk.obj ⟨kC bo bc S, 90, false⟩)) (hs : w.heap[bo]? = some (Blk.obj ⟨stC E, 131, false⟩)) (hne : kb ≠ bo) :
    Calls Tryd.prog 20 #[.pointer (some ⟨kb, 0, none⟩), .agg #[.int .u16 r.idx, .int .u32 r.gen]] w fun e w' => ∃ o' c' F', e = .returned (.tuple #[.slice o' (waitersP S Q E r).1.length c', .int .u64 (waitersP S Q E r).2]) ∧ (rl rfC 39 2 (waitersP S Q E r).1 o' c' F').at w' ∧ Fr [] w w' ∧ ∀ b ∈ F', w.heap.size ≤ b := by
  refine enter (n := 34) (K := []) (A := Rws []) (F := Ff []) (T := [(0, .pointer (some ⟨kb, 0, none⟩)), (1, .agg #[.int .u16 r.idx, .int .u32 r.gen])]) (L := [(kb, ⟨kC bo bc S, 90, true⟩), (bo, ⟨stC E, 131, true⟩)]) (args := [.pointer (some ⟨kb, 0, none⟩), .agg #[.int .u16 r.idx, .int .u32 r.gen]]) Tryd.func20 rfl rfl rfl rfl (kcons hb (kcons hs knil)) (by simp; exact hne) (kcons (by intro hq; cases hq) (kcons (by intro hq; cases hq) knil)) rws0 Rws.stable rws0.low (kcons (by intro hq; cases hq) (kcons (by intro hq; cases hq) knil)) ?_
  intro a h
  refine wp_seq_k fun K1 hK1 => ?_
  refine nd_start (l := [0, 1, 2]) rfl ?_
  refine nd_op ?_
  refine op_new tabOk (cells := [.int .u16 r.idx, .int .u32 r.gen]) (ty := 39) (ln := none) (L1 := fun b2 => [(kb, ⟨kC bo bc S, 90, true⟩), (bo, ⟨stC E, 131, true⟩), (b2, ⟨[.int .u16 r.idx, .int .u32 r.gen], 39, false⟩)]) h rfl rfl rfl rfl (by kernel_rfl) (fun _ => rfl) fun b2 w3 a4 h5 hf6 hn7 => ?_
  clear h
  refine nd_batch tabOk tabZ_ok [(1, {}), (2, {})] [3, 0, 1, 4, 5] (T' := [(3, .pointer (some ⟨b2, 0, none⟩)), (0, .pointer (some ⟨kb, 0, none⟩)), (1, .agg #[.int .u16 r.idx, .int .u32 r.gen]), (4, .slice none 0 0), (5, .int .u64 0)]) (φ := True) (rest := []) h5 (by kernel_rfl) rfl trivial fun a8 h9 => ?_
  clear h5
  refine nd_done ?_
  refine hK1 _ _ ?_
  clear hK1
  refine wp_seq_k fun K10 hK10 => ?_
  refine wp_seq_k fun K11 hK11 => ?_
  refine dr_start (KB := [kb, bo, b2]) (Bi := [[0, 1, 2], [0, 1, 2], [0, 1, 2], [0, 1, 2], [0, 1, 2], [], [0, 1, 2]]) mixed h9 fun w12 h13 => ?_
  clear h9
  refine dr_batch tabOk tabZ_ok (by repeat (first | with_reducible exact PF.body | with_reducible apply PF.inB | with_reducible apply PF.next)) [(0, {}), (1, {}), (2, {}), (3, {k := 0, m := 1, vs := [.pointer (some ⟨bo, 0, none⟩)], p := 0}), (4, {k := 2, p := 2})] [3, 0, 1, 4, 5, 10, 11] (T' := [(3, .pointer (some ⟨b2, 0, none⟩)), (0, .pointer (some ⟨kb, 0, none⟩)), (1, .agg #[.int .u16 r.idx, .int .u32 r.gen]), (4, .slice none 0 0), (5, .int .u64 0), (10, .pointer (some ⟨bo, 0, none⟩)), (11, .agg #[.int .u16 r.idx, .int .u32 r.gen])]) (φ := (kb = kb ∧ cellsAre (kC bo bc S) 0 [.pointer (some ⟨bo, 0, none⟩)]) ∧ (b2 = b2 ∧ Nat.ble (0 + 2) 2 = true) ∧ True) (fuel := 2) h13 (by kernel_rfl) rfl (by kernel_rfl) (by kernel_rfl) ⟨trivial, trivial, trivial, rfl, rfl, trivial⟩ ⟨⟨rfl, k_objs⟩, ⟨rfl, rfl⟩, trivial⟩ fun a15 h16 => ?_
  clear h13
  refine wpAnyK_one (i := 5) (fuel := 1) (by kernel_rfl) ?_
  refine op_call h16 rfl rfl rfl (callOk Tryd.func53 (by decide) rfl) (args := [.pointer (some ⟨bo, 0, none⟩), .agg #[.int .u16 r.idx, .int .u32 r.gen]]) rfl (typeOf_ok bo E r ⟨by omega, by omega⟩ _ (h16.kn (k := 1) (blk := ⟨stC E, 131, true⟩) rfl)) ?_
  rintro _ w17 ⟨rfl, hf19⟩
  refine ⟨_, rfl, ?_⟩
  have h18 := (h16.grow hf19).put (d := some 12) (v := .int .u8 (typeOfP E r)) (T' := [(12, .int .u8 (typeOfP E r)), (3, .pointer (some ⟨b2, 0, none⟩)), (0, .pointer (some ⟨kb, 0, none⟩)), (1, .agg #[.int .u16 r.idx, .int .u32 r.gen]), (4, .slice none 0 0), (5, .int .u64 0), (10, .pointer (some ⟨bo, 0, none⟩)), (11, .agg #[.int .u16 r.idx, .int .u32 r.gen])]) rfl
  refine ⟨keepNil, ?_⟩
  clear h16
  refine dr_batch tabOk tabZ_ok (by repeat (first | with_reducible exact PF.body | with_reducible apply PF.inB | with_reducible apply PF.next)) [(6, {})] [3, 0, 1, 4, 5, 6] (T' := [(3, .pointer (some ⟨b2, 0, none⟩)), (0, .pointer (some ⟨kb, 0, none⟩)), (1, .agg #[.int .u16 r.idx, .int .u32 r.gen]), (4, .slice none 0 0), (5, .int .u64 0), (6, .int .u8 (typeOfP E r))]) (φ := True) (fuel := 0) h18 (by kernel_rfl) rfl (by kernel_rfl) (by kernel_rfl) ⟨trivial, trivial⟩ trivial fun a20 h21 => ?_
  clear h18
  refine wpAnyK_done (by kernel_rfl) ?_ _
  refine hK11 _ _ ?_
  clear hK11
  refine wp_seq_k fun K22 hK22 => ?_
  rcases Bool.eq_false_or_eq_true (((typeOfP E r) != 4)) with hb23 | hb23
  ·
    have hb23f : (typeOfP E r) ≠ 4 := by simpa using hb23
    refine nd_start (l := [0, 1, 2, 3, 4, 5]) rfl ?_
    refine nd_batch tabOk tabZ_ok [(0, {}), (1, {f := 2}), (2, {}), (3, {}), (4, {}), (5, {})] [3, 0, 1, 4, 5, 6, 18] (T' := [(3, .pointer (some ⟨b2, 0, none⟩)), (0, .pointer (some ⟨kb, 0, none⟩)), (1, .agg #[.int .u16 r.idx, .int .u32 r.gen]), (4, .slice none 0 0), (5, .int .u64 0), (6, .int .u8 (typeOfP E r)), (18, .bool ((typeOfP E r) != 5))]) (φ := (((typeOfP E r) != 4)) = true ∧ True) (rest := []) h21 (by kernel_rfl) rfl ⟨hb23, trivial⟩ fun a24 h25 => ?_
    clear h21
    refine nd_done ?_
    refine hK22 _ _ ?_
    clear hK22
    refine c_split h25 (b := ((typeOfP E r) != 5)) rfl (fun hc26 => ?_) (fun hc26 => ?_)
    ·
      have hc26f : (typeOfP E r) ≠ 5 := by simpa using hc26
      refine wp_seq_k fun K27 hK27 => ?_
      refine nd_start (l := [0, 1]) rfl ?_
      refine nd_batch tabOk tabZ_ok [(0, {}), (1, {})] [3, 0, 1, 6, 4, 5] (T' := [(3, .pointer (some ⟨b2, 0, none⟩)), (0, .pointer (some ⟨kb, 0, none⟩)), (1, .agg #[.int .u16 r.idx, .int .u32 r.gen]), (6, .int .u8 (typeOfP E r)), (4, .slice none 0 0), (5, .int .u64 0)]) (φ := True) (rest := []) h25 (by kernel_rfl) rfl trivial fun a28 h29 => ?_
      clear h25
      refine nd_done ?_
      refine hK27 _ _ ?_
      clear hK27
      refine wp_ret ?_
      have hty : ¬ (typeOfP E r = 4 ∨ typeOfP E r = 5) := by omega
      try simp only [Exit.then, Exit.inBlock]
      try rw [if_pos trivial]
      exact s_ret tabOk tabZ_ok h29 [(.tmp 4, {}), (.tmp 5, {})] (vs := [.slice none 0 0, .int .u64 0]) (φ := True) rfl (by kernel_rfl) trivial ⟨none, 0, [], by unfold waitersP; rw [if_neg hty]; rfl, by unfold waitersP; rw [if_neg hty]; exact rl_nil _ _ _ _, h29.frame, fun _ hq => by cases hq⟩
    ·
      have hc26f : (typeOfP E r) = 5 := by simpa using hc26
      have hty : typeOfP E r = 4 ∨ typeOfP E r = 5 := by omega
      have hrl : r.idx < 256 := hty.elim (fun e => typeOf_lt9 h256 hr.1 (by decide) (by decide) e) (fun e => typeOf_lt9 h256 hr.1 (by decide) (by decide) e)
      refine wp_skip ?_
      refine hK10 _ _ ?_
      clear hK10
      refine wp_seq_k fun K30 hK30 => ?_
      refine dr_start (KB := [kb, bo, b2]) (Bi := [[0, 1, 2], [0, 1, 2], [0, 1, 2], [0, 1, 2], [0, 1, 2], [0, 1, 2], [0, 1, 2], [0, 2], [0, 1, 2], [0, 1, 2], [0, 1, 2], [0, 1, 2], [0, 1, 2], [0, 1, 2], [0, 1, 2], [0, 1, 2], [0, 1, 2]]) mixed h25 fun w31 h32 => ?_
      clear h25
      refine dr_batch tabOk tabZ_ok (by repeat (first | with_reducible exact PF.body | with_reducible apply PF.inB | with_reducible apply PF.next)) [(0, {}), (1, {}), (2, {}), (3, {k := 2, p := 2}), (4, {}), (5, {}), (6, {}), (8, {}), (9, {}), (10, {k := 2, p := 2}), (11, {}), (12, {}), (13, {}), (14, {k := 0, m := 1, vs := [.int .u64 (S.word r.idx.toNat)], p := 0})] [3, 0, 1, 4, 5, 6, 19, 25, 33] (T' := [(3, .pointer (some ⟨b2, 0, none⟩)), (0, .pointer (some ⟨kb, 0, none⟩)), (1, .agg #[.int .u16 r.idx, .int .u32 r.gen]), (4, .slice none 0 0), (5, .int .u64 0), (6, .int .u8 (typeOfP E r)), (19, .pointer (some ⟨kb, 0, none⟩)), (25, .pointer (some ⟨kb, 5378 + (r.idx.toNat * 3), none⟩)), (33, .int .u64 (S.word r.idx.toNat))]) (φ := (b2 = b2 ∧ Nat.ble (0 + 1) 2 = true) ∧ (0 ≤ r.idx ∧ r.idx < 256) ∧ (b2 = b2 ∧ Nat.ble (0 + 1) 2 = true) ∧ (0 ≤ r.idx ∧ r.idx < 256) ∧ (kb = kb ∧ cellsAre (kC bo bc S) (6146 + (r.idx.toNat * 1)) [.int .u64 (S.word r.idx.toNat)]) ∧ True) (fuel := 3) h32 (by kernel_rfl) rfl (by kernel_rfl) (by kernel_rfl) ⟨trivial, trivial, trivial, rfl, trivial, trivial, trivial, trivial, trivial, rfl, trivial, trivial, trivial, rfl, trivial⟩ ⟨⟨rfl, rfl⟩, ⟨by omega, by omega⟩, ⟨rfl, rfl⟩, ⟨by omega, by omega⟩, ⟨rfl, (k_word (i := r.idx.toNat) (k := 0) (by omega) (by omega) ⟨rfl, trivial⟩)⟩, trivial⟩ fun a34 h35 => ?_
      clear h32
      refine wpAnyK_one (i := 7) (fuel := 2) (by kernel_rfl) ?_
      have h36a := h35.rowNil 39 2
      have h36 : St ⟨34, [], w, Rws [rl rfC 39 2 ([] : List Rf) none 0 ([])], Ff [rl rfC 39 2 ([] : List Rf) none 0 ([])]⟩ [(3, .pointer (some ⟨b2, 0, none⟩)), (0, .pointer (some ⟨kb, 0, none⟩)), (1, .agg #[.int .u16 r.idx, .int .u32 r.gen]), (4, .slice none 0 0), (5, .int .u64 0), (6, .int .u8 (typeOfP E r)), (19, .pointer (some ⟨kb, 0, none⟩)), (25, .pointer (some ⟨kb, 5378 + (r.idx.toNat * 3), none⟩)), (33, .int .u64 (S.word r.idx.toNat))] [(kb, ⟨kC bo bc S, 90, true⟩), (bo, ⟨stC E, 131, true⟩), (b2, ⟨[.int .u16 r.idx, .int .u32 r.gen], 39, false⟩)] _ _ := h36a
      clear h35 h36a
      refine op_call h36 rfl rfl rfl (callOk Tryd.func63 (by decide) rfl) (args := [.pointer (some ⟨kb, 0, none⟩), .pointer (some ⟨kb, 5378 + (r.idx.toNat * 3), none⟩)]) rfl (by have hl := list_ok kb bo bc S rS E (.w r.idx.toNat) (show _ < 256 by omega) (Q (.w r.idx.toNat)) (hQ.lx.ch (show _ < 256 by omega)) _ (h36.kn (k := 0) (blk := ⟨kC bo bc S, 90, true⟩) rfl) (h36.kn (k := 1) (blk := ⟨stC E, 131, true⟩) rfl) hne; exact hl) ?_
      rintro _ w43 ⟨o37, c38, F39, rfl, hr40, hf41, hF42⟩
      refine ⟨_, rfl, ?_⟩
      have hF42w : ∀ b ∈ F39, w.heap.size ≤ b := fun b hb => Nat.le_trans h36.frame.size (hF42 b hb)
      have h44 := (h36.rowSet (j := 0) (r' := rl rfC 39 2 (refsP E (Q (.w r.idx.toNat))) o37 c38 F39) (R' := [rl rfC 39 2 (refsP E (Q (.w r.idx.toNat))) o37 c38 F39]) rfl hr40 hf41 (fun b hb => .inr (hF42 b hb)) (fun _ hq => by cases hq) (kcons (fun _ hq => by cases hq) (kcons (fun _ hq => by cases hq) (kcons (fun _ hq => by cases hq) knil))) rfl).put (d := some 26) (v := .slice o37 ((refsP E (Q (.w r.idx.toNat))).length) c38) (T' := [(26, .slice o37 ((refsP E (Q (.w r.idx.toNat))).length) c38), (3, .pointer (some ⟨b2, 0, none⟩)), (0, .pointer (some ⟨kb, 0, none⟩)), (1, .agg #[.int .u16 r.idx, .int .u32 r.gen]), (4, .slice none 0 0), (5, .int .u64 0), (6, .int .u8 (typeOfP E r)), (19, .pointer (some ⟨kb, 0, none⟩)), (25, .pointer (some ⟨kb, 5378 + (r.idx.toNat * 3), none⟩)), (33, .int .u64 (S.word r.idx.toNat))]) rfl
      have hkh44 := h36.known
      refine ⟨(keepOf hkh44 h44.known (kcons (keepAt (q := 0) (q' := 0) rfl rfl) (kcons (keepAt (q := 2) (q' := 2) rfl rfl) knil))), ?_⟩
      clear h36
      refine dr_batch tabOk tabZ_ok (by repeat (first | with_reducible exact PF.body | with_reducible apply PF.inB | with_reducible apply PF.next)) [(15, {}), (16, {})] [3, 0, 1, 6, 4, 5] (T' := [(3, .pointer (some ⟨b2, 0, none⟩)), (0, .pointer (some ⟨kb, 0, none⟩)), (1, .agg #[.int .u16 r.idx, .int .u32 r.gen]), (6, .int .u8 (typeOfP E r)), (4, .slice o37 ((refsP E (Q (.w r.idx.toNat))).length) c38), (5, .int .u64 (S.word r.idx.toNat))]) (φ := True) (fuel := 0) h44 (by kernel_rfl) rfl (by kernel_rfl) (by kernel_rfl) ⟨trivial, trivial, trivial⟩ trivial fun a45 h46 => ?_
      clear h44
      refine wpAnyK_done (by kernel_rfl) ?_ _
      refine hK30 _ _ ?_
      clear hK30
      refine wp_ret ?_
      try simp only [Exit.then, Exit.inBlock]
      try rw [if_pos trivial]
      exact s_ret tabOk tabZ_ok h46 [(.tmp 4, {}), (.tmp 5, {})] (vs := [.slice o37 ((refsP E (Q (.w r.idx.toNat))).length) c38, .int .u64 (S.word r.idx.toNat)]) (φ := True) rfl (by kernel_rfl) trivial ⟨o37, c38, F39, by unfold waitersP; rw [if_pos hty]; rfl, by unfold waitersP; rw [if_pos hty]; exact h46.inv.get (j := 0) rfl, h46.frame, hF42w⟩
  ·
    have hb23f : (typeOfP E r) = 4 := by simpa using hb23
    have hty : typeOfP E r = 4 ∨ typeOfP E r = 5 := by omega
    have hrl : r.idx < 256 := hty.elim (fun e => typeOf_lt9 h256 hr.1 (by decide) (by decide) e) (fun e => typeOf_lt9 h256 hr.1 (by decide) (by decide) e)
    refine nd_start (l := [0, 1, 2, 3, 4, 5]) rfl ?_
    refine nd_batch tabOk tabZ_ok [(0, {}), (1, {f := 1}), (2, {}), (3, {}), (4, {}), (5, {})] [3, 0, 1, 4, 5, 6, 18] (T' := [(3, .pointer (some ⟨b2, 0, none⟩)), (0, .pointer (some ⟨kb, 0, none⟩)), (1, .agg #[.int .u16 r.idx, .int .u32 r.gen]), (4, .slice none 0 0), (5, .int .u64 0), (6, .int .u8 (typeOfP E r)), (18, .bool false)]) (φ := (((typeOfP E r) != 4)) = false ∧ True) (rest := []) h21 (by kernel_rfl) rfl ⟨hb23, trivial⟩ fun a47 h48 => ?_
    clear h21
    refine nd_done ?_
    refine hK22 _ _ ?_
    clear hK22
    refine c_false h48 rfl ?_
    refine wp_skip ?_
    refine hK10 _ _ ?_
    clear hK10
    refine wp_seq_k fun K49 hK49 => ?_
    refine dr_start (KB := [kb, bo, b2]) (Bi := [[0, 1, 2], [0, 1, 2], [0, 1, 2], [0, 1, 2], [0, 1, 2], [0, 1, 2], [0, 1, 2], [0, 2], [0, 1, 2], [0, 1, 2], [0, 1, 2], [0, 1, 2], [0, 1, 2], [0, 1, 2], [0, 1, 2], [0, 1, 2], [0, 1, 2]]) mixed h48 fun w50 h51 => ?_
    clear h48
    refine dr_batch tabOk tabZ_ok (by repeat (first | with_reducible exact PF.body | with_reducible apply PF.inB | with_reducible apply PF.next)) [(0, {}), (1, {}), (2, {}), (3, {k := 2, p := 2}), (4, {}), (5, {}), (6, {}), (8, {}), (9, {}), (10, {k := 2, p := 2}), (11, {}), (12, {}), (13, {}), (14, {k := 0, m := 1, vs := [.int .u64 (S.word r.idx.toNat)], p := 0})] [3, 0, 1, 4, 5, 6, 19, 25, 33] (T' := [(3, .pointer (some ⟨b2, 0, none⟩)), (0, .pointer (some ⟨kb, 0, none⟩)), (1, .agg #[.int .u16 r.idx, .int .u32 r.gen]), (4, .slice none 0 0), (5, .int .u64 0), (6, .int .u8 (typeOfP E r)), (19, .pointer (some ⟨kb, 0, none⟩)), (25, .pointer (some ⟨kb, 5378 + (r.idx.toNat * 3), none⟩)), (33, .int .u64 (S.word r.idx.toNat))]) (φ := (b2 = b2 ∧ Nat.ble (0 + 1) 2 = true) ∧ (0 ≤ r.idx ∧ r.idx < 256) ∧ (b2 = b2 ∧ Nat.ble (0 + 1) 2 = true) ∧ (0 ≤ r.idx ∧ r.idx < 256) ∧ (kb = kb ∧ cellsAre (kC bo bc S) (6146 + (r.idx.toNat * 1)) [.int .u64 (S.word r.idx.toNat)]) ∧ True) (fuel := 3) h51 (by kernel_rfl) rfl (by kernel_rfl) (by kernel_rfl) ⟨trivial, trivial, trivial, rfl, trivial, trivial, trivial, trivial, trivial, rfl, trivial, trivial, trivial, rfl, trivial⟩ ⟨⟨rfl, rfl⟩, ⟨by omega, by omega⟩, ⟨rfl, rfl⟩, ⟨by omega, by omega⟩, ⟨rfl, (k_word (i := r.idx.toNat) (k := 0) (by omega) (by omega) ⟨rfl, trivial⟩)⟩, trivial⟩ fun a53 h54 => ?_
    clear h51
    refine wpAnyK_one (i := 7) (fuel := 2) (by kernel_rfl) ?_
    have h55a := h54.rowNil 39 2
    have h55 : St ⟨34, [], w, Rws [rl rfC 39 2 ([] : List Rf) none 0 ([])], Ff [rl rfC 39 2 ([] : List Rf) none 0 ([])]⟩ [(3, .pointer (some ⟨b2, 0, none⟩)), (0, .pointer (some ⟨kb, 0, none⟩)), (1, .agg #[.int .u16 r.idx, .int .u32 r.gen]), (4, .slice none 0 0), (5, .int .u64 0), (6, .int .u8 (typeOfP E r)), (19, .pointer (some ⟨kb, 0, none⟩)), (25, .pointer (some ⟨kb, 5378 + (r.idx.toNat * 3), none⟩)), (33, .int .u64 (S.word r.idx.toNat))] [(kb, ⟨kC bo bc S, 90, true⟩), (bo, ⟨stC E, 131, true⟩), (b2, ⟨[.int .u16 r.idx, .int .u32 r.gen], 39, false⟩)] _ _ := h55a
    clear h54 h55a
    refine op_call h55 rfl rfl rfl (callOk Tryd.func63 (by decide) rfl) (args := [.pointer (some ⟨kb, 0, none⟩), .pointer (some ⟨kb, 5378 + (r.idx.toNat * 3), none⟩)]) rfl (by have hl := list_ok kb bo bc S rS E (.w r.idx.toNat) (show _ < 256 by omega) (Q (.w r.idx.toNat)) (hQ.lx.ch (show _ < 256 by omega)) _ (h55.kn (k := 0) (blk := ⟨kC bo bc S, 90, true⟩) rfl) (h55.kn (k := 1) (blk := ⟨stC E, 131, true⟩) rfl) hne; exact hl) ?_
    rintro _ w62 ⟨o56, c57, F58, rfl, hr59, hf60, hF61⟩
    refine ⟨_, rfl, ?_⟩
    have hF61w : ∀ b ∈ F58, w.heap.size ≤ b := fun b hb => Nat.le_trans h55.frame.size (hF61 b hb)
    have h63 := (h55.rowSet (j := 0) (r' := rl rfC 39 2 (refsP E (Q (.w r.idx.toNat))) o56 c57 F58) (R' := [rl rfC 39 2 (refsP E (Q (.w r.idx.toNat))) o56 c57 F58]) rfl hr59 hf60 (fun b hb => .inr (hF61 b hb)) (fun _ hq => by cases hq) (kcons (fun _ hq => by cases hq) (kcons (fun _ hq => by cases hq) (kcons (fun _ hq => by cases hq) knil))) rfl).put (d := some 26) (v := .slice o56 ((refsP E (Q (.w r.idx.toNat))).length) c57) (T' := [(26, .slice o56 ((refsP E (Q (.w r.idx.toNat))).length) c57), (3, .pointer (some ⟨b2, 0, none⟩)), (0, .pointer (some ⟨kb, 0, none⟩)), (1, .agg #[.int .u16 r.idx, .int .u32 r.gen]), (4, .slice none 0 0), (5, .int .u64 0), (6, .int .u8 (typeOfP E r)), (19, .pointer (some ⟨kb, 0, none⟩)), (25, .pointer (some ⟨kb, 5378 + (r.idx.toNat * 3), none⟩)), (33, .int .u64 (S.word r.idx.toNat))]) rfl
    have hkh63 := h55.known
    refine ⟨(keepOf hkh63 h63.known (kcons (keepAt (q := 0) (q' := 0) rfl rfl) (kcons (keepAt (q := 2) (q' := 2) rfl rfl) knil))), ?_⟩
    clear h55
    refine dr_batch tabOk tabZ_ok (by repeat (first | with_reducible exact PF.body | with_reducible apply PF.inB | with_reducible apply PF.next)) [(15, {}), (16, {})] [3, 0, 1, 6, 4, 5] (T' := [(3, .pointer (some ⟨b2, 0, none⟩)), (0, .pointer (some ⟨kb, 0, none⟩)), (1, .agg #[.int .u16 r.idx, .int .u32 r.gen]), (6, .int .u8 (typeOfP E r)), (4, .slice o56 ((refsP E (Q (.w r.idx.toNat))).length) c57), (5, .int .u64 (S.word r.idx.toNat))]) (φ := True) (fuel := 0) h63 (by kernel_rfl) rfl (by kernel_rfl) (by kernel_rfl) ⟨trivial, trivial, trivial⟩ trivial fun a64 h65 => ?_
    clear h63
    refine wpAnyK_done (by kernel_rfl) ?_ _
    refine hK49 _ _ ?_
    clear hK49
    refine wp_ret ?_
    try simp only [Exit.then, Exit.inBlock]
    try rw [if_pos trivial]
    exact s_ret tabOk tabZ_ok h65 [(.tmp 4, {}), (.tmp 5, {})] (vs := [.slice o56 ((refsP E (Q (.w r.idx.toNat))).length) c57, .int .u64 (S.word r.idx.toNat)]) (φ := True) rfl (by kernel_rfl) trivial ⟨o56, c57, F58, by unfold waitersP; rw [if_pos hty]; rfl, by unfold waitersP; rw [if_pos hty]; exact h65.inv.get (j := 0) rfl, h65.frame, hF61w⟩

end Go.Proofs.Qxb6500918aDoor
