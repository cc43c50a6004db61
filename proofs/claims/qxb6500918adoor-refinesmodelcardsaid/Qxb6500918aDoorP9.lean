/-
  signalled. (Made by program: a symbolic walk that prints its steps.)
-/
import Derived.Test.Qxb6500918aDoorP2
import Derived.Test.Qxb6500918aDoorP5
import Derived.Test.Qxb6500918aDoorP8
namespace Go.Proofs.Qxb6500918aDoor
open Go.Sx Go.Kn
set_option maxRecDepth 100000
set_option maxHeartbeats 4000000
set_option linter.unusedVariables false
set_option linter.unusedSimpArgs false

theorem heap_fr {w w' : World} {b : Nat} {o : Obj} (h : w.heap[b]? = some o) (hf : Fr [] w w') : w'.heap[b]? = some o := by
  rw [hf.block b (lt_of_heap h) (by simp)]; exact h

theorem waitersE (kb bo bc : Nat) (S : KP) (rS : RI S) {E : Nat → Ent} (h256 : (E 256).ty = 1) {Q : QL → List Nat} (hQ : LIQ S Q) (r : Rf) (hr : 0 ≤ r.idx ∧ r.idx ≤ 65535) (w : World) (hb : w.heap[kb]? = some (Blk.obj ⟨kC bo bc S, 90, false⟩)) (hs : w.heap[bo]? = some (Blk.obj ⟨stC E, 131, false⟩)) (hne : kb ≠ bo) {rs : List Rf} {wd : Int} (e : waitersP S Q E r = (rs, wd)) :
    Calls Tryd.prog 20 #[.pointer (some ⟨kb, 0, none⟩), .agg #[.int .u16 r.idx, .int .u32 r.gen]] w fun e w' => ∃ o' c' F', e = .returned (.tuple #[.slice o' rs.length c', .int .u64 wd]) ∧ (rl rfC 39 2 rs o' c' F').at w' ∧ Fr [] w w' ∧ ∀ b ∈ F', w.heap.size ≤ b := by
  have h := waiters_ok kb bo bc S rS E h256 Q hQ r hr w hb hs hne
  rw [e] at h; exact h

theorem refsIn_base {w : World} {b c : Nat} {x : Rf} {rs : List Rf} {F : List Nat} (h : (rl rfC 39 2 (x :: rs) (some ⟨b, 0, none⟩) c F).at w) : RefsIn w (sliceBase (some ⟨b, 0, none⟩) c 1 2) rs := by
  by_cases e : rs = []
  · exact .inl e
  · have hc := rl_cap h
    have hl := List.length_pos_iff.2 e
    have : sliceBase (some ⟨b, 0, none⟩) c 1 2 = some ⟨b, 2, none⟩ := by
      unfold sliceBase; rw [if_neg (by simp at hc; omega)]; rfl
    rw [this]; exact refsIn_tail h

theorem rows_apart {w : World} {b c : Nat} {xs ys : List Rf} {F1 : List Nat} {o : Option Addr} {c2 : Nat} {F2 : List Nat} (h : Rws [rl rfC 39 2 xs (some ⟨b, 0, none⟩) c F1, rl rfC 39 2 ys o c2 F2] w) {b' k' : Nat} (ho : o = some ⟨b', k', none⟩) : b' ≠ b := by
  have h1 := h.get (j := 0) (r := rl rfC 39 2 xs (some ⟨b, 0, none⟩) c F1) rfl
  have h2 := h.get (j := 1) (r := rl rfC 39 2 ys o c2 F2) rfl
  have e1 : F1 = [b] := by
    rcases h1.2 with ⟨e, _⟩ | ⟨b2, cs, e, _, _, _, _, e2⟩
    · have e' : (some (⟨b, 0, none⟩ : Addr)) = none := e
      cases e'
    · have e' : (some (⟨b, 0, none⟩ : Addr)) = some ⟨b2, 0, none⟩ := e
      cases e'; exact e2
  have e2 : F2 = [b'] := by
    rcases h2.2 with ⟨e, _⟩ | ⟨b2, cs, e, _, _, _, _, e2⟩
    · have e' : o = none := e
      rw [e'] at ho; cases ho
    · have e' : o = some ⟨b2, 0, none⟩ := e
      rw [e'] at ho; cases ho; exact e2
  have hn := h.1
  subst e1 e2
  simp [Ff, rl] at hn
  exact fun e => hn e.symm

theorem equalTail {w : World} {b c : Nat} {x : Rf} {rs : List Rf} {F : List Nat} {o : Option Addr} {c2 : Nat} {F2 : List Nat} (hrl : rs.length ≤ 1000) (h : Rws [rl rfC 39 2 (x :: rs) (some ⟨b, 0, none⟩) c F, rl rfC 39 2 rs o c2 F2] w) :
    Calls Tryd.prog 23 #[.slice o rs.length c2, .slice (sliceBase (some ⟨b, 0, none⟩) c 1 2) ((x :: rs).length - 1) (c - 1)] w fun e w' => e = .returned (.bool true) ∧ Fr [] w w' := by
  refine equalR_ok rs hrl o _ c2 (c - 1) w (refsIn_row (h.get (j := 1) rfl)) (refsIn_base (h.get (j := 0) rfl)) (fun hn b1 k1 b2 k2 h1 h2 => ?_)
  have h3 := rows_apart h h1
  unfold sliceBase at h2
  split at h2
  · cases h2; exact h3
  · cases h2; exact h3

theorem signalled_0 (kb bo bc : Nat) (S : KP) (rS : RI S) (E : Nat → Ent) (h256 : (E 256).ty = 1) (Q : QL → List Nat) (hQ : LIQ S Q) (kb2 bo2 bc2 : Nat) (S2 : KP) (rS2 : RI S2) (E2 : Nat → Ent) (h256b : (E2 256).ty = 1) (Q2 : QL → List Nat) (hQ2 : LIQ S2 Q2) (r : Rf) (hr : 0 ≤ r.idx ∧ r.idx ≤ 65535) (badge : Int) (wd : Int) (e1 : waitersP S Q E r = ([], wd)) (e2 : waitersP S2 Q2 E2 r = ([], bitI .or .u64 wd badge)) (w : World) (hb : w.heap[kb]? = some (Blk.obj ⟨kC bo bc S, 90, false⟩)) (hs : w.heap[bo]? = some (Blk.obj ⟨stC E, 131, false⟩)) (hne : kb ≠ bo) (hb2 : w.heap[kb2]? = some (Blk.obj ⟨kC bo2 bc2 S2, 90, false⟩)) (hs2 : w.heap[bo2]? = some (Blk.obj ⟨stC E2, 131, false⟩)) (hne2 : kb2 ≠ bo2) :
    Calls Tryd.prog 32 #[.pointer (some ⟨kb, 0, none⟩), .pointer (some ⟨kb2, 0, none⟩), .agg #[.int .u16 r.idx, .int .u32 r.gen], .int .u64 badge] w fun e w' => e = .returned (.bool true) ∧ Fr [] w w' := by
  refine enter (n := 72) (K := []) (A := Rws []) (F := Ff []) (T := [(0, .pointer (some ⟨kb, 0, none⟩)), (1, .pointer (some ⟨kb2, 0, none⟩)), (2, .agg #[.int .u16 r.idx, .int .u32 r.gen]), (3, .int .u64 badge)]) (L := []) (args := [.pointer (some ⟨kb, 0, none⟩), .pointer (some ⟨kb2, 0, none⟩), .agg #[.int .u16 r.idx, .int .u32 r.gen], .int .u64 badge]) Tryd.func32 rfl rfl rfl rfl knil (by simp) knil rws0 Rws.stable rws0.low knil ?_
  intro a h
  refine wp_seq_k fun K1 hK1 => ?_
  refine nd_start (l := [0, 1]) rfl ?_
  refine nd_op ?_
  refine op_new tabOk (cells := [.int .u16 r.idx, .int .u32 r.gen]) (ty := 39) (ln := none) (L1 := fun b2 => [(b2, ⟨[.int .u16 r.idx, .int .u32 r.gen], 39, false⟩)]) h rfl rfl rfl rfl (by kernel_rfl) (fun _ => rfl) fun b2 w3 a4 h5 hf6 hn7 => ?_
  clear h
  refine nd_batch tabOk tabZ_ok [(1, {})] [6, 0, 1, 2, 3, 8] (T' := [(6, .pointer (some ⟨b2, 0, none⟩)), (0, .pointer (some ⟨kb, 0, none⟩)), (1, .pointer (some ⟨kb2, 0, none⟩)), (2, .agg #[.int .u16 r.idx, .int .u32 r.gen]), (3, .int .u64 badge), (8, .bool false)]) (φ := True) (rest := []) h5 (by kernel_rfl) rfl trivial fun a8 h9 => ?_
  clear h5
  refine nd_done ?_
  refine hK1 _ _ ?_
  clear hK1
  refine wp_seq_k fun K10 hK10 => ?_
  refine nd_start (l := [0, 1, 2, 3, 4, 5, 6, 7]) rfl ?_
  refine nd_batch tabOk tabZ_ok [(0, {}), (1, {k := 0})] [6, 0, 1, 2, 3, 8, 16, 17] (T' := [(6, .pointer (some ⟨b2, 0, none⟩)), (0, .pointer (some ⟨kb, 0, none⟩)), (1, .pointer (some ⟨kb2, 0, none⟩)), (2, .agg #[.int .u16 r.idx, .int .u32 r.gen]), (3, .int .u64 badge), (8, .bool false), (16, .pointer (some ⟨kb, 0, none⟩)), (17, .agg #[.int .u16 r.idx, .int .u32 r.gen])]) (φ := (b2 = b2 ∧ Nat.ble (0 + 2) 2 = true) ∧ True) (rest := [2, 3, 4, 5, 6, 7]) h9 (by kernel_rfl) rfl ⟨⟨rfl, rfl⟩, trivial⟩ fun a11 h12 => ?_
  clear h9
  refine nd_op ?_
  have h13a := h12.rowNil 39 2
  have h13 : St ⟨72, [], w, Rws [rl rfC 39 2 ([] : List Rf) none 0 ([])], Ff [rl rfC 39 2 ([] : List Rf) none 0 ([])]⟩ [(6, .pointer (some ⟨b2, 0, none⟩)), (0, .pointer (some ⟨kb, 0, none⟩)), (1, .pointer (some ⟨kb2, 0, none⟩)), (2, .agg #[.int .u16 r.idx, .int .u32 r.gen]), (3, .int .u64 badge), (8, .bool false), (16, .pointer (some ⟨kb, 0, none⟩)), (17, .agg #[.int .u16 r.idx, .int .u32 r.gen])] [(b2, ⟨[.int .u16 r.idx, .int .u32 r.gen], 39, false⟩)] _ _ := h13a
  clear h12 h13a
  refine op_call h13 rfl rfl rfl (callOk Tryd.func20 (by decide) rfl) (args := [.pointer (some ⟨kb, 0, none⟩), .agg #[.int .u16 r.idx, .int .u32 r.gen]]) rfl (waitersE kb bo bc S rS h256 hQ r hr _ (heap_fr hb h13.frame) (heap_fr hs h13.frame) hne e1) ?_
  rintro _ w20 ⟨o14, c15, F16, rfl, hr17, hf18, hF19⟩
  refine ⟨_, rfl, ?_⟩
  have hF19w : ∀ b ∈ F16, w.heap.size ≤ b := fun b hb => Nat.le_trans h13.frame.size (hF19 b hb)
  have h21 := (h13.rowSet (j := 0) (r' := rl rfC 39 2 ([] : List Rf) o14 c15 F16) (R' := [rl rfC 39 2 ([] : List Rf) o14 c15 F16]) rfl hr17 hf18 (fun b hb => .inr (hF19 b hb)) (fun _ hq => by cases hq) (kcons (by intro hq; cases hq) knil) rfl).put (d := some 18) (v := .tuple #[.slice o14 0 c15, .int .u64 wd]) (T' := [(18, .tuple #[.slice o14 0 c15, .int .u64 wd]), (6, .pointer (some ⟨b2, 0, none⟩)), (0, .pointer (some ⟨kb, 0, none⟩)), (1, .pointer (some ⟨kb2, 0, none⟩)), (2, .agg #[.int .u16 r.idx, .int .u32 r.gen]), (3, .int .u64 badge), (8, .bool false), (16, .pointer (some ⟨kb, 0, none⟩)), (17, .agg #[.int .u16 r.idx, .int .u32 r.gen])]) rfl
  clear h13
  refine nd_batch tabOk tabZ_ok [(3, {}), (4, {}), (5, {}), (6, {}), (7, {})] [6, 0, 1, 2, 3, 8, 9, 10] (T' := [(6, .pointer (some ⟨b2, 0, none⟩)), (0, .pointer (some ⟨kb, 0, none⟩)), (1, .pointer (some ⟨kb2, 0, none⟩)), (2, .agg #[.int .u16 r.idx, .int .u32 r.gen]), (3, .int .u64 badge), (8, .bool false), (9, .slice o14 0 c15), (10, .int .u64 wd)]) (φ := True) (rest := []) h21 (by kernel_rfl) rfl trivial fun a22 h23 => ?_
  clear h21
  refine nd_done ?_
  refine hK10 _ _ ?_
  clear hK10
  refine wp_seq_k fun K24 hK24 => ?_
  refine nd_start (l := [0, 1, 2, 3, 4, 5, 6, 7]) rfl ?_
  refine nd_batch tabOk tabZ_ok [(0, {}), (1, {k := 0})] [6, 0, 1, 2, 3, 8, 9, 10, 22, 23] (T' := [(6, .pointer (some ⟨b2, 0, none⟩)), (0, .pointer (some ⟨kb, 0, none⟩)), (1, .pointer (some ⟨kb2, 0, none⟩)), (2, .agg #[.int .u16 r.idx, .int .u32 r.gen]), (3, .int .u64 badge), (8, .bool false), (9, .slice o14 0 c15), (10, .int .u64 wd), (22, .pointer (some ⟨kb2, 0, none⟩)), (23, .agg #[.int .u16 r.idx, .int .u32 r.gen])]) (φ := (b2 = b2 ∧ Nat.ble (0 + 2) 2 = true) ∧ True) (rest := [2, 3, 4, 5, 6, 7]) h23 (by kernel_rfl) rfl ⟨⟨rfl, rfl⟩, trivial⟩ fun a25 h26 => ?_
  clear h23
  refine nd_op ?_
  have h27a := h26.rowNil 39 2
  have h27 : St ⟨72, [], w, Rws [rl rfC 39 2 ([] : List Rf) o14 c15 F16, rl rfC 39 2 ([] : List Rf) none 0 ([])], Ff [rl rfC 39 2 ([] : List Rf) o14 c15 F16, rl rfC 39 2 ([] : List Rf) none 0 ([])]⟩ [(6, .pointer (some ⟨b2, 0, none⟩)), (0, .pointer (some ⟨kb, 0, none⟩)), (1, .pointer (some ⟨kb2, 0, none⟩)), (2, .agg #[.int .u16 r.idx, .int .u32 r.gen]), (3, .int .u64 badge), (8, .bool false), (9, .slice o14 0 c15), (10, .int .u64 wd), (22, .pointer (some ⟨kb2, 0, none⟩)), (23, .agg #[.int .u16 r.idx, .int .u32 r.gen])] [(b2, ⟨[.int .u16 r.idx, .int .u32 r.gen], 39, false⟩)] _ _ := h27a
  clear h26 h27a
  refine op_call h27 rfl rfl rfl (callOk Tryd.func20 (by decide) rfl) (args := [.pointer (some ⟨kb2, 0, none⟩), .agg #[.int .u16 r.idx, .int .u32 r.gen]]) rfl (waitersE kb2 bo2 bc2 S2 rS2 h256b hQ2 r hr _ (heap_fr hb2 h27.frame) (heap_fr hs2 h27.frame) hne2 e2) ?_
  rintro _ w34 ⟨o28, c29, F30, rfl, hr31, hf32, hF33⟩
  refine ⟨_, rfl, ?_⟩
  have hF33w : ∀ b ∈ F30, w.heap.size ≤ b := fun b hb => Nat.le_trans h27.frame.size (hF33 b hb)
  have h35 := (h27.rowSet (j := 1) (r' := rl rfC 39 2 ([] : List Rf) o28 c29 F30) (R' := [rl rfC 39 2 ([] : List Rf) o14 c15 F16, rl rfC 39 2 ([] : List Rf) o28 c29 F30]) rfl hr31 hf32 (fun b hb => .inr (hF33 b hb)) (fun _ hq => by cases hq) (kcons (by intro hq; cases hq) knil) rfl).put (d := some 24) (v := .tuple #[.slice o28 0 c29, .int .u64 (bitI .or .u64 wd badge)]) (T' := [(24, .tuple #[.slice o28 0 c29, .int .u64 (bitI .or .u64 wd badge)]), (6, .pointer (some ⟨b2, 0, none⟩)), (0, .pointer (some ⟨kb, 0, none⟩)), (1, .pointer (some ⟨kb2, 0, none⟩)), (2, .agg #[.int .u16 r.idx, .int .u32 r.gen]), (3, .int .u64 badge), (8, .bool false), (9, .slice o14 0 c15), (10, .int .u64 wd), (22, .pointer (some ⟨kb2, 0, none⟩)), (23, .agg #[.int .u16 r.idx, .int .u32 r.gen])]) rfl
  clear h27
  refine nd_batch tabOk tabZ_ok [(3, {}), (4, {}), (5, {}), (6, {}), (7, {})] [6, 0, 1, 2, 3, 8, 9, 10, 11, 12] (T' := [(6, .pointer (some ⟨b2, 0, none⟩)), (0, .pointer (some ⟨kb, 0, none⟩)), (1, .pointer (some ⟨kb2, 0, none⟩)), (2, .agg #[.int .u16 r.idx, .int .u32 r.gen]), (3, .int .u64 badge), (8, .bool false), (9, .slice o14 0 c15), (10, .int .u64 wd), (11, .slice o28 0 c29), (12, .int .u64 (bitI .or .u64 wd badge))]) (φ := True) (rest := []) h35 (by kernel_rfl) rfl trivial fun a36 h37 => ?_
  clear h35
  refine nd_done ?_
  refine hK24 _ _ ?_
  clear hK24
  refine wp_seq_k fun K38 hK38 => ?_
  refine wp_seq_k fun K39 hK39 => ?_
  refine nd_start (l := [0, 1, 2]) rfl ?_
  refine nd_batch tabOk tabZ_ok [(0, {}), (1, {}), (2, {})] [6, 0, 1, 2, 3, 8, 9, 10, 11, 12, 29] (T' := [(6, .pointer (some ⟨b2, 0, none⟩)), (0, .pointer (some ⟨kb, 0, none⟩)), (1, .pointer (some ⟨kb2, 0, none⟩)), (2, .agg #[.int .u16 r.idx, .int .u32 r.gen]), (3, .int .u64 badge), (8, .bool false), (9, .slice o14 0 c15), (10, .int .u64 wd), (11, .slice o28 0 c29), (12, .int .u64 (bitI .or .u64 wd badge)), (29, .bool true)]) (φ := True) (rest := []) h37 (by kernel_rfl) rfl trivial fun a40 h41 => ?_
  clear h37
  refine nd_done ?_
  refine hK39 _ _ ?_
  clear hK39
  refine c_true h41 rfl ?_
  refine wp_seq_k fun K42 hK42 => ?_
  refine nd_start (l := [0, 1, 2, 3, 4, 5, 6, 7, 8, 9, 10]) rfl ?_
  refine nd_batch tabOk tabZ_ok [(0, {}), (1, {}), (2, {}), (3, {}), (4, {}), (5, {}), (6, {}), (7, {}), (8, {f := 2}), (9, {}), (10, {})] [6, 0, 1, 2, 3, 9, 10, 11, 12, 8] (T' := [(6, .pointer (some ⟨b2, 0, none⟩)), (0, .pointer (some ⟨kb, 0, none⟩)), (1, .pointer (some ⟨kb2, 0, none⟩)), (2, .agg #[.int .u16 r.idx, .int .u32 r.gen]), (3, .int .u64 badge), (9, .slice o14 0 c15), (10, .int .u64 wd), (11, .slice o28 0 c29), (12, .int .u64 (bitI .or .u64 wd badge)), (8, .bool true)]) (φ := (((bitI .or .u64 wd badge) == bitI .or .u64 wd badge)) = true ∧ True) (rest := []) h41 (by kernel_rfl) rfl ⟨(by simp), trivial⟩ fun a43 h44 => ?_
  clear h41
  refine nd_done ?_
  refine hK42 _ _ ?_
  clear hK42
  refine wp_ret ?_
  try simp only [Exit.then, Exit.inBlock]
  try rw [if_pos trivial]
  exact s_ret tabOk tabZ_ok h44 [(.tmp 8, {})] (vs := [.bool true]) (φ := True) rfl (by kernel_rfl) trivial ⟨rfl, h44.frame⟩

theorem signalled_1 (kb bo bc : Nat) (S : KP) (rS : RI S) (E : Nat → Ent) (h256 : (E 256).ty = 1) (Q : QL → List Nat) (hQ : LIQ S Q) (kb2 bo2 bc2 : Nat) (S2 : KP) (rS2 : RI S2) (E2 : Nat → Ent) (h256b : (E2 256).ty = 1) (Q2 : QL → List Nat) (hQ2 : LIQ S2 Q2) (r : Rf) (hr : 0 ≤ r.idx ∧ r.idx ≤ 65535) (badge : Int) (wd : Int) (x : Rf) (hx : 0 ≤ x.idx ∧ x.idx ≤ 65535) (rs : List Rf) (hrl : rs.length ≤ 1000) (e1 : waitersP S Q E r = (x :: rs, wd)) (e2 : waitersP S2 Q2 E2 r = (rs, 0)) (tt : Tcb) (ok : Bool) (e3 : threadP S2 E2 x = (tt, ok)) (hbd : tt.badge = badge) (hst : tt.st = 1) (w : World) (hb : w.heap[kb]? = some (Blk.obj ⟨kC bo bc S, 90, false⟩)) (hs : w.heap[bo]? = some (Blk.obj ⟨stC E, 131, false⟩)) (hne : kb ≠ bo) (hb2 : w.heap[kb2]? = some (Blk.obj ⟨kC bo2 bc2 S2, 90, false⟩)) (hs2 : w.heap[bo2]? = some (Blk.obj ⟨stC E2, 131, false⟩)) (hne2 : kb2 ≠ bo2) :
    Calls Tryd.prog 32 #[.pointer (some ⟨kb, 0, none⟩), .pointer (some ⟨kb2, 0, none⟩), .agg #[.int .u16 r.idx, .int .u32 r.gen], .int .u64 badge] w fun e w' => e = .returned (.bool true) ∧ Fr [] w w' := by
  refine enter (n := 72) (K := []) (A := Rws []) (F := Ff []) (T := [(0, .pointer (some ⟨kb, 0, none⟩)), (1, .pointer (some ⟨kb2, 0, none⟩)), (2, .agg #[.int .u16 r.idx, .int .u32 r.gen]), (3, .int .u64 badge)]) (L := []) (args := [.pointer (some ⟨kb, 0, none⟩), .pointer (some ⟨kb2, 0, none⟩), .agg #[.int .u16 r.idx, .int .u32 r.gen], .int .u64 badge]) Tryd.func32 rfl rfl rfl rfl knil (by simp) knil rws0 Rws.stable rws0.low knil ?_
  intro a h
  refine wp_seq_k fun K1 hK1 => ?_
  refine nd_start (l := [0, 1]) rfl ?_
  refine nd_op ?_
  refine op_new tabOk (cells := [.int .u16 r.idx, .int .u32 r.gen]) (ty := 39) (ln := none) (L1 := fun b2 => [(b2, ⟨[.int .u16 r.idx, .int .u32 r.gen], 39, false⟩)]) h rfl rfl rfl rfl (by kernel_rfl) (fun _ => rfl) fun b2 w3 a4 h5 hf6 hn7 => ?_
  clear h
  refine nd_batch tabOk tabZ_ok [(1, {})] [6, 0, 1, 2, 3, 8] (T' := [(6, .pointer (some ⟨b2, 0, none⟩)), (0, .pointer (some ⟨kb, 0, none⟩)), (1, .pointer (some ⟨kb2, 0, none⟩)), (2, .agg #[.int .u16 r.idx, .int .u32 r.gen]), (3, .int .u64 badge), (8, .bool false)]) (φ := True) (rest := []) h5 (by kernel_rfl) rfl trivial fun a8 h9 => ?_
  clear h5
  refine nd_done ?_
  refine hK1 _ _ ?_
  clear hK1
  refine wp_seq_k fun K10 hK10 => ?_
  refine nd_start (l := [0, 1, 2, 3, 4, 5, 6, 7]) rfl ?_
  refine nd_batch tabOk tabZ_ok [(0, {}), (1, {k := 0})] [6, 0, 1, 2, 3, 8, 16, 17] (T' := [(6, .pointer (some ⟨b2, 0, none⟩)), (0, .pointer (some ⟨kb, 0, none⟩)), (1, .pointer (some ⟨kb2, 0, none⟩)), (2, .agg #[.int .u16 r.idx, .int .u32 r.gen]), (3, .int .u64 badge), (8, .bool false), (16, .pointer (some ⟨kb, 0, none⟩)), (17, .agg #[.int .u16 r.idx, .int .u32 r.gen])]) (φ := (b2 = b2 ∧ Nat.ble (0 + 2) 2 = true) ∧ True) (rest := [2, 3, 4, 5, 6, 7]) h9 (by kernel_rfl) rfl ⟨⟨rfl, rfl⟩, trivial⟩ fun a11 h12 => ?_
  clear h9
  refine nd_op ?_
  have h13a := h12.rowNil 39 2
  have h13 : St ⟨72, [], w, Rws [rl rfC 39 2 ([] : List Rf) none 0 ([])], Ff [rl rfC 39 2 ([] : List Rf) none 0 ([])]⟩ [(6, .pointer (some ⟨b2, 0, none⟩)), (0, .pointer (some ⟨kb, 0, none⟩)), (1, .pointer (some ⟨kb2, 0, none⟩)), (2, .agg #[.int .u16 r.idx, .int .u32 r.gen]), (3, .int .u64 badge), (8, .bool false), (16, .pointer (some ⟨kb, 0, none⟩)), (17, .agg #[.int .u16 r.idx, .int .u32 r.gen])] [(b2, ⟨[.int .u16 r.idx, .int .u32 r.gen], 39, false⟩)] _ _ := h13a
  clear h12 h13a
  refine op_call h13 rfl rfl rfl (callOk Tryd.func20 (by decide) rfl) (args := [.pointer (some ⟨kb, 0, none⟩), .agg #[.int .u16 r.idx, .int .u32 r.gen]]) rfl (waitersE kb bo bc S rS h256 hQ r hr _ (heap_fr hb h13.frame) (heap_fr hs h13.frame) hne e1) ?_
  rintro _ w20 ⟨o14, c15, F16, rfl, hr17, hf18, hF19⟩
  refine ⟨_, rfl, ?_⟩
  have hF19w : ∀ b ∈ F16, w.heap.size ≤ b := fun b hb => Nat.le_trans h13.frame.size (hF19 b hb)
  have h21 := (h13.rowSet (j := 0) (r' := rl rfC 39 2 (x :: rs) o14 c15 F16) (R' := [rl rfC 39 2 (x :: rs) o14 c15 F16]) rfl hr17 hf18 (fun b hb => .inr (hF19 b hb)) (fun _ hq => by cases hq) (kcons (by intro hq; cases hq) knil) rfl).put (d := some 18) (v := .tuple #[.slice o14 ((x :: rs).length) c15, .int .u64 wd]) (T' := [(18, .tuple #[.slice o14 ((x :: rs).length) c15, .int .u64 wd]), (6, .pointer (some ⟨b2, 0, none⟩)), (0, .pointer (some ⟨kb, 0, none⟩)), (1, .pointer (some ⟨kb2, 0, none⟩)), (2, .agg #[.int .u16 r.idx, .int .u32 r.gen]), (3, .int .u64 badge), (8, .bool false), (16, .pointer (some ⟨kb, 0, none⟩)), (17, .agg #[.int .u16 r.idx, .int .u32 r.gen])]) rfl
  clear h13
  refine nd_batch tabOk tabZ_ok [(3, {}), (4, {}), (5, {}), (6, {}), (7, {})] [6, 0, 1, 2, 3, 8, 9, 10] (T' := [(6, .pointer (some ⟨b2, 0, none⟩)), (0, .pointer (some ⟨kb, 0, none⟩)), (1, .pointer (some ⟨kb2, 0, none⟩)), (2, .agg #[.int .u16 r.idx, .int .u32 r.gen]), (3, .int .u64 badge), (8, .bool false), (9, .slice o14 ((x :: rs).length) c15), (10, .int .u64 wd)]) (φ := True) (rest := []) h21 (by kernel_rfl) rfl trivial fun a22 h23 => ?_
  clear h21
  refine nd_done ?_
  refine hK10 _ _ ?_
  clear hK10
  refine wp_seq_k fun K24 hK24 => ?_
  refine nd_start (l := [0, 1, 2, 3, 4, 5, 6, 7]) rfl ?_
  refine nd_batch tabOk tabZ_ok [(0, {}), (1, {k := 0})] [6, 0, 1, 2, 3, 8, 9, 10, 22, 23] (T' := [(6, .pointer (some ⟨b2, 0, none⟩)), (0, .pointer (some ⟨kb, 0, none⟩)), (1, .pointer (some ⟨kb2, 0, none⟩)), (2, .agg #[.int .u16 r.idx, .int .u32 r.gen]), (3, .int .u64 badge), (8, .bool false), (9, .slice o14 ((x :: rs).length) c15), (10, .int .u64 wd), (22, .pointer (some ⟨kb2, 0, none⟩)), (23, .agg #[.int .u16 r.idx, .int .u32 r.gen])]) (φ := (b2 = b2 ∧ Nat.ble (0 + 2) 2 = true) ∧ True) (rest := [2, 3, 4, 5, 6, 7]) h23 (by kernel_rfl) rfl ⟨⟨rfl, rfl⟩, trivial⟩ fun a25 h26 => ?_
  clear h23
  refine nd_op ?_
  have h27a := h26.rowNil 39 2
  have h27 : St ⟨72, [], w, Rws [rl rfC 39 2 (x :: rs) o14 c15 F16, rl rfC 39 2 ([] : List Rf) none 0 ([])], Ff [rl rfC 39 2 (x :: rs) o14 c15 F16, rl rfC 39 2 ([] : List Rf) none 0 ([])]⟩ [(6, .pointer (some ⟨b2, 0, none⟩)), (0, .pointer (some ⟨kb, 0, none⟩)), (1, .pointer (some ⟨kb2, 0, none⟩)), (2, .agg #[.int .u16 r.idx, .int .u32 r.gen]), (3, .int .u64 badge), (8, .bool false), (9, .slice o14 ((x :: rs).length) c15), (10, .int .u64 wd), (22, .pointer (some ⟨kb2, 0, none⟩)), (23, .agg #[.int .u16 r.idx, .int .u32 r.gen])] [(b2, ⟨[.int .u16 r.idx, .int .u32 r.gen], 39, false⟩)] _ _ := h27a
  clear h26 h27a
  refine op_call h27 rfl rfl rfl (callOk Tryd.func20 (by decide) rfl) (args := [.pointer (some ⟨kb2, 0, none⟩), .agg #[.int .u16 r.idx, .int .u32 r.gen]]) rfl (waitersE kb2 bo2 bc2 S2 rS2 h256b hQ2 r hr _ (heap_fr hb2 h27.frame) (heap_fr hs2 h27.frame) hne2 e2) ?_
  rintro _ w34 ⟨o28, c29, F30, rfl, hr31, hf32, hF33⟩
  refine ⟨_, rfl, ?_⟩
  have hF33w : ∀ b ∈ F30, w.heap.size ≤ b := fun b hb => Nat.le_trans h27.frame.size (hF33 b hb)
  have h35 := (h27.rowSet (j := 1) (r' := rl rfC 39 2 rs o28 c29 F30) (R' := [rl rfC 39 2 (x :: rs) o14 c15 F16, rl rfC 39 2 rs o28 c29 F30]) rfl hr31 hf32 (fun b hb => .inr (hF33 b hb)) (fun _ hq => by cases hq) (kcons (by intro hq; cases hq) knil) rfl).put (d := some 24) (v := .tuple #[.slice o28 rs.length c29, .int .u64 0]) (T' := [(24, .tuple #[.slice o28 rs.length c29, .int .u64 0]), (6, .pointer (some ⟨b2, 0, none⟩)), (0, .pointer (some ⟨kb, 0, none⟩)), (1, .pointer (some ⟨kb2, 0, none⟩)), (2, .agg #[.int .u16 r.idx, .int .u32 r.gen]), (3, .int .u64 badge), (8, .bool false), (9, .slice o14 ((x :: rs).length) c15), (10, .int .u64 wd), (22, .pointer (some ⟨kb2, 0, none⟩)), (23, .agg #[.int .u16 r.idx, .int .u32 r.gen])]) rfl
  clear h27
  refine nd_batch tabOk tabZ_ok [(3, {}), (4, {}), (5, {}), (6, {}), (7, {})] [6, 0, 1, 2, 3, 8, 9, 10, 11, 12] (T' := [(6, .pointer (some ⟨b2, 0, none⟩)), (0, .pointer (some ⟨kb, 0, none⟩)), (1, .pointer (some ⟨kb2, 0, none⟩)), (2, .agg #[.int .u16 r.idx, .int .u32 r.gen]), (3, .int .u64 badge), (8, .bool false), (9, .slice o14 ((x :: rs).length) c15), (10, .int .u64 wd), (11, .slice o28 rs.length c29), (12, .int .u64 0)]) (φ := True) (rest := []) h35 (by kernel_rfl) rfl trivial fun a36 h37 => ?_
  clear h35
  refine nd_done ?_
  refine hK24 _ _ ?_
  clear hK24
  refine wp_seq_k fun K38 hK38 => ?_
  refine wp_seq_k fun K39 hK39 => ?_
  refine nd_start (l := [0, 1, 2]) rfl ?_
  refine nd_batch tabOk tabZ_ok [(0, {}), (1, {}), (2, {f := 1})] [6, 0, 1, 2, 3, 8, 9, 10, 11, 12, 29] (T' := [(6, .pointer (some ⟨b2, 0, none⟩)), (0, .pointer (some ⟨kb, 0, none⟩)), (1, .pointer (some ⟨kb2, 0, none⟩)), (2, .agg #[.int .u16 r.idx, .int .u32 r.gen]), (3, .int .u64 badge), (8, .bool false), (9, .slice o14 ((x :: rs).length) c15), (10, .int .u64 wd), (11, .slice o28 rs.length c29), (12, .int .u64 0), (29, .bool false)]) (φ := (((((x :: rs).length : Nat) : Int) == 0)) = false ∧ True) (rest := []) h37 (by kernel_rfl) rfl ⟨(by simp; omega), trivial⟩ fun a40 h41 => ?_
  clear h37
  refine nd_done ?_
  refine hK39 _ _ ?_
  clear hK39
  refine c_false h41 rfl ?_
  refine wp_skip ?_
  refine hK38 _ _ ?_
  clear hK38
  refine wp_seq_k fun K42 hK42 => ?_
  obtain ⟨rb43, cs44, ho46, hb45, hrd48, hF47, _⟩ := rl_open (h41.inv.get (j := 0) rfl) rfC_len (i := 0) (x := x) rfl
  subst ho46 hF47
  have h49 := h41.open_ hb45 (h41.notinL (by simp [Ff, rl]) (kcons (by intro hq; cases hq) knil))
  clear h41
  refine nd_start (l := [0, 1, 2, 3, 4, 5, 6, 7, 8, 9, 10]) rfl ?_
  refine nd_batch tabOk tabZ_ok [(0, {}), (1, {}), (2, {}), (3, {k := 1, m := 1, vs := [.int .u16 x.idx, .int .u32 x.gen]})] [6, 0, 1, 2, 3, 8, 9, 10, 11, 12, 41, 44] (T' := [(6, .pointer (some ⟨b2, 0, none⟩)), (0, .pointer (some ⟨kb, 0, none⟩)), (1, .pointer (some ⟨kb2, 0, none⟩)), (2, .agg #[.int .u16 r.idx, .int .u32 r.gen]), (3, .int .u64 badge), (8, .bool false), (9, .slice (some ⟨rb43, 0, none⟩) ((x :: rs).length) c15), (10, .int .u64 wd), (11, .slice o28 rs.length c29), (12, .int .u64 0), (41, .pointer (some ⟨kb2, 0, none⟩)), (44, .agg #[.int .u16 x.idx, .int .u32 x.gen])]) (φ := (0 ≤ (0 : Int) ∧ (0 : Int) < (((x :: rs).length : Nat) : Int)) ∧ (rb43 = rb43 ∧ cellsAre cs44 0 [.int .u16 x.idx, .int .u32 x.gen]) ∧ True) (rest := [4, 5, 6, 7, 8, 9, 10]) h49 (by kernel_rfl) rfl ⟨⟨by omega, by simp⟩, ⟨rfl, (by have hq := hrd48; exact hq)⟩, trivial⟩ fun a50 h51 => ?_
  clear h49
  refine nd_op ?_
  refine op_call h51 rfl rfl rfl (callOk Tryd.func25 (by decide) rfl) (args := [.pointer (some ⟨kb2, 0, none⟩), .agg #[.int .u16 x.idx, .int .u32 x.gen]]) rfl ((by have hq := threadE kb2 bo2 bc2 S2 rS2 h256b x hx _ (heap_fr hb2 h51.frame) (heap_fr hs2 h51.frame) hne2 e3; unfold thC at hq; rw [hst, hbd] at hq; exact hq)) ?_
  rintro _ w52 ⟨rfl, hf54⟩
  refine ⟨_, rfl, ?_⟩
  have h53 := (h51.grow hf54).put (d := some 45) (v := .tuple #[.agg #[.int .u8 1, .int .u8 tt.prio, .int .u16 tt.wait.idx, .int .u32 tt.wait.gen, .int .u16 tt.cs.idx, .int .u32 tt.cs.gen, .int .u16 tt.rep.idx, .int .u32 tt.rep.gen, .int .u64 badge, .int .u64 tt.m0, .int .u64 tt.m1, .int .u64 tt.m2, .int .u64 tt.m3, .int .u8 tt.len, .int .u8 tt.got, .int .u32 tt.xfer, .int .u32 tt.dst, .bool tt.grant, .bool tt.call], .bool ok]) (T' := [(45, .tuple #[.agg #[.int .u8 1, .int .u8 tt.prio, .int .u16 tt.wait.idx, .int .u32 tt.wait.gen, .int .u16 tt.cs.idx, .int .u32 tt.cs.gen, .int .u16 tt.rep.idx, .int .u32 tt.rep.gen, .int .u64 badge, .int .u64 tt.m0, .int .u64 tt.m1, .int .u64 tt.m2, .int .u64 tt.m3, .int .u8 tt.len, .int .u8 tt.got, .int .u32 tt.xfer, .int .u32 tt.dst, .bool tt.grant, .bool tt.call], .bool ok]), (6, .pointer (some ⟨b2, 0, none⟩)), (0, .pointer (some ⟨kb, 0, none⟩)), (1, .pointer (some ⟨kb2, 0, none⟩)), (2, .agg #[.int .u16 r.idx, .int .u32 r.gen]), (3, .int .u64 badge), (8, .bool false), (9, .slice (some ⟨rb43, 0, none⟩) ((x :: rs).length) c15), (10, .int .u64 wd), (11, .slice o28 rs.length c29), (12, .int .u64 0), (41, .pointer (some ⟨kb2, 0, none⟩)), (44, .agg #[.int .u16 x.idx, .int .u32 x.gen])]) rfl
  clear h51
  refine nd_batch tabOk tabZ_ok [(5, {}), (6, {}), (7, {})] [6, 0, 1, 2, 3, 8, 9, 10, 11, 12, 46, 47] (T' := [(6, .pointer (some ⟨b2, 0, none⟩)), (0, .pointer (some ⟨kb, 0, none⟩)), (1, .pointer (some ⟨kb2, 0, none⟩)), (2, .agg #[.int .u16 r.idx, .int .u32 r.gen]), (3, .int .u64 badge), (8, .bool false), (9, .slice (some ⟨rb43, 0, none⟩) ((x :: rs).length) c15), (10, .int .u64 wd), (11, .slice o28 rs.length c29), (12, .int .u64 0), (46, .agg #[.int .u8 1, .int .u8 tt.prio, .int .u16 tt.wait.idx, .int .u32 tt.wait.gen, .int .u16 tt.cs.idx, .int .u32 tt.cs.gen, .int .u16 tt.rep.idx, .int .u32 tt.rep.gen, .int .u64 badge, .int .u64 tt.m0, .int .u64 tt.m1, .int .u64 tt.m2, .int .u64 tt.m3, .int .u8 tt.len, .int .u8 tt.got, .int .u32 tt.xfer, .int .u32 tt.dst, .bool tt.grant, .bool tt.call]), (47, .bool ok)]) (φ := True) (rest := [8, 9, 10]) h53 (by kernel_rfl) rfl trivial fun a55 h56 => ?_
  clear h53
  refine nd_op ?_
  refine op_new tabOk (cells := [.int .u8 0, .int .u8 0, .int .u16 0, .int .u32 0, .int .u16 0, .int .u32 0, .int .u16 0, .int .u32 0, .int .u64 0, .int .u64 0, .int .u64 0, .int .u64 0, .int .u64 0, .int .u8 0, .int .u8 0, .int .u32 0, .int .u32 0, .bool false, .bool false]) (ty := 59) (ln := none) (L1 := fun b57 => [(b2, ⟨[.int .u16 r.idx, .int .u32 r.gen], 39, false⟩), (rb43, ⟨cs44, 39, true⟩), (b57, ⟨[.int .u8 0, .int .u8 0, .int .u16 0, .int .u32 0, .int .u16 0, .int .u32 0, .int .u16 0, .int .u32 0, .int .u64 0, .int .u64 0, .int .u64 0, .int .u64 0, .int .u64 0, .int .u8 0, .int .u8 0, .int .u32 0, .int .u32 0, .bool false, .bool false], 59, false⟩)]) h56 rfl rfl rfl rfl (by kernel_rfl) (fun _ => rfl) fun b57 w58 a59 h60 hf61 hn62 => ?_
  clear h56
  refine nd_op ?_
  refine op_store tabOk {k := 2} (L' := [(b2, ⟨[.int .u16 r.idx, .int .u32 r.gen], 39, false⟩), (rb43, ⟨cs44, 39, true⟩), (b57, ⟨[.int .u8 1, .int .u8 tt.prio, .int .u16 tt.wait.idx, .int .u32 tt.wait.gen, .int .u16 tt.cs.idx, .int .u32 tt.cs.gen, .int .u16 tt.rep.idx, .int .u32 tt.rep.gen, .int .u64 badge, .int .u64 tt.m0, .int .u64 tt.m1, .int .u64 tt.m2, .int .u64 tt.m3, .int .u8 tt.len, .int .u8 tt.got, .int .u32 tt.xfer, .int .u32 tt.dst, .bool tt.grant, .bool tt.call], 59, false⟩)]) (φ := b57 = b57 ∧ Nat.ble (0 + 19) 19 = true) h60 rfl rfl rfl (by kernel_rfl) ⟨rfl, rfl⟩ fun w63 h64 => ?_
  clear h60
  refine nd_batch tabOk tabZ_ok [(10, {})] [13, 6, 0, 1, 2, 3, 8, 9, 10, 11, 12] (T' := [(13, .pointer (some ⟨b57, 0, none⟩)), (6, .pointer (some ⟨b2, 0, none⟩)), (0, .pointer (some ⟨kb, 0, none⟩)), (1, .pointer (some ⟨kb2, 0, none⟩)), (2, .agg #[.int .u16 r.idx, .int .u32 r.gen]), (3, .int .u64 badge), (8, .bool false), (9, .slice (some ⟨rb43, 0, none⟩) ((x :: rs).length) c15), (10, .int .u64 wd), (11, .slice o28 rs.length c29), (12, .int .u64 0)]) (φ := True) (rest := []) h64 (by kernel_rfl) rfl trivial fun a65 h66 => ?_
  clear h64
  refine nd_done ?_
  refine hK42 _ _ ?_
  clear hK42
  refine wp_seq_k fun K67 hK67 => ?_
  refine nd_start (l := [0, 1, 2, 3, 4, 5, 6, 7, 8, 9, 10, 11, 12, 13, 14, 15, 16, 17, 18, 19, 20, 21, 22, 23, 24]) rfl ?_
  refine nd_batch tabOk tabZ_ok [(0, {}), (1, {}), (2, {})] [13, 6, 0, 1, 2, 3, 8, 9, 10, 11, 12, 48, 50] (T' := [(13, .pointer (some ⟨b57, 0, none⟩)), (6, .pointer (some ⟨b2, 0, none⟩)), (0, .pointer (some ⟨kb, 0, none⟩)), (1, .pointer (some ⟨kb2, 0, none⟩)), (2, .agg #[.int .u16 r.idx, .int .u32 r.gen]), (3, .int .u64 badge), (8, .bool false), (9, .slice (some ⟨rb43, 0, none⟩) ((x :: rs).length) c15), (10, .int .u64 wd), (11, .slice o28 rs.length c29), (12, .int .u64 0), (48, .slice o28 rs.length c29), (50, .slice (sliceBase (some ⟨rb43, 0, none⟩) c15 1 2) (((x :: rs).length) - 1) (c15 - 1))]) (φ := (0 ≤ (1 : Int) ∧ (1 : Int) ≤ (((x :: rs).length : Nat) : Int)) ∧ True) (rest := [3, 4, 5, 6, 7, 8, 9, 10, 11, 12, 13, 14, 15, 16, 17, 18, 19, 20, 21, 22, 23, 24]) h66 (by kernel_rfl) rfl ⟨⟨by omega, by simp; omega⟩, trivial⟩ fun a68 h69 => ?_
  clear h66
  refine nd_op ?_
  refine op_call h69 rfl rfl rfl (callOk Tryd.func23 (by decide) rfl) (args := [.slice o28 rs.length c29, .slice (sliceBase (some ⟨rb43, 0, none⟩) c15 1 2) (((x :: rs).length) - 1) (c15 - 1)]) rfl (equalTail hrl h69.inv) ?_
  rintro _ w70 ⟨rfl, hf72⟩
  refine ⟨_, rfl, ?_⟩
  have h71 := (h69.grow hf72).put (d := some 51) (v := .bool true) (T' := [(51, .bool true), (13, .pointer (some ⟨b57, 0, none⟩)), (6, .pointer (some ⟨b2, 0, none⟩)), (0, .pointer (some ⟨kb, 0, none⟩)), (1, .pointer (some ⟨kb2, 0, none⟩)), (2, .agg #[.int .u16 r.idx, .int .u32 r.gen]), (3, .int .u64 badge), (8, .bool false), (9, .slice (some ⟨rb43, 0, none⟩) ((x :: rs).length) c15), (10, .int .u64 wd), (11, .slice o28 rs.length c29), (12, .int .u64 0), (48, .slice o28 rs.length c29), (50, .slice (sliceBase (some ⟨rb43, 0, none⟩) c15 1 2) (((x :: rs).length) - 1) (c15 - 1))]) rfl
  clear h69
  refine nd_batch tabOk tabZ_ok [(4, {}), (5, {}), (6, {}), (7, {}), (8, {}), (9, {}), (10, {k := 2}), (11, {}), (12, {f := 2}), (13, {}), (14, {}), (15, {}), (16, {k := 2}), (17, {}), (18, {}), (19, {}), (20, {}), (21, {}), (22, {}), (23, {}), (24, {})] [13, 6, 0, 1, 2, 3, 9, 10, 11, 12, 8] (T' := [(13, .pointer (some ⟨b57, 0, none⟩)), (6, .pointer (some ⟨b2, 0, none⟩)), (0, .pointer (some ⟨kb, 0, none⟩)), (1, .pointer (some ⟨kb2, 0, none⟩)), (2, .agg #[.int .u16 r.idx, .int .u32 r.gen]), (3, .int .u64 badge), (9, .slice (some ⟨rb43, 0, none⟩) ((x :: rs).length) c15), (10, .int .u64 wd), (11, .slice o28 rs.length c29), (12, .int .u64 0), (8, .bool true)]) (φ := (b57 = b57 ∧ Nat.ble (8 + 1) 19 = true) ∧ ((badge == badge)) = true ∧ (b57 = b57 ∧ Nat.ble (0 + 1) 19 = true) ∧ True) (rest := []) h71 (by kernel_rfl) rfl ⟨⟨rfl, rfl⟩, (by simp), ⟨rfl, rfl⟩, trivial⟩ fun a73 h74 => ?_
  clear h71
  refine nd_done ?_
  refine hK67 _ _ ?_
  clear hK67
  refine wp_ret ?_
  try simp only [Exit.then, Exit.inBlock]
  try rw [if_pos trivial]
  exact s_ret tabOk tabZ_ok h74 [(.tmp 8, {})] (vs := [.bool true]) (φ := True) rfl (by kernel_rfl) trivial ⟨rfl, h74.frame⟩

theorem signalled_2 (kb bo bc : Nat) (S : KP) (rS : RI S) (E : Nat → Ent) (h256 : (E 256).ty = 1) (Q : QL → List Nat) (hQ : LIQ S Q) (kb2 bo2 bc2 : Nat) (S2 : KP) (rS2 : RI S2) (E2 : Nat → Ent) (h256b : (E2 256).ty = 1) (Q2 : QL → List Nat) (hQ2 : LIQ S2 Q2) (r : Rf) (hr : 0 ≤ r.idx ∧ r.idx ≤ 65535) (badge : Int) (wd : Int) (x : Rf) (hx : 0 ≤ x.idx ∧ x.idx ≤ 65535) (rs : List Rf) (hrl : rs.length ≤ 1000) (e1 : waitersP S Q E r = (x :: rs, wd)) (e2 : waitersP S2 Q2 E2 r = (rs, 0)) (tt : Tcb) (ok : Bool) (e3 : threadP S2 E2 x = (tt, ok)) (hbd : tt.badge = badge) (hst : tt.st = 2) (w : World) (hb : w.heap[kb]? = some (Blk.obj ⟨kC bo bc S, 90, false⟩)) (hs : w.heap[bo]? = some (Blk.obj ⟨stC E, 131, false⟩)) (hne : kb ≠ bo) (hb2 : w.heap[kb2]? = some (Blk.obj ⟨kC bo2 bc2 S2, 90, false⟩)) (hs2 : w.heap[bo2]? = some (Blk.obj ⟨stC E2, 131, false⟩)) (hne2 : kb2 ≠ bo2) :
    Calls Tryd.prog 32 #[.pointer (some ⟨kb, 0, none⟩), .pointer (some ⟨kb2, 0, none⟩), .agg #[.int .u16 r.idx, .int .u32 r.gen], .int .u64 badge] w fun e w' => e = .returned (.bool true) ∧ Fr [] w w' := by
  refine enter (n := 72) (K := []) (A := Rws []) (F := Ff []) (T := [(0, .pointer (some ⟨kb, 0, none⟩)), (1, .pointer (some ⟨kb2, 0, none⟩)), (2, .agg #[.int .u16 r.idx, .int .u32 r.gen]), (3, .int .u64 badge)]) (L := []) (args := [.pointer (some ⟨kb, 0, none⟩), .pointer (some ⟨kb2, 0, none⟩), .agg #[.int .u16 r.idx, .int .u32 r.gen], .int .u64 badge]) Tryd.func32 rfl rfl rfl rfl knil (by simp) knil rws0 Rws.stable rws0.low knil ?_
  intro a h
  refine wp_seq_k fun K1 hK1 => ?_
  refine nd_start (l := [0, 1]) rfl ?_
  refine nd_op ?_
  refine op_new tabOk (cells := [.int .u16 r.idx, .int .u32 r.gen]) (ty := 39) (ln := none) (L1 := fun b2 => [(b2, ⟨[.int .u16 r.idx, .int .u32 r.gen], 39, false⟩)]) h rfl rfl rfl rfl (by kernel_rfl) (fun _ => rfl) fun b2 w3 a4 h5 hf6 hn7 => ?_
  clear h
  refine nd_batch tabOk tabZ_ok [(1, {})] [6, 0, 1, 2, 3, 8] (T' := [(6, .pointer (some ⟨b2, 0, none⟩)), (0, .pointer (some ⟨kb, 0, none⟩)), (1, .pointer (some ⟨kb2, 0, none⟩)), (2, .agg #[.int .u16 r.idx, .int .u32 r.gen]), (3, .int .u64 badge), (8, .bool false)]) (φ := True) (rest := []) h5 (by kernel_rfl) rfl trivial fun a8 h9 => ?_
  clear h5
  refine nd_done ?_
  refine hK1 _ _ ?_
  clear hK1
  refine wp_seq_k fun K10 hK10 => ?_
  refine nd_start (l := [0, 1, 2, 3, 4, 5, 6, 7]) rfl ?_
  refine nd_batch tabOk tabZ_ok [(0, {}), (1, {k := 0})] [6, 0, 1, 2, 3, 8, 16, 17] (T' := [(6, .pointer (some ⟨b2, 0, none⟩)), (0, .pointer (some ⟨kb, 0, none⟩)), (1, .pointer (some ⟨kb2, 0, none⟩)), (2, .agg #[.int .u16 r.idx, .int .u32 r.gen]), (3, .int .u64 badge), (8, .bool false), (16, .pointer (some ⟨kb, 0, none⟩)), (17, .agg #[.int .u16 r.idx, .int .u32 r.gen])]) (φ := (b2 = b2 ∧ Nat.ble (0 + 2) 2 = true) ∧ True) (rest := [2, 3, 4, 5, 6, 7]) h9 (by kernel_rfl) rfl ⟨⟨rfl, rfl⟩, trivial⟩ fun a11 h12 => ?_
  clear h9
  refine nd_op ?_
  have h13a := h12.rowNil 39 2
  have h13 : St ⟨72, [], w, Rws [rl rfC 39 2 ([] : List Rf) none 0 ([])], Ff [rl rfC 39 2 ([] : List Rf) none 0 ([])]⟩ [(6, .pointer (some ⟨b2, 0, none⟩)), (0, .pointer (some ⟨kb, 0, none⟩)), (1, .pointer (some ⟨kb2, 0, none⟩)), (2, .agg #[.int .u16 r.idx, .int .u32 r.gen]), (3, .int .u64 badge), (8, .bool false), (16, .pointer (some ⟨kb, 0, none⟩)), (17, .agg #[.int .u16 r.idx, .int .u32 r.gen])] [(b2, ⟨[.int .u16 r.idx, .int .u32 r.gen], 39, false⟩)] _ _ := h13a
  clear h12 h13a
  refine op_call h13 rfl rfl rfl (callOk Tryd.func20 (by decide) rfl) (args := [.pointer (some ⟨kb, 0, none⟩), .agg #[.int .u16 r.idx, .int .u32 r.gen]]) rfl (waitersE kb bo bc S rS h256 hQ r hr _ (heap_fr hb h13.frame) (heap_fr hs h13.frame) hne e1) ?_
  rintro _ w20 ⟨o14, c15, F16, rfl, hr17, hf18, hF19⟩
  refine ⟨_, rfl, ?_⟩
  have hF19w : ∀ b ∈ F16, w.heap.size ≤ b := fun b hb => Nat.le_trans h13.frame.size (hF19 b hb)
  have h21 := (h13.rowSet (j := 0) (r' := rl rfC 39 2 (x :: rs) o14 c15 F16) (R' := [rl rfC 39 2 (x :: rs) o14 c15 F16]) rfl hr17 hf18 (fun b hb => .inr (hF19 b hb)) (fun _ hq => by cases hq) (kcons (by intro hq; cases hq) knil) rfl).put (d := some 18) (v := .tuple #[.slice o14 ((x :: rs).length) c15, .int .u64 wd]) (T' := [(18, .tuple #[.slice o14 ((x :: rs).length) c15, .int .u64 wd]), (6, .pointer (some ⟨b2, 0, none⟩)), (0, .pointer (some ⟨kb, 0, none⟩)), (1, .pointer (some ⟨kb2, 0, none⟩)), (2, .agg #[.int .u16 r.idx, .int .u32 r.gen]), (3, .int .u64 badge), (8, .bool false), (16, .pointer (some ⟨kb, 0, none⟩)), (17, .agg #[.int .u16 r.idx, .int .u32 r.gen])]) rfl
  clear h13
  refine nd_batch tabOk tabZ_ok [(3, {}), (4, {}), (5, {}), (6, {}), (7, {})] [6, 0, 1, 2, 3, 8, 9, 10] (T' := [(6, .pointer (some ⟨b2, 0, none⟩)), (0, .pointer (some ⟨kb, 0, none⟩)), (1, .pointer (some ⟨kb2, 0, none⟩)), (2, .agg #[.int .u16 r.idx, .int .u32 r.gen]), (3, .int .u64 badge), (8, .bool false), (9, .slice o14 ((x :: rs).length) c15), (10, .int .u64 wd)]) (φ := True) (rest := []) h21 (by kernel_rfl) rfl trivial fun a22 h23 => ?_
  clear h21
  refine nd_done ?_
  refine hK10 _ _ ?_
  clear hK10
  refine wp_seq_k fun K24 hK24 => ?_
  refine nd_start (l := [0, 1, 2, 3, 4, 5, 6, 7]) rfl ?_
  refine nd_batch tabOk tabZ_ok [(0, {}), (1, {k := 0})] [6, 0, 1, 2, 3, 8, 9, 10, 22, 23] (T' := [(6, .pointer (some ⟨b2, 0, none⟩)), (0, .pointer (some ⟨kb, 0, none⟩)), (1, .pointer (some ⟨kb2, 0, none⟩)), (2, .agg #[.int .u16 r.idx, .int .u32 r.gen]), (3, .int .u64 badge), (8, .bool false), (9, .slice o14 ((x :: rs).length) c15), (10, .int .u64 wd), (22, .pointer (some ⟨kb2, 0, none⟩)), (23, .agg #[.int .u16 r.idx, .int .u32 r.gen])]) (φ := (b2 = b2 ∧ Nat.ble (0 + 2) 2 = true) ∧ True) (rest := [2, 3, 4, 5, 6, 7]) h23 (by kernel_rfl) rfl ⟨⟨rfl, rfl⟩, trivial⟩ fun a25 h26 => ?_
  clear h23
  refine nd_op ?_
  have h27a := h26.rowNil 39 2
  have h27 : St ⟨72, [], w, Rws [rl rfC 39 2 (x :: rs) o14 c15 F16, rl rfC 39 2 ([] : List Rf) none 0 ([])], Ff [rl rfC 39 2 (x :: rs) o14 c15 F16, rl rfC 39 2 ([] : List Rf) none 0 ([])]⟩ [(6, .pointer (some ⟨b2, 0, none⟩)), (0, .pointer (some ⟨kb, 0, none⟩)), (1, .pointer (some ⟨kb2, 0, none⟩)), (2, .agg #[.int .u16 r.idx, .int .u32 r.gen]), (3, .int .u64 badge), (8, .bool false), (9, .slice o14 ((x :: rs).length) c15), (10, .int .u64 wd), (22, .pointer (some ⟨kb2, 0, none⟩)), (23, .agg #[.int .u16 r.idx, .int .u32 r.gen])] [(b2, ⟨[.int .u16 r.idx, .int .u32 r.gen], 39, false⟩)] _ _ := h27a
  clear h26 h27a
  refine op_call h27 rfl rfl rfl (callOk Tryd.func20 (by decide) rfl) (args := [.pointer (some ⟨kb2, 0, none⟩), .agg #[.int .u16 r.idx, .int .u32 r.gen]]) rfl (waitersE kb2 bo2 bc2 S2 rS2 h256b hQ2 r hr _ (heap_fr hb2 h27.frame) (heap_fr hs2 h27.frame) hne2 e2) ?_
  rintro _ w34 ⟨o28, c29, F30, rfl, hr31, hf32, hF33⟩
  refine ⟨_, rfl, ?_⟩
  have hF33w : ∀ b ∈ F30, w.heap.size ≤ b := fun b hb => Nat.le_trans h27.frame.size (hF33 b hb)
  have h35 := (h27.rowSet (j := 1) (r' := rl rfC 39 2 rs o28 c29 F30) (R' := [rl rfC 39 2 (x :: rs) o14 c15 F16, rl rfC 39 2 rs o28 c29 F30]) rfl hr31 hf32 (fun b hb => .inr (hF33 b hb)) (fun _ hq => by cases hq) (kcons (by intro hq; cases hq) knil) rfl).put (d := some 24) (v := .tuple #[.slice o28 rs.length c29, .int .u64 0]) (T' := [(24, .tuple #[.slice o28 rs.length c29, .int .u64 0]), (6, .pointer (some ⟨b2, 0, none⟩)), (0, .pointer (some ⟨kb, 0, none⟩)), (1, .pointer (some ⟨kb2, 0, none⟩)), (2, .agg #[.int .u16 r.idx, .int .u32 r.gen]), (3, .int .u64 badge), (8, .bool false), (9, .slice o14 ((x :: rs).length) c15), (10, .int .u64 wd), (22, .pointer (some ⟨kb2, 0, none⟩)), (23, .agg #[.int .u16 r.idx, .int .u32 r.gen])]) rfl
  clear h27
  refine nd_batch tabOk tabZ_ok [(3, {}), (4, {}), (5, {}), (6, {}), (7, {})] [6, 0, 1, 2, 3, 8, 9, 10, 11, 12] (T' := [(6, .pointer (some ⟨b2, 0, none⟩)), (0, .pointer (some ⟨kb, 0, none⟩)), (1, .pointer (some ⟨kb2, 0, none⟩)), (2, .agg #[.int .u16 r.idx, .int .u32 r.gen]), (3, .int .u64 badge), (8, .bool false), (9, .slice o14 ((x :: rs).length) c15), (10, .int .u64 wd), (11, .slice o28 rs.length c29), (12, .int .u64 0)]) (φ := True) (rest := []) h35 (by kernel_rfl) rfl trivial fun a36 h37 => ?_
  clear h35
  refine nd_done ?_
  refine hK24 _ _ ?_
  clear hK24
  refine wp_seq_k fun K38 hK38 => ?_
  refine wp_seq_k fun K39 hK39 => ?_
  refine nd_start (l := [0, 1, 2]) rfl ?_
  refine nd_batch tabOk tabZ_ok [(0, {}), (1, {}), (2, {f := 1})] [6, 0, 1, 2, 3, 8, 9, 10, 11, 12, 29] (T' := [(6, .pointer (some ⟨b2, 0, none⟩)), (0, .pointer (some ⟨kb, 0, none⟩)), (1, .pointer (some ⟨kb2, 0, none⟩)), (2, .agg #[.int .u16 r.idx, .int .u32 r.gen]), (3, .int .u64 badge), (8, .bool false), (9, .slice o14 ((x :: rs).length) c15), (10, .int .u64 wd), (11, .slice o28 rs.length c29), (12, .int .u64 0), (29, .bool false)]) (φ := (((((x :: rs).length : Nat) : Int) == 0)) = false ∧ True) (rest := []) h37 (by kernel_rfl) rfl ⟨(by simp; omega), trivial⟩ fun a40 h41 => ?_
  clear h37
  refine nd_done ?_
  refine hK39 _ _ ?_
  clear hK39
  refine c_false h41 rfl ?_
  refine wp_skip ?_
  refine hK38 _ _ ?_
  clear hK38
  refine wp_seq_k fun K42 hK42 => ?_
  obtain ⟨rb43, cs44, ho46, hb45, hrd48, hF47, _⟩ := rl_open (h41.inv.get (j := 0) rfl) rfC_len (i := 0) (x := x) rfl
  subst ho46 hF47
  have h49 := h41.open_ hb45 (h41.notinL (by simp [Ff, rl]) (kcons (by intro hq; cases hq) knil))
  clear h41
  refine nd_start (l := [0, 1, 2, 3, 4, 5, 6, 7, 8, 9, 10]) rfl ?_
  refine nd_batch tabOk tabZ_ok [(0, {}), (1, {}), (2, {}), (3, {k := 1, m := 1, vs := [.int .u16 x.idx, .int .u32 x.gen]})] [6, 0, 1, 2, 3, 8, 9, 10, 11, 12, 41, 44] (T' := [(6, .pointer (some ⟨b2, 0, none⟩)), (0, .pointer (some ⟨kb, 0, none⟩)), (1, .pointer (some ⟨kb2, 0, none⟩)), (2, .agg #[.int .u16 r.idx, .int .u32 r.gen]), (3, .int .u64 badge), (8, .bool false), (9, .slice (some ⟨rb43, 0, none⟩) ((x :: rs).length) c15), (10, .int .u64 wd), (11, .slice o28 rs.length c29), (12, .int .u64 0), (41, .pointer (some ⟨kb2, 0, none⟩)), (44, .agg #[.int .u16 x.idx, .int .u32 x.gen])]) (φ := (0 ≤ (0 : Int) ∧ (0 : Int) < (((x :: rs).length : Nat) : Int)) ∧ (rb43 = rb43 ∧ cellsAre cs44 0 [.int .u16 x.idx, .int .u32 x.gen]) ∧ True) (rest := [4, 5, 6, 7, 8, 9, 10]) h49 (by kernel_rfl) rfl ⟨⟨by omega, by simp⟩, ⟨rfl, (by have hq := hrd48; exact hq)⟩, trivial⟩ fun a50 h51 => ?_
  clear h49
  refine nd_op ?_
  refine op_call h51 rfl rfl rfl (callOk Tryd.func25 (by decide) rfl) (args := [.pointer (some ⟨kb2, 0, none⟩), .agg #[.int .u16 x.idx, .int .u32 x.gen]]) rfl ((by have hq := threadE kb2 bo2 bc2 S2 rS2 h256b x hx _ (heap_fr hb2 h51.frame) (heap_fr hs2 h51.frame) hne2 e3; unfold thC at hq; rw [hst, hbd] at hq; exact hq)) ?_
  rintro _ w52 ⟨rfl, hf54⟩
  refine ⟨_, rfl, ?_⟩
  have h53 := (h51.grow hf54).put (d := some 45) (v := .tuple #[.agg #[.int .u8 2, .int .u8 tt.prio, .int .u16 tt.wait.idx, .int .u32 tt.wait.gen, .int .u16 tt.cs.idx, .int .u32 tt.cs.gen, .int .u16 tt.rep.idx, .int .u32 tt.rep.gen, .int .u64 badge, .int .u64 tt.m0, .int .u64 tt.m1, .int .u64 tt.m2, .int .u64 tt.m3, .int .u8 tt.len, .int .u8 tt.got, .int .u32 tt.xfer, .int .u32 tt.dst, .bool tt.grant, .bool tt.call], .bool ok]) (T' := [(45, .tuple #[.agg #[.int .u8 2, .int .u8 tt.prio, .int .u16 tt.wait.idx, .int .u32 tt.wait.gen, .int .u16 tt.cs.idx, .int .u32 tt.cs.gen, .int .u16 tt.rep.idx, .int .u32 tt.rep.gen, .int .u64 badge, .int .u64 tt.m0, .int .u64 tt.m1, .int .u64 tt.m2, .int .u64 tt.m3, .int .u8 tt.len, .int .u8 tt.got, .int .u32 tt.xfer, .int .u32 tt.dst, .bool tt.grant, .bool tt.call], .bool ok]), (6, .pointer (some ⟨b2, 0, none⟩)), (0, .pointer (some ⟨kb, 0, none⟩)), (1, .pointer (some ⟨kb2, 0, none⟩)), (2, .agg #[.int .u16 r.idx, .int .u32 r.gen]), (3, .int .u64 badge), (8, .bool false), (9, .slice (some ⟨rb43, 0, none⟩) ((x :: rs).length) c15), (10, .int .u64 wd), (11, .slice o28 rs.length c29), (12, .int .u64 0), (41, .pointer (some ⟨kb2, 0, none⟩)), (44, .agg #[.int .u16 x.idx, .int .u32 x.gen])]) rfl
  clear h51
  refine nd_batch tabOk tabZ_ok [(5, {}), (6, {}), (7, {})] [6, 0, 1, 2, 3, 8, 9, 10, 11, 12, 46, 47] (T' := [(6, .pointer (some ⟨b2, 0, none⟩)), (0, .pointer (some ⟨kb, 0, none⟩)), (1, .pointer (some ⟨kb2, 0, none⟩)), (2, .agg #[.int .u16 r.idx, .int .u32 r.gen]), (3, .int .u64 badge), (8, .bool false), (9, .slice (some ⟨rb43, 0, none⟩) ((x :: rs).length) c15), (10, .int .u64 wd), (11, .slice o28 rs.length c29), (12, .int .u64 0), (46, .agg #[.int .u8 2, .int .u8 tt.prio, .int .u16 tt.wait.idx, .int .u32 tt.wait.gen, .int .u16 tt.cs.idx, .int .u32 tt.cs.gen, .int .u16 tt.rep.idx, .int .u32 tt.rep.gen, .int .u64 badge, .int .u64 tt.m0, .int .u64 tt.m1, .int .u64 tt.m2, .int .u64 tt.m3, .int .u8 tt.len, .int .u8 tt.got, .int .u32 tt.xfer, .int .u32 tt.dst, .bool tt.grant, .bool tt.call]), (47, .bool ok)]) (φ := True) (rest := [8, 9, 10]) h53 (by kernel_rfl) rfl trivial fun a55 h56 => ?_
  clear h53
  refine nd_op ?_
  refine op_new tabOk (cells := [.int .u8 0, .int .u8 0, .int .u16 0, .int .u32 0, .int .u16 0, .int .u32 0, .int .u16 0, .int .u32 0, .int .u64 0, .int .u64 0, .int .u64 0, .int .u64 0, .int .u64 0, .int .u8 0, .int .u8 0, .int .u32 0, .int .u32 0, .bool false, .bool false]) (ty := 59) (ln := none) (L1 := fun b57 => [(b2, ⟨[.int .u16 r.idx, .int .u32 r.gen], 39, false⟩), (rb43, ⟨cs44, 39, true⟩), (b57, ⟨[.int .u8 0, .int .u8 0, .int .u16 0, .int .u32 0, .int .u16 0, .int .u32 0, .int .u16 0, .int .u32 0, .int .u64 0, .int .u64 0, .int .u64 0, .int .u64 0, .int .u64 0, .int .u8 0, .int .u8 0, .int .u32 0, .int .u32 0, .bool false, .bool false], 59, false⟩)]) h56 rfl rfl rfl rfl (by kernel_rfl) (fun _ => rfl) fun b57 w58 a59 h60 hf61 hn62 => ?_
  clear h56
  refine nd_op ?_
  refine op_store tabOk {k := 2} (L' := [(b2, ⟨[.int .u16 r.idx, .int .u32 r.gen], 39, false⟩), (rb43, ⟨cs44, 39, true⟩), (b57, ⟨[.int .u8 2, .int .u8 tt.prio, .int .u16 tt.wait.idx, .int .u32 tt.wait.gen, .int .u16 tt.cs.idx, .int .u32 tt.cs.gen, .int .u16 tt.rep.idx, .int .u32 tt.rep.gen, .int .u64 badge, .int .u64 tt.m0, .int .u64 tt.m1, .int .u64 tt.m2, .int .u64 tt.m3, .int .u8 tt.len, .int .u8 tt.got, .int .u32 tt.xfer, .int .u32 tt.dst, .bool tt.grant, .bool tt.call], 59, false⟩)]) (φ := b57 = b57 ∧ Nat.ble (0 + 19) 19 = true) h60 rfl rfl rfl (by kernel_rfl) ⟨rfl, rfl⟩ fun w63 h64 => ?_
  clear h60
  refine nd_batch tabOk tabZ_ok [(10, {})] [13, 6, 0, 1, 2, 3, 8, 9, 10, 11, 12] (T' := [(13, .pointer (some ⟨b57, 0, none⟩)), (6, .pointer (some ⟨b2, 0, none⟩)), (0, .pointer (some ⟨kb, 0, none⟩)), (1, .pointer (some ⟨kb2, 0, none⟩)), (2, .agg #[.int .u16 r.idx, .int .u32 r.gen]), (3, .int .u64 badge), (8, .bool false), (9, .slice (some ⟨rb43, 0, none⟩) ((x :: rs).length) c15), (10, .int .u64 wd), (11, .slice o28 rs.length c29), (12, .int .u64 0)]) (φ := True) (rest := []) h64 (by kernel_rfl) rfl trivial fun a65 h66 => ?_
  clear h64
  refine nd_done ?_
  refine hK42 _ _ ?_
  clear hK42
  refine wp_seq_k fun K67 hK67 => ?_
  refine nd_start (l := [0, 1, 2, 3, 4, 5, 6, 7, 8, 9, 10, 11, 12, 13, 14, 15, 16, 17, 18, 19, 20, 21, 22, 23, 24]) rfl ?_
  refine nd_batch tabOk tabZ_ok [(0, {}), (1, {}), (2, {})] [13, 6, 0, 1, 2, 3, 8, 9, 10, 11, 12, 48, 50] (T' := [(13, .pointer (some ⟨b57, 0, none⟩)), (6, .pointer (some ⟨b2, 0, none⟩)), (0, .pointer (some ⟨kb, 0, none⟩)), (1, .pointer (some ⟨kb2, 0, none⟩)), (2, .agg #[.int .u16 r.idx, .int .u32 r.gen]), (3, .int .u64 badge), (8, .bool false), (9, .slice (some ⟨rb43, 0, none⟩) ((x :: rs).length) c15), (10, .int .u64 wd), (11, .slice o28 rs.length c29), (12, .int .u64 0), (48, .slice o28 rs.length c29), (50, .slice (sliceBase (some ⟨rb43, 0, none⟩) c15 1 2) (((x :: rs).length) - 1) (c15 - 1))]) (φ := (0 ≤ (1 : Int) ∧ (1 : Int) ≤ (((x :: rs).length : Nat) : Int)) ∧ True) (rest := [3, 4, 5, 6, 7, 8, 9, 10, 11, 12, 13, 14, 15, 16, 17, 18, 19, 20, 21, 22, 23, 24]) h66 (by kernel_rfl) rfl ⟨⟨by omega, by simp; omega⟩, trivial⟩ fun a68 h69 => ?_
  clear h66
  refine nd_op ?_
  refine op_call h69 rfl rfl rfl (callOk Tryd.func23 (by decide) rfl) (args := [.slice o28 rs.length c29, .slice (sliceBase (some ⟨rb43, 0, none⟩) c15 1 2) (((x :: rs).length) - 1) (c15 - 1)]) rfl (equalTail hrl h69.inv) ?_
  rintro _ w70 ⟨rfl, hf72⟩
  refine ⟨_, rfl, ?_⟩
  have h71 := (h69.grow hf72).put (d := some 51) (v := .bool true) (T' := [(51, .bool true), (13, .pointer (some ⟨b57, 0, none⟩)), (6, .pointer (some ⟨b2, 0, none⟩)), (0, .pointer (some ⟨kb, 0, none⟩)), (1, .pointer (some ⟨kb2, 0, none⟩)), (2, .agg #[.int .u16 r.idx, .int .u32 r.gen]), (3, .int .u64 badge), (8, .bool false), (9, .slice (some ⟨rb43, 0, none⟩) ((x :: rs).length) c15), (10, .int .u64 wd), (11, .slice o28 rs.length c29), (12, .int .u64 0), (48, .slice o28 rs.length c29), (50, .slice (sliceBase (some ⟨rb43, 0, none⟩) c15 1 2) (((x :: rs).length) - 1) (c15 - 1))]) rfl
  clear h69
  refine nd_batch tabOk tabZ_ok [(4, {}), (5, {}), (6, {}), (7, {}), (8, {}), (9, {}), (10, {k := 2}), (11, {}), (12, {f := 2}), (13, {}), (14, {}), (15, {}), (16, {k := 2}), (17, {}), (18, {}), (19, {}), (20, {k := 2}), (21, {}), (22, {}), (23, {}), (24, {})] [13, 6, 0, 1, 2, 3, 9, 10, 11, 12, 8] (T' := [(13, .pointer (some ⟨b57, 0, none⟩)), (6, .pointer (some ⟨b2, 0, none⟩)), (0, .pointer (some ⟨kb, 0, none⟩)), (1, .pointer (some ⟨kb2, 0, none⟩)), (2, .agg #[.int .u16 r.idx, .int .u32 r.gen]), (3, .int .u64 badge), (9, .slice (some ⟨rb43, 0, none⟩) ((x :: rs).length) c15), (10, .int .u64 wd), (11, .slice o28 rs.length c29), (12, .int .u64 0), (8, .bool true)]) (φ := (b57 = b57 ∧ Nat.ble (8 + 1) 19 = true) ∧ ((badge == badge)) = true ∧ (b57 = b57 ∧ Nat.ble (0 + 1) 19 = true) ∧ (b57 = b57 ∧ Nat.ble (0 + 1) 19 = true) ∧ True) (rest := []) h71 (by kernel_rfl) rfl ⟨⟨rfl, rfl⟩, (by simp), ⟨rfl, rfl⟩, ⟨rfl, rfl⟩, trivial⟩ fun a73 h74 => ?_
  clear h71
  refine nd_done ?_
  refine hK67 _ _ ?_
  clear hK67
  refine wp_ret ?_
  try simp only [Exit.then, Exit.inBlock]
  try rw [if_pos trivial]
  exact s_ret tabOk tabZ_ok h74 [(.tmp 8, {})] (vs := [.bool true]) (φ := True) rfl (by kernel_rfl) trivial ⟨rfl, h74.frame⟩

end Go.Proofs.Qxb6500918aDoor
