/-
  slices.Insert over Refs. (Made by program: a symbolic walk that prints its steps.)
-/
import Derived.Test.Qxb6500918aDoorMu
import Derived.Test.Qxb6500918aDoorPI
namespace Go.Proofs.Qxb6500918aDoor
open Go.Sx Go.Kn
set_option maxRecDepth 100000
set_option maxHeartbeats 4000000
set_option linter.unusedVariables false
set_option linter.unusedSimpArgs false

theorem insert_end (rs : List Rf) (hl : rs.length ≤ 1000) (o : Option Addr) (c : Nat) (F : List Nat) (vb : Nat) (r : Rf) (w : World) (hrow : (rl rfC 39 2 rs o c F).at w) (hv : w.heap[vb]? = some (Blk.obj ⟨[.int .u16 r.idx, .int .u32 r.gen], 39, true⟩)) :
    Calls Tryd.prog 66 #[.slice o rs.length c, .int .i64 (rs.length : Int), .slice (some ⟨vb, 0, none⟩) 1 1] w fun e w' => ∃ o' c' F', e = .returned (.slice o' (insP rs rs.length r).length c') ∧ (rl rfC 39 2 (insP rs rs.length r) o' c' F').at w' ∧ Fr F w w' ∧ ∀ x ∈ F', x ∈ F ∨ w.heap.size ≤ x := by
  refine enter (n := 95) (K := F) (A := fun w => (rl rfC 39 2 rs o c F).at w) (F := F) (T := [(0, .slice o rs.length c), (1, .int .i64 ((rs.length : Nat) : Int)), (2, .slice (some ⟨vb, 0, none⟩) 1 1)]) (L := [(vb, ⟨[.int .u16 r.idx, .int .u32 r.gen], 39, true⟩)]) (args := [.slice o rs.length c, .int .i64 ((rs.length : Nat) : Int), .slice (some ⟨vb, 0, none⟩) 1 1]) Tryd.func66 rfl rfl rfl rfl (kcons hv knil) (by simp) (kcons (by intro hq; cases hq) knil) hrow Row.stable (Row.low hrow) (kcons (by intro hq; cases hq) knil) ?_
  intro a h
  refine wp_seq_k fun K1 hK1 => ?_
  refine nd_start (l := [0]) rfl ?_
  refine nd_batch tabOk tabZ_ok [(0, {})] [0, 1, 2, 6] (T' := [(0, .slice o rs.length c), (1, .int .i64 ((rs.length : Nat) : Int)), (2, .slice (some ⟨vb, 0, none⟩) 1 1), (6, .slice none 0 0)]) (φ := True) (rest := []) h (by kernel_rfl) rfl trivial fun a2 h3 => ?_
  clear h
  refine nd_done ?_
  refine hK1 _ _ ?_
  clear hK1
  refine wp_seq_k fun K4 hK4 => ?_
  refine nd_start (l := [0, 1, 2]) rfl ?_
  refine nd_batch tabOk tabZ_ok [(0, {}), (1, {}), (2, {})] [0, 1, 2, 6] (T' := [(0, .slice o rs.length c), (1, .int .i64 ((rs.length : Nat) : Int)), (2, .slice (some ⟨vb, 0, none⟩) 1 1), (6, .slice none 0 0)]) (φ := (0 ≤ ((rs.length : Nat) : Int) ∧ ((rs.length : Nat) : Int) ≤ ((rs.length : Nat) : Int)) ∧ True) (rest := []) h3 (by kernel_rfl) rfl ⟨⟨by omega, by omega⟩, trivial⟩ fun a5 h6 => ?_
  clear h3
  refine nd_done ?_
  refine hK4 _ _ ?_
  clear hK4
  refine wp_seq_k fun K7 hK7 => ?_
  refine nd_start (l := [0, 1, 2]) rfl ?_
  refine nd_batch tabOk tabZ_ok [(0, {}), (1, {}), (2, {})] [0, 1, 2, 6, 7] (T' := [(0, .slice o rs.length c), (1, .int .i64 ((rs.length : Nat) : Int)), (2, .slice (some ⟨vb, 0, none⟩) 1 1), (6, .slice none 0 0), (7, .int .i64 1)]) (φ := True) (rest := []) h6 (by kernel_rfl) rfl trivial fun a8 h9 => ?_
  clear h6
  refine nd_done ?_
  refine hK7 _ _ ?_
  clear hK7
  refine wp_seq_k fun K10 hK10 => ?_
  refine wp_seq_k fun K11 hK11 => ?_
  refine nd_start (l := [0, 1]) rfl ?_
  refine nd_batch tabOk tabZ_ok [(0, {}), (1, {})] [0, 1, 2, 6, 7, 16] (T' := [(0, .slice o rs.length c), (1, .int .i64 ((rs.length : Nat) : Int)), (2, .slice (some ⟨vb, 0, none⟩) 1 1), (6, .slice none 0 0), (7, .int .i64 1), (16, .bool false)]) (φ := True) (rest := []) h9 (by kernel_rfl) rfl trivial fun a12 h13 => ?_
  clear h9
  refine nd_done ?_
  refine hK11 _ _ ?_
  clear hK11
  refine c_false h13 rfl ?_
  refine wp_skip ?_
  refine hK10 _ _ ?_
  clear hK10
  refine wp_seq_k fun K14 hK14 => ?_
  refine nd_start (l := [0, 1, 2]) rfl ?_
  refine nd_batch tabOk tabZ_ok [(0, {}), (1, {}), (2, {})] [0, 1, 2, 6, 7, 8] (T' := [(0, .slice o rs.length c), (1, .int .i64 ((rs.length : Nat) : Int)), (2, .slice (some ⟨vb, 0, none⟩) 1 1), (6, .slice none 0 0), (7, .int .i64 1), (8, .int .i64 ((rs.length : Nat) : Int))]) (φ := True) (rest := []) h13 (by kernel_rfl) rfl trivial fun a15 h16 => ?_
  clear h13
  refine nd_done ?_
  refine hK14 _ _ ?_
  clear hK14
  refine wp_seq_k fun K17 hK17 => ?_
  refine wp_seq_k fun K18 hK18 => ?_
  refine nd_start (l := [0, 1, 2]) rfl ?_
  refine nd_batch tabOk tabZ_ok [(0, {}), (1, {}), (2, {f := 2})] [0, 1, 2, 6, 7, 8, 22] (T' := [(0, .slice o rs.length c), (1, .int .i64 ((rs.length : Nat) : Int)), (2, .slice (some ⟨vb, 0, none⟩) 1 1), (6, .slice none 0 0), (7, .int .i64 1), (8, .int .i64 ((rs.length : Nat) : Int)), (22, .bool true)]) (φ := ((((rs.length : Nat) : Int) == ((rs.length : Nat) : Int))) = true ∧ True) (rest := []) h16 (by kernel_rfl) rfl ⟨(by simp), trivial⟩ fun a19 h20 => ?_
  clear h16
  refine nd_done ?_
  refine hK18 _ _ ?_
  clear hK18
  refine c_true h20 rfl ?_
  refine wp_seq_k fun K21 hK21 => ?_
  refine nd_start (l := [0, 1, 2, 3]) rfl ?_
  refine nd_batch tabOk tabZ_ok [(0, {}), (1, {})] [0, 1, 2, 6, 7, 8, 23, 24] (T' := [(0, .slice o rs.length c), (1, .int .i64 ((rs.length : Nat) : Int)), (2, .slice (some ⟨vb, 0, none⟩) 1 1), (6, .slice none 0 0), (7, .int .i64 1), (8, .int .i64 ((rs.length : Nat) : Int)), (23, .slice o rs.length c), (24, .slice (some ⟨vb, 0, none⟩) 1 1)]) (φ := True) (rest := [2, 3]) h20 (by kernel_rfl) rfl trivial fun a22 h23 => ?_
  clear h20
  refine nd_op ?_
  have hrw := h23.inv
  refine op_append tabOk (e := 39) (so := o) (n := rs.length) (c := c) (xo := some ⟨vb, 0, none⟩) (m := 1) (cx := 1) (vals := rs.flatMap rfC) (vs := [.int .u16 r.idx, .int .u32 r.gen]) (F := F) h23 rfl rfl rfl rfl rfl rfl rfl rfl rfl rfl rfl rfl hrw (src_one (h23.kn (k := 0) rfl) rfl ⟨rfl, rfl, trivial⟩) (by omega) rfl ?_
  intro o24 c25 F26 w27 hr28 hf29 hF30
  have hr2 := rl_app1 (enc := rfC) (xs := rs) (y := r) hr28
  have h31 := ((h23.memMono (L' := []) (List.Sublist.cons _ List.Sublist.slnil)).turn (L' := []) (A' := fun _ => True) (F' := []) hf29 (fun x hx => .inl hx) rfl knil trivial (fun _ _ _ _ => trivial) (fun _ hq => by cases hq) (fun _ hq => by cases hq)).put (d := some 25) (v := .slice o24 (rs.length + 1) c25) (T' := [(25, .slice o24 (rs.length + 1) c25), (0, .slice o rs.length c), (1, .int .i64 ((rs.length : Nat) : Int)), (2, .slice (some ⟨vb, 0, none⟩) 1 1), (6, .slice none 0 0), (7, .int .i64 1), (8, .int .i64 ((rs.length : Nat) : Int)), (23, .slice o rs.length c), (24, .slice (some ⟨vb, 0, none⟩) 1 1)]) rfl
  have hsz := h23.frame.size
  clear h23
  refine nd_batch tabOk tabZ_ok [(3, {})] [0, 1, 2, 7, 8, 6] (T' := [(0, .slice o rs.length c), (1, .int .i64 ((rs.length : Nat) : Int)), (2, .slice (some ⟨vb, 0, none⟩) 1 1), (7, .int .i64 1), (8, .int .i64 ((rs.length : Nat) : Int)), (6, .slice o24 (rs.length + 1) c25)]) (φ := True) (rest := []) h31 (by kernel_rfl) rfl trivial fun a32 h33 => ?_
  clear h31
  refine nd_done ?_
  refine hK21 _ _ ?_
  clear hK21
  refine wp_ret ?_
  try simp only [Exit.then, Exit.inBlock]
  try rw [if_pos trivial]
  exact s_ret tabOk tabZ_ok h33 [(.tmp 6, {})] (vs := [.slice o24 (rs.length + 1) c25]) (φ := True) rfl (by kernel_rfl) trivial ⟨o24, c25, F26, by rw [insP_len _ (Nat.le_refl _)]; rfl, by rw [insP_end]; exact hr2, h33.frame, fun x hx => (hF30 x hx).imp id (fun h => Nat.le_trans hsz h)⟩

theorem insert_mid (rs : List Rf) (hl : rs.length ≤ 1000) (b c k : Nat) (hkl : k < rs.length) (vb : Nat) (r : Rf) (cs : List Value) (w : World) (hb : w.heap[b]? = some (Blk.obj ⟨cs, 39, false⟩)) (hcl : cs.length = c * 2) (hnc : rs.length ≤ c) (htk0 : cs.take (rs.length * 2) = rs.flatMap rfC) (hvb : vb ≠ b) (hv : w.heap[vb]? = some (Blk.obj ⟨[.int .u16 r.idx, .int .u32 r.gen], 39, true⟩)) :
    Calls Tryd.prog 66 #[.slice (some ⟨b, 0, none⟩) rs.length c, .int .i64 (k : Int), .slice (some ⟨vb, 0, none⟩) 1 1] w fun e w' => ∃ o' c' F', e = .returned (.slice o' (insP rs k r).length c') ∧ (rl rfC 39 2 (insP rs k r) o' c' F').at w' ∧ Fr [b] w w' ∧ ∀ x ∈ F', x ∈ [b] ∨ w.heap.size ≤ x := by
  obtain ⟨htk, hsrc⟩ := flat_tail htk0 (k := k)
  rw [Nat.min_eq_left (by omega)] at htk hsrc
  refine enter0 (n := 95) (K := [b]) (T := [(0, .slice (some ⟨b, 0, none⟩) rs.length c), (1, .int .i64 ((k : Nat) : Int)), (2, .slice (some ⟨vb, 0, none⟩) 1 1)]) (L := [(b, ⟨cs, 39, false⟩), (vb, ⟨[.int .u16 r.idx, .int .u32 r.gen], 39, true⟩)]) (args := [.slice (some ⟨b, 0, none⟩) rs.length c, .int .i64 ((k : Nat) : Int), .slice (some ⟨vb, 0, none⟩) 1 1]) Tryd.func66 rfl rfl rfl rfl (kcons hb (kcons hv knil)) (by simp; exact fun e => hvb e.symm) (kcons (by simp) (kcons (by intro hq; cases hq) knil)) ?_
  intro a h
  refine wp_seq_k fun K1 hK1 => ?_
  refine nd_start (l := [0]) rfl ?_
  refine nd_batch tabOk tabZ_ok [(0, {})] [0, 1, 2, 6] (T' := [(0, .slice (some ⟨b, 0, none⟩) rs.length c), (1, .int .i64 ((k : Nat) : Int)), (2, .slice (some ⟨vb, 0, none⟩) 1 1), (6, .slice none 0 0)]) (φ := True) (rest := []) h (by kernel_rfl) rfl trivial fun a2 h3 => ?_
  clear h
  refine nd_done ?_
  refine hK1 _ _ ?_
  clear hK1
  refine wp_seq_k fun K4 hK4 => ?_
  refine nd_start (l := [0, 1, 2]) rfl ?_
  refine nd_batch tabOk tabZ_ok [(0, {}), (1, {}), (2, {})] [0, 1, 2, 6] (T' := [(0, .slice (some ⟨b, 0, none⟩) rs.length c), (1, .int .i64 ((k : Nat) : Int)), (2, .slice (some ⟨vb, 0, none⟩) 1 1), (6, .slice none 0 0)]) (φ := (0 ≤ ((k : Nat) : Int) ∧ ((k : Nat) : Int) ≤ ((rs.length : Nat) : Int)) ∧ True) (rest := []) h3 (by kernel_rfl) rfl ⟨⟨by omega, by omega⟩, trivial⟩ fun a5 h6 => ?_
  clear h3
  refine nd_done ?_
  refine hK4 _ _ ?_
  clear hK4
  refine wp_seq_k fun K7 hK7 => ?_
  refine nd_start (l := [0, 1, 2]) rfl ?_
  refine nd_batch tabOk tabZ_ok [(0, {}), (1, {}), (2, {})] [0, 1, 2, 6, 7] (T' := [(0, .slice (some ⟨b, 0, none⟩) rs.length c), (1, .int .i64 ((k : Nat) : Int)), (2, .slice (some ⟨vb, 0, none⟩) 1 1), (6, .slice none 0 0), (7, .int .i64 1)]) (φ := True) (rest := []) h6 (by kernel_rfl) rfl trivial fun a8 h9 => ?_
  clear h6
  refine nd_done ?_
  refine hK7 _ _ ?_
  clear hK7
  refine wp_seq_k fun K10 hK10 => ?_
  refine wp_seq_k fun K11 hK11 => ?_
  refine nd_start (l := [0, 1]) rfl ?_
  refine nd_batch tabOk tabZ_ok [(0, {}), (1, {})] [0, 1, 2, 6, 7, 16] (T' := [(0, .slice (some ⟨b, 0, none⟩) rs.length c), (1, .int .i64 ((k : Nat) : Int)), (2, .slice (some ⟨vb, 0, none⟩) 1 1), (6, .slice none 0 0), (7, .int .i64 1), (16, .bool false)]) (φ := True) (rest := []) h9 (by kernel_rfl) rfl trivial fun a12 h13 => ?_
  clear h9
  refine nd_done ?_
  refine hK11 _ _ ?_
  clear hK11
  refine c_false h13 rfl ?_
  refine wp_skip ?_
  refine hK10 _ _ ?_
  clear hK10
  refine wp_seq_k fun K14 hK14 => ?_
  refine nd_start (l := [0, 1, 2]) rfl ?_
  refine nd_batch tabOk tabZ_ok [(0, {}), (1, {}), (2, {})] [0, 1, 2, 6, 7, 8] (T' := [(0, .slice (some ⟨b, 0, none⟩) rs.length c), (1, .int .i64 ((k : Nat) : Int)), (2, .slice (some ⟨vb, 0, none⟩) 1 1), (6, .slice none 0 0), (7, .int .i64 1), (8, .int .i64 ((rs.length : Nat) : Int))]) (φ := True) (rest := []) h13 (by kernel_rfl) rfl trivial fun a15 h16 => ?_
  clear h13
  refine nd_done ?_
  refine hK14 _ _ ?_
  clear hK14
  refine wp_seq_k fun K17 hK17 => ?_
  refine wp_seq_k fun K18 hK18 => ?_
  refine nd_start (l := [0, 1, 2]) rfl ?_
  refine nd_batch tabOk tabZ_ok [(0, {}), (1, {}), (2, {f := 1})] [0, 1, 2, 6, 7, 8, 22] (T' := [(0, .slice (some ⟨b, 0, none⟩) rs.length c), (1, .int .i64 ((k : Nat) : Int)), (2, .slice (some ⟨vb, 0, none⟩) 1 1), (6, .slice none 0 0), (7, .int .i64 1), (8, .int .i64 ((rs.length : Nat) : Int)), (22, .bool false)]) (φ := ((((k : Nat) : Int) == ((rs.length : Nat) : Int))) = false ∧ True) (rest := []) h16 (by kernel_rfl) rfl ⟨(by simp; omega), trivial⟩ fun a19 h20 => ?_
  clear h16
  refine nd_done ?_
  refine hK18 _ _ ?_
  clear hK18
  refine c_false h20 rfl ?_
  refine wp_skip ?_
  refine hK17 _ _ ?_
  clear hK17
  refine wp_seq_k fun K21 hK21 => ?_
  refine wp_seq_k fun K22 hK22 => ?_
  refine nd_start (l := [0, 1, 2, 3, 4, 5]) rfl ?_
  refine nd_batch tabOk tabZ_ok [(0, {}), (1, {}), (2, {}), (3, {})] [0, 1, 2, 6, 7, 8, 28, 29] (T' := [(0, .slice (some ⟨b, 0, none⟩) rs.length c), (1, .int .i64 ((k : Nat) : Int)), (2, .slice (some ⟨vb, 0, none⟩) 1 1), (6, .slice none 0 0), (7, .int .i64 1), (8, .int .i64 ((rs.length : Nat) : Int)), (28, .int .i64 (((rs.length : Nat) : Int) + 1)), (29, .slice (some ⟨b, 0, none⟩) rs.length c)]) (φ := inR .i64 (((rs.length : Nat) : Int) + 1) ∧ True) (rest := [4, 5]) h20 (by kernel_rfl) rfl ⟨⟨by omega, by omega⟩, trivial⟩ fun a23 h24 => ?_
  clear h20
  refine nd_op ?_
  refine op_cap h24 rfl rfl rfl rfl ?_
  have h25 := (h24).put (d := some 30) (v := .int .i64 ((c : Nat) : Int)) (T' := [(30, .int .i64 ((c : Nat) : Int)), (0, .slice (some ⟨b, 0, none⟩) rs.length c), (1, .int .i64 ((k : Nat) : Int)), (2, .slice (some ⟨vb, 0, none⟩) 1 1), (6, .slice none 0 0), (7, .int .i64 1), (8, .int .i64 ((rs.length : Nat) : Int)), (28, .int .i64 (((rs.length : Nat) : Int) + 1)), (29, .slice (some ⟨b, 0, none⟩) rs.length c)]) rfl
  have hszh25 : w.heap.size ≤ _ := h24.frame.size
  clear h24
  refine nd_batch tabOk tabZ_ok [(5, {})] [0, 1, 2, 6, 7, 8, 31] (T' := [(0, .slice (some ⟨b, 0, none⟩) rs.length c), (1, .int .i64 ((k : Nat) : Int)), (2, .slice (some ⟨vb, 0, none⟩) 1 1), (6, .slice none 0 0), (7, .int .i64 1), (8, .int .i64 ((rs.length : Nat) : Int)), (31, .bool (decide ((((rs.length : Nat) : Int) + 1) > ((c : Nat) : Int))))]) (φ := True) (rest := []) h25 (by kernel_rfl) rfl trivial fun a26 h27 => ?_
  clear h25
  refine nd_done ?_
  refine hK22 _ _ ?_
  clear hK22
  refine c_split h27 (b := decide ((((rs.length : Nat) : Int) + 1) > ((c : Nat) : Int))) rfl (fun hc28 => ?_) (fun hc28 => ?_)
  ·
    have hc28f : (((rs.length : Nat) : Int) + 1) > ((c : Nat) : Int) := by simpa using hc28
    refine wp_seq_k fun K29 hK29 => ?_
    refine nd_start (l := [0, 1, 2, 3, 4, 5, 6, 7, 8, 9]) rfl ?_
    refine nd_batch tabOk tabZ_ok [(0, {}), (1, {}), (2, {}), (3, {}), (4, {}), (5, {}), (6, {}), (7, {})] [0, 1, 2, 6, 7, 8, 34, 39] (T' := [(0, .slice (some ⟨b, 0, none⟩) rs.length c), (1, .int .i64 ((k : Nat) : Int)), (2, .slice (some ⟨vb, 0, none⟩) 1 1), (6, .slice none 0 0), (7, .int .i64 1), (8, .int .i64 ((rs.length : Nat) : Int)), (34, .slice (some ⟨b, 0, none⟩) k c), (39, .int .i64 ((((rs.length : Nat) : Int) + 1) - ((k : Nat) : Int)))]) (φ := (0 ≤ ((k : Nat) : Int) ∧ ((k : Nat) : Int) ≤ ((c : Nat) : Int)) ∧ inR .i64 (((rs.length : Nat) : Int) + 1) ∧ inR .i64 ((((rs.length : Nat) : Int) + 1) - ((k : Nat) : Int)) ∧ True) (rest := [8, 9]) h27 (by kernel_rfl) rfl ⟨⟨by omega, by omega⟩, ⟨by omega, by omega⟩, ⟨by omega, by omega⟩, trivial⟩ fun a30 h31 => ?_
    clear h27
    refine nd_op ?_
    refine op_appendZ (b := b) (n := k) (c := c) (k := rs.length + 1 - k) (cs := cs) h31 rfl rfl rfl rfl rfl rfl (congrArg (fun z => some (Value.int .i64 z)) (by omega)) (h31.kn (k := 0) rfl) (by omega) (by omega) (by omega) (by omega) ?_
    intro nb32 c33 cs34 w35 a36 hl40 hc41 ht42 h37 hf38 hn39
    rw [show k + (rs.length + 1 - k) = rs.length + 1 by omega] at h37 hc41
    have h37b := h37.slotsMono (restr_spec (keep := [40, 0, 1, 2, 6, 7, 8, 34, 39]) (T' := [(40, .slice (some ⟨nb32, 0, none⟩) (rs.length + 1) c33), (0, .slice (some ⟨b, 0, none⟩) rs.length c), (1, .int .i64 ((k : Nat) : Int)), (2, .slice (some ⟨vb, 0, none⟩) 1 1), (6, .slice none 0 0), (7, .int .i64 1), (8, .int .i64 ((rs.length : Nat) : Int)), (34, .slice (some ⟨b, 0, none⟩) k c), (39, .int .i64 ((((rs.length : Nat) : Int) + 1) - ((k : Nat) : Int)))]) rfl)
    clear h37
    have hszn : w.heap.size ≤ nb32 := Nat.le_trans h31.frame.size hn39
    clear h31
    refine nd_batch tabOk tabZ_ok [(9, {})] [0, 1, 2, 6, 7, 8, 9] (T' := [(0, .slice (some ⟨b, 0, none⟩) rs.length c), (1, .int .i64 ((k : Nat) : Int)), (2, .slice (some ⟨vb, 0, none⟩) 1 1), (6, .slice none 0 0), (7, .int .i64 1), (8, .int .i64 ((rs.length : Nat) : Int)), (9, .slice (some ⟨nb32, 0, none⟩) (rs.length + 1) c33)]) (φ := True) (rest := []) h37b (by kernel_rfl) rfl trivial fun a43 h44 => ?_
    clear h37b
    refine nd_done ?_
    refine hK29 _ _ ?_
    clear hK29
    refine wp_seq_k fun K45 hK45 => ?_
    refine nd_start (l := [0, 1, 2, 3, 4]) rfl ?_
    refine nd_batch tabOk tabZ_ok [(0, {}), (1, {}), (2, {}), (3, {})] [0, 1, 2, 6, 7, 8, 9, 43, 44] (T' := [(0, .slice (some ⟨b, 0, none⟩) rs.length c), (1, .int .i64 ((k : Nat) : Int)), (2, .slice (some ⟨vb, 0, none⟩) 1 1), (6, .slice none 0 0), (7, .int .i64 1), (8, .int .i64 ((rs.length : Nat) : Int)), (9, .slice (some ⟨nb32, 0, none⟩) (rs.length + 1) c33), (43, .slice (sliceBase (some ⟨nb32, 0, none⟩) c33 k 2) ((rs.length + 1) - k) (c33 - k)), (44, .slice (some ⟨vb, 0, none⟩) 1 1)]) (φ := (0 ≤ ((k : Nat) : Int) ∧ ((k : Nat) : Int) ≤ (((rs.length + 1) : Nat) : Int)) ∧ True) (rest := [4]) h44 (by kernel_rfl) rfl ⟨⟨by omega, by omega⟩, trivial⟩ fun a46 h47 => ?_
    clear h44
    refine nd_op ?_
    refine op_copyN tabOk (k := 2) (q := 1) (vs := (rfC r)) (off := k * 2) h47 rfl rfl rfl (show some (Value.slice (sliceBase (some ⟨nb32, 0, none⟩) c33 k 2) ((rs.length + 1) - k) (c33 - k)) = some (Value.slice (some ⟨nb32, k * 2, none⟩) ((rs.length + 1) - k) (c33 - k)) by rw [sliceBase_at (by omega)]) rfl rfl rfl rfl rfl rfl (h47.kn (k := 1) rfl) ⟨rfl, rfl, trivial⟩ (by show min _ _ = _; omega) rfl (by show k * 2 + (rfC r).length ≤ cs34.length; rw [rfC_len]; omega) rfl fun w48 h49 => ?_
    have h50 := (h49.castL (L' := [(b, ⟨cs, 39, false⟩), (vb, ⟨[.int .u16 r.idx, .int .u32 r.gen], 39, true⟩), (nb32, ⟨splice cs34 (k * 2) (rfC r), 39, false⟩)]) rfl).put (d := some 45) (v := .int .i64 ((1 : Nat) : Int)) (T' := [(45, .int .i64 ((1 : Nat) : Int)), (0, .slice (some ⟨b, 0, none⟩) rs.length c), (1, .int .i64 ((k : Nat) : Int)), (2, .slice (some ⟨vb, 0, none⟩) 1 1), (6, .slice none 0 0), (7, .int .i64 1), (8, .int .i64 ((rs.length : Nat) : Int)), (9, .slice (some ⟨nb32, 0, none⟩) (rs.length + 1) c33), (43, .slice (sliceBase (some ⟨nb32, 0, none⟩) c33 k 2) ((rs.length + 1) - k) (c33 - k)), (44, .slice (some ⟨vb, 0, none⟩) 1 1)]) rfl
    clear h47 h49
    refine nd_done ?_
    refine hK45 _ _ ?_
    clear hK45
    refine wp_seq_k fun K51 hK51 => ?_
    refine dr_start (KB := [b, vb, nb32]) (Bi := [[0, 1, 2], [0, 1, 2], [0, 1, 2], [0, 1, 2], [0, 1, 2], [0, 1, 2], [0, 1, 2], [0, 1, 2], []]) mixed h50 fun w52 h53 => ?_
    clear h50
    refine dr_batch tabOk tabZ_ok (by repeat (first | with_reducible exact PF.body | with_reducible apply PF.inB | with_reducible apply PF.next)) [(0, {}), (1, {}), (2, {}), (3, {}), (4, {}), (5, {}), (6, {}), (7, {})] [0, 1, 2, 6, 7, 8, 9, 50, 53] (T' := [(0, .slice (some ⟨b, 0, none⟩) rs.length c), (1, .int .i64 ((k : Nat) : Int)), (2, .slice (some ⟨vb, 0, none⟩) 1 1), (6, .slice none 0 0), (7, .int .i64 1), (8, .int .i64 ((rs.length : Nat) : Int)), (9, .slice (some ⟨nb32, 0, none⟩) (rs.length + 1) c33), (50, .slice (sliceBase (some ⟨nb32, 0, none⟩) c33 ((((k : Nat) : Int) + 1).toNat) 2) ((rs.length + 1) - ((((k : Nat) : Int) + 1).toNat)) (c33 - ((((k : Nat) : Int) + 1).toNat))), (53, .slice (sliceBase (some ⟨b, 0, none⟩) c k 2) (rs.length - k) (c - k))]) (φ := inR .i64 (((k : Nat) : Int) + 1) ∧ (0 ≤ (((k : Nat) : Int) + 1) ∧ (((k : Nat) : Int) + 1) ≤ (((rs.length + 1) : Nat) : Int)) ∧ (0 ≤ ((k : Nat) : Int) ∧ ((k : Nat) : Int) ≤ ((rs.length : Nat) : Int)) ∧ True) (fuel := 1) h53 (by kernel_rfl) rfl (by kernel_rfl) (by kernel_rfl) ⟨trivial, trivial, trivial, trivial, trivial, trivial, trivial, trivial, trivial⟩ ⟨⟨by omega, by omega⟩, ⟨by omega, by omega⟩, ⟨by omega, by omega⟩, trivial⟩ fun a55 h56 => ?_
    clear h53
    refine wpAnyK_one (i := 8) (fuel := 0) (by kernel_rfl) ?_
    refine op_copyN tabOk (k := 2) (q := rs.length - k) (vs := ((rs.drop k).flatMap rfC)) (off := ((((k : Nat) : Int) + 1).toNat) * 2) h56 rfl rfl rfl (show some (Value.slice (sliceBase (some ⟨nb32, 0, none⟩) c33 ((((k : Nat) : Int) + 1).toNat) 2) ((rs.length + 1) - ((((k : Nat) : Int) + 1).toNat)) (c33 - ((((k : Nat) : Int) + 1).toNat))) = some (Value.slice (some ⟨nb32, ((((k : Nat) : Int) + 1).toNat) * 2, none⟩) ((rs.length + 1) - ((((k : Nat) : Int) + 1).toNat)) (c33 - ((((k : Nat) : Int) + 1).toNat))) by rw [sliceBase_at (by omega)]) (show some (Value.slice (sliceBase (some ⟨b, 0, none⟩) c k 2) (rs.length - k) (c - k)) = some (Value.slice (some ⟨b, k * 2, none⟩) (rs.length - k) (c - k)) by rw [sliceBase_at (by omega)]) rfl rfl rfl rfl rfl (h56.kn (k := 0) rfl) hsrc (by show min _ _ = _; omega) (by rw [rf_flat, List.length_drop]) (by show ((((k : Nat) : Int) + 1).toNat) * 2 + ((rs.drop k).flatMap rfC).length ≤ (splice cs34 (k * 2) (rfC r)).length; rw [rf_flat, List.length_drop]; rw [splice_length]; omega) (allOne_rf _) fun w57 h58 => ?_
    have h59 := (h58.castL (L' := [(b, ⟨cs, 39, false⟩), (vb, ⟨[.int .u16 r.idx, .int .u32 r.gen], 39, true⟩), (nb32, ⟨splice (splice cs34 (k * 2) (rfC r)) (((((k : Nat) : Int) + 1).toNat) * 2) ((rs.drop k).flatMap rfC), 39, false⟩)]) rfl).put (d := some 54) (v := .int .i64 ((rs.length - k : Nat) : Int)) (T' := [(54, .int .i64 ((rs.length - k : Nat) : Int)), (0, .slice (some ⟨b, 0, none⟩) rs.length c), (1, .int .i64 ((k : Nat) : Int)), (2, .slice (some ⟨vb, 0, none⟩) 1 1), (6, .slice none 0 0), (7, .int .i64 1), (8, .int .i64 ((rs.length : Nat) : Int)), (9, .slice (some ⟨nb32, 0, none⟩) (rs.length + 1) c33), (50, .slice (sliceBase (some ⟨nb32, 0, none⟩) c33 ((((k : Nat) : Int) + 1).toNat) 2) ((rs.length + 1) - ((((k : Nat) : Int) + 1).toNat)) (c33 - ((((k : Nat) : Int) + 1).toNat))), (53, .slice (sliceBase (some ⟨b, 0, none⟩) c k 2) (rs.length - k) (c - k))]) rfl
    have hkh59 := h56.known
    refine ⟨keepNil, ?_⟩
    clear h56 h58
    refine wpAnyK_done (by kernel_rfl) ?_ _
    refine hK51 _ _ ?_
    clear hK51
    refine wp_seq_k fun K60 hK60 => ?_
    refine nd_start (l := [0, 1]) rfl ?_
    refine nd_batch tabOk tabZ_ok [(0, {}), (1, {})] [0, 1, 2, 7, 8, 9, 6] (T' := [(0, .slice (some ⟨b, 0, none⟩) rs.length c), (1, .int .i64 ((k : Nat) : Int)), (2, .slice (some ⟨vb, 0, none⟩) 1 1), (7, .int .i64 1), (8, .int .i64 ((rs.length : Nat) : Int)), (9, .slice (some ⟨nb32, 0, none⟩) (rs.length + 1) c33), (6, .slice (some ⟨nb32, 0, none⟩) (rs.length + 1) c33)]) (φ := True) (rest := []) h59 (by kernel_rfl) rfl trivial fun a61 h62 => ?_
    clear h59
    refine nd_done ?_
    refine hK60 _ _ ?_
    clear hK60
    refine wp_ret ?_
    have hig := ins_grow (r := r) (c := c33) hkl hl40 hc41 (ht42.trans htk) (o := ((((k : Nat) : Int) + 1).toNat) * 2) (by omega)
    try simp only [Exit.then, Exit.inBlock]
    try rw [if_pos trivial]
    exact s_ret tabOk tabZ_ok h62 [(.tmp 6, {})] (vs := [.slice (some ⟨nb32, 0, none⟩) (rs.length + 1) c33]) (φ := True) rfl (by kernel_rfl) trivial ⟨some ⟨nb32, 0, none⟩, c33, [nb32], by rw [insP_len _ (by omega)]; rfl, ⟨by show _ = (insP rs k r).length * 2; rw [rf_flat], .inr ⟨nb32, _, rfl, h62.kn (k := 2) (blk := ⟨_, 39, false⟩) rfl, hig.2, by show (insP rs k r).length ≤ _; rw [insP_len _ (by omega)]; exact hc41, by show List.take ((insP rs k r).length * 2) _ = _; rw [insP_len _ (by omega)]; exact hig.1, rfl⟩⟩, h62.frame, fun x hx => .inr (by simp at hx; rw [hx]; exact hszn)⟩
  ·
    have hc28f : ¬ (((rs.length : Nat) : Int) + 1) > ((c : Nat) : Int) := by simpa using hc28
    refine wp_skip ?_
    refine hK21 _ _ ?_
    clear hK21
    refine wp_seq_k fun K63 hK63 => ?_
    refine nd_start (l := [0, 1, 2, 3, 4, 5]) rfl ?_
    refine nd_batch tabOk tabZ_ok [(0, {}), (1, {}), (2, {}), (3, {}), (4, {}), (5, {})] [1, 2, 6, 7, 8, 0] (T' := [(1, .int .i64 ((k : Nat) : Int)), (2, .slice (some ⟨vb, 0, none⟩) 1 1), (6, .slice none 0 0), (7, .int .i64 1), (8, .int .i64 ((rs.length : Nat) : Int)), (0, .slice (some ⟨b, 0, none⟩) ((((rs.length : Nat) : Int) + 1).toNat) c)]) (φ := inR .i64 (((rs.length : Nat) : Int) + 1) ∧ (0 ≤ (((rs.length : Nat) : Int) + 1) ∧ (((rs.length : Nat) : Int) + 1) ≤ ((c : Nat) : Int)) ∧ True) (rest := []) h27 (by kernel_rfl) rfl ⟨⟨by omega, by omega⟩, ⟨by omega, by omega⟩, trivial⟩ fun a64 h65 => ?_
    clear h27
    refine nd_done ?_
    refine hK63 _ _ ?_
    clear hK63
    refine wp_seq_k fun K66 hK66 => ?_
    refine wp_seq_k fun K67 hK67 => ?_
    refine nd_start (l := [0, 1, 2, 3, 4, 5, 6, 7]) rfl ?_
    refine nd_batch tabOk tabZ_ok [(0, {}), (1, {}), (2, {}), (3, {}), (4, {}), (5, {})] [1, 2, 6, 7, 8, 0, 61, 66] (T' := [(1, .int .i64 ((k : Nat) : Int)), (2, .slice (some ⟨vb, 0, none⟩) 1 1), (6, .slice none 0 0), (7, .int .i64 1), (8, .int .i64 ((rs.length : Nat) : Int)), (0, .slice (some ⟨b, 0, none⟩) ((((rs.length : Nat) : Int) + 1).toNat) c), (61, .slice (some ⟨vb, 0, none⟩) 1 1), (66, .slice (sliceBase (some ⟨b, 0, none⟩) c ((((k : Nat) : Int) + 1).toNat) 2) (((((rs.length : Nat) : Int) + 1).toNat) - ((((k : Nat) : Int) + 1).toNat)) (c - ((((k : Nat) : Int) + 1).toNat)))]) (φ := inR .i64 (((k : Nat) : Int) + 1) ∧ (0 ≤ (((k : Nat) : Int) + 1) ∧ (((k : Nat) : Int) + 1) ≤ (((((rs.length : Nat) : Int) + 1).toNat : Nat) : Int)) ∧ True) (rest := [6, 7]) h65 (by kernel_rfl) rfl ⟨⟨by omega, by omega⟩, ⟨by omega, by omega⟩, trivial⟩ fun a68 h69 => ?_
    clear h65
    refine nd_op ?_
    refine op_overlaps h69 rfl rfl rfl rfl (show some (Value.slice (sliceBase (some ⟨b, 0, none⟩) c ((((k : Nat) : Int) + 1).toNat) 2) (((((rs.length : Nat) : Int) + 1).toNat) - ((((k : Nat) : Int) + 1).toNat)) (c - ((((k : Nat) : Int) + 1).toNat))) = some (Value.slice (some ⟨b, ((((k : Nat) : Int) + 1).toNat) * 2, none⟩) (((((rs.length : Nat) : Int) + 1).toNat) - ((((k : Nat) : Int) + 1).toNat)) (c - ((((k : Nat) : Int) + 1).toNat))) by rw [sliceBase_at (by omega)]) (h69.kn (k := 1) rfl) (h69.kn (k := 0) rfl) hvb (by intro e; have hz : cs = [] := e; rw [hz] at hcl; simp at hcl; omega) ?_
    have h70 := (h69).put (d := some 67) (v := .bool false) (T' := [(67, .bool false), (1, .int .i64 ((k : Nat) : Int)), (2, .slice (some ⟨vb, 0, none⟩) 1 1), (6, .slice none 0 0), (7, .int .i64 1), (8, .int .i64 ((rs.length : Nat) : Int)), (0, .slice (some ⟨b, 0, none⟩) ((((rs.length : Nat) : Int) + 1).toNat) c), (61, .slice (some ⟨vb, 0, none⟩) 1 1), (66, .slice (sliceBase (some ⟨b, 0, none⟩) c ((((k : Nat) : Int) + 1).toNat) 2) (((((rs.length : Nat) : Int) + 1).toNat) - ((((k : Nat) : Int) + 1).toNat)) (c - ((((k : Nat) : Int) + 1).toNat)))]) rfl
    have hszh70 : w.heap.size ≤ _ := h69.frame.size
    clear h69
    refine nd_batch tabOk tabZ_ok [(7, {})] [1, 2, 6, 7, 8, 0, 68] (T' := [(1, .int .i64 ((k : Nat) : Int)), (2, .slice (some ⟨vb, 0, none⟩) 1 1), (6, .slice none 0 0), (7, .int .i64 1), (8, .int .i64 ((rs.length : Nat) : Int)), (0, .slice (some ⟨b, 0, none⟩) ((((rs.length : Nat) : Int) + 1).toNat) c), (68, .bool true)]) (φ := True) (rest := []) h70 (by kernel_rfl) rfl trivial fun a71 h72 => ?_
    clear h70
    refine nd_done ?_
    refine hK67 _ _ ?_
    clear hK67
    refine c_true h72 rfl ?_
    refine wp_seq_k fun K73 hK73 => ?_
    refine dr_start (KB := [b, vb]) (Bi := [[0, 1], [0, 1], [0, 1], [0, 1], [0, 1], [0, 1], [0, 1], [0, 1], []]) mixed h72 fun w74 h75 => ?_
    clear h72
    refine dr_batch tabOk tabZ_ok (by repeat (first | with_reducible exact PF.body | with_reducible apply PF.inB | with_reducible apply PF.next)) [(0, {}), (1, {}), (2, {}), (3, {}), (4, {}), (5, {}), (6, {}), (7, {})] [1, 2, 6, 7, 8, 0, 73, 76] (T' := [(1, .int .i64 ((k : Nat) : Int)), (2, .slice (some ⟨vb, 0, none⟩) 1 1), (6, .slice none 0 0), (7, .int .i64 1), (8, .int .i64 ((rs.length : Nat) : Int)), (0, .slice (some ⟨b, 0, none⟩) ((((rs.length : Nat) : Int) + 1).toNat) c), (73, .slice (sliceBase (some ⟨b, 0, none⟩) c ((((k : Nat) : Int) + 1).toNat) 2) (((((rs.length : Nat) : Int) + 1).toNat) - ((((k : Nat) : Int) + 1).toNat)) (c - ((((k : Nat) : Int) + 1).toNat))), (76, .slice (sliceBase (some ⟨b, 0, none⟩) c k 2) (((((rs.length : Nat) : Int) + 1).toNat) - k) (c - k))]) (φ := inR .i64 (((k : Nat) : Int) + 1) ∧ (0 ≤ (((k : Nat) : Int) + 1) ∧ (((k : Nat) : Int) + 1) ≤ (((((rs.length : Nat) : Int) + 1).toNat : Nat) : Int)) ∧ (0 ≤ ((k : Nat) : Int) ∧ ((k : Nat) : Int) ≤ (((((rs.length : Nat) : Int) + 1).toNat : Nat) : Int)) ∧ True) (fuel := 1) h75 (by kernel_rfl) rfl (by kernel_rfl) (by kernel_rfl) ⟨trivial, trivial, trivial, trivial, trivial, trivial, trivial, trivial, trivial⟩ ⟨⟨by omega, by omega⟩, ⟨by omega, by omega⟩, ⟨by omega, by omega⟩, trivial⟩ fun a77 h78 => ?_
    clear h75
    refine wpAnyK_one (i := 8) (fuel := 0) (by kernel_rfl) ?_
    refine op_copyN tabOk (k := 0) (q := rs.length - k) (vs := ((rs.drop k).flatMap rfC)) (off := ((((k : Nat) : Int) + 1).toNat) * 2) h78 rfl rfl rfl (show some (Value.slice (sliceBase (some ⟨b, 0, none⟩) c ((((k : Nat) : Int) + 1).toNat) 2) (((((rs.length : Nat) : Int) + 1).toNat) - ((((k : Nat) : Int) + 1).toNat)) (c - ((((k : Nat) : Int) + 1).toNat))) = some (Value.slice (some ⟨b, ((((k : Nat) : Int) + 1).toNat) * 2, none⟩) (((((rs.length : Nat) : Int) + 1).toNat) - ((((k : Nat) : Int) + 1).toNat)) (c - ((((k : Nat) : Int) + 1).toNat))) by rw [sliceBase_at (by omega)]) (show some (Value.slice (sliceBase (some ⟨b, 0, none⟩) c k 2) (((((rs.length : Nat) : Int) + 1).toNat) - k) (c - k)) = some (Value.slice (some ⟨b, k * 2, none⟩) (((((rs.length : Nat) : Int) + 1).toNat) - k) (c - k)) by rw [sliceBase_at (by omega)]) rfl rfl rfl rfl rfl (h78.kn (k := 0) rfl) hsrc (by show min _ _ = _; omega) (by rw [rf_flat, List.length_drop]) (by show ((((k : Nat) : Int) + 1).toNat) * 2 + ((rs.drop k).flatMap rfC).length ≤ cs.length; rw [rf_flat, List.length_drop]; omega) (allOne_rf _) fun w79 h80 => ?_
    have h81 := (h80.castL (L' := [(b, ⟨splice cs (((((k : Nat) : Int) + 1).toNat) * 2) ((rs.drop k).flatMap rfC), 39, false⟩), (vb, ⟨[.int .u16 r.idx, .int .u32 r.gen], 39, true⟩)]) rfl).put (d := some 77) (v := .int .i64 ((rs.length - k : Nat) : Int)) (T' := [(77, .int .i64 ((rs.length - k : Nat) : Int)), (1, .int .i64 ((k : Nat) : Int)), (2, .slice (some ⟨vb, 0, none⟩) 1 1), (6, .slice none 0 0), (7, .int .i64 1), (8, .int .i64 ((rs.length : Nat) : Int)), (0, .slice (some ⟨b, 0, none⟩) ((((rs.length : Nat) : Int) + 1).toNat) c), (73, .slice (sliceBase (some ⟨b, 0, none⟩) c ((((k : Nat) : Int) + 1).toNat) 2) (((((rs.length : Nat) : Int) + 1).toNat) - ((((k : Nat) : Int) + 1).toNat)) (c - ((((k : Nat) : Int) + 1).toNat))), (76, .slice (sliceBase (some ⟨b, 0, none⟩) c k 2) (((((rs.length : Nat) : Int) + 1).toNat) - k) (c - k))]) rfl
    have hkh81 := h78.known
    refine ⟨keepNil, ?_⟩
    clear h78 h80
    refine wpAnyK_done (by kernel_rfl) ?_ _
    refine hK73 _ _ ?_
    clear hK73
    refine wp_seq_k fun K82 hK82 => ?_
    refine nd_start (l := [0, 1, 2, 3, 4]) rfl ?_
    refine nd_batch tabOk tabZ_ok [(0, {}), (1, {}), (2, {}), (3, {})] [1, 2, 6, 7, 8, 0, 80, 81] (T' := [(1, .int .i64 ((k : Nat) : Int)), (2, .slice (some ⟨vb, 0, none⟩) 1 1), (6, .slice none 0 0), (7, .int .i64 1), (8, .int .i64 ((rs.length : Nat) : Int)), (0, .slice (some ⟨b, 0, none⟩) ((((rs.length : Nat) : Int) + 1).toNat) c), (80, .slice (sliceBase (some ⟨b, 0, none⟩) c k 2) (((((rs.length : Nat) : Int) + 1).toNat) - k) (c - k)), (81, .slice (some ⟨vb, 0, none⟩) 1 1)]) (φ := (0 ≤ ((k : Nat) : Int) ∧ ((k : Nat) : Int) ≤ (((((rs.length : Nat) : Int) + 1).toNat : Nat) : Int)) ∧ True) (rest := [4]) h81 (by kernel_rfl) rfl ⟨⟨by omega, by omega⟩, trivial⟩ fun a83 h84 => ?_
    clear h81
    refine nd_op ?_
    refine op_copyN tabOk (k := 0) (q := 1) (vs := (rfC r)) (off := k * 2) h84 rfl rfl rfl (show some (Value.slice (sliceBase (some ⟨b, 0, none⟩) c k 2) (((((rs.length : Nat) : Int) + 1).toNat) - k) (c - k)) = some (Value.slice (some ⟨b, k * 2, none⟩) (((((rs.length : Nat) : Int) + 1).toNat) - k) (c - k)) by rw [sliceBase_at (by omega)]) rfl rfl rfl rfl rfl rfl (h84.kn (k := 1) rfl) ⟨rfl, rfl, trivial⟩ (by show min _ _ = _; omega) rfl (by show k * 2 + (rfC r).length ≤ (splice cs (((((k : Nat) : Int) + 1).toNat) * 2) ((rs.drop k).flatMap rfC)).length; rw [rfC_len]; rw [splice_length]; omega) rfl fun w85 h86 => ?_
    have h87 := (h86.castL (L' := [(b, ⟨splice (splice cs (((((k : Nat) : Int) + 1).toNat) * 2) ((rs.drop k).flatMap rfC)) (k * 2) (rfC r), 39, false⟩), (vb, ⟨[.int .u16 r.idx, .int .u32 r.gen], 39, true⟩)]) rfl).put (d := some 82) (v := .int .i64 ((1 : Nat) : Int)) (T' := [(82, .int .i64 ((1 : Nat) : Int)), (1, .int .i64 ((k : Nat) : Int)), (2, .slice (some ⟨vb, 0, none⟩) 1 1), (6, .slice none 0 0), (7, .int .i64 1), (8, .int .i64 ((rs.length : Nat) : Int)), (0, .slice (some ⟨b, 0, none⟩) ((((rs.length : Nat) : Int) + 1).toNat) c), (80, .slice (sliceBase (some ⟨b, 0, none⟩) c k 2) (((((rs.length : Nat) : Int) + 1).toNat) - k) (c - k)), (81, .slice (some ⟨vb, 0, none⟩) 1 1)]) rfl
    clear h84 h86
    refine nd_done ?_
    refine hK82 _ _ ?_
    clear hK82
    refine wp_seq_k fun K88 hK88 => ?_
    refine nd_start (l := [0, 1]) rfl ?_
    refine nd_batch tabOk tabZ_ok [(0, {}), (1, {})] [1, 2, 7, 8, 0, 6] (T' := [(1, .int .i64 ((k : Nat) : Int)), (2, .slice (some ⟨vb, 0, none⟩) 1 1), (7, .int .i64 1), (8, .int .i64 ((rs.length : Nat) : Int)), (0, .slice (some ⟨b, 0, none⟩) ((((rs.length : Nat) : Int) + 1).toNat) c), (6, .slice (some ⟨b, 0, none⟩) ((((rs.length : Nat) : Int) + 1).toNat) c)]) (φ := True) (rest := []) h87 (by kernel_rfl) rfl trivial fun a89 h90 => ?_
    clear h87
    refine nd_done ?_
    refine hK88 _ _ ?_
    clear hK88
    refine wp_ret ?_
    have hig := ins_shift (r := r) (c := c) hkl hcl (by omega) htk (o := ((((k : Nat) : Int) + 1).toNat) * 2) (by omega)
    try simp only [Exit.then, Exit.inBlock]
    try rw [if_pos trivial]
    exact s_ret tabOk tabZ_ok h90 [(.tmp 6, {})] (vs := [.slice (some ⟨b, 0, none⟩) ((((rs.length : Nat) : Int) + 1).toNat) c]) (φ := True) rfl (by kernel_rfl) trivial ⟨some ⟨b, 0, none⟩, c, [b], by rw [insP_len _ (by omega)]; rfl, ⟨by show _ = (insP rs k r).length * 2; rw [rf_flat], .inr ⟨b, _, rfl, h90.kn (k := 0) (blk := ⟨_, 39, false⟩) rfl, hig.2, by show (insP rs k r).length ≤ c; rw [insP_len _ (by omega)]; omega, by show List.take ((insP rs k r).length * 2) _ = _; rw [insP_len _ (by omega)]; exact hig.1, rfl⟩⟩, h90.frame, fun x hx => .inl hx⟩

theorem insR_ok (rs : List Rf) (hl : rs.length ≤ 1000) (o : Option Addr) (c : Nat) (F : List Nat) (k : Nat) (hk : k ≤ rs.length) (vb : Nat) (r : Rf) (w : World) (hrow : (rl rfC 39 2 rs o c F).at w) (hvb : vb ∉ F) (hv : w.heap[vb]? = some (Blk.obj ⟨[.int .u16 r.idx, .int .u32 r.gen], 39, true⟩)) :
    Calls Tryd.prog 66 #[.slice o rs.length c, .int .i64 (k : Int), .slice (some ⟨vb, 0, none⟩) 1 1] w fun e w' => ∃ o' c' F', e = .returned (.slice o' (insP rs k r).length c') ∧ (rl rfC 39 2 (insP rs k r) o' c' F').at w' ∧ Fr F w w' ∧ ∀ x ∈ F', x ∈ F ∨ w.heap.size ≤ x := by
  by_cases he : k = rs.length
  · subst he
    exact insert_end rs hl o c F vb r w hrow hv
  · rcases hrow.2 with ⟨_, e2, _, _⟩ | ⟨b, cs, e1, h2, h3, h4, h5, h6⟩
    · have e2' : rs.length = 0 := e2
      omega
    · have e1' : o = some ⟨b, 0, none⟩ := e1
      have h6' : F = [b] := h6
      subst e1' h6'
      exact insert_mid rs hl b c k (by omega) vb r cs w h2 h3 h4 h5 (fun e => hvb (by rw [e]; simp)) hv

end Go.Proofs.Qxb6500918aDoor
