/-
  slices.Equal over references. (Made by program: a symbolic walk that prints its steps.)
-/
import Derived.Test.Qxb6500918aDoorP3
import Derived.Test.Qxb6500918aDoorEq
namespace Go.Proofs.Qxb6500918aDoor
open Go.Sx Go.Kn
set_option maxRecDepth 100000
set_option maxHeartbeats 4000000
set_option linter.unusedVariables false
set_option linter.unusedSimpArgs false

theorem rl_at {α : Type} {enc : α → List Value} {w : World} {b c : Nat} {e : TypeId} {sz : Nat} {xs : List α} {F : List Nat} {blk : Blk} (h : (rl enc e sz xs (some ⟨b, 0, none⟩) c F).at w) (hb : w.heap[b]? = some blk.obj) (hsz : ∀ x, (enc x).length = sz) {i : Nat} {x : α} (hx : xs[i]? = some x) : cellsAre blk.cells (i * sz) (enc x) := by
  obtain ⟨b', cs, h1, h2, h3, _⟩ := rl_open h hsz hx
  simp only [Option.some.injEq, Addr.mk.injEq, and_true] at h1
  subst h1
  rw [hb] at h2
  have : blk.cells = cs := by
    cases blk
    simp [Blk.obj] at h2
    exact h2.1
  rw [this]; exact h3

/-- A slice of references, read at a place inside a block. -/
def RefsIn (w : World) (o : Option Addr) (rs : List Rf) : Prop := rs = [] ∨ ∃ b k cs, o = some ⟨b, k, none⟩ ∧ w.heap[b]? = some (Blk.obj ⟨cs, 39, true⟩) ∧ ∀ (j : Nat) r, rs[j]? = some r → cellsAre cs (k + j * 2) (rfC r)

theorem refsIn_row {w : World} {o : Option Addr} {rs : List Rf} {c : Nat} {F : List Nat} (h : (rl rfC 39 2 rs o c F).at w) : RefsIn w o rs := by
  by_cases e : rs = []
  · exact .inl e
  · obtain ⟨x, r, rfl⟩ := List.exists_cons_of_ne_nil e
    obtain ⟨b, cs, h1, h2, _⟩ := rl_open h rfC_len (i := 0) (x := x) rfl
    exact .inr ⟨b, 0, cs, h1, h2, fun j y hy => by rw [Nat.zero_add]; exact rl_at (blk := ⟨cs, 39, true⟩) (by rw [← h1]; exact h) h2 rfC_len hy⟩

theorem refsIn_tail {w : World} {b c : Nat} {x : Rf} {rs : List Rf} {F : List Nat} (h : (rl rfC 39 2 (x :: rs) (some ⟨b, 0, none⟩) c F).at w) : RefsIn w (some ⟨b, 2, none⟩) rs := by
  obtain ⟨b', cs, h1, h2, _⟩ := rl_open h rfC_len (i := 0) (x := x) rfl
  cases h1
  exact .inr ⟨b, 2, cs, rfl, h2, fun j y hy => by have := rl_at (blk := ⟨cs, 39, true⟩) h h2 rfC_len (i := j + 1) (x := y) hy; rw [show 2 + j * 2 = (j + 1) * 2 by omega]; exact this⟩

theorem RefsIn.fr {w w' : World} {o : Option Addr} {rs : List Rf} (h : RefsIn w o rs) (hf : Fr [] w w') : RefsIn w' o rs := by
  rcases h with h | ⟨b, k, cs, h1, h2, h3⟩
  · exact .inl h
  · exact .inr ⟨b, k, cs, h1, by rw [hf.block b (lt_of_heap h2) (by simp)]; exact h2, h3⟩

theorem equalR_some (xs : List Rf) (hxl : xs.length ≤ 1000) (c1 c2 b1 b2 k1 k2 : Nat) (cs1 cs2 : List Value) (w : World) (hb1 : w.heap[b1]? = some (Blk.obj ⟨cs1, 39, true⟩)) (hb2 : w.heap[b2]? = some (Blk.obj ⟨cs2, 39, true⟩)) (hne : b1 ≠ b2) (h1 : ∀ (j : Nat) r, xs[j]? = some r → cellsAre cs1 (k1 + j * 2) (rfC r)) (h2 : ∀ (j : Nat) r, xs[j]? = some r → cellsAre cs2 (k2 + j * 2) (rfC r)) :
    Calls Tryd.prog 23 #[.slice (some ⟨b1, k1, none⟩) xs.length c1, .slice (some ⟨b2, k2, none⟩) xs.length c2] w fun e w' => e = .returned (.bool true) ∧ Fr [] w w' := by
  refine enter0 (n := 26) (K := []) (T := [(0, .slice (some ⟨b1, k1, none⟩) xs.length c1), (1, .slice (some ⟨b2, k2, none⟩) xs.length c2)]) (L := [(b1, ⟨cs1, 39, true⟩), (b2, ⟨cs2, 39, true⟩)]) (args := [.slice (some ⟨b1, k1, none⟩) xs.length c1, .slice (some ⟨b2, k2, none⟩) xs.length c2]) Tryd.func23 rfl rfl rfl rfl (kcons hb1 (kcons hb2 knil)) (by simp; exact hne) (kcons (by intro hq; cases hq) (kcons (by intro hq; cases hq) knil)) ?_
  intro a h
  refine wp_seq_k fun K1 hK1 => ?_
  refine nd_start (l := [0]) rfl ?_
  refine nd_batch tabOk tabZ_ok [(0, {})] [0, 1, 4] (T' := [(0, .slice (some ⟨b1, k1, none⟩) xs.length c1), (1, .slice (some ⟨b2, k2, none⟩) xs.length c2), (4, .bool false)]) (φ := True) (rest := []) h (by kernel_rfl) rfl trivial fun a2 h3 => ?_
  clear h
  refine nd_done ?_
  refine hK1 _ _ ?_
  clear hK1
  refine wp_seq_k fun K4 hK4 => ?_
  refine wp_seq_k fun K5 hK5 => ?_
  refine nd_start (l := [0, 1, 2, 3, 4]) rfl ?_
  refine nd_batch tabOk tabZ_ok [(0, {}), (1, {}), (2, {}), (3, {}), (4, {f := 1})] [0, 1, 4, 10] (T' := [(0, .slice (some ⟨b1, k1, none⟩) xs.length c1), (1, .slice (some ⟨b2, k2, none⟩) xs.length c2), (4, .bool false), (10, .bool false)]) (φ := ((((xs.length : Nat) : Int) != ((xs.length : Nat) : Int))) = false ∧ True) (rest := []) h3 (by kernel_rfl) rfl ⟨(by simp), trivial⟩ fun a6 h7 => ?_
  clear h3
  refine nd_done ?_
  refine hK5 _ _ ?_
  clear hK5
  refine c_false h7 rfl ?_
  refine wp_skip ?_
  refine hK4 _ _ ?_
  clear hK4
  refine wp_seq_k fun K8 hK8 => ?_
  refine wp_seq_k fun K9 hK9 => ?_
  refine nd_start (l := [0, 1, 2]) rfl ?_
  refine nd_batch tabOk tabZ_ok [(0, {}), (1, {}), (2, {})] [0, 1, 4, 12, 13] (T' := [(0, .slice (some ⟨b1, k1, none⟩) xs.length c1), (1, .slice (some ⟨b2, k2, none⟩) xs.length c2), (4, .bool false), (12, .int .i64 ((xs.length : Nat) : Int)), (13, .int .i64 0)]) (φ := True) (rest := []) h7 (by kernel_rfl) rfl trivial fun a10 h11 => ?_
  clear h7
  refine nd_done ?_
  refine hK9 _ _ ?_
  clear hK9
  refine wp_block ?_
  refine wp_loop_ghost (fun g ga gw => ∃ (i : Int), ((g : Int) = xs.length - i) ∧ (0 ≤ i ∧ i ≤ xs.length) ∧ St ⟨26, [], w, fun _ => True, []⟩ [(0, .slice (some ⟨b1, k1, none⟩) xs.length c1), (1, .slice (some ⟨b2, k2, none⟩) xs.length c2), (12, .int .i64 ((xs.length : Nat) : Int)), (13, .int .i64 i)] [(b1, ⟨cs1, 39, true⟩), (b2, ⟨cs2, 39, true⟩)] ga gw) xs.length ⟨0, by simp, ⟨by simp, by simp⟩, (h11.slotsMono (restr_spec (keep := [0, 1, 12, 13]) rfl))⟩ ?_
  clear h11
  rintro g a12 w13 ⟨i, hi15, hi16, h14⟩
  have hig := hi15
  have hi0 := hi16
  refine wp_seq_k fun K17 hK17 => ?_
  refine nd_start (l := [0]) rfl ?_
  refine nd_batch tabOk tabZ_ok [(0, {})] [0, 1, 12, 13, 14] (T' := [(0, .slice (some ⟨b1, k1, none⟩) xs.length c1), (1, .slice (some ⟨b2, k2, none⟩) xs.length c2), (12, .int .i64 ((xs.length : Nat) : Int)), (13, .int .i64 i), (14, .bool (decide (i < ((xs.length : Nat) : Int))))]) (φ := True) (rest := []) h14 (by kernel_rfl) rfl trivial fun a18 h19 => ?_
  clear h14
  refine nd_done ?_
  refine hK17 _ _ ?_
  clear hK17
  refine wp_seq_k fun K20 hK20 => ?_
  refine c_split h19 (b := decide (i < ((xs.length : Nat) : Int))) rfl (fun hc21 => ?_) (fun hc21 => ?_)
  ·
    have hc21f : i < ((xs.length : Nat) : Int) := by simpa using hc21
    obtain ⟨x, hx⟩ : ∃ x, xs[i.toNat]? = some x := ⟨xs[i.toNat]'(by omega), by simp⟩
    refine wp_skip ?_
    refine hK20 _ _ ?_
    clear hK20
    refine wp_seq_k fun K22 hK22 => ?_
    refine wp_block ?_
    refine wp_seq_k fun K23 hK23 => ?_
    refine nd_start (l := [0, 1]) rfl ?_
    refine nd_batch tabOk tabZ_ok [(0, {}), (1, {})] [0, 1, 12, 13, 5] (T' := [(0, .slice (some ⟨b1, k1, none⟩) xs.length c1), (1, .slice (some ⟨b2, k2, none⟩) xs.length c2), (12, .int .i64 ((xs.length : Nat) : Int)), (13, .int .i64 i), (5, .int .i64 i)]) (φ := True) (rest := []) h19 (by kernel_rfl) rfl trivial fun a24 h25 => ?_
    clear h19
    refine nd_done ?_
    refine hK23 _ _ ?_
    clear hK23
    refine wp_seq_k fun K26 hK26 => ?_
    refine dr_start (KB := [b1, b2]) (Bi := [[0, 1], [0, 1], [0, 1], [0, 1], [0, 1], [0, 1], [0, 1], [0, 1], [0, 1]]) mixed h25 fun w27 h28 => ?_
    clear h25
    refine dr_batch tabOk tabZ_ok (by repeat (first | with_reducible exact PF.body | with_reducible apply PF.inB | with_reducible apply PF.next)) [(0, {}), (1, {}), (2, {}), (3, {k := 0, m := 1, vs := [.int .u16 x.idx, .int .u32 x.gen], p := 0}), (4, {}), (5, {}), (6, {}), (7, {k := 1, m := 1, vs := [.int .u16 x.idx, .int .u32 x.gen], p := 1}), (8, {f := 1})] [0, 1, 12, 13, 5, 24] (T' := [(0, .slice (some ⟨b1, k1, none⟩) xs.length c1), (1, .slice (some ⟨b2, k2, none⟩) xs.length c2), (12, .int .i64 ((xs.length : Nat) : Int)), (13, .int .i64 i), (5, .int .i64 i), (24, .bool false)]) (φ := (0 ≤ i ∧ i < ((xs.length : Nat) : Int)) ∧ (b1 = b1 ∧ cellsAre cs1 (k1 + (i.toNat * 2)) [.int .u16 x.idx, .int .u32 x.gen]) ∧ (0 ≤ i ∧ i < ((xs.length : Nat) : Int)) ∧ (b2 = b2 ∧ cellsAre cs2 (k2 + (i.toNat * 2)) [.int .u16 x.idx, .int .u32 x.gen]) ∧ EqRun Tryd.prog 39 (.agg #[.int .u16 x.idx, .int .u32 x.gen]) (.agg #[.int .u16 x.idx, .int .u32 x.gen]) true ∧ True) (fuel := 0) h28 (by kernel_rfl) rfl (by kernel_rfl) (by kernel_rfl) ⟨trivial, trivial, trivial, rfl, trivial, trivial, trivial, rfl, trivial, trivial⟩ ⟨⟨by omega, by omega⟩, ⟨rfl, (by have hq := h1 _ _ hx; exact hq)⟩, ⟨by omega, by omega⟩, ⟨rfl, (by have hq := h2 _ _ hx; exact hq)⟩, (by have hq := runRf x x; rw [show decide (x = x) = true by simp] at hq; exact hq), trivial⟩ fun a30 h31 => ?_
    clear h28
    refine wpAnyK_done (by kernel_rfl) ?_ _
    refine hK26 _ _ ?_
    clear hK26
    refine c_false h31 rfl ?_
    refine wp_skip ?_
    refine hK22 _ _ ?_
    clear hK22
    refine nd_start (l := [0, 1]) rfl ?_
    refine nd_batch tabOk tabZ_ok [(0, {}), (1, {})] [0, 1, 12, 5, 13] (T' := [(0, .slice (some ⟨b1, k1, none⟩) xs.length c1), (1, .slice (some ⟨b2, k2, none⟩) xs.length c2), (12, .int .i64 ((xs.length : Nat) : Int)), (5, .int .i64 i), (13, .int .i64 (i + 1))]) (φ := inR .i64 (i + 1) ∧ True) (rest := []) h31 (by kernel_rfl) rfl ⟨⟨by omega, by omega⟩, trivial⟩ fun a32 h33 => ?_
    clear h31
    refine nd_done ?_
    exact ⟨(g - 1), by omega, (i + 1), by omega, ⟨by omega, by omega⟩, (h33.slotsMono (restr_spec (keep := [0, 1, 12, 13]) rfl))⟩
  ·
    have hc21f : ¬ i < ((xs.length : Nat) : Int) := by simpa using hc21
    refine wp_exit ?_
    refine hK8 _ _ ?_
    clear hK8
    refine wp_seq_k fun K34 hK34 => ?_
    refine nd_start (l := [0]) rfl ?_
    refine nd_batch tabOk tabZ_ok [(0, {})] [0, 1, 12, 13, 4] (T' := [(0, .slice (some ⟨b1, k1, none⟩) xs.length c1), (1, .slice (some ⟨b2, k2, none⟩) xs.length c2), (12, .int .i64 ((xs.length : Nat) : Int)), (13, .int .i64 i), (4, .bool true)]) (φ := True) (rest := []) h19 (by kernel_rfl) rfl trivial fun a35 h36 => ?_
    clear h19
    refine nd_done ?_
    refine hK34 _ _ ?_
    clear hK34
    refine wp_ret ?_
    try simp only [Exit.then, Exit.inBlock]
    try rw [if_pos trivial]
    exact s_ret tabOk tabZ_ok h36 [(.tmp 4, {})] (vs := [.bool true]) (φ := True) rfl (by kernel_rfl) trivial ⟨rfl, h36.frame⟩

theorem equalR_none (o1 o2 : Option Addr) (c1 c2 : Nat) (w : World) :
    Calls Tryd.prog 23 #[.slice o1 0 c1, .slice o2 0 c2] w fun e w' => e = .returned (.bool true) ∧ Fr [] w w' := by
  refine enter0 (n := 26) (K := []) (T := [(0, .slice o1 0 c1), (1, .slice o2 0 c2)]) (L := []) (args := [.slice o1 0 c1, .slice o2 0 c2]) Tryd.func23 rfl rfl rfl rfl knil (by simp) knil ?_
  intro a h
  refine wp_seq_k fun K1 hK1 => ?_
  refine nd_start (l := [0]) rfl ?_
  refine nd_batch tabOk tabZ_ok [(0, {})] [0, 1, 4] (T' := [(0, .slice o1 0 c1), (1, .slice o2 0 c2), (4, .bool false)]) (φ := True) (rest := []) h (by kernel_rfl) rfl trivial fun a2 h3 => ?_
  clear h
  refine nd_done ?_
  refine hK1 _ _ ?_
  clear hK1
  refine wp_seq_k fun K4 hK4 => ?_
  refine wp_seq_k fun K5 hK5 => ?_
  refine nd_start (l := [0, 1, 2, 3, 4]) rfl ?_
  refine nd_batch tabOk tabZ_ok [(0, {}), (1, {}), (2, {}), (3, {}), (4, {})] [0, 1, 4, 10] (T' := [(0, .slice o1 0 c1), (1, .slice o2 0 c2), (4, .bool false), (10, .bool false)]) (φ := True) (rest := []) h3 (by kernel_rfl) rfl trivial fun a6 h7 => ?_
  clear h3
  refine nd_done ?_
  refine hK5 _ _ ?_
  clear hK5
  refine c_false h7 rfl ?_
  refine wp_skip ?_
  refine hK4 _ _ ?_
  clear hK4
  refine wp_seq_k fun K8 hK8 => ?_
  refine wp_seq_k fun K9 hK9 => ?_
  refine nd_start (l := [0, 1, 2]) rfl ?_
  refine nd_batch tabOk tabZ_ok [(0, {}), (1, {}), (2, {})] [0, 1, 4, 12, 13] (T' := [(0, .slice o1 0 c1), (1, .slice o2 0 c2), (4, .bool false), (12, .int .i64 0), (13, .int .i64 0)]) (φ := True) (rest := []) h7 (by kernel_rfl) rfl trivial fun a10 h11 => ?_
  clear h7
  refine nd_done ?_
  refine hK9 _ _ ?_
  clear hK9
  refine wp_block ?_
  refine wp_loop_ghost (fun g ga gw => ∃ (u : Unit), (True) ∧ St ⟨26, [], w, fun _ => True, []⟩ [(0, .slice o1 0 c1), (1, .slice o2 0 c2), (12, .int .i64 0), (13, .int .i64 0)] [] ga gw) 0 ⟨(), trivial, (h11.slotsMono (restr_spec (keep := [0, 1, 12, 13]) rfl))⟩ ?_
  clear h11
  rintro g a12 w13 ⟨u, hi15, h14⟩
  refine wp_seq_k fun K16 hK16 => ?_
  refine nd_start (l := [0]) rfl ?_
  refine nd_batch tabOk tabZ_ok [(0, {})] [0, 1, 12, 13, 14] (T' := [(0, .slice o1 0 c1), (1, .slice o2 0 c2), (12, .int .i64 0), (13, .int .i64 0), (14, .bool false)]) (φ := True) (rest := []) h14 (by kernel_rfl) rfl trivial fun a17 h18 => ?_
  clear h14
  refine nd_done ?_
  refine hK16 _ _ ?_
  clear hK16
  refine wp_seq_k fun K19 hK19 => ?_
  refine c_false h18 rfl ?_
  refine wp_exit ?_
  refine hK8 _ _ ?_
  clear hK8
  refine wp_seq_k fun K20 hK20 => ?_
  refine nd_start (l := [0]) rfl ?_
  refine nd_batch tabOk tabZ_ok [(0, {})] [0, 1, 12, 13, 4] (T' := [(0, .slice o1 0 c1), (1, .slice o2 0 c2), (12, .int .i64 0), (13, .int .i64 0), (4, .bool true)]) (φ := True) (rest := []) h18 (by kernel_rfl) rfl trivial fun a21 h22 => ?_
  clear h18
  refine nd_done ?_
  refine hK20 _ _ ?_
  clear hK20
  refine wp_ret ?_
  try simp only [Exit.then, Exit.inBlock]
  try rw [if_pos trivial]
  exact s_ret tabOk tabZ_ok h22 [(.tmp 4, {})] (vs := [.bool true]) (φ := True) rfl (by kernel_rfl) trivial ⟨rfl, h22.frame⟩

theorem equalR_ok (xs : List Rf) (hxl : xs.length ≤ 1000) (o1 o2 : Option Addr) (c1 c2 : Nat) (w : World) (h1 : RefsIn w o1 xs) (h2 : RefsIn w o2 xs) (hd : xs ≠ [] → ∀ b k b' k', o1 = some ⟨b, k, none⟩ → o2 = some ⟨b', k', none⟩ → b ≠ b') :
    Calls Tryd.prog 23 #[.slice o1 xs.length c1, .slice o2 xs.length c2] w fun e w' => e = .returned (.bool true) ∧ Fr [] w w' := by
  rcases h1 with h1 | ⟨b, k, cs, e1, e2, e3⟩
  · subst h1; exact equalR_none o1 o2 c1 c2 w
  · rcases h2 with h2 | ⟨b', k', cs', e1', e2', e3'⟩
    · subst h2; exact equalR_none o1 o2 c1 c2 w
    · subst e1; subst e1'
      by_cases hx0 : xs = []
      · subst hx0; exact equalR_none _ _ c1 c2 w
      exact equalR_some xs hxl c1 c2 b b' k k' cs cs' w e2 e2' (hd hx0 b k b' k' rfl rfl) e3 e3'

end Go.Proofs.Qxb6500918aDoor
